/- chart: the commands, printed by a program of this session -/
import Derived.Test.YtoljbckhoigibaaProg
import Derived.Test.YtoljbckhoigibaaChart2
set_option linter.unusedVariables false
namespace Go.Proofs.Ytoljbckhoigibaa
open Go.Q Go.RowKit

theorem there_calls (w : World) (slot : Int)  : Calls Try.prog 58 ⟨[(i64 slot)]⟩ w (fun e w' => e = .returned (.bool (there slot)) ∧ w = w') := by
  refine q_calls Try.func58 (by kernel_rfl) (by kernel_rfl) ?_
  refine q_seq (by kernel_rfl) ?_
  refine q_region (by kernel_rfl) ?_
  refine Ops.regs 1 [(0, (i64 slot)), (2, (Value.bool false))] (j := 1) (by kernel_rfl) (by kernel_rfl) ?_
  refine Ops.done (by kernel_rfl) ?_
  refine q_seq (by kernel_rfl) ?_
  refine q_region (by kernel_rfl) ?_
  refine Ops.regs 3 [(0, (i64 slot)), (2, (Value.bool false)), (5, (Value.bool (decide (slot ≥ 0))))] (j := 3) (by kernel_rfl) (by kernel_rfl) ?_
  refine Ops.split (decide (slot ≥ 0)) (fun h1 => ?_) (fun h1 => ?_)
  · rw [h1]
    have p2 : slot ≥ 0 := of_decide_eq_true h1
    refine Ops.regs 4 [(2, (Value.bool (decide (slot < 16))))] (j := 7) (by kernel_rfl) (by kernel_rfl) ?_
    refine Ops.done (by kernel_rfl) ?_
    refine q_ret (by kernel_rfl) ?_
    refine ⟨(Value.bool (decide (slot < 16))), retv_tmp rfl rfl, ?_⟩
    exact ⟨by simp [there, *], rfl⟩
  · rw [h1]
    have p3 : ¬ (slot ≥ 0) := of_decide_eq_false h1
    refine Ops.regs 4 [(2, (Value.bool false))] (j := 7) (by kernel_rfl) (by kernel_rfl) ?_
    refine Ops.done (by kernel_rfl) ?_
    refine q_ret (by kernel_rfl) ?_
    refine ⟨(Value.bool false), retv_tmp rfl rfl, ?_⟩
    exact ⟨by simp [there, *], rfl⟩

theorem begin_calls (w : World) (b : Nat) (c : Ch) (h : c.Inv) (H0 : Has w b (rowL (chL c) 118)) : Calls Try.prog 95 ⟨[(Value.pointer (some ⟨b, 0, none⟩))]⟩ w (fun e w' => e = .returned (i64 c.begin_.1) ∧ Keeps (fun i => i = b) w w' ∧ Has w' b (rowL (chL c.begin_.2) 118)) := by
  have K0 : Keeps (fun i => i = b) w w := (Keeps.refl w).mono (fun _ _ h => h.elim)
  have Hb := H0.lt
  have hbg := h.bg
  have hmb := h.mb
  have hph := h.ph
  refine q_calls Try.func95 (by kernel_rfl) (by kernel_rfl) ?_
  refine q_seq (by kernel_rfl) ?_
  refine q_region (by kernel_rfl) ?_
  refine Ops.regs 1 [(0, (Value.pointer (some ⟨b, 0, none⟩))), (2, (i64 0))] (j := 1) (by kernel_rfl) (by kernel_rfl) ?_
  refine Ops.done (by kernel_rfl) ?_
  refine q_seq (by kernel_rfl) ?_
  refine q_seq (by kernel_rfl) ?_
  refine q_region (by kernel_rfl) ?_
  refine Ops.regs 4 [(0, (Value.pointer (some ⟨b, 0, none⟩))), (2, (i64 0)), (6, (Value.pointer (some ⟨b, 38, none⟩)))] (j := 4) (by kernel_rfl) (by kernel_rfl) ?_
  refine Ops.go (v := (i64 c.mp)) (by kernel_rfl) (Runs.load (t := 3) (a := ⟨b, 38, none⟩) (by kernel_rfl) (H0.loads (loadC1 (by kernel_rfl) (ch_38 h.ok)))) (d := (some 7)) (by kernel_rfl) rfl ?_
  refine Ops.regs 2 [(0, (Value.pointer (some ⟨b, 0, none⟩))), (2, (i64 0)), (9, (Value.bool (c.mp != 0)))] (j := 7) (by kernel_rfl) (by kernel_rfl) ?_
  refine Ops.split (c.mp != 0) (fun h1 => ?_) (fun h1 => ?_)
  · rw [h1]
    have p2 : ¬ (c.mp = 0) := of_bne_t h1
    refine Ops.regs 13 [(0, (Value.pointer (some ⟨b, 0, none⟩))), (2, (i64 0)), (22, (Value.bool true))] (j := 20) (by kernel_rfl) (by kernel_rfl) ?_
    refine Ops.done (by kernel_rfl) ?_
    refine q_then (o := .tmp 22) (by kernel_rfl) rfl ?_
    refine q_seq (by kernel_rfl) ?_
    refine q_region (by kernel_rfl) ?_
    refine Ops.regs 1 [(0, (Value.pointer (some ⟨b, 0, none⟩))), (2, (i64 0))] (j := 1) (by kernel_rfl) (by kernel_rfl) ?_
    refine Ops.done (by kernel_rfl) ?_
    refine q_ret (by kernel_rfl) ?_
    refine ⟨(i64 0), retv_tmp rfl rfl, ?_⟩
    have e : c.begin_ = (0, c) := by unfold Ch.begin_; first | rw [if_pos (by unfold Ch.busy; omega)] | rw [if_neg (by unfold Ch.busy; omega)]
    exact ⟨by rw [e], K0, by rw [e]; exact H0⟩
  · rw [h1]
    have p3 : c.mp = 0 := of_bne_f h1
    refine Ops.regs 3 [(0, (Value.pointer (some ⟨b, 0, none⟩))), (2, (i64 0)), (9, (Value.bool false)), (12, (Value.pointer (some ⟨b, 41, none⟩)))] (j := 10) (by kernel_rfl) (by kernel_rfl) ?_
    refine Ops.go (v := (i64 c.phase)) (by kernel_rfl) (Runs.load (t := 3) (a := ⟨b, 41, none⟩) (by kernel_rfl) (H0.loads (loadC1 (by kernel_rfl) (ch_41 h.ok)))) (d := (some 13)) (by kernel_rfl) rfl ?_
    refine Ops.regs 3 [(0, (Value.pointer (some ⟨b, 0, none⟩))), (2, (i64 0)), (16, (Value.bool (c.phase != 0)))] (j := 14) (by kernel_rfl) (by kernel_rfl) ?_
    refine Ops.split (c.phase != 0) (fun h4 => ?_) (fun h4 => ?_)
    · rw [h4]
      have p5 : ¬ (c.phase = 0) := of_bne_t h4
      refine Ops.regs 6 [(0, (Value.pointer (some ⟨b, 0, none⟩))), (2, (i64 0)), (22, (Value.bool true))] (j := 20) (by kernel_rfl) (by kernel_rfl) ?_
      refine Ops.done (by kernel_rfl) ?_
      refine q_then (o := .tmp 22) (by kernel_rfl) rfl ?_
      refine q_seq (by kernel_rfl) ?_
      refine q_region (by kernel_rfl) ?_
      refine Ops.regs 1 [(0, (Value.pointer (some ⟨b, 0, none⟩))), (2, (i64 0))] (j := 1) (by kernel_rfl) (by kernel_rfl) ?_
      refine Ops.done (by kernel_rfl) ?_
      refine q_ret (by kernel_rfl) ?_
      refine ⟨(i64 0), retv_tmp rfl rfl, ?_⟩
      have e : c.begin_ = (0, c) := by unfold Ch.begin_; first | rw [if_pos (by unfold Ch.busy; omega)] | rw [if_neg (by unfold Ch.busy; omega)]
      exact ⟨by rw [e], K0, by rw [e]; exact H0⟩
    · rw [h4]
      have p6 : c.phase = 0 := of_bne_f h4
      refine Ops.regs 3 [(0, (Value.pointer (some ⟨b, 0, none⟩))), (2, (i64 0)), (16, (Value.bool false)), (19, (Value.pointer (some ⟨b, 33, none⟩)))] (j := 17) (by kernel_rfl) (by kernel_rfl) ?_
      refine Ops.go (v := (i64 c.began)) (by kernel_rfl) (Runs.load (t := 2) (a := ⟨b, 33, none⟩) (by kernel_rfl) (H0.loads (loadC1 (by kernel_rfl) (ch_33 h.ok)))) (d := (some 20)) (by kernel_rfl) rfl ?_
      refine Ops.regs 2 [(0, (Value.pointer (some ⟨b, 0, none⟩))), (2, (i64 0)), (22, (Value.bool (decide (c.began ≥ 1152921504606846976))))] (j := 20) (by kernel_rfl) (by kernel_rfl) ?_
      refine Ops.done (by kernel_rfl) ?_
      refine q_cond (o := .tmp 22) (b := (decide (c.began ≥ 1152921504606846976))) (by kernel_rfl) rfl (fun h7 => ?_) (fun h7 => ?_)
      · rw [h7]
        have p8 : c.began ≥ 1152921504606846976 := of_decide_eq_true h7
        refine q_seq (by kernel_rfl) ?_
        refine q_region (by kernel_rfl) ?_
        refine Ops.regs 1 [(0, (Value.pointer (some ⟨b, 0, none⟩))), (2, (i64 0))] (j := 1) (by kernel_rfl) (by kernel_rfl) ?_
        refine Ops.done (by kernel_rfl) ?_
        refine q_ret (by kernel_rfl) ?_
        refine ⟨(i64 0), retv_tmp rfl rfl, ?_⟩
        have e : c.begin_ = (0, c) := by unfold Ch.begin_; first | rw [if_pos (by unfold Ch.busy; omega)] | rw [if_neg (by unfold Ch.busy; omega)]
        exact ⟨by rw [e], K0, by rw [e]; exact H0⟩
      · rw [h7]
        have p9 : ¬ (c.began ≥ 1152921504606846976) := of_decide_eq_false h7
        refine q_skip (by kernel_rfl) ?_
        refine q_seq (by kernel_rfl) ?_
        refine q_region (by kernel_rfl) ?_
        refine Ops.regs 3 [(0, (Value.pointer (some ⟨b, 0, none⟩))), (2, (i64 0)), (23, (Value.pointer (some ⟨b, 0, none⟩))), (25, (Value.pointer (some ⟨b, 33, none⟩)))] (j := 3) (by kernel_rfl) (by kernel_rfl) ?_
        refine Ops.go (v := (i64 c.began)) (by kernel_rfl) (Runs.load (t := 2) (a := ⟨b, 33, none⟩) (by kernel_rfl) (H0.loads (loadC1 (by kernel_rfl) (ch_33 h.ok)))) (d := (some 26)) (by kernel_rfl) rfl ?_
        refine Ops.regs 1 [(0, (Value.pointer (some ⟨b, 0, none⟩))), (2, (i64 0)), (23, (Value.pointer (some ⟨b, 0, none⟩))), (27, (i64 (IntKind.i64.wrap (c.began + 1))))] (j := 5) (by kernel_rfl) (by kernel_rfl) ?_
        have e10 : IntKind.i64.wrap (c.began + 1) = c.began + 1 := wrap_i64 (by omega) (by omega)
        rw [e10]
        refine Ops.regs 2 [(0, (Value.pointer (some ⟨b, 0, none⟩))), (2, (i64 0)), (27, (i64 (c.began + 1))), (29, (Value.pointer (some ⟨b, 33, none⟩)))] (j := 7) (by kernel_rfl) (by kernel_rfl) ?_
        have ok11 : Ch.Ok ({ c with began := c.began + 1 } : Ch) := ⟨h.ok.o, h.ok.e⟩
        refine Ops.put (t := 2) (b := b) (off := 33) (v := (i64 (c.began + 1))) (ys := (chL ({ c with began := c.began + 1 } : Ch))) (by kernel_rfl) (by kernel_rfl) H0 (storeC1 (by kernel_rfl) rfl (by rw [chL_length h.ok]; exact Nat.le_of_ble_eq_true rfl) (chs_33 h.ok _)) (d := none) (by kernel_rfl) rfl (fun w12 H13 K14 => ?_)
        clear H0
        have K15 := K0.trans K14 (U := (fun i => i = b)) (fun i h1 h2 => h2) (fun i h1 h2 => by have h2 : i = b := h2; show i = b; omega)
        clear K0
        clear K14
        refine Ops.done (by kernel_rfl) ?_
        refine q_seq (by kernel_rfl) ?_
        refine q_region (by kernel_rfl) ?_
        refine Ops.regs 3 [(2, (i64 0)), (32, (Value.pointer (some ⟨b, 33, none⟩)))] (j := 3) (by kernel_rfl) (by kernel_rfl) ?_
        refine Ops.go (v := (i64 (c.began + 1))) (by kernel_rfl) (Runs.load (t := 2) (a := ⟨b, 33, none⟩) (by kernel_rfl) (H13.loads (loadC1 (by kernel_rfl) (ch_33 ok11)))) (d := (some 33)) (by kernel_rfl) rfl ?_
        refine Ops.regs 1 [(2, (i64 (c.began + 1)))] (j := 5) (by kernel_rfl) (by kernel_rfl) ?_
        refine Ops.done (by kernel_rfl) ?_
        refine q_ret (by kernel_rfl) ?_
        refine ⟨(i64 (c.began + 1)), retv_tmp rfl rfl, ?_⟩
        have e : c.begin_ = (c.began + 1, ({ c with began := c.began + 1 } : Ch)) := by unfold Ch.begin_; first | rw [if_pos (by unfold Ch.busy; omega)] | rw [if_neg (by unfold Ch.busy; omega)]
        exact ⟨by rw [e], K15, by rw [e]; exact H13⟩

theorem ends_calls (w : World) (b : Nat) (c : Ch) (p n : Int) (h : c.Inv) (H0 : Has w b (rowL (chL c) 118)) : Calls Try.prog 96 ⟨[(Value.pointer (some ⟨b, 0, none⟩)), (i64 p), (i64 n)]⟩ w (fun e w' => e = .returned (.bool ((c.phase == p) && (c.audit == n))) ∧ w = w') := by
  refine q_calls Try.func96 (by kernel_rfl) (by kernel_rfl) ?_
  refine q_seq (by kernel_rfl) ?_
  refine q_region (by kernel_rfl) ?_
  refine Ops.regs 1 [(0, (Value.pointer (some ⟨b, 0, none⟩))), (1, (i64 p)), (2, (i64 n)), (6, (Value.bool false))] (j := 1) (by kernel_rfl) (by kernel_rfl) ?_
  refine Ops.done (by kernel_rfl) ?_
  refine q_seq (by kernel_rfl) ?_
  refine q_region (by kernel_rfl) ?_
  refine Ops.regs 3 [(0, (Value.pointer (some ⟨b, 0, none⟩))), (1, (i64 p)), (2, (i64 n)), (6, (Value.bool false)), (9, (Value.pointer (some ⟨b, 41, none⟩)))] (j := 3) (by kernel_rfl) (by kernel_rfl) ?_
  refine Ops.go (v := (i64 c.phase)) (by kernel_rfl) (Runs.load (t := 3) (a := ⟨b, 41, none⟩) (by kernel_rfl) (H0.loads (loadC1 (by kernel_rfl) (ch_41 h.ok)))) (d := (some 10)) (by kernel_rfl) rfl ?_
  refine Ops.regs 3 [(0, (Value.pointer (some ⟨b, 0, none⟩))), (2, (i64 n)), (6, (Value.bool false)), (13, (Value.bool (c.phase == p)))] (j := 7) (by kernel_rfl) (by kernel_rfl) ?_
  refine Ops.split (c.phase == p) (fun h1 => ?_) (fun h1 => ?_)
  · rw [h1]
    have p2 : c.phase = p := of_beq_t h1
    refine Ops.regs 3 [(2, (i64 n)), (6, (Value.bool false)), (13, (Value.bool true)), (16, (Value.pointer (some ⟨b, 40, none⟩)))] (j := 10) (by kernel_rfl) (by kernel_rfl) ?_
    refine Ops.go (v := (i64 c.audit)) (by kernel_rfl) (Runs.load (t := 2) (a := ⟨b, 40, none⟩) (by kernel_rfl) (H0.loads (loadC1 (by kernel_rfl) (ch_40 h.ok)))) (d := (some 17)) (by kernel_rfl) rfl ?_
    refine Ops.regs 4 [(6, (Value.bool (c.audit == n)))] (j := 15) (by kernel_rfl) (by kernel_rfl) ?_
    refine Ops.done (by kernel_rfl) ?_
    refine q_ret (by kernel_rfl) ?_
    refine ⟨(Value.bool (c.audit == n)), retv_tmp rfl rfl, ?_⟩
    exact ⟨by simp [*], rfl⟩
  · rw [h1]
    have p3 : ¬ (c.phase = p) := of_beq_f h1
    refine Ops.regs 8 [(6, (Value.bool false))] (j := 15) (by kernel_rfl) (by kernel_rfl) ?_
    refine Ops.done (by kernel_rfl) ?_
    refine q_ret (by kernel_rfl) ?_
    refine ⟨(Value.bool false), retv_tmp rfl rfl, ?_⟩
    exact ⟨by simp [*], rfl⟩

theorem doAudit_calls (w : World) (b : Nat) (c : Ch) (x : Cmd) (h : c.Inv) (H0 : Has w b (rowL (chL c) 118)) : Calls Try.prog 61 ⟨[(Value.pointer (some ⟨b, 0, none⟩)), (agg [(i64 x.kind), (i64 x.slot), (i64 x.shard), (i64 x.n), (i64 x.phase)])]⟩ w (fun e w' => e = .returned (c.doAudit).1.v ∧ Keeps (fun i => i = b) w w' ∧ Has w' b (rowL (chL (c.doAudit).2) 118)) := by
  have K0 : Keeps (fun i => i = b) w w := (Keeps.refl w).mono (fun _ _ h => h.elim)
  have Hb := H0.lt
  have hbg := h.bg
  have hmb := h.mb
  have hph := h.ph
  refine q_calls Try.func61 (by kernel_rfl) (by kernel_rfl) ?_
  refine q_seq (by kernel_rfl) ?_
  refine q_region (by kernel_rfl) ?_
  refine Ops.new (o := rowL [(i64 x.kind), (i64 x.slot), (i64 x.shard), (i64 x.n), (i64 x.phase)] 32) (V := fun b => (Value.pointer (some ⟨b, 0, none⟩))) (by kernel_rfl) (d := (some 3)) (by kernel_rfl) (fun b => rfl) (fun b1 w2 hb3 H4 K5 hs6 => ?_)
  have lb1 : b < b1 := by have := H0.lt; omega
  have nb1 : w.heap.size ≤ b1 := by have := K0.size; omega
  have H7 := H0.keep K5 (fun h => h)
  clear H0
  have K8 := K0.trans K5 (U := (fun i => i = b)) (fun i h1 h2 => h2) (fun i h1 h2 => by exact h2.elim)
  clear K0
  clear K5 hs6
  refine Ops.new (o := rowL [(i64 0), (Value.bool false), (i64 0)] 29) (V := fun b => (Value.pointer (some ⟨b, 0, none⟩))) (by kernel_rfl) (d := (some 4)) (by kernel_rfl) (fun b => rfl) (fun b9 w10 hb11 H12 K13 hs14 => ?_)
  have lb9 : b1 < b9 := by have := H4.lt; omega
  have nb9 : w.heap.size ≤ b9 := by have := K8.size; omega
  have H15 := H7.keep K13 (fun h => h)
  clear H7
  have H16 := H4.keep K13 (fun h => h)
  clear H4
  have K17 := K8.trans K13 (U := (fun i => i = b)) (fun i h1 h2 => h2) (fun i h1 h2 => by exact h2.elim)
  clear K8
  clear K13 hs14
  refine Ops.done (by kernel_rfl) ?_
  refine q_seq (by kernel_rfl) ?_
  refine q_region (by kernel_rfl) ?_
  refine Ops.regs 1 [(0, (Value.pointer (some ⟨b, 0, none⟩))), (4, (Value.pointer (some ⟨b9, 0, none⟩))), (6, (Value.pointer (some ⟨b, 0, none⟩)))] (j := 1) (by kernel_rfl) (by kernel_rfl) ?_
  refine Ops.call (by kernel_rfl) (d := (some 7)) (by kernel_rfl) (begin_calls _ b c h H15) ?_
  rintro _ w18 ⟨rfl, K19, H20⟩
  have eB22 : c.begin_.2 = { c with began := c.begin_.2.began } := by unfold Ch.begin_; split <;> rfl
  rw [eB22] at H20
  clear eB22
  have hbB23 := Ch.Inv.begin_bd h
  have ok21 : Ch.Ok { c with began := c.begin_.2.began } := ⟨h.ok.o, h.ok.e⟩
  refine ⟨_, _, rfl, rfl, ?_⟩
  have H24 := H16.keep K19 (by intro h; change b1 = b at h; omega)
  clear H16
  have H25 := H12.keep K19 (by intro h; change b9 = b at h; omega)
  clear H12
  have K26 := K17.trans K19 (U := (fun i => i = b)) (fun i h1 h2 => h2) (fun i h1 h2 => by have h2 : i = b := h2; show i = b; omega)
  clear K17
  clear K19
  refine Ops.regs 1 [(0, (Value.pointer (some ⟨b, 0, none⟩))), (4, (Value.pointer (some ⟨b9, 0, none⟩))), (5, (i64 c.begin_.1))] (j := 3) (by kernel_rfl) (by kernel_rfl) ?_
  refine Ops.done (by kernel_rfl) ?_
  refine q_seq (by kernel_rfl) ?_
  refine q_seq (by kernel_rfl) ?_
  refine q_region (by kernel_rfl) ?_
  refine Ops.regs 2 [(0, (Value.pointer (some ⟨b, 0, none⟩))), (4, (Value.pointer (some ⟨b9, 0, none⟩))), (5, (i64 c.begin_.1)), (9, (Value.bool (c.begin_.1 == 0)))] (j := 2) (by kernel_rfl) (by kernel_rfl) ?_
  refine Ops.done (by kernel_rfl) ?_
  refine q_cond (o := .tmp 9) (b := (c.begin_.1 == 0)) (by kernel_rfl) rfl (fun h27 => ?_) (fun h27 => ?_)
  · rw [h27]
    have p28 : c.begin_.1 = 0 := of_beq_t h27
    refine q_seq (by kernel_rfl) ?_
    refine q_region (by kernel_rfl) ?_
    refine Ops.regs 1 [(0, (Value.pointer (some ⟨b, 0, none⟩))), (4, (Value.pointer (some ⟨b9, 0, none⟩))), (5, (i64 c.begin_.1)), (10, (agg [(i64 50), (Value.bool false), (i64 0)]))] (j := 1) (by kernel_rfl) (by kernel_rfl) ?_
    refine Ops.put (t := 29) (b := b9) (off := 0) (v := (agg [(i64 50), (Value.bool false), (i64 0)])) (ys := [(i64 50), (Value.bool false), (i64 0)]) (by kernel_rfl) (by kernel_rfl) H25 (by kernel_rfl) (d := none) (by kernel_rfl) rfl (fun w29 H30 K31 => ?_)
    clear H25
    have H32 := H20.keep K31 (by intro h; change b = b9 at h; omega)
    clear H20
    have H33 := H24.keep K31 (by intro h; change b1 = b9 at h; omega)
    clear H24
    have K34 := K26.trans K31 (U := (fun i => i = b)) (fun i h1 h2 => h2) (fun i h1 h2 => by have h2 : i = b9 := h2; show i = b; omega)
    clear K26
    clear K31
    refine Ops.done (by kernel_rfl) ?_
    refine q_ret (by kernel_rfl) ?_
    refine ⟨(agg [(i64 50), (Value.bool false), (i64 0)]), retv_cell rfl rfl (H30.loads (by kernel_rfl)), ?_⟩
    have e : c.doAudit = (⟨50, false, 0⟩, ({ c with began := c.begin_.2.began } : Ch)) := by
      by_cases hq : c.busy
      · have e0 : c.begin_ = (0, c) := by unfold Ch.begin_; rw [if_pos hq]
        unfold Ch.doAudit; rw [if_pos hq]
        first | (rw [e0]; done) | (rw [e0]; rfl) | (exfalso; have e1 := congrArg Prod.fst e0; simp only at e1; omega)
      · have e0 : c.begin_ = (c.began + 1, { c with began := c.began + 1 }) := by unfold Ch.begin_; rw [if_neg hq]
        unfold Ch.doAudit; rw [if_neg hq]
        first | (rw [e0]; done) | (rw [e0]; rfl) | (exfalso; have e1 := congrArg Prod.fst e0; simp only at e1; omega)
    exact ⟨by rw [e]; rfl, K34, by rw [e]; exact H32⟩
  · rw [h27]
    have p35 : ¬ (c.begin_.1 = 0) := of_beq_f h27
    refine q_skip (by kernel_rfl) ?_
    refine q_seq (by kernel_rfl) ?_
    refine q_region (by kernel_rfl) ?_
    refine Ops.regs 5 [(4, (Value.pointer (some ⟨b9, 0, none⟩))), (5, (i64 c.begin_.1)), (12, (Value.pointer (some ⟨b, 0, none⟩))), (13, (i64 c.begin_.1)), (15, (Value.pointer (some ⟨b, 40, none⟩)))] (j := 5) (by kernel_rfl) (by kernel_rfl) ?_
    have ok36 : Ch.Ok ({ c with began := c.begin_.2.began, audit := c.begin_.1 } : Ch) := ⟨ok21.o, ok21.e⟩
    refine Ops.put (t := 2) (b := b) (off := 40) (v := (i64 c.begin_.1)) (ys := (chL ({ c with began := c.begin_.2.began, audit := c.begin_.1 } : Ch))) (by kernel_rfl) (by kernel_rfl) H20 (storeC1 (by kernel_rfl) rfl (by rw [chL_length ok21]; exact Nat.le_of_ble_eq_true rfl) (chs_40 ok21 _)) (d := none) (by kernel_rfl) rfl (fun w37 H38 K39 => ?_)
    clear H20
    have H40 := H24.keep K39 (by intro h; change b1 = b at h; omega)
    clear H24
    have H41 := H25.keep K39 (by intro h; change b9 = b at h; omega)
    clear H25
    have K42 := K26.trans K39 (U := (fun i => i = b)) (fun i h1 h2 => h2) (fun i h1 h2 => by have h2 : i = b := h2; show i = b; omega)
    clear K26
    clear K39
    refine Ops.regs 2 [(4, (Value.pointer (some ⟨b9, 0, none⟩))), (5, (i64 c.begin_.1)), (17, (Value.pointer (some ⟨b, 41, none⟩)))] (j := 8) (by kernel_rfl) (by kernel_rfl) ?_
    have ok43 : Ch.Ok ({ c with began := c.begin_.2.began, audit := c.begin_.1, phase := 1 } : Ch) := ⟨ok36.o, ok36.e⟩
    refine Ops.put (t := 3) (b := b) (off := 41) (v := (i64 1)) (ys := (chL ({ c with began := c.begin_.2.began, audit := c.begin_.1, phase := 1 } : Ch))) (by kernel_rfl) (by kernel_rfl) H38 (storeC1 (by kernel_rfl) rfl (by rw [chL_length ok36]; exact Nat.le_of_ble_eq_true rfl) (chs_41 ok36 _)) (d := none) (by kernel_rfl) rfl (fun w44 H45 K46 => ?_)
    clear H38
    have H47 := H40.keep K46 (by intro h; change b1 = b at h; omega)
    clear H40
    have H48 := H41.keep K46 (by intro h; change b9 = b at h; omega)
    clear H41
    have K49 := K42.trans K46 (U := (fun i => i = b)) (fun i h1 h2 => h2) (fun i h1 h2 => by have h2 : i = b := h2; show i = b; omega)
    clear K42
    clear K46
    refine Ops.done (by kernel_rfl) ?_
    refine q_seq (by kernel_rfl) ?_
    refine q_region (by kernel_rfl) ?_
    refine Ops.regs 2 [(4, (Value.pointer (some ⟨b9, 0, none⟩))), (19, (agg [(i64 0), (Value.bool true), (i64 c.begin_.1)]))] (j := 2) (by kernel_rfl) (by kernel_rfl) ?_
    refine Ops.put (t := 29) (b := b9) (off := 0) (v := (agg [(i64 0), (Value.bool true), (i64 c.begin_.1)])) (ys := [(i64 0), (Value.bool true), (i64 c.begin_.1)]) (by kernel_rfl) (by kernel_rfl) H48 (by kernel_rfl) (d := none) (by kernel_rfl) rfl (fun w50 H51 K52 => ?_)
    clear H48
    have H53 := H45.keep K52 (by intro h; change b = b9 at h; omega)
    clear H45
    have H54 := H47.keep K52 (by intro h; change b1 = b9 at h; omega)
    clear H47
    have K55 := K49.trans K52 (U := (fun i => i = b)) (fun i h1 h2 => h2) (fun i h1 h2 => by have h2 : i = b9 := h2; show i = b; omega)
    clear K49
    clear K52
    refine Ops.done (by kernel_rfl) ?_
    refine q_ret (by kernel_rfl) ?_
    refine ⟨(agg [(i64 0), (Value.bool true), (i64 c.begin_.1)]), retv_cell rfl rfl (H51.loads (by kernel_rfl)), ?_⟩
    have e : c.doAudit = (⟨0, true, c.begin_.1⟩, ({ c with began := c.begin_.2.began, audit := c.begin_.1, phase := 1 } : Ch)) := by
      by_cases hq : c.busy
      · have e0 : c.begin_ = (0, c) := by unfold Ch.begin_; rw [if_pos hq]
        unfold Ch.doAudit; rw [if_pos hq]
        first | (rw [e0]; done) | (rw [e0]; rfl) | (exfalso; have e1 := congrArg Prod.fst e0; simp only at e1; omega)
      · have e0 : c.begin_ = (c.began + 1, { c with began := c.began + 1 }) := by unfold Ch.begin_; rw [if_neg hq]
        unfold Ch.doAudit; rw [if_neg hq]
        first | (rw [e0]; done) | (rw [e0]; rfl) | (exfalso; have e1 := congrArg Prod.fst e0; simp only at e1; omega)
    exact ⟨by rw [e]; rfl, K55, by rw [e]; exact H53⟩

theorem doCut_calls (w : World) (b : Nat) (c : Ch) (x : Cmd) (h : c.Inv) (H0 : Has w b (rowL (chL c) 118)) : Calls Try.prog 62 ⟨[(Value.pointer (some ⟨b, 0, none⟩)), (agg [(i64 x.kind), (i64 x.slot), (i64 x.shard), (i64 x.n), (i64 x.phase)])]⟩ w (fun e w' => e = .returned (c.doCut x).1.v ∧ Keeps (fun i => i = b) w w' ∧ Has w' b (rowL (chL (c.doCut x).2) 118)) := by
  have K0 : Keeps (fun i => i = b) w w := (Keeps.refl w).mono (fun _ _ h => h.elim)
  have Hb := H0.lt
  have hbg := h.bg
  have hmb := h.mb
  have hph := h.ph
  refine q_calls Try.func62 (by kernel_rfl) (by kernel_rfl) ?_
  refine q_seq (by kernel_rfl) ?_
  refine q_region (by kernel_rfl) ?_
  refine Ops.new (o := rowL [(i64 x.kind), (i64 x.slot), (i64 x.shard), (i64 x.n), (i64 x.phase)] 32) (V := fun b => (Value.pointer (some ⟨b, 0, none⟩))) (by kernel_rfl) (d := (some 3)) (by kernel_rfl) (fun b => rfl) (fun b1 w2 hb3 H4 K5 hs6 => ?_)
  have lb1 : b < b1 := by have := H0.lt; omega
  have nb1 : w.heap.size ≤ b1 := by have := K0.size; omega
  have H7 := H0.keep K5 (fun h => h)
  clear H0
  have K8 := K0.trans K5 (U := (fun i => i = b)) (fun i h1 h2 => h2) (fun i h1 h2 => by exact h2.elim)
  clear K0
  clear K5 hs6
  refine Ops.new (o := rowL [(i64 0), (Value.bool false), (i64 0)] 29) (V := fun b => (Value.pointer (some ⟨b, 0, none⟩))) (by kernel_rfl) (d := (some 4)) (by kernel_rfl) (fun b => rfl) (fun b9 w10 hb11 H12 K13 hs14 => ?_)
  have lb9 : b1 < b9 := by have := H4.lt; omega
  have nb9 : w.heap.size ≤ b9 := by have := K8.size; omega
  have H15 := H7.keep K13 (fun h => h)
  clear H7
  have H16 := H4.keep K13 (fun h => h)
  clear H4
  have K17 := K8.trans K13 (U := (fun i => i = b)) (fun i h1 h2 => h2) (fun i h1 h2 => by exact h2.elim)
  clear K8
  clear K13 hs14
  refine Ops.done (by kernel_rfl) ?_
  refine q_seq (by kernel_rfl) ?_
  refine q_seq (by kernel_rfl) ?_
  refine q_region (by kernel_rfl) ?_
  refine Ops.regs 2 [(0, (Value.pointer (some ⟨b, 0, none⟩))), (3, (Value.pointer (some ⟨b1, 0, none⟩))), (4, (Value.pointer (some ⟨b9, 0, none⟩))), (5, (Value.pointer (some ⟨b, 0, none⟩))), (6, (Value.pointer (some ⟨b1, 3, none⟩)))] (j := 2) (by kernel_rfl) (by kernel_rfl) ?_
  refine Ops.go (v := (i64 x.n)) (by kernel_rfl) (Runs.load (t := 2) (a := ⟨b1, 3, none⟩) (by kernel_rfl) (H16.loads (by kernel_rfl))) (d := (some 7)) (by kernel_rfl) rfl ?_
  refine Ops.call (by kernel_rfl) (d := (some 8)) (by kernel_rfl) (ends_calls _ b c 1 x.n h H15) ?_
  rintro _ _ ⟨rfl, rfl⟩
  refine ⟨_, _, rfl, rfl, ?_⟩
  refine Ops.regs 1 [(0, (Value.pointer (some ⟨b, 0, none⟩))), (3, (Value.pointer (some ⟨b1, 0, none⟩))), (4, (Value.pointer (some ⟨b9, 0, none⟩))), (9, (Value.bool (!((c.phase == 1) && (c.audit == x.n)))))] (j := 5) (by kernel_rfl) (by kernel_rfl) ?_
  refine Ops.done (by kernel_rfl) ?_
  refine q_cond (o := .tmp 9) (b := (!((c.phase == 1) && (c.audit == x.n)))) (by kernel_rfl) rfl (fun h18 => ?_) (fun h18 => ?_)
  · rw [h18]
    have p19 : ¬ (c.phase = 1 ∧ c.audit = x.n) := by simpa using (bnot_true h18)
    refine q_seq (by kernel_rfl) ?_
    refine q_region (by kernel_rfl) ?_
    refine Ops.regs 1 [(0, (Value.pointer (some ⟨b, 0, none⟩))), (3, (Value.pointer (some ⟨b1, 0, none⟩))), (4, (Value.pointer (some ⟨b9, 0, none⟩))), (10, (agg [(i64 5), (Value.bool false), (i64 0)]))] (j := 1) (by kernel_rfl) (by kernel_rfl) ?_
    refine Ops.put (t := 29) (b := b9) (off := 0) (v := (agg [(i64 5), (Value.bool false), (i64 0)])) (ys := [(i64 5), (Value.bool false), (i64 0)]) (by kernel_rfl) (by kernel_rfl) H12 (by kernel_rfl) (d := none) (by kernel_rfl) rfl (fun w20 H21 K22 => ?_)
    clear H12
    have H23 := H15.keep K22 (by intro h; change b = b9 at h; omega)
    clear H15
    have H24 := H16.keep K22 (by intro h; change b1 = b9 at h; omega)
    clear H16
    have K25 := K17.trans K22 (U := (fun i => i = b)) (fun i h1 h2 => h2) (fun i h1 h2 => by have h2 : i = b9 := h2; show i = b; omega)
    clear K17
    clear K22
    refine Ops.done (by kernel_rfl) ?_
    refine q_ret (by kernel_rfl) ?_
    refine ⟨(agg [(i64 5), (Value.bool false), (i64 0)]), retv_cell rfl rfl (H21.loads (by kernel_rfl)), ?_⟩
    have e : c.doCut x = (⟨5, false, 0⟩, c) := by
      unfold Ch.doCut; first | rw [if_pos (by omega)] | rw [if_neg (by omega)]
    exact ⟨by rw [e]; rfl, K25, by rw [e]; exact H23⟩
  · rw [h18]
    have p26 : (c.phase = 1 ∧ c.audit = x.n) := by simpa using (bnot_false h18)
    refine q_skip (by kernel_rfl) ?_
    refine q_seq (by kernel_rfl) ?_
    refine q_region (by kernel_rfl) ?_
    refine Ops.regs 3 [(3, (Value.pointer (some ⟨b1, 0, none⟩))), (4, (Value.pointer (some ⟨b9, 0, none⟩))), (13, (Value.pointer (some ⟨b, 41, none⟩)))] (j := 3) (by kernel_rfl) (by kernel_rfl) ?_
    have ok27 : Ch.Ok ({ c with phase := 2 } : Ch) := ⟨h.ok.o, h.ok.e⟩
    refine Ops.put (t := 3) (b := b) (off := 41) (v := (i64 2)) (ys := (chL ({ c with phase := 2 } : Ch))) (by kernel_rfl) (by kernel_rfl) H15 (storeC1 (by kernel_rfl) rfl (by rw [chL_length h.ok]; exact Nat.le_of_ble_eq_true rfl) (chs_41 h.ok _)) (d := none) (by kernel_rfl) rfl (fun w28 H29 K30 => ?_)
    clear H15
    have H31 := H16.keep K30 (by intro h; change b1 = b at h; omega)
    clear H16
    have H32 := H12.keep K30 (by intro h; change b9 = b at h; omega)
    clear H12
    have K33 := K17.trans K30 (U := (fun i => i = b)) (fun i h1 h2 => h2) (fun i h1 h2 => by have h2 : i = b := h2; show i = b; omega)
    clear K17
    clear K30
    refine Ops.done (by kernel_rfl) ?_
    refine q_seq (by kernel_rfl) ?_
    refine q_region (by kernel_rfl) ?_
    refine Ops.regs 1 [(4, (Value.pointer (some ⟨b9, 0, none⟩))), (14, (Value.pointer (some ⟨b1, 3, none⟩)))] (j := 1) (by kernel_rfl) (by kernel_rfl) ?_
    refine Ops.go (v := (i64 x.n)) (by kernel_rfl) (Runs.load (t := 2) (a := ⟨b1, 3, none⟩) (by kernel_rfl) (H31.loads (by kernel_rfl))) (d := (some 15)) (by kernel_rfl) rfl ?_
    refine Ops.regs 1 [(4, (Value.pointer (some ⟨b9, 0, none⟩))), (16, (agg [(i64 0), (Value.bool false), (i64 x.n)]))] (j := 3) (by kernel_rfl) (by kernel_rfl) ?_
    refine Ops.put (t := 29) (b := b9) (off := 0) (v := (agg [(i64 0), (Value.bool false), (i64 x.n)])) (ys := [(i64 0), (Value.bool false), (i64 x.n)]) (by kernel_rfl) (by kernel_rfl) H32 (by kernel_rfl) (d := none) (by kernel_rfl) rfl (fun w34 H35 K36 => ?_)
    clear H32
    have H37 := H29.keep K36 (by intro h; change b = b9 at h; omega)
    clear H29
    have H38 := H31.keep K36 (by intro h; change b1 = b9 at h; omega)
    clear H31
    have K39 := K33.trans K36 (U := (fun i => i = b)) (fun i h1 h2 => h2) (fun i h1 h2 => by have h2 : i = b9 := h2; show i = b; omega)
    clear K33
    clear K36
    refine Ops.done (by kernel_rfl) ?_
    refine q_ret (by kernel_rfl) ?_
    refine ⟨(agg [(i64 0), (Value.bool false), (i64 x.n)]), retv_cell rfl rfl (H35.loads (by kernel_rfl)), ?_⟩
    have e : c.doCut x = (⟨0, false, x.n⟩, ({ c with phase := 2 } : Ch)) := by
      unfold Ch.doCut; first | rw [if_pos (by omega)] | rw [if_neg (by omega)]
    exact ⟨by rw [e]; rfl, K39, by rw [e]; exact H37⟩

theorem doThawed_calls (w : World) (b : Nat) (c : Ch) (x : Cmd) (h : c.Inv) (H0 : Has w b (rowL (chL c) 118)) : Calls Try.prog 63 ⟨[(Value.pointer (some ⟨b, 0, none⟩)), (agg [(i64 x.kind), (i64 x.slot), (i64 x.shard), (i64 x.n), (i64 x.phase)])]⟩ w (fun e w' => e = .returned (c.doThawed x).1.v ∧ Keeps (fun i => i = b) w w' ∧ Has w' b (rowL (chL (c.doThawed x).2) 118)) := by
  have K0 : Keeps (fun i => i = b) w w := (Keeps.refl w).mono (fun _ _ h => h.elim)
  have Hb := H0.lt
  have hbg := h.bg
  have hmb := h.mb
  have hph := h.ph
  refine q_calls Try.func63 (by kernel_rfl) (by kernel_rfl) ?_
  refine q_seq (by kernel_rfl) ?_
  refine q_region (by kernel_rfl) ?_
  refine Ops.new (o := rowL [(i64 x.kind), (i64 x.slot), (i64 x.shard), (i64 x.n), (i64 x.phase)] 32) (V := fun b => (Value.pointer (some ⟨b, 0, none⟩))) (by kernel_rfl) (d := (some 3)) (by kernel_rfl) (fun b => rfl) (fun b1 w2 hb3 H4 K5 hs6 => ?_)
  have lb1 : b < b1 := by have := H0.lt; omega
  have nb1 : w.heap.size ≤ b1 := by have := K0.size; omega
  have H7 := H0.keep K5 (fun h => h)
  clear H0
  have K8 := K0.trans K5 (U := (fun i => i = b)) (fun i h1 h2 => h2) (fun i h1 h2 => by exact h2.elim)
  clear K0
  clear K5 hs6
  refine Ops.new (o := rowL [(i64 0), (Value.bool false), (i64 0)] 29) (V := fun b => (Value.pointer (some ⟨b, 0, none⟩))) (by kernel_rfl) (d := (some 4)) (by kernel_rfl) (fun b => rfl) (fun b9 w10 hb11 H12 K13 hs14 => ?_)
  have lb9 : b1 < b9 := by have := H4.lt; omega
  have nb9 : w.heap.size ≤ b9 := by have := K8.size; omega
  have H15 := H7.keep K13 (fun h => h)
  clear H7
  have H16 := H4.keep K13 (fun h => h)
  clear H4
  have K17 := K8.trans K13 (U := (fun i => i = b)) (fun i h1 h2 => h2) (fun i h1 h2 => by exact h2.elim)
  clear K8
  clear K13 hs14
  refine Ops.done (by kernel_rfl) ?_
  refine q_seq (by kernel_rfl) ?_
  refine q_seq (by kernel_rfl) ?_
  refine q_region (by kernel_rfl) ?_
  refine Ops.regs 2 [(0, (Value.pointer (some ⟨b, 0, none⟩))), (3, (Value.pointer (some ⟨b1, 0, none⟩))), (4, (Value.pointer (some ⟨b9, 0, none⟩))), (5, (Value.pointer (some ⟨b, 0, none⟩))), (6, (Value.pointer (some ⟨b1, 3, none⟩)))] (j := 2) (by kernel_rfl) (by kernel_rfl) ?_
  refine Ops.go (v := (i64 x.n)) (by kernel_rfl) (Runs.load (t := 2) (a := ⟨b1, 3, none⟩) (by kernel_rfl) (H16.loads (by kernel_rfl))) (d := (some 7)) (by kernel_rfl) rfl ?_
  refine Ops.call (by kernel_rfl) (d := (some 8)) (by kernel_rfl) (ends_calls _ b c 2 x.n h H15) ?_
  rintro _ _ ⟨rfl, rfl⟩
  refine ⟨_, _, rfl, rfl, ?_⟩
  refine Ops.regs 1 [(0, (Value.pointer (some ⟨b, 0, none⟩))), (3, (Value.pointer (some ⟨b1, 0, none⟩))), (4, (Value.pointer (some ⟨b9, 0, none⟩))), (9, (Value.bool (!((c.phase == 2) && (c.audit == x.n)))))] (j := 5) (by kernel_rfl) (by kernel_rfl) ?_
  refine Ops.done (by kernel_rfl) ?_
  refine q_cond (o := .tmp 9) (b := (!((c.phase == 2) && (c.audit == x.n)))) (by kernel_rfl) rfl (fun h18 => ?_) (fun h18 => ?_)
  · rw [h18]
    have p19 : ¬ (c.phase = 2 ∧ c.audit = x.n) := by simpa using (bnot_true h18)
    refine q_seq (by kernel_rfl) ?_
    refine q_region (by kernel_rfl) ?_
    refine Ops.regs 1 [(0, (Value.pointer (some ⟨b, 0, none⟩))), (3, (Value.pointer (some ⟨b1, 0, none⟩))), (4, (Value.pointer (some ⟨b9, 0, none⟩))), (10, (agg [(i64 5), (Value.bool false), (i64 0)]))] (j := 1) (by kernel_rfl) (by kernel_rfl) ?_
    refine Ops.put (t := 29) (b := b9) (off := 0) (v := (agg [(i64 5), (Value.bool false), (i64 0)])) (ys := [(i64 5), (Value.bool false), (i64 0)]) (by kernel_rfl) (by kernel_rfl) H12 (by kernel_rfl) (d := none) (by kernel_rfl) rfl (fun w20 H21 K22 => ?_)
    clear H12
    have H23 := H15.keep K22 (by intro h; change b = b9 at h; omega)
    clear H15
    have H24 := H16.keep K22 (by intro h; change b1 = b9 at h; omega)
    clear H16
    have K25 := K17.trans K22 (U := (fun i => i = b)) (fun i h1 h2 => h2) (fun i h1 h2 => by have h2 : i = b9 := h2; show i = b; omega)
    clear K17
    clear K22
    refine Ops.done (by kernel_rfl) ?_
    refine q_ret (by kernel_rfl) ?_
    refine ⟨(agg [(i64 5), (Value.bool false), (i64 0)]), retv_cell rfl rfl (H21.loads (by kernel_rfl)), ?_⟩
    have e : c.doThawed x = (⟨5, false, 0⟩, c) := by
      unfold Ch.doThawed; first | rw [if_pos (by omega)] | rw [if_neg (by omega)]
    exact ⟨by rw [e]; rfl, K25, by rw [e]; exact H23⟩
  · rw [h18]
    have p26 : (c.phase = 2 ∧ c.audit = x.n) := by simpa using (bnot_false h18)
    refine q_skip (by kernel_rfl) ?_
    refine q_seq (by kernel_rfl) ?_
    refine q_region (by kernel_rfl) ?_
    refine Ops.regs 4 [(3, (Value.pointer (some ⟨b1, 0, none⟩))), (4, (Value.pointer (some ⟨b9, 0, none⟩))), (12, (Value.pointer (some ⟨b, 0, none⟩))), (14, (Value.pointer (some ⟨b, 40, none⟩)))] (j := 4) (by kernel_rfl) (by kernel_rfl) ?_
    have ok27 : Ch.Ok ({ c with audit := 0 } : Ch) := ⟨h.ok.o, h.ok.e⟩
    refine Ops.put (t := 2) (b := b) (off := 40) (v := (i64 0)) (ys := (chL ({ c with audit := 0 } : Ch))) (by kernel_rfl) (by kernel_rfl) H15 (storeC1 (by kernel_rfl) rfl (by rw [chL_length h.ok]; exact Nat.le_of_ble_eq_true rfl) (chs_40 h.ok _)) (d := none) (by kernel_rfl) rfl (fun w28 H29 K30 => ?_)
    clear H15
    have H31 := H16.keep K30 (by intro h; change b1 = b at h; omega)
    clear H16
    have H32 := H12.keep K30 (by intro h; change b9 = b at h; omega)
    clear H12
    have K33 := K17.trans K30 (U := (fun i => i = b)) (fun i h1 h2 => h2) (fun i h1 h2 => by have h2 : i = b := h2; show i = b; omega)
    clear K17
    clear K30
    refine Ops.regs 2 [(3, (Value.pointer (some ⟨b1, 0, none⟩))), (4, (Value.pointer (some ⟨b9, 0, none⟩))), (16, (Value.pointer (some ⟨b, 41, none⟩)))] (j := 7) (by kernel_rfl) (by kernel_rfl) ?_
    have ok34 : Ch.Ok ({ c with audit := 0, phase := 0 } : Ch) := ⟨ok27.o, ok27.e⟩
    refine Ops.put (t := 3) (b := b) (off := 41) (v := (i64 0)) (ys := (chL ({ c with audit := 0, phase := 0 } : Ch))) (by kernel_rfl) (by kernel_rfl) H29 (storeC1 (by kernel_rfl) rfl (by rw [chL_length ok27]; exact Nat.le_of_ble_eq_true rfl) (chs_41 ok27 _)) (d := none) (by kernel_rfl) rfl (fun w35 H36 K37 => ?_)
    clear H29
    have H38 := H31.keep K37 (by intro h; change b1 = b at h; omega)
    clear H31
    have H39 := H32.keep K37 (by intro h; change b9 = b at h; omega)
    clear H32
    have K40 := K33.trans K37 (U := (fun i => i = b)) (fun i h1 h2 => h2) (fun i h1 h2 => by have h2 : i = b := h2; show i = b; omega)
    clear K33
    clear K37
    refine Ops.done (by kernel_rfl) ?_
    refine q_seq (by kernel_rfl) ?_
    refine q_region (by kernel_rfl) ?_
    refine Ops.regs 1 [(4, (Value.pointer (some ⟨b9, 0, none⟩))), (17, (Value.pointer (some ⟨b1, 3, none⟩)))] (j := 1) (by kernel_rfl) (by kernel_rfl) ?_
    refine Ops.go (v := (i64 x.n)) (by kernel_rfl) (Runs.load (t := 2) (a := ⟨b1, 3, none⟩) (by kernel_rfl) (H38.loads (by kernel_rfl))) (d := (some 18)) (by kernel_rfl) rfl ?_
    refine Ops.regs 1 [(4, (Value.pointer (some ⟨b9, 0, none⟩))), (19, (agg [(i64 0), (Value.bool false), (i64 x.n)]))] (j := 3) (by kernel_rfl) (by kernel_rfl) ?_
    refine Ops.put (t := 29) (b := b9) (off := 0) (v := (agg [(i64 0), (Value.bool false), (i64 x.n)])) (ys := [(i64 0), (Value.bool false), (i64 x.n)]) (by kernel_rfl) (by kernel_rfl) H39 (by kernel_rfl) (d := none) (by kernel_rfl) rfl (fun w41 H42 K43 => ?_)
    clear H39
    have H44 := H36.keep K43 (by intro h; change b = b9 at h; omega)
    clear H36
    have H45 := H38.keep K43 (by intro h; change b1 = b9 at h; omega)
    clear H38
    have K46 := K40.trans K43 (U := (fun i => i = b)) (fun i h1 h2 => h2) (fun i h1 h2 => by have h2 : i = b9 := h2; show i = b; omega)
    clear K40
    clear K43
    refine Ops.done (by kernel_rfl) ?_
    refine q_ret (by kernel_rfl) ?_
    refine ⟨(agg [(i64 0), (Value.bool false), (i64 x.n)]), retv_cell rfl rfl (H42.loads (by kernel_rfl)), ?_⟩
    have e : c.doThawed x = (⟨0, false, x.n⟩, ({ c with audit := 0, phase := 0 } : Ch)) := by
      unfold Ch.doThawed; first | rw [if_pos (by omega)] | rw [if_neg (by omega)]
    exact ⟨by rw [e]; rfl, K46, by rw [e]; exact H44⟩

theorem doStep_calls (w : World) (b : Nat) (c : Ch) (x : Cmd) (h : c.Inv) (H0 : Has w b (rowL (chL c) 118)) : Calls Try.prog 60 ⟨[(Value.pointer (some ⟨b, 0, none⟩)), (agg [(i64 x.kind), (i64 x.slot), (i64 x.shard), (i64 x.n), (i64 x.phase)])]⟩ w (fun e w' => e = .returned (c.doStep x).1.v ∧ Keeps (fun i => i = b) w w' ∧ Has w' b (rowL (chL (c.doStep x).2) 118)) := by
  have K0 : Keeps (fun i => i = b) w w := (Keeps.refl w).mono (fun _ _ h => h.elim)
  have Hb := H0.lt
  have hbg := h.bg
  have hmb := h.mb
  have hph := h.ph
  refine q_calls Try.func60 (by kernel_rfl) (by kernel_rfl) ?_
  refine q_seq (by kernel_rfl) ?_
  refine q_region (by kernel_rfl) ?_
  refine Ops.new (o := rowL [(i64 x.kind), (i64 x.slot), (i64 x.shard), (i64 x.n), (i64 x.phase)] 32) (V := fun b => (Value.pointer (some ⟨b, 0, none⟩))) (by kernel_rfl) (d := (some 3)) (by kernel_rfl) (fun b => rfl) (fun b1 w2 hb3 H4 K5 hs6 => ?_)
  have lb1 : b < b1 := by have := H0.lt; omega
  have nb1 : w.heap.size ≤ b1 := by have := K0.size; omega
  have H7 := H0.keep K5 (fun h => h)
  clear H0
  have K8 := K0.trans K5 (U := (fun i => i = b)) (fun i h1 h2 => h2) (fun i h1 h2 => by exact h2.elim)
  clear K0
  clear K5 hs6
  refine Ops.new (o := rowL [(i64 0), (Value.bool false), (i64 0)] 29) (V := fun b => (Value.pointer (some ⟨b, 0, none⟩))) (by kernel_rfl) (d := (some 4)) (by kernel_rfl) (fun b => rfl) (fun b9 w10 hb11 H12 K13 hs14 => ?_)
  have lb9 : b1 < b9 := by have := H4.lt; omega
  have nb9 : w.heap.size ≤ b9 := by have := K8.size; omega
  have H15 := H7.keep K13 (fun h => h)
  clear H7
  have H16 := H4.keep K13 (fun h => h)
  clear H4
  have K17 := K8.trans K13 (U := (fun i => i = b)) (fun i h1 h2 => h2) (fun i h1 h2 => by exact h2.elim)
  clear K8
  clear K13 hs14
  refine Ops.done (by kernel_rfl) ?_
  refine q_seq (by kernel_rfl) ?_
  refine q_region (by kernel_rfl) ?_
  refine Ops.regs 4 [(0, (Value.pointer (some ⟨b, 0, none⟩))), (3, (Value.pointer (some ⟨b1, 0, none⟩))), (4, (Value.pointer (some ⟨b9, 0, none⟩))), (5, (Value.pointer (some ⟨b, 34, none⟩)))] (j := 4) (by kernel_rfl) (by kernel_rfl) ?_
  refine Ops.done (by kernel_rfl) ?_
  refine q_seq (by kernel_rfl) ?_
  refine q_seq (by kernel_rfl) ?_
  refine q_draw (fun wz => Keeps none_ w10 wz) 23 (by kernel_rfl) (by kernel_rfl) (by kernel_rfl) (fun w18 K19 _ _ => ⟨K19, ?_⟩)
  have H20 := H15.keep K19 (fun h => h)
  clear H15
  have H21 := H16.keep K19 (fun h => h)
  clear H16
  have H22 := H12.keep K19 (fun h => h)
  clear H12
  have K23 := K17.trans K19 (U := (fun i => i = b)) (fun i h1 h2 => h2) (fun i h1 h2 => by exact h2.elim)
  clear K17
  refine Dr.strong (S' := (fun wz => Keeps none_ w18 wz)) (Keeps.refl w18) (fun wz hx => K19.trans hx (fun _ _ h => h) (fun _ _ h => h)) ?_
  clear K19
  refine Dr.takes (fuel' := 20) (is' := [2, 1, 0]) [0, 1, 2] [(0, (Value.pointer (some ⟨b, 0, none⟩))), (3, (Value.pointer (some ⟨b1, 0, none⟩))), (4, (Value.pointer (some ⟨b9, 0, none⟩))), (5, (Value.pointer (some ⟨b, 34, none⟩))), (11, (Value.pointer (some ⟨b, 38, none⟩)))] (by kernel_rfl) rfl (by kernel_rfl) ?_
  refine Dr.take (i := 3) (v := (i64 c.mp)) (by kernel_rfl) (by kernel_rfl) (fun wz hS => Runs.load (t := 3) (a := ⟨b, 38, none⟩) (by kernel_rfl) ((H20.keep hS (fun h => h)).loads (loadC1 (by kernel_rfl) (ch_38 h.ok)))) (d := (some 12)) (by kernel_rfl) rfl ?_
  refine Dr.takes (fuel' := 17) (is' := [5, 4, 3, 2, 1, 0]) [4, 5] [(0, (Value.pointer (some ⟨b, 0, none⟩))), (3, (Value.pointer (some ⟨b1, 0, none⟩))), (4, (Value.pointer (some ⟨b9, 0, none⟩))), (5, (Value.pointer (some ⟨b, 34, none⟩))), (14, (Value.bool (c.mp == 0)))] (by kernel_rfl) rfl (by kernel_rfl) ?_
  refine Dr.split (c.mp == 0) (fun h24 => ?_) (fun h24 => ?_)
  · rw [h24]
    have p25 : c.mp = 0 := of_beq_t h24
    refine Dr.takes (fuel' := 0) (is' := [22, 21, 20, 19, 18, 17, 16, 15, 14, 13, 12, 11, 10, 9, 8, 7, 6, 5, 4, 3, 2, 1, 0]) [6, 7, 8, 9, 10, 11, 12, 13, 14, 15, 16, 17, 18, 19, 20, 21, 22] [(0, (Value.pointer (some ⟨b, 0, none⟩))), (3, (Value.pointer (some ⟨b1, 0, none⟩))), (4, (Value.pointer (some ⟨b9, 0, none⟩))), (5, (Value.pointer (some ⟨b, 34, none⟩))), (31, (Value.bool true))] (by kernel_rfl) rfl (by kernel_rfl) ?_
    refine Dr.done (by kernel_rfl) ?_
    refine q_then (o := .tmp 31) (by kernel_rfl) rfl ?_
    refine q_seq (by kernel_rfl) ?_
    refine q_region (by kernel_rfl) ?_
    refine Ops.regs 1 [(0, (Value.pointer (some ⟨b, 0, none⟩))), (3, (Value.pointer (some ⟨b1, 0, none⟩))), (4, (Value.pointer (some ⟨b9, 0, none⟩))), (5, (Value.pointer (some ⟨b, 34, none⟩))), (32, (agg [(i64 5), (Value.bool false), (i64 0)]))] (j := 1) (by kernel_rfl) (by kernel_rfl) ?_
    refine Ops.put (t := 29) (b := b9) (off := 0) (v := (agg [(i64 5), (Value.bool false), (i64 0)])) (ys := [(i64 5), (Value.bool false), (i64 0)]) (by kernel_rfl) (by kernel_rfl) H22 (by kernel_rfl) (d := none) (by kernel_rfl) rfl (fun w26 H27 K28 => ?_)
    clear H22
    have H29 := H20.keep K28 (by intro h; change b = b9 at h; omega)
    clear H20
    have H30 := H21.keep K28 (by intro h; change b1 = b9 at h; omega)
    clear H21
    have K31 := K23.trans K28 (U := (fun i => i = b)) (fun i h1 h2 => h2) (fun i h1 h2 => by have h2 : i = b9 := h2; show i = b; omega)
    clear K23
    clear K28
    refine Ops.done (by kernel_rfl) ?_
    refine q_ret (by kernel_rfl) ?_
    refine ⟨(agg [(i64 5), (Value.bool false), (i64 0)]), retv_cell rfl rfl (H27.loads (by kernel_rfl)), ?_⟩
    have e : c.doStep x = (⟨5, false, 0⟩, c) := by
      unfold Ch.doStep
      first | (exfalso; omega) | rw [if_pos (by omega)] | (rw [if_neg (by omega)]; first | rw [if_pos (by omega)] | (rw [if_neg (by omega)]; first | rw [if_pos (by omega)] | rw [if_neg (by omega)]))
    exact ⟨by rw [e]; rfl, K31, by rw [e]; exact H29⟩
  · rw [h24]
    have p32 : ¬ (c.mp = 0) := of_beq_f h24
    refine Dr.takes (fuel' := 14) (is' := [8, 7, 6, 5, 4, 3, 2, 1, 0]) [6, 7, 8] [(0, (Value.pointer (some ⟨b, 0, none⟩))), (3, (Value.pointer (some ⟨b1, 0, none⟩))), (4, (Value.pointer (some ⟨b9, 0, none⟩))), (5, (Value.pointer (some ⟨b, 34, none⟩))), (14, (Value.bool false)), (17, (Value.pointer (some ⟨b, 39, none⟩)))] (by kernel_rfl) rfl (by kernel_rfl) ?_
    refine Dr.take (i := 9) (v := (i64 c.mn)) (by kernel_rfl) (by kernel_rfl) (fun wz hS => Runs.load (t := 2) (a := ⟨b, 39, none⟩) (by kernel_rfl) ((H20.keep hS (fun h => h)).loads (loadC1 (by kernel_rfl) (ch_39 h.ok)))) (d := (some 18)) (by kernel_rfl) rfl ?_
    refine Dr.takes (fuel' := 12) (is' := [10, 9, 8, 7, 6, 5, 4, 3, 2, 1, 0]) [10] [(0, (Value.pointer (some ⟨b, 0, none⟩))), (3, (Value.pointer (some ⟨b1, 0, none⟩))), (4, (Value.pointer (some ⟨b9, 0, none⟩))), (5, (Value.pointer (some ⟨b, 34, none⟩))), (14, (Value.bool false)), (18, (i64 c.mn)), (19, (Value.pointer (some ⟨b1, 3, none⟩)))] (by kernel_rfl) rfl (by kernel_rfl) ?_
    refine Dr.take (i := 11) (v := (i64 x.n)) (by kernel_rfl) (by kernel_rfl) (fun wz hS => Runs.load (t := 2) (a := ⟨b1, 3, none⟩) (by kernel_rfl) ((H21.keep hS (fun h => h)).loads (by kernel_rfl))) (d := (some 20)) (by kernel_rfl) rfl ?_
    refine Dr.takes (fuel' := 8) (is' := [14, 13, 12, 11, 10, 9, 8, 7, 6, 5, 4, 3, 2, 1, 0]) [12, 13, 14] [(0, (Value.pointer (some ⟨b, 0, none⟩))), (3, (Value.pointer (some ⟨b1, 0, none⟩))), (4, (Value.pointer (some ⟨b9, 0, none⟩))), (5, (Value.pointer (some ⟨b, 34, none⟩))), (23, (Value.bool (c.mn != x.n)))] (by kernel_rfl) rfl (by kernel_rfl) ?_
    refine Dr.split (c.mn != x.n) (fun h33 => ?_) (fun h33 => ?_)
    · rw [h33]
      have p34 : ¬ (c.mn = x.n) := of_bne_t h33
      refine Dr.takes (fuel' := 0) (is' := [22, 21, 20, 19, 18, 17, 16, 15, 14, 13, 12, 11, 10, 9, 8, 7, 6, 5, 4, 3, 2, 1, 0]) [15, 16, 17, 18, 19, 20, 21, 22] [(0, (Value.pointer (some ⟨b, 0, none⟩))), (3, (Value.pointer (some ⟨b1, 0, none⟩))), (4, (Value.pointer (some ⟨b9, 0, none⟩))), (5, (Value.pointer (some ⟨b, 34, none⟩))), (31, (Value.bool true))] (by kernel_rfl) rfl (by kernel_rfl) ?_
      refine Dr.done (by kernel_rfl) ?_
      refine q_then (o := .tmp 31) (by kernel_rfl) rfl ?_
      refine q_seq (by kernel_rfl) ?_
      refine q_region (by kernel_rfl) ?_
      refine Ops.regs 1 [(0, (Value.pointer (some ⟨b, 0, none⟩))), (3, (Value.pointer (some ⟨b1, 0, none⟩))), (4, (Value.pointer (some ⟨b9, 0, none⟩))), (5, (Value.pointer (some ⟨b, 34, none⟩))), (32, (agg [(i64 5), (Value.bool false), (i64 0)]))] (j := 1) (by kernel_rfl) (by kernel_rfl) ?_
      refine Ops.put (t := 29) (b := b9) (off := 0) (v := (agg [(i64 5), (Value.bool false), (i64 0)])) (ys := [(i64 5), (Value.bool false), (i64 0)]) (by kernel_rfl) (by kernel_rfl) H22 (by kernel_rfl) (d := none) (by kernel_rfl) rfl (fun w35 H36 K37 => ?_)
      clear H22
      have H38 := H20.keep K37 (by intro h; change b = b9 at h; omega)
      clear H20
      have H39 := H21.keep K37 (by intro h; change b1 = b9 at h; omega)
      clear H21
      have K40 := K23.trans K37 (U := (fun i => i = b)) (fun i h1 h2 => h2) (fun i h1 h2 => by have h2 : i = b9 := h2; show i = b; omega)
      clear K23
      clear K37
      refine Ops.done (by kernel_rfl) ?_
      refine q_ret (by kernel_rfl) ?_
      refine ⟨(agg [(i64 5), (Value.bool false), (i64 0)]), retv_cell rfl rfl (H36.loads (by kernel_rfl)), ?_⟩
      have e : c.doStep x = (⟨5, false, 0⟩, c) := by
        unfold Ch.doStep
        first | (exfalso; omega) | rw [if_pos (by omega)] | (rw [if_neg (by omega)]; first | rw [if_pos (by omega)] | (rw [if_neg (by omega)]; first | rw [if_pos (by omega)] | rw [if_neg (by omega)]))
      exact ⟨by rw [e]; rfl, K40, by rw [e]; exact H38⟩
    · rw [h33]
      have p41 : c.mn = x.n := of_bne_f h33
      refine Dr.takes (fuel' := 5) (is' := [17, 16, 15, 14, 13, 12, 11, 10, 9, 8, 7, 6, 5, 4, 3, 2, 1, 0]) [15, 16, 17] [(0, (Value.pointer (some ⟨b, 0, none⟩))), (3, (Value.pointer (some ⟨b1, 0, none⟩))), (4, (Value.pointer (some ⟨b9, 0, none⟩))), (5, (Value.pointer (some ⟨b, 34, none⟩))), (23, (Value.bool false)), (26, (Value.pointer (some ⟨b, 38, none⟩)))] (by kernel_rfl) rfl (by kernel_rfl) ?_
      refine Dr.take (i := 18) (v := (i64 c.mp)) (by kernel_rfl) (by kernel_rfl) (fun wz hS => Runs.load (t := 3) (a := ⟨b, 38, none⟩) (by kernel_rfl) ((H20.keep hS (fun h => h)).loads (loadC1 (by kernel_rfl) (ch_38 h.ok)))) (d := (some 27)) (by kernel_rfl) rfl ?_
      refine Dr.takes (fuel' := 3) (is' := [19, 18, 17, 16, 15, 14, 13, 12, 11, 10, 9, 8, 7, 6, 5, 4, 3, 2, 1, 0]) [19] [(0, (Value.pointer (some ⟨b, 0, none⟩))), (3, (Value.pointer (some ⟨b1, 0, none⟩))), (4, (Value.pointer (some ⟨b9, 0, none⟩))), (5, (Value.pointer (some ⟨b, 34, none⟩))), (23, (Value.bool false)), (27, (i64 c.mp)), (28, (Value.pointer (some ⟨b1, 4, none⟩)))] (by kernel_rfl) rfl (by kernel_rfl) ?_
      refine Dr.take (i := 20) (v := (i64 x.phase)) (by kernel_rfl) (by kernel_rfl) (fun wz hS => Runs.load (t := 3) (a := ⟨b1, 4, none⟩) (by kernel_rfl) ((H21.keep hS (fun h => h)).loads (by kernel_rfl))) (d := (some 29)) (by kernel_rfl) rfl ?_
      refine Dr.takes (fuel' := 0) (is' := [22, 21, 20, 19, 18, 17, 16, 15, 14, 13, 12, 11, 10, 9, 8, 7, 6, 5, 4, 3, 2, 1, 0]) [21, 22] [(0, (Value.pointer (some ⟨b, 0, none⟩))), (3, (Value.pointer (some ⟨b1, 0, none⟩))), (4, (Value.pointer (some ⟨b9, 0, none⟩))), (5, (Value.pointer (some ⟨b, 34, none⟩))), (31, (Value.bool (c.mp != x.phase)))] (by kernel_rfl) rfl (by kernel_rfl) ?_
      refine Dr.done (by kernel_rfl) ?_
      refine q_cond (o := .tmp 31) (b := (c.mp != x.phase)) (by kernel_rfl) rfl (fun h42 => ?_) (fun h42 => ?_)
      · rw [h42]
        have p43 : ¬ (c.mp = x.phase) := of_bne_t h42
        refine q_seq (by kernel_rfl) ?_
        refine q_region (by kernel_rfl) ?_
        refine Ops.regs 1 [(0, (Value.pointer (some ⟨b, 0, none⟩))), (3, (Value.pointer (some ⟨b1, 0, none⟩))), (4, (Value.pointer (some ⟨b9, 0, none⟩))), (5, (Value.pointer (some ⟨b, 34, none⟩))), (32, (agg [(i64 5), (Value.bool false), (i64 0)]))] (j := 1) (by kernel_rfl) (by kernel_rfl) ?_
        refine Ops.put (t := 29) (b := b9) (off := 0) (v := (agg [(i64 5), (Value.bool false), (i64 0)])) (ys := [(i64 5), (Value.bool false), (i64 0)]) (by kernel_rfl) (by kernel_rfl) H22 (by kernel_rfl) (d := none) (by kernel_rfl) rfl (fun w44 H45 K46 => ?_)
        clear H22
        have H47 := H20.keep K46 (by intro h; change b = b9 at h; omega)
        clear H20
        have H48 := H21.keep K46 (by intro h; change b1 = b9 at h; omega)
        clear H21
        have K49 := K23.trans K46 (U := (fun i => i = b)) (fun i h1 h2 => h2) (fun i h1 h2 => by have h2 : i = b9 := h2; show i = b; omega)
        clear K23
        clear K46
        refine Ops.done (by kernel_rfl) ?_
        refine q_ret (by kernel_rfl) ?_
        refine ⟨(agg [(i64 5), (Value.bool false), (i64 0)]), retv_cell rfl rfl (H45.loads (by kernel_rfl)), ?_⟩
        have e : c.doStep x = (⟨5, false, 0⟩, c) := by
          unfold Ch.doStep
          first | (exfalso; omega) | rw [if_pos (by omega)] | (rw [if_neg (by omega)]; first | rw [if_pos (by omega)] | (rw [if_neg (by omega)]; first | rw [if_pos (by omega)] | rw [if_neg (by omega)]))
        exact ⟨by rw [e]; rfl, K49, by rw [e]; exact H47⟩
      · rw [h42]
        have p50 : c.mp = x.phase := of_bne_f h42
        refine q_skip (by kernel_rfl) ?_
        refine q_seq (by kernel_rfl) ?_
        refine q_seq (by kernel_rfl) ?_
        refine q_region (by kernel_rfl) ?_
        refine Ops.regs 3 [(0, (Value.pointer (some ⟨b, 0, none⟩))), (3, (Value.pointer (some ⟨b1, 0, none⟩))), (4, (Value.pointer (some ⟨b9, 0, none⟩))), (5, (Value.pointer (some ⟨b, 34, none⟩))), (35, (Value.pointer (some ⟨b, 38, none⟩)))] (j := 3) (by kernel_rfl) (by kernel_rfl) ?_
        refine Ops.go (v := (i64 c.mp)) (by kernel_rfl) (Runs.load (t := 3) (a := ⟨b, 38, none⟩) (by kernel_rfl) (H20.loads (loadC1 (by kernel_rfl) (ch_38 h.ok)))) (d := (some 36)) (by kernel_rfl) rfl ?_
        refine Ops.done (by kernel_rfl) ?_
        refine q_block (id := 0) (by kernel_rfl) ?_
        refine q_seq (by kernel_rfl) ?_
        refine q_region (by kernel_rfl) ?_
        refine Ops.regs 2 [(0, (Value.pointer (some ⟨b, 0, none⟩))), (3, (Value.pointer (some ⟨b1, 0, none⟩))), (4, (Value.pointer (some ⟨b9, 0, none⟩))), (5, (Value.pointer (some ⟨b, 34, none⟩))), (36, (i64 c.mp)), (37, (Value.bool (c.mp == 1)))] (j := 2) (by kernel_rfl) (by kernel_rfl) ?_
        refine Ops.done (by kernel_rfl) ?_
        refine q_cond (o := .tmp 37) (b := (c.mp == 1)) (by kernel_rfl) rfl (fun h51 => ?_) (fun h51 => ?_)
        · rw [h51]
          have p52 : c.mp = 1 := of_beq_t h51
          refine q_region (by kernel_rfl) ?_
          refine Ops.regs 3 [(0, (Value.pointer (some ⟨b, 0, none⟩))), (3, (Value.pointer (some ⟨b1, 0, none⟩))), (4, (Value.pointer (some ⟨b9, 0, none⟩))), (5, (Value.pointer (some ⟨b, 34, none⟩))), (36, (i64 c.mp)), (41, (Value.pointer (some ⟨b, 38, none⟩)))] (j := 3) (by kernel_rfl) (by kernel_rfl) ?_
          have ok53 : Ch.Ok ({ c with mp := 2 } : Ch) := ⟨h.ok.o, h.ok.e⟩
          refine Ops.put (t := 3) (b := b) (off := 38) (v := (i64 2)) (ys := (chL ({ c with mp := 2 } : Ch))) (by kernel_rfl) (by kernel_rfl) H20 (storeC1 (by kernel_rfl) rfl (by rw [chL_length h.ok]; exact Nat.le_of_ble_eq_true rfl) (chs_38 h.ok _)) (d := none) (by kernel_rfl) rfl (fun w54 H55 K56 => ?_)
          clear H20
          have H57 := H21.keep K56 (by intro h; change b1 = b at h; omega)
          clear H21
          have H58 := H22.keep K56 (by intro h; change b9 = b at h; omega)
          clear H22
          have K59 := K23.trans K56 (U := (fun i => i = b)) (fun i h1 h2 => h2) (fun i h1 h2 => by have h2 : i = b := h2; show i = b; omega)
          clear K23
          clear K56
          refine Ops.done (by kernel_rfl) ?_
          refine q_seq (by kernel_rfl) ?_
          refine q_region (by kernel_rfl) ?_
          refine Ops.regs 1 [(4, (Value.pointer (some ⟨b9, 0, none⟩))), (76, (Value.pointer (some ⟨b1, 3, none⟩)))] (j := 1) (by kernel_rfl) (by kernel_rfl) ?_
          refine Ops.go (v := (i64 x.n)) (by kernel_rfl) (Runs.load (t := 2) (a := ⟨b1, 3, none⟩) (by kernel_rfl) (H57.loads (by kernel_rfl))) (d := (some 77)) (by kernel_rfl) rfl ?_
          refine Ops.regs 1 [(4, (Value.pointer (some ⟨b9, 0, none⟩))), (78, (agg [(i64 0), (Value.bool false), (i64 x.n)]))] (j := 3) (by kernel_rfl) (by kernel_rfl) ?_
          refine Ops.put (t := 29) (b := b9) (off := 0) (v := (agg [(i64 0), (Value.bool false), (i64 x.n)])) (ys := [(i64 0), (Value.bool false), (i64 x.n)]) (by kernel_rfl) (by kernel_rfl) H58 (by kernel_rfl) (d := none) (by kernel_rfl) rfl (fun w60 H61 K62 => ?_)
          clear H58
          have H63 := H55.keep K62 (by intro h; change b = b9 at h; omega)
          clear H55
          have H64 := H57.keep K62 (by intro h; change b1 = b9 at h; omega)
          clear H57
          have K65 := K59.trans K62 (U := (fun i => i = b)) (fun i h1 h2 => h2) (fun i h1 h2 => by have h2 : i = b9 := h2; show i = b; omega)
          clear K59
          clear K62
          refine Ops.done (by kernel_rfl) ?_
          refine q_ret (by kernel_rfl) ?_
          refine ⟨(agg [(i64 0), (Value.bool false), (i64 x.n)]), retv_cell rfl rfl (H61.loads (by kernel_rfl)), ?_⟩
          have e : c.doStep x = (⟨0, false, x.n⟩, ({ c with mp := 2 } : Ch)) := by
            unfold Ch.doStep
            first | (exfalso; omega) | rw [if_pos (by omega)] | (rw [if_neg (by omega)]; first | rw [if_pos (by omega)] | (rw [if_neg (by omega)]; first | rw [if_pos (by omega)] | rw [if_neg (by omega)]))
          exact ⟨by rw [e]; rfl, K65, by rw [e]; exact H63⟩
        · rw [h51]
          have p66 : ¬ (c.mp = 1) := of_beq_f h51
          refine q_seq (by kernel_rfl) ?_
          refine q_region (by kernel_rfl) ?_
          refine Ops.regs 2 [(0, (Value.pointer (some ⟨b, 0, none⟩))), (3, (Value.pointer (some ⟨b1, 0, none⟩))), (4, (Value.pointer (some ⟨b9, 0, none⟩))), (5, (Value.pointer (some ⟨b, 34, none⟩))), (36, (i64 c.mp)), (42, (Value.bool (c.mp == 2)))] (j := 2) (by kernel_rfl) (by kernel_rfl) ?_
          refine Ops.done (by kernel_rfl) ?_
          refine q_cond (o := .tmp 42) (b := (c.mp == 2)) (by kernel_rfl) rfl (fun h67 => ?_) (fun h67 => ?_)
          · rw [h67]
            have p68 : c.mp = 2 := of_beq_t h67
            refine q_seq (by kernel_rfl) ?_
            refine q_region (by kernel_rfl) ?_
            refine Ops.regs 3 [(0, (Value.pointer (some ⟨b, 0, none⟩))), (3, (Value.pointer (some ⟨b1, 0, none⟩))), (4, (Value.pointer (some ⟨b9, 0, none⟩))), (5, (Value.pointer (some ⟨b, 34, none⟩))), (36, (i64 c.mp)), (46, (Value.pointer (some ⟨b, 38, none⟩)))] (j := 3) (by kernel_rfl) (by kernel_rfl) ?_
            have ok69 : Ch.Ok ({ c with mp := 3 } : Ch) := ⟨h.ok.o, h.ok.e⟩
            refine Ops.put (t := 3) (b := b) (off := 38) (v := (i64 3)) (ys := (chL ({ c with mp := 3 } : Ch))) (by kernel_rfl) (by kernel_rfl) H20 (storeC1 (by kernel_rfl) rfl (by rw [chL_length h.ok]; exact Nat.le_of_ble_eq_true rfl) (chs_38 h.ok _)) (d := none) (by kernel_rfl) rfl (fun w70 H71 K72 => ?_)
            clear H20
            have H73 := H21.keep K72 (by intro h; change b1 = b at h; omega)
            clear H21
            have H74 := H22.keep K72 (by intro h; change b9 = b at h; omega)
            clear H22
            have K75 := K23.trans K72 (U := (fun i => i = b)) (fun i h1 h2 => h2) (fun i h1 h2 => by have h2 : i = b := h2; show i = b; omega)
            clear K23
            clear K72
            refine Ops.done (by kernel_rfl) ?_
            refine q_draw (fun wz => Keeps (fun i => i = b) w70 wz ∧ Loads Try.prog wz 3 ⟨b, 34, none⟩ (i64 c.ms) ∧ Loads Try.prog wz 3 ⟨b, 34, none⟩ (i64 c.ms) ∧ Loads Try.prog wz 3 ⟨b, 34, none⟩ (i64 c.ms) ∧ Loads Try.prog wz 3 ⟨b, 34, none⟩ (i64 c.ms) ∧ Loads Try.prog wz 3 ⟨b, 34, none⟩ (i64 c.ms) ∧ Loads Try.prog wz 3 ⟨b, 34, none⟩ (i64 c.ms) ∧ Loads Try.prog wz 3 ⟨b, 34, none⟩ (i64 c.ms) ∧ Loads Try.prog wz 3 ⟨b, 34, none⟩ (i64 c.ms) ∧ Loads Try.prog wz 3 ⟨b, 34, none⟩ (i64 c.ms) ∧ Loads Try.prog wz 3 ⟨b, 34, none⟩ (i64 c.ms) ∧ Loads Try.prog wz 3 ⟨b, 34, none⟩ (i64 c.ms) ∧ Loads Try.prog wz 3 ⟨b, 34, none⟩ (i64 c.ms) ∧ Loads Try.prog wz 3 ⟨b, 36, none⟩ (i64 c.mt) ∧ Loads Try.prog wz 3 ⟨b, 34, none⟩ (i64 c.ms) ∧ Loads Try.prog wz 3 ⟨b, 34, none⟩ (i64 c.ms) ∧ Loads Try.prog wz 3 ⟨b, 36, none⟩ (i64 c.mt) ∧ Loads Try.prog wz 3 ⟨b, 34, none⟩ (i64 c.ms) ∧ Loads Try.prog wz 3 ⟨b, 34, none⟩ (i64 c.ms) ∧ Loads Try.prog wz 3 ⟨b, 36, none⟩ (i64 c.mt) ∧ Loads Try.prog wz 3 ⟨b, 34, none⟩ (i64 c.ms) ∧ Loads Try.prog wz 3 ⟨b, 34, none⟩ (i64 c.ms) ∧ Loads Try.prog wz 3 ⟨b, 36, none⟩ (i64 c.mt) ∧ Loads Try.prog wz 2 ⟨b, 37, none⟩ (i64 c.me) ∧ Loads Try.prog wz 3 ⟨b, 34, none⟩ (i64 c.ms) ∧ Loads Try.prog wz 3 ⟨b, 34, none⟩ (i64 c.ms) ∧ Loads Try.prog wz 3 ⟨b, 36, none⟩ (i64 c.mt) ∧ Loads Try.prog wz 2 ⟨b, 37, none⟩ (i64 c.me) ∧ Loads Try.prog wz 3 ⟨b, 34, none⟩ (i64 c.ms) ∧ Loads Try.prog wz 3 ⟨b, 34, none⟩ (i64 c.ms) ∧ Loads Try.prog wz 3 ⟨b, 36, none⟩ (i64 c.mt) ∧ Loads Try.prog wz 2 ⟨b, 37, none⟩ (i64 c.me) ∧ Loads Try.prog wz 3 ⟨b, 34, none⟩ (i64 c.ms) ∧ Loads Try.prog wz 3 ⟨b, 34, none⟩ (i64 c.ms) ∧ Loads Try.prog wz 3 ⟨b, 36, none⟩ (i64 c.mt) ∧ Loads Try.prog wz 2 ⟨b, 37, none⟩ (i64 c.me) ∧ Loads Try.prog wz 3 ⟨b, 34, none⟩ (i64 c.ms) ∧ Loads Try.prog wz 3 ⟨b, 34, none⟩ (i64 c.ms) ∧ Loads Try.prog wz 3 ⟨b, 36, none⟩ (i64 c.mt) ∧ Loads Try.prog wz 2 ⟨b, 37, none⟩ (i64 c.me)) 26 (by kernel_rfl) (by kernel_rfl) (by kernel_rfl) (fun w76 K77 _ _ => ⟨⟨(K77.mono (fun _ _ h => h.elim)), ((H71.keep K77 (fun h => h)).loads (loadC1 (by kernel_rfl) (ch_34 ok69))), ((H71.keep K77 (fun h => h)).loads (loadC1 (by kernel_rfl) (ch_34 ok69))), ((H71.keep K77 (fun h => h)).loads (loadC1 (by kernel_rfl) (ch_34 ok69))), ((H71.keep K77 (fun h => h)).loads (loadC1 (by kernel_rfl) (ch_34 ok69))), ((H71.keep K77 (fun h => h)).loads (loadC1 (by kernel_rfl) (ch_34 ok69))), ((H71.keep K77 (fun h => h)).loads (loadC1 (by kernel_rfl) (ch_34 ok69))), ((H71.keep K77 (fun h => h)).loads (loadC1 (by kernel_rfl) (ch_34 ok69))), ((H71.keep K77 (fun h => h)).loads (loadC1 (by kernel_rfl) (ch_34 ok69))), ((H71.keep K77 (fun h => h)).loads (loadC1 (by kernel_rfl) (ch_34 ok69))), ((H71.keep K77 (fun h => h)).loads (loadC1 (by kernel_rfl) (ch_34 ok69))), ((H71.keep K77 (fun h => h)).loads (loadC1 (by kernel_rfl) (ch_34 ok69))), ((H71.keep K77 (fun h => h)).loads (loadC1 (by kernel_rfl) (ch_34 ok69))), ((H71.keep K77 (fun h => h)).loads (loadC1 (by kernel_rfl) (ch_36 ok69))), ((H71.keep K77 (fun h => h)).loads (loadC1 (by kernel_rfl) (ch_34 ok69))), ((H71.keep K77 (fun h => h)).loads (loadC1 (by kernel_rfl) (ch_34 ok69))), ((H71.keep K77 (fun h => h)).loads (loadC1 (by kernel_rfl) (ch_36 ok69))), ((H71.keep K77 (fun h => h)).loads (loadC1 (by kernel_rfl) (ch_34 ok69))), ((H71.keep K77 (fun h => h)).loads (loadC1 (by kernel_rfl) (ch_34 ok69))), ((H71.keep K77 (fun h => h)).loads (loadC1 (by kernel_rfl) (ch_36 ok69))), ((H71.keep K77 (fun h => h)).loads (loadC1 (by kernel_rfl) (ch_34 ok69))), ((H71.keep K77 (fun h => h)).loads (loadC1 (by kernel_rfl) (ch_34 ok69))), ((H71.keep K77 (fun h => h)).loads (loadC1 (by kernel_rfl) (ch_36 ok69))), ((H71.keep K77 (fun h => h)).loads (loadC1 (by kernel_rfl) (ch_37 ok69))), ((H71.keep K77 (fun h => h)).loads (loadC1 (by kernel_rfl) (ch_34 ok69))), ((H71.keep K77 (fun h => h)).loads (loadC1 (by kernel_rfl) (ch_34 ok69))), ((H71.keep K77 (fun h => h)).loads (loadC1 (by kernel_rfl) (ch_36 ok69))), ((H71.keep K77 (fun h => h)).loads (loadC1 (by kernel_rfl) (ch_37 ok69))), ((H71.keep K77 (fun h => h)).loads (loadC1 (by kernel_rfl) (ch_34 ok69))), ((H71.keep K77 (fun h => h)).loads (loadC1 (by kernel_rfl) (ch_34 ok69))), ((H71.keep K77 (fun h => h)).loads (loadC1 (by kernel_rfl) (ch_36 ok69))), ((H71.keep K77 (fun h => h)).loads (loadC1 (by kernel_rfl) (ch_37 ok69))), ((H71.keep K77 (fun h => h)).loads (loadC1 (by kernel_rfl) (ch_34 ok69))), ((H71.keep K77 (fun h => h)).loads (loadC1 (by kernel_rfl) (ch_34 ok69))), ((H71.keep K77 (fun h => h)).loads (loadC1 (by kernel_rfl) (ch_36 ok69))), ((H71.keep K77 (fun h => h)).loads (loadC1 (by kernel_rfl) (ch_37 ok69))), ((H71.keep K77 (fun h => h)).loads (loadC1 (by kernel_rfl) (ch_34 ok69))), ((H71.keep K77 (fun h => h)).loads (loadC1 (by kernel_rfl) (ch_34 ok69))), ((H71.keep K77 (fun h => h)).loads (loadC1 (by kernel_rfl) (ch_36 ok69))), ((H71.keep K77 (fun h => h)).loads (loadC1 (by kernel_rfl) (ch_37 ok69)))⟩, ?_⟩)
            have H78 := H71.keep K77 (fun h => h)
            clear H71
            have H79 := H73.keep K77 (fun h => h)
            clear H73
            have H80 := H74.keep K77 (fun h => h)
            clear H74
            have K81 := K75.trans K77 (U := (fun i => i = b)) (fun i h1 h2 => h2) (fun i h1 h2 => by exact h2.elim)
            clear K75
            refine Dr.strong (S' := (fun wz => Keeps (fun i => i = b) w76 wz ∧ Loads Try.prog wz 3 ⟨b, 34, none⟩ (i64 c.ms) ∧ Loads Try.prog wz 3 ⟨b, 34, none⟩ (i64 c.ms) ∧ Loads Try.prog wz 3 ⟨b, 34, none⟩ (i64 c.ms) ∧ Loads Try.prog wz 3 ⟨b, 34, none⟩ (i64 c.ms) ∧ Loads Try.prog wz 3 ⟨b, 34, none⟩ (i64 c.ms) ∧ Loads Try.prog wz 3 ⟨b, 34, none⟩ (i64 c.ms) ∧ Loads Try.prog wz 3 ⟨b, 34, none⟩ (i64 c.ms) ∧ Loads Try.prog wz 3 ⟨b, 34, none⟩ (i64 c.ms) ∧ Loads Try.prog wz 3 ⟨b, 34, none⟩ (i64 c.ms) ∧ Loads Try.prog wz 3 ⟨b, 34, none⟩ (i64 c.ms) ∧ Loads Try.prog wz 3 ⟨b, 34, none⟩ (i64 c.ms) ∧ Loads Try.prog wz 3 ⟨b, 34, none⟩ (i64 c.ms) ∧ Loads Try.prog wz 3 ⟨b, 36, none⟩ (i64 c.mt) ∧ Loads Try.prog wz 3 ⟨b, 34, none⟩ (i64 c.ms) ∧ Loads Try.prog wz 3 ⟨b, 34, none⟩ (i64 c.ms) ∧ Loads Try.prog wz 3 ⟨b, 36, none⟩ (i64 c.mt) ∧ Loads Try.prog wz 3 ⟨b, 34, none⟩ (i64 c.ms) ∧ Loads Try.prog wz 3 ⟨b, 34, none⟩ (i64 c.ms) ∧ Loads Try.prog wz 3 ⟨b, 36, none⟩ (i64 c.mt) ∧ Loads Try.prog wz 3 ⟨b, 34, none⟩ (i64 c.ms) ∧ Loads Try.prog wz 3 ⟨b, 34, none⟩ (i64 c.ms) ∧ Loads Try.prog wz 3 ⟨b, 36, none⟩ (i64 c.mt) ∧ Loads Try.prog wz 2 ⟨b, 37, none⟩ (i64 c.me) ∧ Loads Try.prog wz 3 ⟨b, 34, none⟩ (i64 c.ms) ∧ Loads Try.prog wz 3 ⟨b, 34, none⟩ (i64 c.ms) ∧ Loads Try.prog wz 3 ⟨b, 36, none⟩ (i64 c.mt) ∧ Loads Try.prog wz 2 ⟨b, 37, none⟩ (i64 c.me) ∧ Loads Try.prog wz 3 ⟨b, 34, none⟩ (i64 c.ms) ∧ Loads Try.prog wz 3 ⟨b, 34, none⟩ (i64 c.ms) ∧ Loads Try.prog wz 3 ⟨b, 36, none⟩ (i64 c.mt) ∧ Loads Try.prog wz 2 ⟨b, 37, none⟩ (i64 c.me) ∧ Loads Try.prog wz 3 ⟨b, 34, none⟩ (i64 c.ms) ∧ Loads Try.prog wz 3 ⟨b, 34, none⟩ (i64 c.ms) ∧ Loads Try.prog wz 3 ⟨b, 36, none⟩ (i64 c.mt) ∧ Loads Try.prog wz 2 ⟨b, 37, none⟩ (i64 c.me) ∧ Loads Try.prog wz 3 ⟨b, 34, none⟩ (i64 c.ms) ∧ Loads Try.prog wz 3 ⟨b, 34, none⟩ (i64 c.ms) ∧ Loads Try.prog wz 3 ⟨b, 36, none⟩ (i64 c.mt) ∧ Loads Try.prog wz 2 ⟨b, 37, none⟩ (i64 c.me))) ⟨((Keeps.refl w76).mono (fun _ _ h => h.elim)), (H78.loads (loadC1 (by kernel_rfl) (ch_34 ok69))), (H78.loads (loadC1 (by kernel_rfl) (ch_34 ok69))), (H78.loads (loadC1 (by kernel_rfl) (ch_34 ok69))), (H78.loads (loadC1 (by kernel_rfl) (ch_34 ok69))), (H78.loads (loadC1 (by kernel_rfl) (ch_34 ok69))), (H78.loads (loadC1 (by kernel_rfl) (ch_34 ok69))), (H78.loads (loadC1 (by kernel_rfl) (ch_34 ok69))), (H78.loads (loadC1 (by kernel_rfl) (ch_34 ok69))), (H78.loads (loadC1 (by kernel_rfl) (ch_34 ok69))), (H78.loads (loadC1 (by kernel_rfl) (ch_34 ok69))), (H78.loads (loadC1 (by kernel_rfl) (ch_34 ok69))), (H78.loads (loadC1 (by kernel_rfl) (ch_34 ok69))), (H78.loads (loadC1 (by kernel_rfl) (ch_36 ok69))), (H78.loads (loadC1 (by kernel_rfl) (ch_34 ok69))), (H78.loads (loadC1 (by kernel_rfl) (ch_34 ok69))), (H78.loads (loadC1 (by kernel_rfl) (ch_36 ok69))), (H78.loads (loadC1 (by kernel_rfl) (ch_34 ok69))), (H78.loads (loadC1 (by kernel_rfl) (ch_34 ok69))), (H78.loads (loadC1 (by kernel_rfl) (ch_36 ok69))), (H78.loads (loadC1 (by kernel_rfl) (ch_34 ok69))), (H78.loads (loadC1 (by kernel_rfl) (ch_34 ok69))), (H78.loads (loadC1 (by kernel_rfl) (ch_36 ok69))), (H78.loads (loadC1 (by kernel_rfl) (ch_37 ok69))), (H78.loads (loadC1 (by kernel_rfl) (ch_34 ok69))), (H78.loads (loadC1 (by kernel_rfl) (ch_34 ok69))), (H78.loads (loadC1 (by kernel_rfl) (ch_36 ok69))), (H78.loads (loadC1 (by kernel_rfl) (ch_37 ok69))), (H78.loads (loadC1 (by kernel_rfl) (ch_34 ok69))), (H78.loads (loadC1 (by kernel_rfl) (ch_34 ok69))), (H78.loads (loadC1 (by kernel_rfl) (ch_36 ok69))), (H78.loads (loadC1 (by kernel_rfl) (ch_37 ok69))), (H78.loads (loadC1 (by kernel_rfl) (ch_34 ok69))), (H78.loads (loadC1 (by kernel_rfl) (ch_34 ok69))), (H78.loads (loadC1 (by kernel_rfl) (ch_36 ok69))), (H78.loads (loadC1 (by kernel_rfl) (ch_37 ok69))), (H78.loads (loadC1 (by kernel_rfl) (ch_34 ok69))), (H78.loads (loadC1 (by kernel_rfl) (ch_34 ok69))), (H78.loads (loadC1 (by kernel_rfl) (ch_36 ok69))), (H78.loads (loadC1 (by kernel_rfl) (ch_37 ok69)))⟩ (fun wz hx => ⟨K77.trans hx.1 (fun _ _ h => h.elim) (fun _ _ h => h), hx.2⟩) ?_
            clear K77
            refine Dr.takes (fuel' := 22) (is' := [3, 2, 1, 0]) [0, 1, 2, 3] [(0, (Value.pointer (some ⟨b, 0, none⟩))), (3, (Value.pointer (some ⟨b1, 0, none⟩))), (4, (Value.pointer (some ⟨b9, 0, none⟩))), (5, (Value.pointer (some ⟨b, 34, none⟩))), (36, (i64 c.mp)), (47, (Value.pointer (some ⟨b, 0, none⟩))), (50, (Value.pointer (some ⟨b, 34, none⟩)))] (by kernel_rfl) rfl (by kernel_rfl) ?_
            refine Dr.take (i := 4) (v := (i64 c.ms)) (by kernel_rfl) (by kernel_rfl) (fun wz hS => Runs.load (t := 3) (a := ⟨b, 34, none⟩) (by kernel_rfl) hS.2.1) (d := (some 51)) (by kernel_rfl) rfl ?_
            refine Dr.takes (fuel' := 17) (is' := [8, 7, 6, 5, 4, 3, 2, 1, 0]) [5, 6, 7, 8] [(3, (Value.pointer (some ⟨b1, 0, none⟩))), (4, (Value.pointer (some ⟨b9, 0, none⟩))), (5, (Value.pointer (some ⟨b, 34, none⟩))), (36, (i64 c.mp)), (47, (Value.pointer (some ⟨b, 0, none⟩))), (51, (i64 c.ms)), (52, (Value.pointer (some ⟨b, 0, none⟩))), (55, (Value.pointer (some ⟨b, 34, none⟩)))] (by kernel_rfl) rfl (by kernel_rfl) ?_
            refine Dr.take (i := 9) (v := (i64 c.ms)) (by kernel_rfl) (by kernel_rfl) (fun wz hS => Runs.load (t := 3) (a := ⟨b, 34, none⟩) (by kernel_rfl) hS.2.1) (d := (some 56)) (by kernel_rfl) rfl ?_
            refine Dr.takes (fuel' := 13) (is' := [12, 11, 10, 9, 8, 7, 6, 5, 4, 3, 2, 1, 0]) [10, 11, 12] [(3, (Value.pointer (some ⟨b1, 0, none⟩))), (4, (Value.pointer (some ⟨b9, 0, none⟩))), (5, (Value.pointer (some ⟨b, 34, none⟩))), (36, (i64 c.mp)), (47, (Value.pointer (some ⟨b, 0, none⟩))), (51, (i64 c.ms)), (52, (Value.pointer (some ⟨b, 0, none⟩))), (56, (i64 c.ms)), (59, (Value.pointer (some ⟨b, 36, none⟩)))] (by kernel_rfl) rfl (by kernel_rfl) ?_
            refine Dr.take (i := 13) (v := (i64 c.mt)) (by kernel_rfl) (by kernel_rfl) (fun wz hS => Runs.load (t := 3) (a := ⟨b, 36, none⟩) (by kernel_rfl) hS.2.2.2.2.2.2.2.2.2.2.2.2.2.1) (d := (some 60)) (by kernel_rfl) rfl ?_
            refine Dr.takes (fuel' := 9) (is' := [16, 15, 14, 13, 12, 11, 10, 9, 8, 7, 6, 5, 4, 3, 2, 1, 0]) [14, 15, 16] [(3, (Value.pointer (some ⟨b1, 0, none⟩))), (4, (Value.pointer (some ⟨b9, 0, none⟩))), (5, (Value.pointer (some ⟨b, 34, none⟩))), (36, (i64 c.mp)), (47, (Value.pointer (some ⟨b, 0, none⟩))), (51, (i64 c.ms)), (52, (Value.pointer (some ⟨b, 0, none⟩))), (56, (i64 c.ms)), (60, (i64 c.mt)), (63, (Value.pointer (some ⟨b, 37, none⟩)))] (by kernel_rfl) rfl (by kernel_rfl) ?_
            refine Dr.take (i := 17) (v := (i64 c.me)) (by kernel_rfl) (by kernel_rfl) (fun wz hS => Runs.load (t := 2) (a := ⟨b, 37, none⟩) (by kernel_rfl) hS.2.2.2.2.2.2.2.2.2.2.2.2.2.2.2.2.2.2.2.2.2.2.2.1) (d := (some 64)) (by kernel_rfl) rfl ?_
            refine Dr.takes (fuel' := 6) (is' := [19, 18, 17, 16, 15, 14, 13, 12, 11, 10, 9, 8, 7, 6, 5, 4, 3, 2, 1, 0]) [18, 19] [(3, (Value.pointer (some ⟨b1, 0, none⟩))), (4, (Value.pointer (some ⟨b9, 0, none⟩))), (5, (Value.pointer (some ⟨b, 34, none⟩))), (36, (i64 c.mp)), (51, (i64 c.ms)), (52, (Value.pointer (some ⟨b, 0, none⟩))), (56, (i64 c.ms)), (60, (i64 c.mt)), (64, (i64 c.me)), (66, (Value.pointer (some ⟨b, 1, none⟩)))] (by kernel_rfl) rfl (by kernel_rfl) ?_
            refine Dr.take (i := 20) (v := (Value.pointer (some ⟨b, 1 + (c.ms).toNat, none⟩))) (by kernel_rfl) (by kernel_rfl) (fun wz hS => Runs.ixArray (k := IntKind.i64) (t := 115) (b := b) (off := 1) (len := 16) (s := 1) (off' := 1 + (c.ms).toNat) (i := c.ms) (by kernel_rfl) (by kernel_rfl) (by omega) (by omega) (by omega)) (d := (some 67)) (by kernel_rfl) rfl ?_
            refine Dr.takes (fuel' := 3) (is' := [23, 22, 20, 19, 18, 17, 16, 15, 14, 13, 12, 11, 10, 9, 8, 7, 6, 5, 4, 3, 2, 1, 0]) [22, 23] [(3, (Value.pointer (some ⟨b1, 0, none⟩))), (4, (Value.pointer (some ⟨b9, 0, none⟩))), (5, (Value.pointer (some ⟨b, 34, none⟩))), (36, (i64 c.mp)), (56, (i64 c.ms)), (60, (i64 c.mt)), (64, (i64 c.me)), (67, (Value.pointer (some ⟨b, 1 + (c.ms).toNat, none⟩))), (69, (Value.pointer (some ⟨b, 17, none⟩)))] (by kernel_rfl) rfl (by kernel_rfl) ?_
            have ok82 : Ch.Ok ({ c with mp := 3, owner := c.owner.set ((c.ms).toNat) c.mt } : Ch) := ⟨by simp [ok69.o], by simp [ok69.e]⟩
            refine Dr.put (i := 21) (t := 3) (b := b) (off := 1 + (c.ms).toNat) (v := (i64 c.mt)) (ys := (chL ({ c with mp := 3, owner := c.owner.set ((c.ms).toNat) c.mt } : Ch))) (by kernel_rfl) (by kernel_rfl) (by kernel_rfl) H78 (storeC1 (by kernel_rfl) rfl (by rw [chL_length ok69]; omega) (chs_own ok69 ((c.ms).toNat) (by omega) _)) (d := none) (by kernel_rfl) rfl (fun w83 H84 K85 => ?_)
            clear H78
            have H86 := H79.keep K85 (by intro h; change b1 = b at h; omega)
            clear H79
            have H87 := H80.keep K85 (by intro h; change b9 = b at h; omega)
            clear H80
            have K88 := K81.trans K85 (U := (fun i => i = b)) (fun i h1 h2 => h2) (fun i h1 h2 => by have h2 : i = b := h2; show i = b; omega)
            clear K81
            refine ⟨⟨K85, (H84.loads (loadC1 (by kernel_rfl) (ch_34 ok82))), (H84.loads (loadC1 (by kernel_rfl) (ch_34 ok82))), (H84.loads (loadC1 (by kernel_rfl) (ch_34 ok82))), (H84.loads (loadC1 (by kernel_rfl) (ch_34 ok82))), (H84.loads (loadC1 (by kernel_rfl) (ch_34 ok82))), (H84.loads (loadC1 (by kernel_rfl) (ch_34 ok82))), (H84.loads (loadC1 (by kernel_rfl) (ch_34 ok82))), (H84.loads (loadC1 (by kernel_rfl) (ch_34 ok82))), (H84.loads (loadC1 (by kernel_rfl) (ch_34 ok82))), (H84.loads (loadC1 (by kernel_rfl) (ch_34 ok82))), (H84.loads (loadC1 (by kernel_rfl) (ch_34 ok82))), (H84.loads (loadC1 (by kernel_rfl) (ch_34 ok82))), (H84.loads (loadC1 (by kernel_rfl) (ch_36 ok82))), (H84.loads (loadC1 (by kernel_rfl) (ch_34 ok82))), (H84.loads (loadC1 (by kernel_rfl) (ch_34 ok82))), (H84.loads (loadC1 (by kernel_rfl) (ch_36 ok82))), (H84.loads (loadC1 (by kernel_rfl) (ch_34 ok82))), (H84.loads (loadC1 (by kernel_rfl) (ch_34 ok82))), (H84.loads (loadC1 (by kernel_rfl) (ch_36 ok82))), (H84.loads (loadC1 (by kernel_rfl) (ch_34 ok82))), (H84.loads (loadC1 (by kernel_rfl) (ch_34 ok82))), (H84.loads (loadC1 (by kernel_rfl) (ch_36 ok82))), (H84.loads (loadC1 (by kernel_rfl) (ch_37 ok82))), (H84.loads (loadC1 (by kernel_rfl) (ch_34 ok82))), (H84.loads (loadC1 (by kernel_rfl) (ch_34 ok82))), (H84.loads (loadC1 (by kernel_rfl) (ch_36 ok82))), (H84.loads (loadC1 (by kernel_rfl) (ch_37 ok82))), (H84.loads (loadC1 (by kernel_rfl) (ch_34 ok82))), (H84.loads (loadC1 (by kernel_rfl) (ch_34 ok82))), (H84.loads (loadC1 (by kernel_rfl) (ch_36 ok82))), (H84.loads (loadC1 (by kernel_rfl) (ch_37 ok82))), (H84.loads (loadC1 (by kernel_rfl) (ch_34 ok82))), (H84.loads (loadC1 (by kernel_rfl) (ch_34 ok82))), (H84.loads (loadC1 (by kernel_rfl) (ch_36 ok82))), (H84.loads (loadC1 (by kernel_rfl) (ch_37 ok82))), (H84.loads (loadC1 (by kernel_rfl) (ch_34 ok82))), (H84.loads (loadC1 (by kernel_rfl) (ch_34 ok82))), (H84.loads (loadC1 (by kernel_rfl) (ch_36 ok82))), (H84.loads (loadC1 (by kernel_rfl) (ch_37 ok82)))⟩, ?_⟩
            refine Dr.strong (S' := (fun wz => Keeps (fun i => i = b) w83 wz ∧ Loads Try.prog wz 3 ⟨b, 34, none⟩ (i64 c.ms) ∧ Loads Try.prog wz 3 ⟨b, 34, none⟩ (i64 c.ms) ∧ Loads Try.prog wz 3 ⟨b, 34, none⟩ (i64 c.ms) ∧ Loads Try.prog wz 3 ⟨b, 34, none⟩ (i64 c.ms) ∧ Loads Try.prog wz 3 ⟨b, 34, none⟩ (i64 c.ms) ∧ Loads Try.prog wz 3 ⟨b, 34, none⟩ (i64 c.ms) ∧ Loads Try.prog wz 3 ⟨b, 34, none⟩ (i64 c.ms) ∧ Loads Try.prog wz 3 ⟨b, 34, none⟩ (i64 c.ms) ∧ Loads Try.prog wz 3 ⟨b, 34, none⟩ (i64 c.ms) ∧ Loads Try.prog wz 3 ⟨b, 34, none⟩ (i64 c.ms) ∧ Loads Try.prog wz 3 ⟨b, 34, none⟩ (i64 c.ms) ∧ Loads Try.prog wz 3 ⟨b, 34, none⟩ (i64 c.ms) ∧ Loads Try.prog wz 3 ⟨b, 36, none⟩ (i64 c.mt) ∧ Loads Try.prog wz 3 ⟨b, 34, none⟩ (i64 c.ms) ∧ Loads Try.prog wz 3 ⟨b, 34, none⟩ (i64 c.ms) ∧ Loads Try.prog wz 3 ⟨b, 36, none⟩ (i64 c.mt) ∧ Loads Try.prog wz 3 ⟨b, 34, none⟩ (i64 c.ms) ∧ Loads Try.prog wz 3 ⟨b, 34, none⟩ (i64 c.ms) ∧ Loads Try.prog wz 3 ⟨b, 36, none⟩ (i64 c.mt) ∧ Loads Try.prog wz 3 ⟨b, 34, none⟩ (i64 c.ms) ∧ Loads Try.prog wz 3 ⟨b, 34, none⟩ (i64 c.ms) ∧ Loads Try.prog wz 3 ⟨b, 36, none⟩ (i64 c.mt) ∧ Loads Try.prog wz 2 ⟨b, 37, none⟩ (i64 c.me) ∧ Loads Try.prog wz 3 ⟨b, 34, none⟩ (i64 c.ms) ∧ Loads Try.prog wz 3 ⟨b, 34, none⟩ (i64 c.ms) ∧ Loads Try.prog wz 3 ⟨b, 36, none⟩ (i64 c.mt) ∧ Loads Try.prog wz 2 ⟨b, 37, none⟩ (i64 c.me) ∧ Loads Try.prog wz 3 ⟨b, 34, none⟩ (i64 c.ms) ∧ Loads Try.prog wz 3 ⟨b, 34, none⟩ (i64 c.ms) ∧ Loads Try.prog wz 3 ⟨b, 36, none⟩ (i64 c.mt) ∧ Loads Try.prog wz 2 ⟨b, 37, none⟩ (i64 c.me) ∧ Loads Try.prog wz 3 ⟨b, 34, none⟩ (i64 c.ms) ∧ Loads Try.prog wz 3 ⟨b, 34, none⟩ (i64 c.ms) ∧ Loads Try.prog wz 3 ⟨b, 36, none⟩ (i64 c.mt) ∧ Loads Try.prog wz 2 ⟨b, 37, none⟩ (i64 c.me) ∧ Loads Try.prog wz 3 ⟨b, 34, none⟩ (i64 c.ms) ∧ Loads Try.prog wz 3 ⟨b, 34, none⟩ (i64 c.ms) ∧ Loads Try.prog wz 3 ⟨b, 36, none⟩ (i64 c.mt) ∧ Loads Try.prog wz 2 ⟨b, 37, none⟩ (i64 c.me))) ⟨((Keeps.refl w83).mono (fun _ _ h => h.elim)), (H84.loads (loadC1 (by kernel_rfl) (ch_34 ok82))), (H84.loads (loadC1 (by kernel_rfl) (ch_34 ok82))), (H84.loads (loadC1 (by kernel_rfl) (ch_34 ok82))), (H84.loads (loadC1 (by kernel_rfl) (ch_34 ok82))), (H84.loads (loadC1 (by kernel_rfl) (ch_34 ok82))), (H84.loads (loadC1 (by kernel_rfl) (ch_34 ok82))), (H84.loads (loadC1 (by kernel_rfl) (ch_34 ok82))), (H84.loads (loadC1 (by kernel_rfl) (ch_34 ok82))), (H84.loads (loadC1 (by kernel_rfl) (ch_34 ok82))), (H84.loads (loadC1 (by kernel_rfl) (ch_34 ok82))), (H84.loads (loadC1 (by kernel_rfl) (ch_34 ok82))), (H84.loads (loadC1 (by kernel_rfl) (ch_34 ok82))), (H84.loads (loadC1 (by kernel_rfl) (ch_36 ok82))), (H84.loads (loadC1 (by kernel_rfl) (ch_34 ok82))), (H84.loads (loadC1 (by kernel_rfl) (ch_34 ok82))), (H84.loads (loadC1 (by kernel_rfl) (ch_36 ok82))), (H84.loads (loadC1 (by kernel_rfl) (ch_34 ok82))), (H84.loads (loadC1 (by kernel_rfl) (ch_34 ok82))), (H84.loads (loadC1 (by kernel_rfl) (ch_36 ok82))), (H84.loads (loadC1 (by kernel_rfl) (ch_34 ok82))), (H84.loads (loadC1 (by kernel_rfl) (ch_34 ok82))), (H84.loads (loadC1 (by kernel_rfl) (ch_36 ok82))), (H84.loads (loadC1 (by kernel_rfl) (ch_37 ok82))), (H84.loads (loadC1 (by kernel_rfl) (ch_34 ok82))), (H84.loads (loadC1 (by kernel_rfl) (ch_34 ok82))), (H84.loads (loadC1 (by kernel_rfl) (ch_36 ok82))), (H84.loads (loadC1 (by kernel_rfl) (ch_37 ok82))), (H84.loads (loadC1 (by kernel_rfl) (ch_34 ok82))), (H84.loads (loadC1 (by kernel_rfl) (ch_34 ok82))), (H84.loads (loadC1 (by kernel_rfl) (ch_36 ok82))), (H84.loads (loadC1 (by kernel_rfl) (ch_37 ok82))), (H84.loads (loadC1 (by kernel_rfl) (ch_34 ok82))), (H84.loads (loadC1 (by kernel_rfl) (ch_34 ok82))), (H84.loads (loadC1 (by kernel_rfl) (ch_36 ok82))), (H84.loads (loadC1 (by kernel_rfl) (ch_37 ok82))), (H84.loads (loadC1 (by kernel_rfl) (ch_34 ok82))), (H84.loads (loadC1 (by kernel_rfl) (ch_34 ok82))), (H84.loads (loadC1 (by kernel_rfl) (ch_36 ok82))), (H84.loads (loadC1 (by kernel_rfl) (ch_37 ok82)))⟩ (fun wz hx => ⟨K85.trans hx.1 (fun _ _ h => by have h : _ = b := h; show _ = b; omega) (fun _ _ h => h), hx.2⟩) ?_
            clear K85
            refine Dr.take (i := 24) (v := (Value.pointer (some ⟨b, 17 + (c.ms).toNat, none⟩))) (by kernel_rfl) (by kernel_rfl) (fun wz hS => Runs.ixArray (k := IntKind.i64) (t := 116) (b := b) (off := 17) (len := 16) (s := 1) (off' := 17 + (c.ms).toNat) (i := c.ms) (by kernel_rfl) (by kernel_rfl) (by omega) (by omega) (by omega)) (d := (some 70)) (by kernel_rfl) rfl ?_
            have ok89 : Ch.Ok ({ c with mp := 3, owner := c.owner.set ((c.ms).toNat) c.mt, epoch := c.epoch.set ((c.ms).toNat) c.me } : Ch) := ⟨by simp [ok82.o], by simp [ok82.e]⟩
            refine Dr.put (i := 25) (t := 2) (b := b) (off := 17 + (c.ms).toNat) (v := (i64 c.me)) (ys := (chL ({ c with mp := 3, owner := c.owner.set ((c.ms).toNat) c.mt, epoch := c.epoch.set ((c.ms).toNat) c.me } : Ch))) (by kernel_rfl) (by kernel_rfl) (by kernel_rfl) H84 (storeC1 (by kernel_rfl) rfl (by rw [chL_length ok82]; omega) (chs_ep ok82 ((c.ms).toNat) (by omega) _)) (d := none) (by kernel_rfl) rfl (fun w90 H91 K92 => ?_)
            clear H84
            have H93 := H86.keep K92 (by intro h; change b1 = b at h; omega)
            clear H86
            have H94 := H87.keep K92 (by intro h; change b9 = b at h; omega)
            clear H87
            have K95 := K88.trans K92 (U := (fun i => i = b)) (fun i h1 h2 => h2) (fun i h1 h2 => by have h2 : i = b := h2; show i = b; omega)
            clear K88
            refine ⟨⟨K92, (H91.loads (loadC1 (by kernel_rfl) (ch_34 ok89))), (H91.loads (loadC1 (by kernel_rfl) (ch_34 ok89))), (H91.loads (loadC1 (by kernel_rfl) (ch_34 ok89))), (H91.loads (loadC1 (by kernel_rfl) (ch_34 ok89))), (H91.loads (loadC1 (by kernel_rfl) (ch_34 ok89))), (H91.loads (loadC1 (by kernel_rfl) (ch_34 ok89))), (H91.loads (loadC1 (by kernel_rfl) (ch_34 ok89))), (H91.loads (loadC1 (by kernel_rfl) (ch_34 ok89))), (H91.loads (loadC1 (by kernel_rfl) (ch_34 ok89))), (H91.loads (loadC1 (by kernel_rfl) (ch_34 ok89))), (H91.loads (loadC1 (by kernel_rfl) (ch_34 ok89))), (H91.loads (loadC1 (by kernel_rfl) (ch_34 ok89))), (H91.loads (loadC1 (by kernel_rfl) (ch_36 ok89))), (H91.loads (loadC1 (by kernel_rfl) (ch_34 ok89))), (H91.loads (loadC1 (by kernel_rfl) (ch_34 ok89))), (H91.loads (loadC1 (by kernel_rfl) (ch_36 ok89))), (H91.loads (loadC1 (by kernel_rfl) (ch_34 ok89))), (H91.loads (loadC1 (by kernel_rfl) (ch_34 ok89))), (H91.loads (loadC1 (by kernel_rfl) (ch_36 ok89))), (H91.loads (loadC1 (by kernel_rfl) (ch_34 ok89))), (H91.loads (loadC1 (by kernel_rfl) (ch_34 ok89))), (H91.loads (loadC1 (by kernel_rfl) (ch_36 ok89))), (H91.loads (loadC1 (by kernel_rfl) (ch_37 ok89))), (H91.loads (loadC1 (by kernel_rfl) (ch_34 ok89))), (H91.loads (loadC1 (by kernel_rfl) (ch_34 ok89))), (H91.loads (loadC1 (by kernel_rfl) (ch_36 ok89))), (H91.loads (loadC1 (by kernel_rfl) (ch_37 ok89))), (H91.loads (loadC1 (by kernel_rfl) (ch_34 ok89))), (H91.loads (loadC1 (by kernel_rfl) (ch_34 ok89))), (H91.loads (loadC1 (by kernel_rfl) (ch_36 ok89))), (H91.loads (loadC1 (by kernel_rfl) (ch_37 ok89))), (H91.loads (loadC1 (by kernel_rfl) (ch_34 ok89))), (H91.loads (loadC1 (by kernel_rfl) (ch_34 ok89))), (H91.loads (loadC1 (by kernel_rfl) (ch_36 ok89))), (H91.loads (loadC1 (by kernel_rfl) (ch_37 ok89))), (H91.loads (loadC1 (by kernel_rfl) (ch_34 ok89))), (H91.loads (loadC1 (by kernel_rfl) (ch_34 ok89))), (H91.loads (loadC1 (by kernel_rfl) (ch_36 ok89))), (H91.loads (loadC1 (by kernel_rfl) (ch_37 ok89)))⟩, ?_⟩
            refine Dr.strong (S' := (fun wz => Keeps (fun i => i = b) w90 wz ∧ Loads Try.prog wz 3 ⟨b, 34, none⟩ (i64 c.ms) ∧ Loads Try.prog wz 3 ⟨b, 34, none⟩ (i64 c.ms) ∧ Loads Try.prog wz 3 ⟨b, 34, none⟩ (i64 c.ms) ∧ Loads Try.prog wz 3 ⟨b, 34, none⟩ (i64 c.ms) ∧ Loads Try.prog wz 3 ⟨b, 34, none⟩ (i64 c.ms) ∧ Loads Try.prog wz 3 ⟨b, 34, none⟩ (i64 c.ms) ∧ Loads Try.prog wz 3 ⟨b, 34, none⟩ (i64 c.ms) ∧ Loads Try.prog wz 3 ⟨b, 34, none⟩ (i64 c.ms) ∧ Loads Try.prog wz 3 ⟨b, 34, none⟩ (i64 c.ms) ∧ Loads Try.prog wz 3 ⟨b, 34, none⟩ (i64 c.ms) ∧ Loads Try.prog wz 3 ⟨b, 34, none⟩ (i64 c.ms) ∧ Loads Try.prog wz 3 ⟨b, 34, none⟩ (i64 c.ms) ∧ Loads Try.prog wz 3 ⟨b, 36, none⟩ (i64 c.mt) ∧ Loads Try.prog wz 3 ⟨b, 34, none⟩ (i64 c.ms) ∧ Loads Try.prog wz 3 ⟨b, 34, none⟩ (i64 c.ms) ∧ Loads Try.prog wz 3 ⟨b, 36, none⟩ (i64 c.mt) ∧ Loads Try.prog wz 3 ⟨b, 34, none⟩ (i64 c.ms) ∧ Loads Try.prog wz 3 ⟨b, 34, none⟩ (i64 c.ms) ∧ Loads Try.prog wz 3 ⟨b, 36, none⟩ (i64 c.mt) ∧ Loads Try.prog wz 3 ⟨b, 34, none⟩ (i64 c.ms) ∧ Loads Try.prog wz 3 ⟨b, 34, none⟩ (i64 c.ms) ∧ Loads Try.prog wz 3 ⟨b, 36, none⟩ (i64 c.mt) ∧ Loads Try.prog wz 2 ⟨b, 37, none⟩ (i64 c.me) ∧ Loads Try.prog wz 3 ⟨b, 34, none⟩ (i64 c.ms) ∧ Loads Try.prog wz 3 ⟨b, 34, none⟩ (i64 c.ms) ∧ Loads Try.prog wz 3 ⟨b, 36, none⟩ (i64 c.mt) ∧ Loads Try.prog wz 2 ⟨b, 37, none⟩ (i64 c.me) ∧ Loads Try.prog wz 3 ⟨b, 34, none⟩ (i64 c.ms) ∧ Loads Try.prog wz 3 ⟨b, 34, none⟩ (i64 c.ms) ∧ Loads Try.prog wz 3 ⟨b, 36, none⟩ (i64 c.mt) ∧ Loads Try.prog wz 2 ⟨b, 37, none⟩ (i64 c.me) ∧ Loads Try.prog wz 3 ⟨b, 34, none⟩ (i64 c.ms) ∧ Loads Try.prog wz 3 ⟨b, 34, none⟩ (i64 c.ms) ∧ Loads Try.prog wz 3 ⟨b, 36, none⟩ (i64 c.mt) ∧ Loads Try.prog wz 2 ⟨b, 37, none⟩ (i64 c.me) ∧ Loads Try.prog wz 3 ⟨b, 34, none⟩ (i64 c.ms) ∧ Loads Try.prog wz 3 ⟨b, 34, none⟩ (i64 c.ms) ∧ Loads Try.prog wz 3 ⟨b, 36, none⟩ (i64 c.mt) ∧ Loads Try.prog wz 2 ⟨b, 37, none⟩ (i64 c.me))) ⟨((Keeps.refl w90).mono (fun _ _ h => h.elim)), (H91.loads (loadC1 (by kernel_rfl) (ch_34 ok89))), (H91.loads (loadC1 (by kernel_rfl) (ch_34 ok89))), (H91.loads (loadC1 (by kernel_rfl) (ch_34 ok89))), (H91.loads (loadC1 (by kernel_rfl) (ch_34 ok89))), (H91.loads (loadC1 (by kernel_rfl) (ch_34 ok89))), (H91.loads (loadC1 (by kernel_rfl) (ch_34 ok89))), (H91.loads (loadC1 (by kernel_rfl) (ch_34 ok89))), (H91.loads (loadC1 (by kernel_rfl) (ch_34 ok89))), (H91.loads (loadC1 (by kernel_rfl) (ch_34 ok89))), (H91.loads (loadC1 (by kernel_rfl) (ch_34 ok89))), (H91.loads (loadC1 (by kernel_rfl) (ch_34 ok89))), (H91.loads (loadC1 (by kernel_rfl) (ch_34 ok89))), (H91.loads (loadC1 (by kernel_rfl) (ch_36 ok89))), (H91.loads (loadC1 (by kernel_rfl) (ch_34 ok89))), (H91.loads (loadC1 (by kernel_rfl) (ch_34 ok89))), (H91.loads (loadC1 (by kernel_rfl) (ch_36 ok89))), (H91.loads (loadC1 (by kernel_rfl) (ch_34 ok89))), (H91.loads (loadC1 (by kernel_rfl) (ch_34 ok89))), (H91.loads (loadC1 (by kernel_rfl) (ch_36 ok89))), (H91.loads (loadC1 (by kernel_rfl) (ch_34 ok89))), (H91.loads (loadC1 (by kernel_rfl) (ch_34 ok89))), (H91.loads (loadC1 (by kernel_rfl) (ch_36 ok89))), (H91.loads (loadC1 (by kernel_rfl) (ch_37 ok89))), (H91.loads (loadC1 (by kernel_rfl) (ch_34 ok89))), (H91.loads (loadC1 (by kernel_rfl) (ch_34 ok89))), (H91.loads (loadC1 (by kernel_rfl) (ch_36 ok89))), (H91.loads (loadC1 (by kernel_rfl) (ch_37 ok89))), (H91.loads (loadC1 (by kernel_rfl) (ch_34 ok89))), (H91.loads (loadC1 (by kernel_rfl) (ch_34 ok89))), (H91.loads (loadC1 (by kernel_rfl) (ch_36 ok89))), (H91.loads (loadC1 (by kernel_rfl) (ch_37 ok89))), (H91.loads (loadC1 (by kernel_rfl) (ch_34 ok89))), (H91.loads (loadC1 (by kernel_rfl) (ch_34 ok89))), (H91.loads (loadC1 (by kernel_rfl) (ch_36 ok89))), (H91.loads (loadC1 (by kernel_rfl) (ch_37 ok89))), (H91.loads (loadC1 (by kernel_rfl) (ch_34 ok89))), (H91.loads (loadC1 (by kernel_rfl) (ch_34 ok89))), (H91.loads (loadC1 (by kernel_rfl) (ch_36 ok89))), (H91.loads (loadC1 (by kernel_rfl) (ch_37 ok89)))⟩ (fun wz hx => ⟨K92.trans hx.1 (fun _ _ h => by have h : _ = b := h; show _ = b; omega) (fun _ _ h => h), hx.2⟩) ?_
            clear K92
            refine Dr.done (by kernel_rfl) ?_
            refine q_seq (by kernel_rfl) ?_
            refine q_region (by kernel_rfl) ?_
            refine Ops.regs 1 [(4, (Value.pointer (some ⟨b9, 0, none⟩))), (76, (Value.pointer (some ⟨b1, 3, none⟩)))] (j := 1) (by kernel_rfl) (by kernel_rfl) ?_
            refine Ops.go (v := (i64 x.n)) (by kernel_rfl) (Runs.load (t := 2) (a := ⟨b1, 3, none⟩) (by kernel_rfl) (H93.loads (by kernel_rfl))) (d := (some 77)) (by kernel_rfl) rfl ?_
            refine Ops.regs 1 [(4, (Value.pointer (some ⟨b9, 0, none⟩))), (78, (agg [(i64 0), (Value.bool false), (i64 x.n)]))] (j := 3) (by kernel_rfl) (by kernel_rfl) ?_
            refine Ops.put (t := 29) (b := b9) (off := 0) (v := (agg [(i64 0), (Value.bool false), (i64 x.n)])) (ys := [(i64 0), (Value.bool false), (i64 x.n)]) (by kernel_rfl) (by kernel_rfl) H94 (by kernel_rfl) (d := none) (by kernel_rfl) rfl (fun w96 H97 K98 => ?_)
            clear H94
            have H99 := H91.keep K98 (by intro h; change b = b9 at h; omega)
            clear H91
            have H100 := H93.keep K98 (by intro h; change b1 = b9 at h; omega)
            clear H93
            have K101 := K95.trans K98 (U := (fun i => i = b)) (fun i h1 h2 => h2) (fun i h1 h2 => by have h2 : i = b9 := h2; show i = b; omega)
            clear K95
            clear K98
            refine Ops.done (by kernel_rfl) ?_
            refine q_ret (by kernel_rfl) ?_
            refine ⟨(agg [(i64 0), (Value.bool false), (i64 x.n)]), retv_cell rfl rfl (H97.loads (by kernel_rfl)), ?_⟩
            have e : c.doStep x = (⟨0, false, x.n⟩, ({ c with mp := 3, owner := c.owner.set ((c.ms).toNat) c.mt, epoch := c.epoch.set ((c.ms).toNat) c.me } : Ch)) := by
              unfold Ch.doStep
              first | (exfalso; omega) | rw [if_pos (by omega)] | (rw [if_neg (by omega)]; first | rw [if_pos (by omega)] | (rw [if_neg (by omega)]; first | rw [if_pos (by omega)] | rw [if_neg (by omega)]))
            exact ⟨by rw [e]; rfl, K101, by rw [e]; exact H99⟩
          · rw [h67]
            have p102 : ¬ (c.mp = 2) := of_beq_f h67
            refine q_seq (by kernel_rfl) ?_
            refine q_region (by kernel_rfl) ?_
            refine Ops.regs 2 [(3, (Value.pointer (some ⟨b1, 0, none⟩))), (4, (Value.pointer (some ⟨b9, 0, none⟩))), (5, (Value.pointer (some ⟨b, 34, none⟩))), (71, (Value.bool (c.mp == 3)))] (j := 2) (by kernel_rfl) (by kernel_rfl) ?_
            refine Ops.done (by kernel_rfl) ?_
            refine q_cond (o := .tmp 71) (b := (c.mp == 3)) (by kernel_rfl) rfl (fun h103 => ?_) (fun h103 => ?_)
            · rw [h103]
              have p104 : c.mp = 3 := of_beq_t h103
              refine q_region (by kernel_rfl) ?_
              refine Ops.regs 3 [(3, (Value.pointer (some ⟨b1, 0, none⟩))), (4, (Value.pointer (some ⟨b9, 0, none⟩))), (74, (agg [(i64 0), (i64 0), (i64 0), (i64 0), (i64 0), (i64 0)])), (75, (Value.pointer (some ⟨b, 34, none⟩)))] (j := 3) (by kernel_rfl) (by kernel_rfl) ?_
              have ok105 : Ch.Ok ({ c with ms := 0, mf := 0, mt := 0, me := 0, mp := 0, mn := 0 } : Ch) := ⟨h.ok.o, h.ok.e⟩
              refine Ops.put (t := 34) (b := b) (off := 34) (v := (agg [(i64 0), (i64 0), (i64 0), (i64 0), (i64 0), (i64 0)])) (ys := (chL ({ c with ms := 0, mf := 0, mt := 0, me := 0, mp := 0, mn := 0 } : Ch))) (by kernel_rfl) (by kernel_rfl) H20 (storeCN (vs := [(i64 0), (i64 0), (i64 0), (i64 0), (i64 0), (i64 0)]) (by kernel_rfl) (by kernel_rfl) (by rw [chL_length h.ok]; exact Nat.le_of_ble_eq_true rfl) (chs_move h.ok _ _ _ _ _ _)) (d := none) (by kernel_rfl) rfl (fun w106 H107 K108 => ?_)
              clear H20
              have H109 := H21.keep K108 (by intro h; change b1 = b at h; omega)
              clear H21
              have H110 := H22.keep K108 (by intro h; change b9 = b at h; omega)
              clear H22
              have K111 := K23.trans K108 (U := (fun i => i = b)) (fun i h1 h2 => h2) (fun i h1 h2 => by have h2 : i = b := h2; show i = b; omega)
              clear K23
              clear K108
              refine Ops.done (by kernel_rfl) ?_
              refine q_seq (by kernel_rfl) ?_
              refine q_region (by kernel_rfl) ?_
              refine Ops.regs 1 [(4, (Value.pointer (some ⟨b9, 0, none⟩))), (76, (Value.pointer (some ⟨b1, 3, none⟩)))] (j := 1) (by kernel_rfl) (by kernel_rfl) ?_
              refine Ops.go (v := (i64 x.n)) (by kernel_rfl) (Runs.load (t := 2) (a := ⟨b1, 3, none⟩) (by kernel_rfl) (H109.loads (by kernel_rfl))) (d := (some 77)) (by kernel_rfl) rfl ?_
              refine Ops.regs 1 [(4, (Value.pointer (some ⟨b9, 0, none⟩))), (78, (agg [(i64 0), (Value.bool false), (i64 x.n)]))] (j := 3) (by kernel_rfl) (by kernel_rfl) ?_
              refine Ops.put (t := 29) (b := b9) (off := 0) (v := (agg [(i64 0), (Value.bool false), (i64 x.n)])) (ys := [(i64 0), (Value.bool false), (i64 x.n)]) (by kernel_rfl) (by kernel_rfl) H110 (by kernel_rfl) (d := none) (by kernel_rfl) rfl (fun w112 H113 K114 => ?_)
              clear H110
              have H115 := H107.keep K114 (by intro h; change b = b9 at h; omega)
              clear H107
              have H116 := H109.keep K114 (by intro h; change b1 = b9 at h; omega)
              clear H109
              have K117 := K111.trans K114 (U := (fun i => i = b)) (fun i h1 h2 => h2) (fun i h1 h2 => by have h2 : i = b9 := h2; show i = b; omega)
              clear K111
              clear K114
              refine Ops.done (by kernel_rfl) ?_
              refine q_ret (by kernel_rfl) ?_
              refine ⟨(agg [(i64 0), (Value.bool false), (i64 x.n)]), retv_cell rfl rfl (H113.loads (by kernel_rfl)), ?_⟩
              have e : c.doStep x = (⟨0, false, x.n⟩, ({ c with ms := 0, mf := 0, mt := 0, me := 0, mp := 0, mn := 0 } : Ch)) := by
                unfold Ch.doStep
                first | (exfalso; omega) | rw [if_pos (by omega)] | (rw [if_neg (by omega)]; first | rw [if_pos (by omega)] | (rw [if_neg (by omega)]; first | rw [if_pos (by omega)] | rw [if_neg (by omega)]))
              exact ⟨by rw [e]; rfl, K117, by rw [e]; exact H115⟩
            · rw [h103]
              have p118 : ¬ (c.mp = 3) := of_beq_f h103
              refine q_skip (by kernel_rfl) ?_
              refine q_seq (by kernel_rfl) ?_
              refine q_region (by kernel_rfl) ?_
              refine Ops.regs 1 [(4, (Value.pointer (some ⟨b9, 0, none⟩))), (76, (Value.pointer (some ⟨b1, 3, none⟩)))] (j := 1) (by kernel_rfl) (by kernel_rfl) ?_
              refine Ops.go (v := (i64 x.n)) (by kernel_rfl) (Runs.load (t := 2) (a := ⟨b1, 3, none⟩) (by kernel_rfl) (H21.loads (by kernel_rfl))) (d := (some 77)) (by kernel_rfl) rfl ?_
              refine Ops.regs 1 [(4, (Value.pointer (some ⟨b9, 0, none⟩))), (78, (agg [(i64 0), (Value.bool false), (i64 x.n)]))] (j := 3) (by kernel_rfl) (by kernel_rfl) ?_
              refine Ops.put (t := 29) (b := b9) (off := 0) (v := (agg [(i64 0), (Value.bool false), (i64 x.n)])) (ys := [(i64 0), (Value.bool false), (i64 x.n)]) (by kernel_rfl) (by kernel_rfl) H22 (by kernel_rfl) (d := none) (by kernel_rfl) rfl (fun w119 H120 K121 => ?_)
              clear H22
              have H122 := H20.keep K121 (by intro h; change b = b9 at h; omega)
              clear H20
              have H123 := H21.keep K121 (by intro h; change b1 = b9 at h; omega)
              clear H21
              have K124 := K23.trans K121 (U := (fun i => i = b)) (fun i h1 h2 => h2) (fun i h1 h2 => by have h2 : i = b9 := h2; show i = b; omega)
              clear K23
              clear K121
              refine Ops.done (by kernel_rfl) ?_
              refine q_ret (by kernel_rfl) ?_
              refine ⟨(agg [(i64 0), (Value.bool false), (i64 x.n)]), retv_cell rfl rfl (H120.loads (by kernel_rfl)), ?_⟩
              have e : c.doStep x = (⟨0, false, x.n⟩, c) := by
                unfold Ch.doStep
                first | (exfalso; omega) | rw [if_pos (by omega)] | (rw [if_neg (by omega)]; first | rw [if_pos (by omega)] | (rw [if_neg (by omega)]; first | rw [if_pos (by omega)] | rw [if_neg (by omega)]))
              exact ⟨by rw [e]; rfl, K124, by rw [e]; exact H122⟩

theorem doMove_calls (w : World) (b : Nat) (c : Ch) (x : Cmd) (h : c.Inv) (H0 : Has w b (rowL (chL c) 118)) : Calls Try.prog 59 ⟨[(Value.pointer (some ⟨b, 0, none⟩)), (agg [(i64 x.kind), (i64 x.slot), (i64 x.shard), (i64 x.n), (i64 x.phase)])]⟩ w (fun e w' => e = .returned (c.doMove x).1.v ∧ Keeps (fun i => i = b) w w' ∧ Has w' b (rowL (chL (c.doMove x).2) 118)) := by
  have K0 : Keeps (fun i => i = b) w w := (Keeps.refl w).mono (fun _ _ h => h.elim)
  have Hb := H0.lt
  have hbg := h.bg
  have hmb := h.mb
  have hph := h.ph
  have hep := h.ep
  refine q_calls Try.func59 (by kernel_rfl) (by kernel_rfl) ?_
  refine q_seq (by kernel_rfl) ?_
  refine q_region (by kernel_rfl) ?_
  refine Ops.new (o := rowL [(i64 x.kind), (i64 x.slot), (i64 x.shard), (i64 x.n), (i64 x.phase)] 32) (V := fun b => (Value.pointer (some ⟨b, 0, none⟩))) (by kernel_rfl) (d := (some 3)) (by kernel_rfl) (fun b => rfl) (fun b1 w2 hb3 H4 K5 hs6 => ?_)
  have lb1 : b < b1 := by have := H0.lt; omega
  have nb1 : w.heap.size ≤ b1 := by have := K0.size; omega
  have H7 := H0.keep K5 (fun h => h)
  clear H0
  have K8 := K0.trans K5 (U := (fun i => i = b)) (fun i h1 h2 => h2) (fun i h1 h2 => by exact h2.elim)
  clear K0
  clear K5 hs6
  refine Ops.new (o := rowL [(i64 0), (Value.bool false), (i64 0)] 29) (V := fun b => (Value.pointer (some ⟨b, 0, none⟩))) (by kernel_rfl) (d := (some 4)) (by kernel_rfl) (fun b => rfl) (fun b9 w10 hb11 H12 K13 hs14 => ?_)
  have lb9 : b1 < b9 := by have := H4.lt; omega
  have nb9 : w.heap.size ≤ b9 := by have := K8.size; omega
  have H15 := H7.keep K13 (fun h => h)
  clear H7
  have H16 := H4.keep K13 (fun h => h)
  clear H4
  have K17 := K8.trans K13 (U := (fun i => i = b)) (fun i h1 h2 => h2) (fun i h1 h2 => by exact h2.elim)
  clear K8
  clear K13 hs14
  refine Ops.done (by kernel_rfl) ?_
  refine q_seq (by kernel_rfl) ?_
  refine q_seq (by kernel_rfl) ?_
  refine q_draw (fun wz => Keeps none_ w10 wz) 18 (by kernel_rfl) (by kernel_rfl) (by kernel_rfl) (fun w18 K19 _ _ => ⟨K19, ?_⟩)
  have H20 := H15.keep K19 (fun h => h)
  clear H15
  have H21 := H16.keep K19 (fun h => h)
  clear H16
  have H22 := H12.keep K19 (fun h => h)
  clear H12
  have K23 := K17.trans K19 (U := (fun i => i = b)) (fun i h1 h2 => h2) (fun i h1 h2 => by exact h2.elim)
  clear K17
  refine Dr.strong (S' := (fun wz => Keeps none_ w18 wz)) (Keeps.refl w18) (fun wz hx => K19.trans hx (fun _ _ h => h) (fun _ _ h => h)) ?_
  clear K19
  refine Dr.takes (fuel' := 17) (is' := [0]) [0] [(0, (Value.pointer (some ⟨b, 0, none⟩))), (3, (Value.pointer (some ⟨b1, 0, none⟩))), (4, (Value.pointer (some ⟨b9, 0, none⟩))), (7, (Value.pointer (some ⟨b1, 1, none⟩)))] (by kernel_rfl) rfl (by kernel_rfl) ?_
  refine Dr.take (i := 1) (v := (i64 x.slot)) (by kernel_rfl) (by kernel_rfl) (fun wz hS => Runs.load (t := 3) (a := ⟨b1, 1, none⟩) (by kernel_rfl) ((H21.keep hS (fun h => h)).loads (by kernel_rfl))) (d := (some 8)) (by kernel_rfl) rfl ?_
  refine Dr.call (i := 2) (by kernel_rfl) (by kernel_rfl) (d := (some 9)) (by kernel_rfl) (fun _ => there_calls _ x.slot) ?_
  rintro _ _ ⟨rfl, rfl⟩
  refine ⟨_, _, rfl, rfl, (Keeps.refl _), ?_⟩
  refine Dr.takes (fuel' := 13) (is' := [4, 3, 2, 1, 0]) [3, 4] [(0, (Value.pointer (some ⟨b, 0, none⟩))), (3, (Value.pointer (some ⟨b1, 0, none⟩))), (4, (Value.pointer (some ⟨b9, 0, none⟩))), (11, (Value.bool (!((decide (0 ≤ x.slot)) && (decide (x.slot < 16))))))] (by kernel_rfl) rfl (by kernel_rfl) ?_
  refine Dr.split (!((decide (0 ≤ x.slot)) && (decide (x.slot < 16)))) (fun h24 => ?_) (fun h24 => ?_)
  · rw [h24]
    have p25 : ¬ (0 ≤ x.slot ∧ x.slot < 16) := by simpa using (bnot_true h24)
    refine Dr.takes (fuel' := 0) (is' := [17, 16, 15, 14, 13, 12, 11, 10, 9, 8, 7, 6, 5, 4, 3, 2, 1, 0]) [5, 6, 7, 8, 9, 10, 11, 12, 13, 14, 15, 16, 17] [(0, (Value.pointer (some ⟨b, 0, none⟩))), (3, (Value.pointer (some ⟨b1, 0, none⟩))), (4, (Value.pointer (some ⟨b9, 0, none⟩))), (24, (Value.bool true))] (by kernel_rfl) rfl (by kernel_rfl) ?_
    refine Dr.done (by kernel_rfl) ?_
    refine q_then (o := .tmp 24) (by kernel_rfl) rfl ?_
    refine q_seq (by kernel_rfl) ?_
    refine q_region (by kernel_rfl) ?_
    refine Ops.regs 1 [(0, (Value.pointer (some ⟨b, 0, none⟩))), (3, (Value.pointer (some ⟨b1, 0, none⟩))), (4, (Value.pointer (some ⟨b9, 0, none⟩))), (25, (agg [(i64 1), (Value.bool false), (i64 0)]))] (j := 1) (by kernel_rfl) (by kernel_rfl) ?_
    refine Ops.put (t := 29) (b := b9) (off := 0) (v := (agg [(i64 1), (Value.bool false), (i64 0)])) (ys := [(i64 1), (Value.bool false), (i64 0)]) (by kernel_rfl) (by kernel_rfl) H22 (by kernel_rfl) (d := none) (by kernel_rfl) rfl (fun w26 H27 K28 => ?_)
    clear H22
    have H29 := H20.keep K28 (by intro h; change b = b9 at h; omega)
    clear H20
    have H30 := H21.keep K28 (by intro h; change b1 = b9 at h; omega)
    clear H21
    have K31 := K23.trans K28 (U := (fun i => i = b)) (fun i h1 h2 => h2) (fun i h1 h2 => by have h2 : i = b9 := h2; show i = b; omega)
    clear K23
    clear K28
    refine Ops.done (by kernel_rfl) ?_
    refine q_ret (by kernel_rfl) ?_
    refine ⟨(agg [(i64 1), (Value.bool false), (i64 0)]), retv_cell rfl rfl (H27.loads (by kernel_rfl)), ?_⟩
    have e : c.doMove x = (⟨1, false, 0⟩, c) := by
      by_cases hq : c.busy
      · have e0 : c.begin_ = (0, c) := by unfold Ch.begin_; rw [if_pos hq]
        have e1 := congrArg Prod.fst e0; simp only at e1
        unfold Ch.doMove
        first | (exfalso; omega) | rw [if_pos (.inl ((there_not _).2 (by omega)))] | rw [if_pos (.inr (by omega))] | (rw [if_neg (by rintro (hh | hh) <;> first | exact (there_not _).1 hh (by omega) | omega), if_pos hq]; first | (rw [e0]; done) | (rw [e0]; rfl))
      · have e0 : c.begin_ = (c.began + 1, { c with began := c.began + 1 }) := by unfold Ch.begin_; rw [if_neg hq]
        have e1 := congrArg Prod.fst e0; simp only at e1
        unfold Ch.doMove
        first | (exfalso; omega) | rw [if_pos (.inl ((there_not _).2 (by omega)))] | rw [if_pos (.inr (by omega))] | (rw [if_neg (by rintro (hh | hh) <;> first | exact (there_not _).1 hh (by omega) | omega), if_neg hq]; first | (rw [if_pos (by omega), e0]; simp; done) | (rw [if_neg (by omega), e0]; done) | (rw [if_neg (by omega), e0]; rfl))
    exact ⟨by rw [e]; rfl, K31, by rw [e]; exact H29⟩
  · rw [h24]
    have p32 : (0 ≤ x.slot ∧ x.slot < 16) := by simpa using (bnot_false h24)
    refine Dr.takes (fuel' := 12) (is' := [5, 4, 3, 2, 1, 0]) [5] [(0, (Value.pointer (some ⟨b, 0, none⟩))), (3, (Value.pointer (some ⟨b1, 0, none⟩))), (4, (Value.pointer (some ⟨b9, 0, none⟩))), (11, (Value.bool false)), (12, (Value.pointer (some ⟨b1, 2, none⟩)))] (by kernel_rfl) rfl (by kernel_rfl) ?_
    refine Dr.take (i := 6) (v := (i64 x.shard)) (by kernel_rfl) (by kernel_rfl) (fun wz hS => Runs.load (t := 3) (a := ⟨b1, 2, none⟩) (by kernel_rfl) ((H21.keep hS (fun h => h)).loads (by kernel_rfl))) (d := (some 13)) (by kernel_rfl) rfl ?_
    refine Dr.takes (fuel' := 8) (is' := [9, 8, 7, 6, 5, 4, 3, 2, 1, 0]) [7, 8, 9] [(0, (Value.pointer (some ⟨b, 0, none⟩))), (3, (Value.pointer (some ⟨b1, 0, none⟩))), (4, (Value.pointer (some ⟨b9, 0, none⟩))), (16, (Value.bool (decide (x.shard < 1))))] (by kernel_rfl) rfl (by kernel_rfl) ?_
    refine Dr.split (decide (x.shard < 1)) (fun h33 => ?_) (fun h33 => ?_)
    · rw [h33]
      have p34 : x.shard < 1 := of_decide_eq_true h33
      refine Dr.takes (fuel' := 0) (is' := [17, 16, 15, 14, 13, 12, 11, 10, 9, 8, 7, 6, 5, 4, 3, 2, 1, 0]) [10, 11, 12, 13, 14, 15, 16, 17] [(0, (Value.pointer (some ⟨b, 0, none⟩))), (3, (Value.pointer (some ⟨b1, 0, none⟩))), (4, (Value.pointer (some ⟨b9, 0, none⟩))), (24, (Value.bool true))] (by kernel_rfl) rfl (by kernel_rfl) ?_
      refine Dr.done (by kernel_rfl) ?_
      refine q_then (o := .tmp 24) (by kernel_rfl) rfl ?_
      refine q_seq (by kernel_rfl) ?_
      refine q_region (by kernel_rfl) ?_
      refine Ops.regs 1 [(0, (Value.pointer (some ⟨b, 0, none⟩))), (3, (Value.pointer (some ⟨b1, 0, none⟩))), (4, (Value.pointer (some ⟨b9, 0, none⟩))), (25, (agg [(i64 1), (Value.bool false), (i64 0)]))] (j := 1) (by kernel_rfl) (by kernel_rfl) ?_
      refine Ops.put (t := 29) (b := b9) (off := 0) (v := (agg [(i64 1), (Value.bool false), (i64 0)])) (ys := [(i64 1), (Value.bool false), (i64 0)]) (by kernel_rfl) (by kernel_rfl) H22 (by kernel_rfl) (d := none) (by kernel_rfl) rfl (fun w35 H36 K37 => ?_)
      clear H22
      have H38 := H20.keep K37 (by intro h; change b = b9 at h; omega)
      clear H20
      have H39 := H21.keep K37 (by intro h; change b1 = b9 at h; omega)
      clear H21
      have K40 := K23.trans K37 (U := (fun i => i = b)) (fun i h1 h2 => h2) (fun i h1 h2 => by have h2 : i = b9 := h2; show i = b; omega)
      clear K23
      clear K37
      refine Ops.done (by kernel_rfl) ?_
      refine q_ret (by kernel_rfl) ?_
      refine ⟨(agg [(i64 1), (Value.bool false), (i64 0)]), retv_cell rfl rfl (H36.loads (by kernel_rfl)), ?_⟩
      have e : c.doMove x = (⟨1, false, 0⟩, c) := by
        by_cases hq : c.busy
        · have e0 : c.begin_ = (0, c) := by unfold Ch.begin_; rw [if_pos hq]
          have e1 := congrArg Prod.fst e0; simp only at e1
          unfold Ch.doMove
          first | (exfalso; omega) | rw [if_pos (.inl ((there_not _).2 (by omega)))] | rw [if_pos (.inr (by omega))] | (rw [if_neg (by rintro (hh | hh) <;> first | exact (there_not _).1 hh (by omega) | omega), if_pos hq]; first | (rw [e0]; done) | (rw [e0]; rfl))
        · have e0 : c.begin_ = (c.began + 1, { c with began := c.began + 1 }) := by unfold Ch.begin_; rw [if_neg hq]
          have e1 := congrArg Prod.fst e0; simp only at e1
          unfold Ch.doMove
          first | (exfalso; omega) | rw [if_pos (.inl ((there_not _).2 (by omega)))] | rw [if_pos (.inr (by omega))] | (rw [if_neg (by rintro (hh | hh) <;> first | exact (there_not _).1 hh (by omega) | omega), if_neg hq]; first | (rw [if_pos (by omega), e0]; simp; done) | (rw [if_neg (by omega), e0]; done) | (rw [if_neg (by omega), e0]; rfl))
      exact ⟨by rw [e]; rfl, K40, by rw [e]; exact H38⟩
    · rw [h33]
      have p41 : ¬ (x.shard < 1) := of_decide_eq_false h33
      refine Dr.takes (fuel' := 7) (is' := [10, 9, 8, 7, 6, 5, 4, 3, 2, 1, 0]) [10] [(0, (Value.pointer (some ⟨b, 0, none⟩))), (3, (Value.pointer (some ⟨b1, 0, none⟩))), (4, (Value.pointer (some ⟨b9, 0, none⟩))), (16, (Value.bool false)), (17, (Value.pointer (some ⟨b1, 2, none⟩)))] (by kernel_rfl) rfl (by kernel_rfl) ?_
      refine Dr.take (i := 11) (v := (i64 x.shard)) (by kernel_rfl) (by kernel_rfl) (fun wz hS => Runs.load (t := 3) (a := ⟨b1, 2, none⟩) (by kernel_rfl) ((H21.keep hS (fun h => h)).loads (by kernel_rfl))) (d := (some 18)) (by kernel_rfl) rfl ?_
      refine Dr.takes (fuel' := 3) (is' := [14, 13, 12, 11, 10, 9, 8, 7, 6, 5, 4, 3, 2, 1, 0]) [12, 13, 14] [(0, (Value.pointer (some ⟨b, 0, none⟩))), (3, (Value.pointer (some ⟨b1, 0, none⟩))), (4, (Value.pointer (some ⟨b9, 0, none⟩))), (16, (Value.bool false)), (18, (i64 x.shard)), (21, (Value.pointer (some ⟨b, 0, none⟩)))] (by kernel_rfl) rfl (by kernel_rfl) ?_
      refine Dr.take (i := 15) (v := (i64 c.shards)) (by kernel_rfl) (by kernel_rfl) (fun wz hS => Runs.load (t := 3) (a := ⟨b, 0, none⟩) (by kernel_rfl) ((H20.keep hS (fun h => h)).loads (loadC1 (by kernel_rfl) (ch_0 h.ok)))) (d := (some 22)) (by kernel_rfl) rfl ?_
      refine Dr.takes (fuel' := 0) (is' := [17, 16, 15, 14, 13, 12, 11, 10, 9, 8, 7, 6, 5, 4, 3, 2, 1, 0]) [16, 17] [(0, (Value.pointer (some ⟨b, 0, none⟩))), (3, (Value.pointer (some ⟨b1, 0, none⟩))), (4, (Value.pointer (some ⟨b9, 0, none⟩))), (24, (Value.bool (decide (x.shard > c.shards))))] (by kernel_rfl) rfl (by kernel_rfl) ?_
      refine Dr.done (by kernel_rfl) ?_
      refine q_cond (o := .tmp 24) (b := (decide (x.shard > c.shards))) (by kernel_rfl) rfl (fun h42 => ?_) (fun h42 => ?_)
      · rw [h42]
        have p43 : x.shard > c.shards := of_decide_eq_true h42
        refine q_seq (by kernel_rfl) ?_
        refine q_region (by kernel_rfl) ?_
        refine Ops.regs 1 [(0, (Value.pointer (some ⟨b, 0, none⟩))), (3, (Value.pointer (some ⟨b1, 0, none⟩))), (4, (Value.pointer (some ⟨b9, 0, none⟩))), (25, (agg [(i64 1), (Value.bool false), (i64 0)]))] (j := 1) (by kernel_rfl) (by kernel_rfl) ?_
        refine Ops.put (t := 29) (b := b9) (off := 0) (v := (agg [(i64 1), (Value.bool false), (i64 0)])) (ys := [(i64 1), (Value.bool false), (i64 0)]) (by kernel_rfl) (by kernel_rfl) H22 (by kernel_rfl) (d := none) (by kernel_rfl) rfl (fun w44 H45 K46 => ?_)
        clear H22
        have H47 := H20.keep K46 (by intro h; change b = b9 at h; omega)
        clear H20
        have H48 := H21.keep K46 (by intro h; change b1 = b9 at h; omega)
        clear H21
        have K49 := K23.trans K46 (U := (fun i => i = b)) (fun i h1 h2 => h2) (fun i h1 h2 => by have h2 : i = b9 := h2; show i = b; omega)
        clear K23
        clear K46
        refine Ops.done (by kernel_rfl) ?_
        refine q_ret (by kernel_rfl) ?_
        refine ⟨(agg [(i64 1), (Value.bool false), (i64 0)]), retv_cell rfl rfl (H45.loads (by kernel_rfl)), ?_⟩
        have e : c.doMove x = (⟨1, false, 0⟩, c) := by
          by_cases hq : c.busy
          · have e0 : c.begin_ = (0, c) := by unfold Ch.begin_; rw [if_pos hq]
            have e1 := congrArg Prod.fst e0; simp only at e1
            unfold Ch.doMove
            first | (exfalso; omega) | rw [if_pos (.inl ((there_not _).2 (by omega)))] | rw [if_pos (.inr (by omega))] | (rw [if_neg (by rintro (hh | hh) <;> first | exact (there_not _).1 hh (by omega) | omega), if_pos hq]; first | (rw [e0]; done) | (rw [e0]; rfl))
          · have e0 : c.begin_ = (c.began + 1, { c with began := c.began + 1 }) := by unfold Ch.begin_; rw [if_neg hq]
            have e1 := congrArg Prod.fst e0; simp only at e1
            unfold Ch.doMove
            first | (exfalso; omega) | rw [if_pos (.inl ((there_not _).2 (by omega)))] | rw [if_pos (.inr (by omega))] | (rw [if_neg (by rintro (hh | hh) <;> first | exact (there_not _).1 hh (by omega) | omega), if_neg hq]; first | (rw [if_pos (by omega), e0]; simp; done) | (rw [if_neg (by omega), e0]; done) | (rw [if_neg (by omega), e0]; rfl))
        exact ⟨by rw [e]; rfl, K49, by rw [e]; exact H47⟩
      · rw [h42]
        have p50 : ¬ (x.shard > c.shards) := of_decide_eq_false h42
        refine q_skip (by kernel_rfl) ?_
        refine q_seq (by kernel_rfl) ?_
        refine q_draw (fun wz => Keeps none_ w18 wz) 8 (by kernel_rfl) (by kernel_rfl) (by kernel_rfl) (fun w51 K52 _ _ => ⟨K52, ?_⟩)
        have H53 := H20.keep K52 (fun h => h)
        clear H20
        have H54 := H21.keep K52 (fun h => h)
        clear H21
        have H55 := H22.keep K52 (fun h => h)
        clear H22
        have K56 := K23.trans K52 (U := (fun i => i = b)) (fun i h1 h2 => h2) (fun i h1 h2 => by exact h2.elim)
        clear K23
        refine Dr.strong (S' := (fun wz => Keeps none_ w51 wz)) (Keeps.refl w51) (fun wz hx => K52.trans hx (fun _ _ h => h) (fun _ _ h => h)) ?_
        clear K52
        refine Dr.takes (fuel' := 6) (is' := [1, 0]) [0, 1] [(0, (Value.pointer (some ⟨b, 0, none⟩))), (3, (Value.pointer (some ⟨b1, 0, none⟩))), (4, (Value.pointer (some ⟨b9, 0, none⟩))), (26, (Value.pointer (some ⟨b, 0, none⟩))), (27, (Value.pointer (some ⟨b1, 1, none⟩)))] (by kernel_rfl) rfl (by kernel_rfl) ?_
        refine Dr.take (i := 2) (v := (i64 x.slot)) (by kernel_rfl) (by kernel_rfl) (fun wz hS => Runs.load (t := 3) (a := ⟨b1, 1, none⟩) (by kernel_rfl) ((H54.keep hS (fun h => h)).loads (by kernel_rfl))) (d := (some 28)) (by kernel_rfl) rfl ?_
        refine Dr.takes (fuel' := 3) (is' := [4, 3, 2, 1, 0]) [3, 4] [(0, (Value.pointer (some ⟨b, 0, none⟩))), (3, (Value.pointer (some ⟨b1, 0, none⟩))), (4, (Value.pointer (some ⟨b9, 0, none⟩))), (28, (i64 x.slot)), (30, (Value.pointer (some ⟨b, 1, none⟩)))] (by kernel_rfl) rfl (by kernel_rfl) ?_
        refine Dr.take (i := 5) (v := (Value.pointer (some ⟨b, 1 + (x.slot).toNat, none⟩))) (by kernel_rfl) (by kernel_rfl) (fun wz hS => Runs.ixArray (k := IntKind.i64) (t := 115) (b := b) (off := 1) (len := 16) (s := 1) (off' := 1 + (x.slot).toNat) (i := x.slot) (by kernel_rfl) (by kernel_rfl) (by omega) (by omega) (by omega)) (d := (some 31)) (by kernel_rfl) rfl ?_
        refine Dr.take (i := 6) (v := (i64 (c.owner.getD ((x.slot).toNat) 0))) (by kernel_rfl) (by kernel_rfl) (fun wz hS => Runs.load (t := 3) (a := ⟨b, 1 + (x.slot).toNat, none⟩) (by kernel_rfl) ((H53.keep hS (fun h => h)).loads (loadC1 (by kernel_rfl) (ch_own h.ok ((x.slot).toNat) (by omega))))) (d := (some 32)) (by kernel_rfl) rfl ?_
        refine Dr.takes (fuel' := 0) (is' := [7, 6, 5, 4, 3, 2, 1, 0]) [7] [(0, (Value.pointer (some ⟨b, 0, none⟩))), (3, (Value.pointer (some ⟨b1, 0, none⟩))), (4, (Value.pointer (some ⟨b9, 0, none⟩))), (5, (i64 (c.owner.getD ((x.slot).toNat) 0)))] (by kernel_rfl) rfl (by kernel_rfl) ?_
        refine Dr.done (by kernel_rfl) ?_
        refine q_seq (by kernel_rfl) ?_
        refine q_region (by kernel_rfl) ?_
        refine Ops.regs 1 [(0, (Value.pointer (some ⟨b, 0, none⟩))), (3, (Value.pointer (some ⟨b1, 0, none⟩))), (4, (Value.pointer (some ⟨b9, 0, none⟩))), (5, (i64 (c.owner.getD ((x.slot).toNat) 0))), (33, (Value.pointer (some ⟨b, 0, none⟩)))] (j := 1) (by kernel_rfl) (by kernel_rfl) ?_
        refine Ops.call (by kernel_rfl) (d := (some 34)) (by kernel_rfl) (begin_calls _ b c h H53) ?_
        rintro _ w57 ⟨rfl, K58, H59⟩
        have eB61 : c.begin_.2 = { c with began := c.begin_.2.began } := by unfold Ch.begin_; split <;> rfl
        rw [eB61] at H59
        clear eB61
        have hbB62 := Ch.Inv.begin_bd h
        have ok60 : Ch.Ok { c with began := c.begin_.2.began } := ⟨h.ok.o, h.ok.e⟩
        refine ⟨_, _, rfl, rfl, ?_⟩
        have H63 := H54.keep K58 (by intro h; change b1 = b at h; omega)
        clear H54
        have H64 := H55.keep K58 (by intro h; change b9 = b at h; omega)
        clear H55
        have K65 := K56.trans K58 (U := (fun i => i = b)) (fun i h1 h2 => h2) (fun i h1 h2 => by have h2 : i = b := h2; show i = b; omega)
        clear K56
        clear K58
        refine Ops.regs 1 [(0, (Value.pointer (some ⟨b, 0, none⟩))), (3, (Value.pointer (some ⟨b1, 0, none⟩))), (4, (Value.pointer (some ⟨b9, 0, none⟩))), (5, (i64 (c.owner.getD ((x.slot).toNat) 0))), (6, (i64 c.begin_.1))] (j := 3) (by kernel_rfl) (by kernel_rfl) ?_
        refine Ops.done (by kernel_rfl) ?_
        refine q_seq (by kernel_rfl) ?_
        refine q_block (id := 0) (by kernel_rfl) ?_
        refine q_seq (by kernel_rfl) ?_
        refine q_region (by kernel_rfl) ?_
        refine Ops.regs 3 [(0, (Value.pointer (some ⟨b, 0, none⟩))), (3, (Value.pointer (some ⟨b1, 0, none⟩))), (4, (Value.pointer (some ⟨b9, 0, none⟩))), (5, (i64 (c.owner.getD ((x.slot).toNat) 0))), (6, (i64 c.begin_.1)), (35, (Value.bool (c.begin_.1 == 0)))] (j := 3) (by kernel_rfl) (by kernel_rfl) ?_
        refine Ops.done (by kernel_rfl) ?_
        refine q_cond (o := .tmp 35) (b := (c.begin_.1 == 0)) (by kernel_rfl) rfl (fun h66 => ?_) (fun h66 => ?_)
        · rw [h66]
          have p67 : c.begin_.1 = 0 := of_beq_t h66
          refine q_seq (by kernel_rfl) ?_
          refine q_region (by kernel_rfl) ?_
          refine Ops.regs 1 [(0, (Value.pointer (some ⟨b, 0, none⟩))), (3, (Value.pointer (some ⟨b1, 0, none⟩))), (4, (Value.pointer (some ⟨b9, 0, none⟩))), (5, (i64 (c.owner.getD ((x.slot).toNat) 0))), (6, (i64 c.begin_.1)), (38, (agg [(i64 50), (Value.bool false), (i64 0)]))] (j := 1) (by kernel_rfl) (by kernel_rfl) ?_
          refine Ops.put (t := 29) (b := b9) (off := 0) (v := (agg [(i64 50), (Value.bool false), (i64 0)])) (ys := [(i64 50), (Value.bool false), (i64 0)]) (by kernel_rfl) (by kernel_rfl) H64 (by kernel_rfl) (d := none) (by kernel_rfl) rfl (fun w68 H69 K70 => ?_)
          clear H64
          have H71 := H59.keep K70 (by intro h; change b = b9 at h; omega)
          clear H59
          have H72 := H63.keep K70 (by intro h; change b1 = b9 at h; omega)
          clear H63
          have K73 := K65.trans K70 (U := (fun i => i = b)) (fun i h1 h2 => h2) (fun i h1 h2 => by have h2 : i = b9 := h2; show i = b; omega)
          clear K65
          clear K70
          refine Ops.done (by kernel_rfl) ?_
          refine q_ret (by kernel_rfl) ?_
          refine ⟨(agg [(i64 50), (Value.bool false), (i64 0)]), retv_cell rfl rfl (H69.loads (by kernel_rfl)), ?_⟩
          have e : c.doMove x = (⟨50, false, 0⟩, ({ c with began := c.begin_.2.began } : Ch)) := by
            by_cases hq : c.busy
            · have e0 : c.begin_ = (0, c) := by unfold Ch.begin_; rw [if_pos hq]
              have e1 := congrArg Prod.fst e0; simp only at e1
              unfold Ch.doMove
              first | (exfalso; omega) | rw [if_pos (.inl ((there_not _).2 (by omega)))] | rw [if_pos (.inr (by omega))] | (rw [if_neg (by rintro (hh | hh) <;> first | exact (there_not _).1 hh (by omega) | omega), if_pos hq]; first | (rw [e0]; done) | (rw [e0]; rfl))
            · have e0 : c.begin_ = (c.began + 1, { c with began := c.began + 1 }) := by unfold Ch.begin_; rw [if_neg hq]
              have e1 := congrArg Prod.fst e0; simp only at e1
              unfold Ch.doMove
              first | (exfalso; omega) | rw [if_pos (.inl ((there_not _).2 (by omega)))] | rw [if_pos (.inr (by omega))] | (rw [if_neg (by rintro (hh | hh) <;> first | exact (there_not _).1 hh (by omega) | omega), if_neg hq]; first | (rw [if_pos (by omega), e0]; simp; done) | (rw [if_neg (by omega), e0]; done) | (rw [if_neg (by omega), e0]; rfl))
          exact ⟨by rw [e]; rfl, K73, by rw [e]; exact H71⟩
        · rw [h66]
          have p74 : ¬ (c.begin_.1 = 0) := of_beq_f h66
          refine q_seq (by kernel_rfl) ?_
          refine q_region (by kernel_rfl) ?_
          refine Ops.regs 2 [(0, (Value.pointer (some ⟨b, 0, none⟩))), (3, (Value.pointer (some ⟨b1, 0, none⟩))), (4, (Value.pointer (some ⟨b9, 0, none⟩))), (5, (i64 (c.owner.getD ((x.slot).toNat) 0))), (6, (i64 c.begin_.1)), (40, (i64 (c.owner.getD ((x.slot).toNat) 0))), (41, (Value.pointer (some ⟨b1, 2, none⟩)))] (j := 2) (by kernel_rfl) (by kernel_rfl) ?_
          refine Ops.go (v := (i64 x.shard)) (by kernel_rfl) (Runs.load (t := 3) (a := ⟨b1, 2, none⟩) (by kernel_rfl) (H63.loads (by kernel_rfl))) (d := (some 42)) (by kernel_rfl) rfl ?_
          refine Ops.regs 2 [(0, (Value.pointer (some ⟨b, 0, none⟩))), (3, (Value.pointer (some ⟨b1, 0, none⟩))), (4, (Value.pointer (some ⟨b9, 0, none⟩))), (5, (i64 (c.owner.getD ((x.slot).toNat) 0))), (6, (i64 c.begin_.1)), (39, (Value.bool ((c.owner.getD ((x.slot).toNat) 0) == x.shard)))] (j := 5) (by kernel_rfl) (by kernel_rfl) ?_
          refine Ops.done (by kernel_rfl) ?_
          refine q_cond (o := .tmp 39) (b := ((c.owner.getD ((x.slot).toNat) 0) == x.shard)) (by kernel_rfl) rfl (fun h75 => ?_) (fun h75 => ?_)
          · rw [h75]
            have p76 : c.owner.getD ((x.slot).toNat) 0 = x.shard := of_beq_t h75
            refine q_seq (by kernel_rfl) ?_
            refine q_region (by kernel_rfl) ?_
            refine Ops.regs 3 [(0, (Value.pointer (some ⟨b, 0, none⟩))), (3, (Value.pointer (some ⟨b1, 0, none⟩))), (4, (Value.pointer (some ⟨b9, 0, none⟩))), (5, (i64 (c.owner.getD ((x.slot).toNat) 0))), (6, (i64 c.begin_.1)), (44, (Value.pointer (some ⟨b, 0, none⟩))), (46, (Value.pointer (some ⟨b, 33, none⟩)))] (j := 3) (by kernel_rfl) (by kernel_rfl) ?_
            refine Ops.go (v := (i64 c.begin_.2.began)) (by kernel_rfl) (Runs.load (t := 2) (a := ⟨b, 33, none⟩) (by kernel_rfl) (H59.loads (loadC1 (by kernel_rfl) (ch_33 ok60)))) (d := (some 47)) (by kernel_rfl) rfl ?_
            refine Ops.regs 1 [(0, (Value.pointer (some ⟨b, 0, none⟩))), (3, (Value.pointer (some ⟨b1, 0, none⟩))), (4, (Value.pointer (some ⟨b9, 0, none⟩))), (5, (i64 (c.owner.getD ((x.slot).toNat) 0))), (6, (i64 c.begin_.1)), (44, (Value.pointer (some ⟨b, 0, none⟩))), (48, (i64 (IntKind.i64.wrap (c.begin_.2.began - 1))))] (j := 5) (by kernel_rfl) (by kernel_rfl) ?_
            have e77 : IntKind.i64.wrap (c.begin_.2.began - 1) = c.begin_.2.began - 1 := wrap_i64 (by omega) (by omega)
            rw [e77]
            refine Ops.regs 2 [(0, (Value.pointer (some ⟨b, 0, none⟩))), (3, (Value.pointer (some ⟨b1, 0, none⟩))), (4, (Value.pointer (some ⟨b9, 0, none⟩))), (5, (i64 (c.owner.getD ((x.slot).toNat) 0))), (6, (i64 c.begin_.1)), (48, (i64 (c.begin_.2.began - 1))), (50, (Value.pointer (some ⟨b, 33, none⟩)))] (j := 7) (by kernel_rfl) (by kernel_rfl) ?_
            have ok78 : Ch.Ok ({ c with began := c.begin_.2.began - 1 } : Ch) := ⟨ok60.o, ok60.e⟩
            refine Ops.put (t := 2) (b := b) (off := 33) (v := (i64 (c.begin_.2.began - 1))) (ys := (chL ({ c with began := c.begin_.2.began - 1 } : Ch))) (by kernel_rfl) (by kernel_rfl) H59 (storeC1 (by kernel_rfl) rfl (by rw [chL_length ok60]; exact Nat.le_of_ble_eq_true rfl) (chs_33 ok60 _)) (d := none) (by kernel_rfl) rfl (fun w79 H80 K81 => ?_)
            clear H59
            have H82 := H63.keep K81 (by intro h; change b1 = b at h; omega)
            clear H63
            have H83 := H64.keep K81 (by intro h; change b9 = b at h; omega)
            clear H64
            have K84 := K65.trans K81 (U := (fun i => i = b)) (fun i h1 h2 => h2) (fun i h1 h2 => by have h2 : i = b := h2; show i = b; omega)
            clear K65
            clear K81
            refine Ops.done (by kernel_rfl) ?_
            refine q_seq (by kernel_rfl) ?_
            refine q_region (by kernel_rfl) ?_
            refine Ops.regs 1 [(0, (Value.pointer (some ⟨b, 0, none⟩))), (3, (Value.pointer (some ⟨b1, 0, none⟩))), (4, (Value.pointer (some ⟨b9, 0, none⟩))), (5, (i64 (c.owner.getD ((x.slot).toNat) 0))), (6, (i64 c.begin_.1)), (51, (agg [(i64 0), (Value.bool false), (i64 0)]))] (j := 1) (by kernel_rfl) (by kernel_rfl) ?_
            refine Ops.put (t := 29) (b := b9) (off := 0) (v := (agg [(i64 0), (Value.bool false), (i64 0)])) (ys := [(i64 0), (Value.bool false), (i64 0)]) (by kernel_rfl) (by kernel_rfl) H83 (by kernel_rfl) (d := none) (by kernel_rfl) rfl (fun w85 H86 K87 => ?_)
            clear H83
            have H88 := H80.keep K87 (by intro h; change b = b9 at h; omega)
            clear H80
            have H89 := H82.keep K87 (by intro h; change b1 = b9 at h; omega)
            clear H82
            have K90 := K84.trans K87 (U := (fun i => i = b)) (fun i h1 h2 => h2) (fun i h1 h2 => by have h2 : i = b9 := h2; show i = b; omega)
            clear K84
            clear K87
            refine Ops.done (by kernel_rfl) ?_
            refine q_ret (by kernel_rfl) ?_
            refine ⟨(agg [(i64 0), (Value.bool false), (i64 0)]), retv_cell rfl rfl (H86.loads (by kernel_rfl)), ?_⟩
            have e : c.doMove x = (⟨0, false, 0⟩, ({ c with began := c.begin_.2.began - 1 } : Ch)) := by
              by_cases hq : c.busy
              · have e0 : c.begin_ = (0, c) := by unfold Ch.begin_; rw [if_pos hq]
                have e1 := congrArg Prod.fst e0; simp only at e1
                unfold Ch.doMove
                first | (exfalso; omega) | rw [if_pos (.inl ((there_not _).2 (by omega)))] | rw [if_pos (.inr (by omega))] | (rw [if_neg (by rintro (hh | hh) <;> first | exact (there_not _).1 hh (by omega) | omega), if_pos hq]; first | (rw [e0]; done) | (rw [e0]; rfl))
              · have e0 : c.begin_ = (c.began + 1, { c with began := c.began + 1 }) := by unfold Ch.begin_; rw [if_neg hq]
                have e1 := congrArg Prod.fst e0; simp only at e1
                unfold Ch.doMove
                first | (exfalso; omega) | rw [if_pos (.inl ((there_not _).2 (by omega)))] | rw [if_pos (.inr (by omega))] | (rw [if_neg (by rintro (hh | hh) <;> first | exact (there_not _).1 hh (by omega) | omega), if_neg hq]; first | (rw [if_pos (by omega), e0]; simp; done) | (rw [if_neg (by omega), e0]; done) | (rw [if_neg (by omega), e0]; rfl))
            exact ⟨by rw [e]; rfl, K90, by rw [e]; exact H88⟩
          · rw [h75]
            have p91 : ¬ (c.owner.getD ((x.slot).toNat) 0 = x.shard) := of_beq_f h75
            refine q_skip (by kernel_rfl) ?_
            refine q_seq (by kernel_rfl) ?_
            refine q_draw (fun wz => Keeps (fun i => i = b) w57 wz ∧ Loads Try.prog wz 2 ⟨b, 17 + (x.slot).toNat, none⟩ (i64 (c.epoch.getD ((x.slot).toNat) 0)) ∧ Loads Try.prog wz 2 ⟨b, 17 + (x.slot).toNat, none⟩ (i64 (c.epoch.getD ((x.slot).toNat) 0))) 19 (by kernel_rfl) (by kernel_rfl) (by kernel_rfl) (fun w92 K93 _ _ => ⟨⟨(K93.mono (fun _ _ h => h.elim)), ((H59.keep K93 (fun h => h)).loads (loadC1 (by kernel_rfl) (ch_ep ok60 ((x.slot).toNat) (by omega)))), ((H59.keep K93 (fun h => h)).loads (loadC1 (by kernel_rfl) (ch_ep ok60 ((x.slot).toNat) (by omega))))⟩, ?_⟩)
            have H94 := H59.keep K93 (fun h => h)
            clear H59
            have H95 := H63.keep K93 (fun h => h)
            clear H63
            have H96 := H64.keep K93 (fun h => h)
            clear H64
            have K97 := K65.trans K93 (U := (fun i => i = b)) (fun i h1 h2 => h2) (fun i h1 h2 => by exact h2.elim)
            clear K65
            refine Dr.strong (S' := (fun wz => Keeps (fun i => i = b) w92 wz ∧ Loads Try.prog wz 2 ⟨b, 17 + (x.slot).toNat, none⟩ (i64 (c.epoch.getD ((x.slot).toNat) 0)) ∧ Loads Try.prog wz 2 ⟨b, 17 + (x.slot).toNat, none⟩ (i64 (c.epoch.getD ((x.slot).toNat) 0)))) ⟨((Keeps.refl w92).mono (fun _ _ h => h.elim)), (H94.loads (loadC1 (by kernel_rfl) (ch_ep ok60 ((x.slot).toNat) (by omega)))), (H94.loads (loadC1 (by kernel_rfl) (ch_ep ok60 ((x.slot).toNat) (by omega))))⟩ (fun wz hx => ⟨K93.trans hx.1 (fun _ _ h => h.elim) (fun _ _ h => h), hx.2⟩) ?_
            clear K93
            refine Dr.takes (fuel' := 17) (is' := [1, 0]) [0, 1] [(0, (Value.pointer (some ⟨b, 0, none⟩))), (3, (Value.pointer (some ⟨b1, 0, none⟩))), (4, (Value.pointer (some ⟨b9, 0, none⟩))), (5, (i64 (c.owner.getD ((x.slot).toNat) 0))), (6, (i64 c.begin_.1)), (52, (Value.pointer (some ⟨b, 0, none⟩))), (53, (Value.pointer (some ⟨b1, 1, none⟩)))] (by kernel_rfl) rfl (by kernel_rfl) ?_
            refine Dr.take (i := 2) (v := (i64 x.slot)) (by kernel_rfl) (by kernel_rfl) (fun wz hS => Runs.load (t := 3) (a := ⟨b1, 1, none⟩) (by kernel_rfl) ((H95.keep hS.1 (by intro h; change b1 = b at h; omega)).loads (by kernel_rfl))) (d := (some 54)) (by kernel_rfl) rfl ?_
            refine Dr.takes (fuel' := 14) (is' := [4, 3, 2, 1, 0]) [3, 4] [(0, (Value.pointer (some ⟨b, 0, none⟩))), (3, (Value.pointer (some ⟨b1, 0, none⟩))), (4, (Value.pointer (some ⟨b9, 0, none⟩))), (6, (i64 c.begin_.1)), (52, (Value.pointer (some ⟨b, 0, none⟩))), (54, (i64 x.slot)), (55, (i64 (c.owner.getD ((x.slot).toNat) 0))), (56, (Value.pointer (some ⟨b1, 2, none⟩)))] (by kernel_rfl) rfl (by kernel_rfl) ?_
            refine Dr.take (i := 5) (v := (i64 x.shard)) (by kernel_rfl) (by kernel_rfl) (fun wz hS => Runs.load (t := 3) (a := ⟨b1, 2, none⟩) (by kernel_rfl) ((H95.keep hS.1 (by intro h; change b1 = b at h; omega)).loads (by kernel_rfl))) (d := (some 57)) (by kernel_rfl) rfl ?_
            refine Dr.takes (fuel' := 11) (is' := [7, 6, 5, 4, 3, 2, 1, 0]) [6, 7] [(4, (Value.pointer (some ⟨b9, 0, none⟩))), (6, (i64 c.begin_.1)), (52, (Value.pointer (some ⟨b, 0, none⟩))), (54, (i64 x.slot)), (55, (i64 (c.owner.getD ((x.slot).toNat) 0))), (57, (i64 x.shard)), (58, (Value.pointer (some ⟨b, 0, none⟩))), (59, (Value.pointer (some ⟨b1, 1, none⟩)))] (by kernel_rfl) rfl (by kernel_rfl) ?_
            refine Dr.take (i := 8) (v := (i64 x.slot)) (by kernel_rfl) (by kernel_rfl) (fun wz hS => Runs.load (t := 3) (a := ⟨b1, 1, none⟩) (by kernel_rfl) ((H95.keep hS.1 (by intro h; change b1 = b at h; omega)).loads (by kernel_rfl))) (d := (some 60)) (by kernel_rfl) rfl ?_
            refine Dr.takes (fuel' := 8) (is' := [10, 9, 8, 7, 6, 5, 4, 3, 2, 1, 0]) [9, 10] [(4, (Value.pointer (some ⟨b9, 0, none⟩))), (6, (i64 c.begin_.1)), (52, (Value.pointer (some ⟨b, 0, none⟩))), (54, (i64 x.slot)), (55, (i64 (c.owner.getD ((x.slot).toNat) 0))), (57, (i64 x.shard)), (60, (i64 x.slot)), (62, (Value.pointer (some ⟨b, 17, none⟩)))] (by kernel_rfl) rfl (by kernel_rfl) ?_
            refine Dr.take (i := 11) (v := (Value.pointer (some ⟨b, 17 + (x.slot).toNat, none⟩))) (by kernel_rfl) (by kernel_rfl) (fun wz hS => Runs.ixArray (k := IntKind.i64) (t := 116) (b := b) (off := 17) (len := 16) (s := 1) (off' := 17 + (x.slot).toNat) (i := x.slot) (by kernel_rfl) (by kernel_rfl) (by omega) (by omega) (by omega)) (d := (some 63)) (by kernel_rfl) rfl ?_
            refine Dr.take (i := 12) (v := (i64 (c.epoch.getD ((x.slot).toNat) 0))) (by kernel_rfl) (by kernel_rfl) (fun wz hS => Runs.load (t := 2) (a := ⟨b, 17 + (x.slot).toNat, none⟩) (by kernel_rfl) hS.2.1) (d := (some 64)) (by kernel_rfl) rfl ?_
            refine Dr.takes (fuel' := 5) (is' := [13, 12, 11, 10, 9, 8, 7, 6, 5, 4, 3, 2, 1, 0]) [13] [(4, (Value.pointer (some ⟨b9, 0, none⟩))), (6, (i64 c.begin_.1)), (52, (Value.pointer (some ⟨b, 0, none⟩))), (54, (i64 x.slot)), (55, (i64 (c.owner.getD ((x.slot).toNat) 0))), (57, (i64 x.shard)), (65, (i64 (IntKind.i64.wrap ((c.epoch.getD ((x.slot).toNat) 0) + 1))))] (by kernel_rfl) rfl (by kernel_rfl) ?_
            have := hep ((x.slot).toNat) (by omega)
            have e98 : IntKind.i64.wrap ((c.epoch.getD ((x.slot).toNat) 0) + 1) = (c.epoch.getD ((x.slot).toNat) 0) + 1 := wrap_i64 (by omega) (by omega)
            rw [e98]
            refine Dr.takes (fuel' := 1) (is' := [17, 16, 15, 14, 13, 12, 11, 10, 9, 8, 7, 6, 5, 4, 3, 2, 1, 0]) [14, 15, 16, 17] [(4, (Value.pointer (some ⟨b9, 0, none⟩))), (6, (i64 c.begin_.1)), (67, (agg [(i64 x.slot), (i64 (c.owner.getD ((x.slot).toNat) 0)), (i64 x.shard), (i64 ((c.epoch.getD ((x.slot).toNat) 0) + 1)), (i64 1), (i64 c.begin_.1)])), (69, (Value.pointer (some ⟨b, 34, none⟩)))] (by kernel_rfl) rfl (by kernel_rfl) ?_
            have ok99 : Ch.Ok ({ c with began := c.begin_.2.began, ms := x.slot, mf := c.owner.getD ((x.slot).toNat) 0, mt := x.shard, me := (c.epoch.getD ((x.slot).toNat) 0) + 1, mp := 1, mn := c.begin_.1 } : Ch) := ⟨ok60.o, ok60.e⟩
            refine Dr.put (i := 18) (t := 34) (b := b) (off := 34) (v := (agg [(i64 x.slot), (i64 (c.owner.getD ((x.slot).toNat) 0)), (i64 x.shard), (i64 ((c.epoch.getD ((x.slot).toNat) 0) + 1)), (i64 1), (i64 c.begin_.1)])) (ys := (chL ({ c with began := c.begin_.2.began, ms := x.slot, mf := c.owner.getD ((x.slot).toNat) 0, mt := x.shard, me := (c.epoch.getD ((x.slot).toNat) 0) + 1, mp := 1, mn := c.begin_.1 } : Ch))) (by kernel_rfl) (by kernel_rfl) (by kernel_rfl) H94 (storeCN (vs := [(i64 x.slot), (i64 (c.owner.getD ((x.slot).toNat) 0)), (i64 x.shard), (i64 ((c.epoch.getD ((x.slot).toNat) 0) + 1)), (i64 1), (i64 c.begin_.1)]) (by kernel_rfl) (by kernel_rfl) (by rw [chL_length ok60]; exact Nat.le_of_ble_eq_true rfl) (chs_move ok60 _ _ _ _ _ _)) (d := none) (by kernel_rfl) rfl (fun w100 H101 K102 => ?_)
            clear H94
            have H103 := H95.keep K102 (by intro h; change b1 = b at h; omega)
            clear H95
            have H104 := H96.keep K102 (by intro h; change b9 = b at h; omega)
            clear H96
            have K105 := K97.trans K102 (U := (fun i => i = b)) (fun i h1 h2 => h2) (fun i h1 h2 => by have h2 : i = b := h2; show i = b; omega)
            clear K97
            refine ⟨⟨K102, (H101.loads (loadC1 (by kernel_rfl) (ch_ep ok99 ((x.slot).toNat) (by omega)))), (H101.loads (loadC1 (by kernel_rfl) (ch_ep ok99 ((x.slot).toNat) (by omega))))⟩, ?_⟩
            refine Dr.strong (S' := (fun wz => Keeps (fun i => i = b) w100 wz ∧ Loads Try.prog wz 2 ⟨b, 17 + (x.slot).toNat, none⟩ (i64 (c.epoch.getD ((x.slot).toNat) 0)) ∧ Loads Try.prog wz 2 ⟨b, 17 + (x.slot).toNat, none⟩ (i64 (c.epoch.getD ((x.slot).toNat) 0)))) ⟨((Keeps.refl w100).mono (fun _ _ h => h.elim)), (H101.loads (loadC1 (by kernel_rfl) (ch_ep ok99 ((x.slot).toNat) (by omega)))), (H101.loads (loadC1 (by kernel_rfl) (ch_ep ok99 ((x.slot).toNat) (by omega))))⟩ (fun wz hx => ⟨K102.trans hx.1 (fun _ _ h => by have h : _ = b := h; show _ = b; omega) (fun _ _ h => h), hx.2⟩) ?_
            clear K102
            refine Dr.done (by kernel_rfl) ?_
            refine q_seq (by kernel_rfl) ?_
            refine q_region (by kernel_rfl) ?_
            refine Ops.regs 2 [(4, (Value.pointer (some ⟨b9, 0, none⟩))), (71, (agg [(i64 0), (Value.bool true), (i64 c.begin_.1)]))] (j := 2) (by kernel_rfl) (by kernel_rfl) ?_
            refine Ops.put (t := 29) (b := b9) (off := 0) (v := (agg [(i64 0), (Value.bool true), (i64 c.begin_.1)])) (ys := [(i64 0), (Value.bool true), (i64 c.begin_.1)]) (by kernel_rfl) (by kernel_rfl) H104 (by kernel_rfl) (d := none) (by kernel_rfl) rfl (fun w106 H107 K108 => ?_)
            clear H104
            have H109 := H101.keep K108 (by intro h; change b = b9 at h; omega)
            clear H101
            have H110 := H103.keep K108 (by intro h; change b1 = b9 at h; omega)
            clear H103
            have K111 := K105.trans K108 (U := (fun i => i = b)) (fun i h1 h2 => h2) (fun i h1 h2 => by have h2 : i = b9 := h2; show i = b; omega)
            clear K105
            clear K108
            refine Ops.done (by kernel_rfl) ?_
            refine q_ret (by kernel_rfl) ?_
            refine ⟨(agg [(i64 0), (Value.bool true), (i64 c.begin_.1)]), retv_cell rfl rfl (H107.loads (by kernel_rfl)), ?_⟩
            have e : c.doMove x = (⟨0, true, c.begin_.1⟩, ({ c with began := c.begin_.2.began, ms := x.slot, mf := c.owner.getD ((x.slot).toNat) 0, mt := x.shard, me := (c.epoch.getD ((x.slot).toNat) 0) + 1, mp := 1, mn := c.begin_.1 } : Ch)) := by
              by_cases hq : c.busy
              · have e0 : c.begin_ = (0, c) := by unfold Ch.begin_; rw [if_pos hq]
                have e1 := congrArg Prod.fst e0; simp only at e1
                unfold Ch.doMove
                first | (exfalso; omega) | rw [if_pos (.inl ((there_not _).2 (by omega)))] | rw [if_pos (.inr (by omega))] | (rw [if_neg (by rintro (hh | hh) <;> first | exact (there_not _).1 hh (by omega) | omega), if_pos hq]; first | (rw [e0]; done) | (rw [e0]; rfl))
              · have e0 : c.begin_ = (c.began + 1, { c with began := c.began + 1 }) := by unfold Ch.begin_; rw [if_neg hq]
                have e1 := congrArg Prod.fst e0; simp only at e1
                unfold Ch.doMove
                first | (exfalso; omega) | rw [if_pos (.inl ((there_not _).2 (by omega)))] | rw [if_pos (.inr (by omega))] | (rw [if_neg (by rintro (hh | hh) <;> first | exact (there_not _).1 hh (by omega) | omega), if_neg hq]; first | (rw [if_pos (by omega), e0]; simp; done) | (rw [if_neg (by omega), e0]; done) | (rw [if_neg (by omega), e0]; rfl))
            exact ⟨by rw [e]; rfl, K111, by rw [e]; exact H109⟩

theorem Do_calls (w : World) (b : Nat) (c : Ch) (x : Cmd) (h : c.Inv) (H0 : Has w b (rowL (chL c) 118)) : Calls Try.prog 16 ⟨[(Value.pointer (some ⟨b, 0, none⟩)), (agg [(i64 x.kind), (i64 x.slot), (i64 x.shard), (i64 x.n), (i64 x.phase)])]⟩ w (fun e w' => e = .returned (c.do_ x).1.v ∧ Keeps (fun i => i = b) w w' ∧ Has w' b (rowL (chL (c.do_ x).2) 118)) := by
  have K0 : Keeps (fun i => i = b) w w := (Keeps.refl w).mono (fun _ _ h => h.elim)
  have Hb := H0.lt
  refine q_calls Try.func16 (by kernel_rfl) (by kernel_rfl) ?_
  refine q_seq (by kernel_rfl) ?_
  refine q_region (by kernel_rfl) ?_
  refine Ops.new (o := rowL [(i64 x.kind), (i64 x.slot), (i64 x.shard), (i64 x.n), (i64 x.phase)] 32) (V := fun b => (Value.pointer (some ⟨b, 0, none⟩))) (by kernel_rfl) (d := (some 3)) (by kernel_rfl) (fun b => rfl) (fun b1 w2 hb3 H4 K5 hs6 => ?_)
  have lb1 : b < b1 := by have := H0.lt; omega
  have nb1 : w.heap.size ≤ b1 := by have := K0.size; omega
  have H7 := H0.keep K5 (fun h => h)
  clear H0
  have K8 := K0.trans K5 (U := (fun i => i = b)) (fun i h1 h2 => h2) (fun i h1 h2 => by exact h2.elim)
  clear K0
  clear K5 hs6
  refine Ops.new (o := rowL [(i64 0), (Value.bool false), (i64 0)] 29) (V := fun b => (Value.pointer (some ⟨b, 0, none⟩))) (by kernel_rfl) (d := (some 4)) (by kernel_rfl) (fun b => rfl) (fun b9 w10 hb11 H12 K13 hs14 => ?_)
  have lb9 : b1 < b9 := by have := H4.lt; omega
  have nb9 : w.heap.size ≤ b9 := by have := K8.size; omega
  have H15 := H7.keep K13 (fun h => h)
  clear H7
  have H16 := H4.keep K13 (fun h => h)
  clear H4
  have K17 := K8.trans K13 (U := (fun i => i = b)) (fun i h1 h2 => h2) (fun i h1 h2 => by exact h2.elim)
  clear K8
  clear K13 hs14
  refine Ops.done (by kernel_rfl) ?_
  refine q_seq (by kernel_rfl) ?_
  refine q_seq (by kernel_rfl) ?_
  refine q_region (by kernel_rfl) ?_
  refine Ops.regs 2 [(0, (Value.pointer (some ⟨b, 0, none⟩))), (3, (Value.pointer (some ⟨b1, 0, none⟩))), (4, (Value.pointer (some ⟨b9, 0, none⟩))), (8, (Value.bool false))] (j := 2) (by kernel_rfl) (by kernel_rfl) ?_
  refine Ops.done (by kernel_rfl) ?_
  refine q_else (o := .tmp 8) (by kernel_rfl) rfl ?_
  refine q_skip (by kernel_rfl) ?_
  refine q_seq (by kernel_rfl) ?_
  refine q_seq (by kernel_rfl) ?_
  refine q_region (by kernel_rfl) ?_
  refine Ops.regs 15 [(3, (Value.pointer (some ⟨b1, 0, none⟩))), (4, (Value.pointer (some ⟨b9, 0, none⟩))), (12, (agg [(i64 1), (Value.func (Fn.func 59) ⟨[(Value.pointer (some ⟨b, 0, none⟩))]⟩ ⟨[]⟩)])), (15, (agg [(i64 2), (Value.func (Fn.func 60) ⟨[(Value.pointer (some ⟨b, 0, none⟩))]⟩ ⟨[]⟩)])), (18, (agg [(i64 3), (Value.func (Fn.func 61) ⟨[(Value.pointer (some ⟨b, 0, none⟩))]⟩ ⟨[]⟩)])), (21, (agg [(i64 4), (Value.func (Fn.func 62) ⟨[(Value.pointer (some ⟨b, 0, none⟩))]⟩ ⟨[]⟩)])), (24, (agg [(i64 5), (Value.func (Fn.func 63) ⟨[(Value.pointer (some ⟨b, 0, none⟩))]⟩ ⟨[]⟩)]))] (j := 15) (by kernel_rfl) (by kernel_rfl) ?_
  refine Ops.new (o := rowL [(i64 1), (Value.func (Fn.func 59) ⟨[(Value.pointer (some ⟨b, 0, none⟩))]⟩ ⟨[]⟩), (i64 2), (Value.func (Fn.func 60) ⟨[(Value.pointer (some ⟨b, 0, none⟩))]⟩ ⟨[]⟩), (i64 3), (Value.func (Fn.func 61) ⟨[(Value.pointer (some ⟨b, 0, none⟩))]⟩ ⟨[]⟩), (i64 4), (Value.func (Fn.func 62) ⟨[(Value.pointer (some ⟨b, 0, none⟩))]⟩ ⟨[]⟩), (i64 5), (Value.func (Fn.func 63) ⟨[(Value.pointer (some ⟨b, 0, none⟩))]⟩ ⟨[]⟩)] 121) (V := fun b => (Value.slice (some ⟨b, 0, none⟩) 5 5)) (by kernel_rfl) (d := (some 25)) (by kernel_rfl) (fun b => rfl) (fun b18 w19 hb20 H21 K22 hs23 => ?_)
  have lb18 : b9 < b18 := by have := H12.lt; omega
  have nb18 : w.heap.size ≤ b18 := by have := K17.size; omega
  have H24 := H15.keep K22 (fun h => h)
  clear H15
  have H25 := H16.keep K22 (fun h => h)
  clear H16
  have H26 := H12.keep K22 (fun h => h)
  clear H12
  have K27 := K17.trans K22 (U := (fun i => i = b)) (fun i h1 h2 => h2) (fun i h1 h2 => by exact h2.elim)
  clear K17
  clear K22 hs23
  refine Ops.regs 2 [(3, (Value.pointer (some ⟨b1, 0, none⟩))), (4, (Value.pointer (some ⟨b9, 0, none⟩))), (25, (Value.slice (some ⟨b18, 0, none⟩) 5 5)), (26, (i64 5)), (27, (i64 0))] (j := 18) (by kernel_rfl) (by kernel_rfl) ?_
  refine Ops.done (by kernel_rfl) ?_
  refine q_block (id := 0) (by kernel_rfl) ?_
  refine q_roll 6 (by kernel_rfl) ?_
  refine roll_step ?_
  refine q_seq (by kernel_rfl) ?_
  refine q_region (by kernel_rfl) ?_
  refine Ops.regs 1 [(3, (Value.pointer (some ⟨b1, 0, none⟩))), (4, (Value.pointer (some ⟨b9, 0, none⟩))), (25, (Value.slice (some ⟨b18, 0, none⟩) 5 5)), (26, (i64 5)), (27, (i64 0)), (28, (Value.bool true))] (j := 1) (by kernel_rfl) (by kernel_rfl) ?_
  refine Ops.done (by kernel_rfl) ?_
  refine q_seq (by kernel_rfl) ?_
  refine q_then (o := .tmp 28) (by kernel_rfl) rfl ?_
  refine q_skip (by kernel_rfl) ?_
  refine q_seq (by kernel_rfl) ?_
  refine q_block (id := 1) (by kernel_rfl) ?_
  refine q_seq (by kernel_rfl) ?_
  refine q_region (by kernel_rfl) ?_
  refine Ops.regs 1 [(3, (Value.pointer (some ⟨b1, 0, none⟩))), (4, (Value.pointer (some ⟨b9, 0, none⟩))), (25, (Value.slice (some ⟨b18, 0, none⟩) 5 5)), (26, (i64 5)), (27, (i64 0)), (28, (Value.bool true)), (29, (Value.pointer (some ⟨b18, 0, none⟩)))] (j := 1) (by kernel_rfl) (by kernel_rfl) ?_
  refine Ops.go (v := (agg [(i64 1), (Value.func (Fn.func 59) ⟨[(Value.pointer (some ⟨b, 0, none⟩))]⟩ ⟨[]⟩)])) (by kernel_rfl) (Runs.load (t := 121) (a := ⟨b18, 0, none⟩) (by kernel_rfl) (H21.loads (by kernel_rfl))) (d := (some 30)) (by kernel_rfl) rfl ?_
  refine Ops.new (o := rowL [(i64 0), Value.nilFunc] 121) (V := fun b => (Value.pointer (some ⟨b, 0, none⟩))) (by kernel_rfl) (d := (some 6)) (by kernel_rfl) (fun b => rfl) (fun b28 w29 hb30 H31 K32 hs33 => ?_)
  have lb28 : b18 < b28 := by have := H21.lt; omega
  have nb28 : w.heap.size ≤ b28 := by have := K27.size; omega
  have H34 := H24.keep K32 (fun h => h)
  clear H24
  have H35 := H25.keep K32 (fun h => h)
  clear H25
  have H36 := H26.keep K32 (fun h => h)
  clear H26
  have H37 := H21.keep K32 (fun h => h)
  clear H21
  have K38 := K27.trans K32 (U := (fun i => i = b)) (fun i h1 h2 => h2) (fun i h1 h2 => by exact h2.elim)
  clear K27
  clear K32 hs33
  refine Ops.put (t := 121) (b := b28) (off := 0) (v := (agg [(i64 1), (Value.func (Fn.func 59) ⟨[(Value.pointer (some ⟨b, 0, none⟩))]⟩ ⟨[]⟩)])) (ys := [(i64 1), (Value.func (Fn.func 59) ⟨[(Value.pointer (some ⟨b, 0, none⟩))]⟩ ⟨[]⟩)]) (by kernel_rfl) (by kernel_rfl) H31 (by kernel_rfl) (d := none) (by kernel_rfl) rfl (fun w39 H40 K41 => ?_)
  clear H31
  have H42 := H34.keep K41 (by intro h; change b = b28 at h; omega)
  clear H34
  have H43 := H35.keep K41 (by intro h; change b1 = b28 at h; omega)
  clear H35
  have H44 := H36.keep K41 (by intro h; change b9 = b28 at h; omega)
  clear H36
  have H45 := H37.keep K41 (by intro h; change b18 = b28 at h; omega)
  clear H37
  have K46 := K38.trans K41 (U := (fun i => i = b)) (fun i h1 h2 => h2) (fun i h1 h2 => by have h2 : i = b28 := h2; show i = b; omega)
  clear K38
  clear K41
  refine Ops.done (by kernel_rfl) ?_
  refine q_seq (by kernel_rfl) ?_
  refine q_region (by kernel_rfl) ?_
  refine Ops.regs 1 [(3, (Value.pointer (some ⟨b1, 0, none⟩))), (4, (Value.pointer (some ⟨b9, 0, none⟩))), (6, (Value.pointer (some ⟨b28, 0, none⟩))), (25, (Value.slice (some ⟨b18, 0, none⟩) 5 5)), (26, (i64 5)), (27, (i64 0)), (28, (Value.bool true)), (31, (Value.pointer (some ⟨b28, 0, none⟩)))] (j := 1) (by kernel_rfl) (by kernel_rfl) ?_
  refine Ops.go (v := (i64 1)) (by kernel_rfl) (Runs.load (t := 3) (a := ⟨b28, 0, none⟩) (by kernel_rfl) (H40.loads (by kernel_rfl))) (d := (some 32)) (by kernel_rfl) rfl ?_
  refine Ops.regs 1 [(3, (Value.pointer (some ⟨b1, 0, none⟩))), (4, (Value.pointer (some ⟨b9, 0, none⟩))), (6, (Value.pointer (some ⟨b28, 0, none⟩))), (25, (Value.slice (some ⟨b18, 0, none⟩) 5 5)), (26, (i64 5)), (27, (i64 0)), (28, (Value.bool true)), (32, (i64 1)), (33, (Value.pointer (some ⟨b1, 0, none⟩)))] (j := 3) (by kernel_rfl) (by kernel_rfl) ?_
  refine Ops.go (v := (i64 x.kind)) (by kernel_rfl) (Runs.load (t := 3) (a := ⟨b1, 0, none⟩) (by kernel_rfl) (H43.loads (by kernel_rfl))) (d := (some 34)) (by kernel_rfl) rfl ?_
  refine Ops.regs 1 [(3, (Value.pointer (some ⟨b1, 0, none⟩))), (4, (Value.pointer (some ⟨b9, 0, none⟩))), (6, (Value.pointer (some ⟨b28, 0, none⟩))), (25, (Value.slice (some ⟨b18, 0, none⟩) 5 5)), (26, (i64 5)), (27, (i64 0)), (28, (Value.bool true)), (35, (Value.bool (1 == x.kind)))] (j := 5) (by kernel_rfl) (by kernel_rfl) ?_
  refine Ops.done (by kernel_rfl) ?_
  refine q_cond (o := .tmp 35) (b := (1 == x.kind)) (by kernel_rfl) rfl (fun h47 => ?_) (fun h47 => ?_)
  · rw [h47]
    have p48 : 1 = x.kind := of_beq_t h47
    refine q_seq (by kernel_rfl) ?_
    refine q_region (by kernel_rfl) ?_
    refine Ops.regs 1 [(3, (Value.pointer (some ⟨b1, 0, none⟩))), (4, (Value.pointer (some ⟨b9, 0, none⟩))), (6, (Value.pointer (some ⟨b28, 0, none⟩))), (25, (Value.slice (some ⟨b18, 0, none⟩) 5 5)), (26, (i64 5)), (27, (i64 0)), (28, (Value.bool true)), (35, (Value.bool true)), (36, (Value.pointer (some ⟨b28, 1, none⟩)))] (j := 1) (by kernel_rfl) (by kernel_rfl) ?_
    refine Ops.go (v := (Value.func (Fn.func 59) ⟨[(Value.pointer (some ⟨b, 0, none⟩))]⟩ ⟨[]⟩)) (by kernel_rfl) (Runs.load (t := 30) (a := ⟨b28, 1, none⟩) (by kernel_rfl) (H40.loads (by kernel_rfl))) (d := (some 37)) (by kernel_rfl) rfl ?_
    refine Ops.go (v := (agg [(i64 x.kind), (i64 x.slot), (i64 x.shard), (i64 x.n), (i64 x.phase)])) (by kernel_rfl) (Runs.load (t := 32) (a := ⟨b1, 0, none⟩) (by kernel_rfl) (H43.loads (by kernel_rfl))) (d := (some 38)) (by kernel_rfl) rfl ?_
    refine Ops.call (by kernel_rfl) (d := (some 39)) (by kernel_rfl) (doMove_calls _ b c ⟨x.kind, x.slot, x.shard, x.n, x.phase⟩ h H42) ?_
    rintro _ w49 ⟨rfl, K50, H51⟩
    refine ⟨_, _, rfl, rfl, ?_⟩
    have H53 := H43.keep K50 (by intro h; change b1 = b at h; omega)
    clear H43
    have H54 := H44.keep K50 (by intro h; change b9 = b at h; omega)
    clear H44
    have H55 := H45.keep K50 (by intro h; change b18 = b at h; omega)
    clear H45
    have H56 := H40.keep K50 (by intro h; change b28 = b at h; omega)
    clear H40
    have K57 := K46.trans K50 (U := (fun i => i = b)) (fun i h1 h2 => h2) (fun i h1 h2 => by have h2 : i = b := h2; show i = b; omega)
    clear K46
    clear K50
    refine Ops.put (t := 29) (b := b9) (off := 0) (v := (agg [(i64 ((c.doMove ⟨x.kind, x.slot, x.shard, x.n, x.phase⟩).1.why)), (Value.bool ((c.doMove ⟨x.kind, x.slot, x.shard, x.n, x.phase⟩).1.wait)), (i64 ((c.doMove ⟨x.kind, x.slot, x.shard, x.n, x.phase⟩).1.n))])) (ys := [(i64 ((c.doMove ⟨x.kind, x.slot, x.shard, x.n, x.phase⟩).1.why)), (Value.bool ((c.doMove ⟨x.kind, x.slot, x.shard, x.n, x.phase⟩).1.wait)), (i64 ((c.doMove ⟨x.kind, x.slot, x.shard, x.n, x.phase⟩).1.n))]) (by kernel_rfl) (by kernel_rfl) H54 (by kernel_rfl) (d := none) (by kernel_rfl) rfl (fun w58 H59 K60 => ?_)
    clear H54
    have H61 := H51.keep K60 (by intro h; change b = b9 at h; omega)
    clear H51
    have H62 := H53.keep K60 (by intro h; change b1 = b9 at h; omega)
    clear H53
    have H63 := H55.keep K60 (by intro h; change b18 = b9 at h; omega)
    clear H55
    have H64 := H56.keep K60 (by intro h; change b28 = b9 at h; omega)
    clear H56
    have K65 := K57.trans K60 (U := (fun i => i = b)) (fun i h1 h2 => h2) (fun i h1 h2 => by have h2 : i = b9 := h2; show i = b; omega)
    clear K57
    clear K60
    refine Ops.done (by kernel_rfl) ?_
    refine q_ret (by kernel_rfl) ?_
    refine ⟨(agg [(i64 ((c.doMove ⟨x.kind, x.slot, x.shard, x.n, x.phase⟩).1.why)), (Value.bool ((c.doMove ⟨x.kind, x.slot, x.shard, x.n, x.phase⟩).1.wait)), (i64 ((c.doMove ⟨x.kind, x.slot, x.shard, x.n, x.phase⟩).1.n))]), retv_cell rfl rfl (H59.loads (by kernel_rfl)), ?_⟩
    have e : c.do_ x = c.doMove ⟨x.kind, x.slot, x.shard, x.n, x.phase⟩ := by
      unfold Ch.do_
      first | rw [if_pos (by omega)] | (rw [if_neg (by omega)]; first | rw [if_pos (by omega)] | (rw [if_neg (by omega)]; first | rw [if_pos (by omega)] | (rw [if_neg (by omega)]; first | rw [if_pos (by omega)] | (rw [if_neg (by omega)]; first | rw [if_pos (by omega)] | rw [if_neg (by omega)]))))
    exact ⟨by rw [e]; rfl, K65, by rw [e]; exact H61⟩
  · rw [h47]
    have p66 : ¬ (1 = x.kind) := of_beq_f h47
    refine q_skip (by kernel_rfl) ?_
    refine q_region (by kernel_rfl) ?_
    refine Ops.regs 2 [(3, (Value.pointer (some ⟨b1, 0, none⟩))), (4, (Value.pointer (some ⟨b9, 0, none⟩))), (6, (Value.pointer (some ⟨b28, 0, none⟩))), (25, (Value.slice (some ⟨b18, 0, none⟩) 5 5)), (26, (i64 5)), (27, (i64 1)), (28, (Value.bool true)), (35, (Value.bool false))] (j := 2) (by kernel_rfl) (by kernel_rfl) ?_
    refine Ops.done (by kernel_rfl) ?_
    refine roll_step ?_
    refine q_seq (by kernel_rfl) ?_
    refine q_region (by kernel_rfl) ?_
    refine Ops.regs 1 [(3, (Value.pointer (some ⟨b1, 0, none⟩))), (4, (Value.pointer (some ⟨b9, 0, none⟩))), (6, (Value.pointer (some ⟨b28, 0, none⟩))), (25, (Value.slice (some ⟨b18, 0, none⟩) 5 5)), (26, (i64 5)), (27, (i64 1)), (28, (Value.bool true)), (35, (Value.bool false))] (j := 1) (by kernel_rfl) (by kernel_rfl) ?_
    refine Ops.done (by kernel_rfl) ?_
    refine q_seq (by kernel_rfl) ?_
    refine q_then (o := .tmp 28) (by kernel_rfl) rfl ?_
    refine q_skip (by kernel_rfl) ?_
    refine q_seq (by kernel_rfl) ?_
    refine q_block (id := 1) (by kernel_rfl) ?_
    refine q_seq (by kernel_rfl) ?_
    refine q_region (by kernel_rfl) ?_
    refine Ops.regs 1 [(3, (Value.pointer (some ⟨b1, 0, none⟩))), (4, (Value.pointer (some ⟨b9, 0, none⟩))), (6, (Value.pointer (some ⟨b28, 0, none⟩))), (25, (Value.slice (some ⟨b18, 0, none⟩) 5 5)), (26, (i64 5)), (27, (i64 1)), (28, (Value.bool true)), (29, (Value.pointer (some ⟨b18, 2, none⟩))), (35, (Value.bool false))] (j := 1) (by kernel_rfl) (by kernel_rfl) ?_
    refine Ops.go (v := (agg [(i64 2), (Value.func (Fn.func 60) ⟨[(Value.pointer (some ⟨b, 0, none⟩))]⟩ ⟨[]⟩)])) (by kernel_rfl) (Runs.load (t := 121) (a := ⟨b18, 2, none⟩) (by kernel_rfl) (H45.loads (by kernel_rfl))) (d := (some 30)) (by kernel_rfl) rfl ?_
    refine Ops.new (o := rowL [(i64 0), Value.nilFunc] 121) (V := fun b => (Value.pointer (some ⟨b, 0, none⟩))) (by kernel_rfl) (d := (some 6)) (by kernel_rfl) (fun b => rfl) (fun b67 w68 hb69 H70 K71 hs72 => ?_)
    have lb67 : b28 < b67 := by have := H40.lt; omega
    have nb67 : w.heap.size ≤ b67 := by have := K46.size; omega
    have H73 := H42.keep K71 (fun h => h)
    clear H42
    have H74 := H43.keep K71 (fun h => h)
    clear H43
    have H75 := H44.keep K71 (fun h => h)
    clear H44
    have H76 := H45.keep K71 (fun h => h)
    clear H45
    have H77 := H40.keep K71 (fun h => h)
    clear H40
    have K78 := K46.trans K71 (U := (fun i => i = b)) (fun i h1 h2 => h2) (fun i h1 h2 => by exact h2.elim)
    clear K46
    clear K71 hs72
    refine Ops.put (t := 121) (b := b67) (off := 0) (v := (agg [(i64 2), (Value.func (Fn.func 60) ⟨[(Value.pointer (some ⟨b, 0, none⟩))]⟩ ⟨[]⟩)])) (ys := [(i64 2), (Value.func (Fn.func 60) ⟨[(Value.pointer (some ⟨b, 0, none⟩))]⟩ ⟨[]⟩)]) (by kernel_rfl) (by kernel_rfl) H70 (by kernel_rfl) (d := none) (by kernel_rfl) rfl (fun w79 H80 K81 => ?_)
    clear H70
    have H82 := H73.keep K81 (by intro h; change b = b67 at h; omega)
    clear H73
    have H83 := H74.keep K81 (by intro h; change b1 = b67 at h; omega)
    clear H74
    have H84 := H75.keep K81 (by intro h; change b9 = b67 at h; omega)
    clear H75
    have H85 := H76.keep K81 (by intro h; change b18 = b67 at h; omega)
    clear H76
    have H86 := H77.keep K81 (by intro h; change b28 = b67 at h; omega)
    clear H77
    have K87 := K78.trans K81 (U := (fun i => i = b)) (fun i h1 h2 => h2) (fun i h1 h2 => by have h2 : i = b67 := h2; show i = b; omega)
    clear K78
    clear K81
    refine Ops.done (by kernel_rfl) ?_
    refine q_seq (by kernel_rfl) ?_
    refine q_region (by kernel_rfl) ?_
    refine Ops.regs 1 [(3, (Value.pointer (some ⟨b1, 0, none⟩))), (4, (Value.pointer (some ⟨b9, 0, none⟩))), (6, (Value.pointer (some ⟨b67, 0, none⟩))), (25, (Value.slice (some ⟨b18, 0, none⟩) 5 5)), (26, (i64 5)), (27, (i64 1)), (28, (Value.bool true)), (31, (Value.pointer (some ⟨b67, 0, none⟩))), (35, (Value.bool false))] (j := 1) (by kernel_rfl) (by kernel_rfl) ?_
    refine Ops.go (v := (i64 2)) (by kernel_rfl) (Runs.load (t := 3) (a := ⟨b67, 0, none⟩) (by kernel_rfl) (H80.loads (by kernel_rfl))) (d := (some 32)) (by kernel_rfl) rfl ?_
    refine Ops.regs 1 [(3, (Value.pointer (some ⟨b1, 0, none⟩))), (4, (Value.pointer (some ⟨b9, 0, none⟩))), (6, (Value.pointer (some ⟨b67, 0, none⟩))), (25, (Value.slice (some ⟨b18, 0, none⟩) 5 5)), (26, (i64 5)), (27, (i64 1)), (28, (Value.bool true)), (32, (i64 2)), (33, (Value.pointer (some ⟨b1, 0, none⟩))), (35, (Value.bool false))] (j := 3) (by kernel_rfl) (by kernel_rfl) ?_
    refine Ops.go (v := (i64 x.kind)) (by kernel_rfl) (Runs.load (t := 3) (a := ⟨b1, 0, none⟩) (by kernel_rfl) (H83.loads (by kernel_rfl))) (d := (some 34)) (by kernel_rfl) rfl ?_
    refine Ops.regs 1 [(3, (Value.pointer (some ⟨b1, 0, none⟩))), (4, (Value.pointer (some ⟨b9, 0, none⟩))), (6, (Value.pointer (some ⟨b67, 0, none⟩))), (25, (Value.slice (some ⟨b18, 0, none⟩) 5 5)), (26, (i64 5)), (27, (i64 1)), (28, (Value.bool true)), (35, (Value.bool (2 == x.kind)))] (j := 5) (by kernel_rfl) (by kernel_rfl) ?_
    refine Ops.done (by kernel_rfl) ?_
    refine q_cond (o := .tmp 35) (b := (2 == x.kind)) (by kernel_rfl) rfl (fun h88 => ?_) (fun h88 => ?_)
    · rw [h88]
      have p89 : 2 = x.kind := of_beq_t h88
      refine q_seq (by kernel_rfl) ?_
      refine q_region (by kernel_rfl) ?_
      refine Ops.regs 1 [(3, (Value.pointer (some ⟨b1, 0, none⟩))), (4, (Value.pointer (some ⟨b9, 0, none⟩))), (6, (Value.pointer (some ⟨b67, 0, none⟩))), (25, (Value.slice (some ⟨b18, 0, none⟩) 5 5)), (26, (i64 5)), (27, (i64 1)), (28, (Value.bool true)), (35, (Value.bool true)), (36, (Value.pointer (some ⟨b67, 1, none⟩)))] (j := 1) (by kernel_rfl) (by kernel_rfl) ?_
      refine Ops.go (v := (Value.func (Fn.func 60) ⟨[(Value.pointer (some ⟨b, 0, none⟩))]⟩ ⟨[]⟩)) (by kernel_rfl) (Runs.load (t := 30) (a := ⟨b67, 1, none⟩) (by kernel_rfl) (H80.loads (by kernel_rfl))) (d := (some 37)) (by kernel_rfl) rfl ?_
      refine Ops.go (v := (agg [(i64 x.kind), (i64 x.slot), (i64 x.shard), (i64 x.n), (i64 x.phase)])) (by kernel_rfl) (Runs.load (t := 32) (a := ⟨b1, 0, none⟩) (by kernel_rfl) (H83.loads (by kernel_rfl))) (d := (some 38)) (by kernel_rfl) rfl ?_
      refine Ops.call (by kernel_rfl) (d := (some 39)) (by kernel_rfl) (doStep_calls _ b c ⟨x.kind, x.slot, x.shard, x.n, x.phase⟩ h H82) ?_
      rintro _ w90 ⟨rfl, K91, H92⟩
      refine ⟨_, _, rfl, rfl, ?_⟩
      have H94 := H83.keep K91 (by intro h; change b1 = b at h; omega)
      clear H83
      have H95 := H84.keep K91 (by intro h; change b9 = b at h; omega)
      clear H84
      have H96 := H85.keep K91 (by intro h; change b18 = b at h; omega)
      clear H85
      have H97 := H86.keep K91 (by intro h; change b28 = b at h; omega)
      clear H86
      have H98 := H80.keep K91 (by intro h; change b67 = b at h; omega)
      clear H80
      have K99 := K87.trans K91 (U := (fun i => i = b)) (fun i h1 h2 => h2) (fun i h1 h2 => by have h2 : i = b := h2; show i = b; omega)
      clear K87
      clear K91
      refine Ops.put (t := 29) (b := b9) (off := 0) (v := (agg [(i64 ((c.doStep ⟨x.kind, x.slot, x.shard, x.n, x.phase⟩).1.why)), (Value.bool ((c.doStep ⟨x.kind, x.slot, x.shard, x.n, x.phase⟩).1.wait)), (i64 ((c.doStep ⟨x.kind, x.slot, x.shard, x.n, x.phase⟩).1.n))])) (ys := [(i64 ((c.doStep ⟨x.kind, x.slot, x.shard, x.n, x.phase⟩).1.why)), (Value.bool ((c.doStep ⟨x.kind, x.slot, x.shard, x.n, x.phase⟩).1.wait)), (i64 ((c.doStep ⟨x.kind, x.slot, x.shard, x.n, x.phase⟩).1.n))]) (by kernel_rfl) (by kernel_rfl) H95 (by kernel_rfl) (d := none) (by kernel_rfl) rfl (fun w100 H101 K102 => ?_)
      clear H95
      have H103 := H92.keep K102 (by intro h; change b = b9 at h; omega)
      clear H92
      have H104 := H94.keep K102 (by intro h; change b1 = b9 at h; omega)
      clear H94
      have H105 := H96.keep K102 (by intro h; change b18 = b9 at h; omega)
      clear H96
      have H106 := H97.keep K102 (by intro h; change b28 = b9 at h; omega)
      clear H97
      have H107 := H98.keep K102 (by intro h; change b67 = b9 at h; omega)
      clear H98
      have K108 := K99.trans K102 (U := (fun i => i = b)) (fun i h1 h2 => h2) (fun i h1 h2 => by have h2 : i = b9 := h2; show i = b; omega)
      clear K99
      clear K102
      refine Ops.done (by kernel_rfl) ?_
      refine q_ret (by kernel_rfl) ?_
      refine ⟨(agg [(i64 ((c.doStep ⟨x.kind, x.slot, x.shard, x.n, x.phase⟩).1.why)), (Value.bool ((c.doStep ⟨x.kind, x.slot, x.shard, x.n, x.phase⟩).1.wait)), (i64 ((c.doStep ⟨x.kind, x.slot, x.shard, x.n, x.phase⟩).1.n))]), retv_cell rfl rfl (H101.loads (by kernel_rfl)), ?_⟩
      have e : c.do_ x = c.doStep ⟨x.kind, x.slot, x.shard, x.n, x.phase⟩ := by
        unfold Ch.do_
        first | rw [if_pos (by omega)] | (rw [if_neg (by omega)]; first | rw [if_pos (by omega)] | (rw [if_neg (by omega)]; first | rw [if_pos (by omega)] | (rw [if_neg (by omega)]; first | rw [if_pos (by omega)] | (rw [if_neg (by omega)]; first | rw [if_pos (by omega)] | rw [if_neg (by omega)]))))
      exact ⟨by rw [e]; rfl, K108, by rw [e]; exact H103⟩
    · rw [h88]
      have p109 : ¬ (2 = x.kind) := of_beq_f h88
      refine q_skip (by kernel_rfl) ?_
      refine q_region (by kernel_rfl) ?_
      refine Ops.regs 2 [(3, (Value.pointer (some ⟨b1, 0, none⟩))), (4, (Value.pointer (some ⟨b9, 0, none⟩))), (6, (Value.pointer (some ⟨b67, 0, none⟩))), (25, (Value.slice (some ⟨b18, 0, none⟩) 5 5)), (26, (i64 5)), (27, (i64 2)), (28, (Value.bool true)), (35, (Value.bool false))] (j := 2) (by kernel_rfl) (by kernel_rfl) ?_
      refine Ops.done (by kernel_rfl) ?_
      refine roll_step ?_
      refine q_seq (by kernel_rfl) ?_
      refine q_region (by kernel_rfl) ?_
      refine Ops.regs 1 [(3, (Value.pointer (some ⟨b1, 0, none⟩))), (4, (Value.pointer (some ⟨b9, 0, none⟩))), (6, (Value.pointer (some ⟨b67, 0, none⟩))), (25, (Value.slice (some ⟨b18, 0, none⟩) 5 5)), (26, (i64 5)), (27, (i64 2)), (28, (Value.bool true)), (35, (Value.bool false))] (j := 1) (by kernel_rfl) (by kernel_rfl) ?_
      refine Ops.done (by kernel_rfl) ?_
      refine q_seq (by kernel_rfl) ?_
      refine q_then (o := .tmp 28) (by kernel_rfl) rfl ?_
      refine q_skip (by kernel_rfl) ?_
      refine q_seq (by kernel_rfl) ?_
      refine q_block (id := 1) (by kernel_rfl) ?_
      refine q_seq (by kernel_rfl) ?_
      refine q_region (by kernel_rfl) ?_
      refine Ops.regs 1 [(3, (Value.pointer (some ⟨b1, 0, none⟩))), (4, (Value.pointer (some ⟨b9, 0, none⟩))), (6, (Value.pointer (some ⟨b67, 0, none⟩))), (25, (Value.slice (some ⟨b18, 0, none⟩) 5 5)), (26, (i64 5)), (27, (i64 2)), (28, (Value.bool true)), (29, (Value.pointer (some ⟨b18, 4, none⟩))), (35, (Value.bool false))] (j := 1) (by kernel_rfl) (by kernel_rfl) ?_
      refine Ops.go (v := (agg [(i64 3), (Value.func (Fn.func 61) ⟨[(Value.pointer (some ⟨b, 0, none⟩))]⟩ ⟨[]⟩)])) (by kernel_rfl) (Runs.load (t := 121) (a := ⟨b18, 4, none⟩) (by kernel_rfl) (H85.loads (by kernel_rfl))) (d := (some 30)) (by kernel_rfl) rfl ?_
      refine Ops.new (o := rowL [(i64 0), Value.nilFunc] 121) (V := fun b => (Value.pointer (some ⟨b, 0, none⟩))) (by kernel_rfl) (d := (some 6)) (by kernel_rfl) (fun b => rfl) (fun b110 w111 hb112 H113 K114 hs115 => ?_)
      have lb110 : b67 < b110 := by have := H80.lt; omega
      have nb110 : w.heap.size ≤ b110 := by have := K87.size; omega
      have H116 := H82.keep K114 (fun h => h)
      clear H82
      have H117 := H83.keep K114 (fun h => h)
      clear H83
      have H118 := H84.keep K114 (fun h => h)
      clear H84
      have H119 := H85.keep K114 (fun h => h)
      clear H85
      have H120 := H86.keep K114 (fun h => h)
      clear H86
      have H121 := H80.keep K114 (fun h => h)
      clear H80
      have K122 := K87.trans K114 (U := (fun i => i = b)) (fun i h1 h2 => h2) (fun i h1 h2 => by exact h2.elim)
      clear K87
      clear K114 hs115
      refine Ops.put (t := 121) (b := b110) (off := 0) (v := (agg [(i64 3), (Value.func (Fn.func 61) ⟨[(Value.pointer (some ⟨b, 0, none⟩))]⟩ ⟨[]⟩)])) (ys := [(i64 3), (Value.func (Fn.func 61) ⟨[(Value.pointer (some ⟨b, 0, none⟩))]⟩ ⟨[]⟩)]) (by kernel_rfl) (by kernel_rfl) H113 (by kernel_rfl) (d := none) (by kernel_rfl) rfl (fun w123 H124 K125 => ?_)
      clear H113
      have H126 := H116.keep K125 (by intro h; change b = b110 at h; omega)
      clear H116
      have H127 := H117.keep K125 (by intro h; change b1 = b110 at h; omega)
      clear H117
      have H128 := H118.keep K125 (by intro h; change b9 = b110 at h; omega)
      clear H118
      have H129 := H119.keep K125 (by intro h; change b18 = b110 at h; omega)
      clear H119
      have H130 := H120.keep K125 (by intro h; change b28 = b110 at h; omega)
      clear H120
      have H131 := H121.keep K125 (by intro h; change b67 = b110 at h; omega)
      clear H121
      have K132 := K122.trans K125 (U := (fun i => i = b)) (fun i h1 h2 => h2) (fun i h1 h2 => by have h2 : i = b110 := h2; show i = b; omega)
      clear K122
      clear K125
      refine Ops.done (by kernel_rfl) ?_
      refine q_seq (by kernel_rfl) ?_
      refine q_region (by kernel_rfl) ?_
      refine Ops.regs 1 [(3, (Value.pointer (some ⟨b1, 0, none⟩))), (4, (Value.pointer (some ⟨b9, 0, none⟩))), (6, (Value.pointer (some ⟨b110, 0, none⟩))), (25, (Value.slice (some ⟨b18, 0, none⟩) 5 5)), (26, (i64 5)), (27, (i64 2)), (28, (Value.bool true)), (31, (Value.pointer (some ⟨b110, 0, none⟩))), (35, (Value.bool false))] (j := 1) (by kernel_rfl) (by kernel_rfl) ?_
      refine Ops.go (v := (i64 3)) (by kernel_rfl) (Runs.load (t := 3) (a := ⟨b110, 0, none⟩) (by kernel_rfl) (H124.loads (by kernel_rfl))) (d := (some 32)) (by kernel_rfl) rfl ?_
      refine Ops.regs 1 [(3, (Value.pointer (some ⟨b1, 0, none⟩))), (4, (Value.pointer (some ⟨b9, 0, none⟩))), (6, (Value.pointer (some ⟨b110, 0, none⟩))), (25, (Value.slice (some ⟨b18, 0, none⟩) 5 5)), (26, (i64 5)), (27, (i64 2)), (28, (Value.bool true)), (32, (i64 3)), (33, (Value.pointer (some ⟨b1, 0, none⟩))), (35, (Value.bool false))] (j := 3) (by kernel_rfl) (by kernel_rfl) ?_
      refine Ops.go (v := (i64 x.kind)) (by kernel_rfl) (Runs.load (t := 3) (a := ⟨b1, 0, none⟩) (by kernel_rfl) (H127.loads (by kernel_rfl))) (d := (some 34)) (by kernel_rfl) rfl ?_
      refine Ops.regs 1 [(3, (Value.pointer (some ⟨b1, 0, none⟩))), (4, (Value.pointer (some ⟨b9, 0, none⟩))), (6, (Value.pointer (some ⟨b110, 0, none⟩))), (25, (Value.slice (some ⟨b18, 0, none⟩) 5 5)), (26, (i64 5)), (27, (i64 2)), (28, (Value.bool true)), (35, (Value.bool (3 == x.kind)))] (j := 5) (by kernel_rfl) (by kernel_rfl) ?_
      refine Ops.done (by kernel_rfl) ?_
      refine q_cond (o := .tmp 35) (b := (3 == x.kind)) (by kernel_rfl) rfl (fun h133 => ?_) (fun h133 => ?_)
      · rw [h133]
        have p134 : 3 = x.kind := of_beq_t h133
        refine q_seq (by kernel_rfl) ?_
        refine q_region (by kernel_rfl) ?_
        refine Ops.regs 1 [(3, (Value.pointer (some ⟨b1, 0, none⟩))), (4, (Value.pointer (some ⟨b9, 0, none⟩))), (6, (Value.pointer (some ⟨b110, 0, none⟩))), (25, (Value.slice (some ⟨b18, 0, none⟩) 5 5)), (26, (i64 5)), (27, (i64 2)), (28, (Value.bool true)), (35, (Value.bool true)), (36, (Value.pointer (some ⟨b110, 1, none⟩)))] (j := 1) (by kernel_rfl) (by kernel_rfl) ?_
        refine Ops.go (v := (Value.func (Fn.func 61) ⟨[(Value.pointer (some ⟨b, 0, none⟩))]⟩ ⟨[]⟩)) (by kernel_rfl) (Runs.load (t := 30) (a := ⟨b110, 1, none⟩) (by kernel_rfl) (H124.loads (by kernel_rfl))) (d := (some 37)) (by kernel_rfl) rfl ?_
        refine Ops.go (v := (agg [(i64 x.kind), (i64 x.slot), (i64 x.shard), (i64 x.n), (i64 x.phase)])) (by kernel_rfl) (Runs.load (t := 32) (a := ⟨b1, 0, none⟩) (by kernel_rfl) (H127.loads (by kernel_rfl))) (d := (some 38)) (by kernel_rfl) rfl ?_
        refine Ops.call (by kernel_rfl) (d := (some 39)) (by kernel_rfl) (doAudit_calls _ b c ⟨x.kind, x.slot, x.shard, x.n, x.phase⟩ h H126) ?_
        rintro _ w135 ⟨rfl, K136, H137⟩
        refine ⟨_, _, rfl, rfl, ?_⟩
        have H139 := H127.keep K136 (by intro h; change b1 = b at h; omega)
        clear H127
        have H140 := H128.keep K136 (by intro h; change b9 = b at h; omega)
        clear H128
        have H141 := H129.keep K136 (by intro h; change b18 = b at h; omega)
        clear H129
        have H142 := H130.keep K136 (by intro h; change b28 = b at h; omega)
        clear H130
        have H143 := H131.keep K136 (by intro h; change b67 = b at h; omega)
        clear H131
        have H144 := H124.keep K136 (by intro h; change b110 = b at h; omega)
        clear H124
        have K145 := K132.trans K136 (U := (fun i => i = b)) (fun i h1 h2 => h2) (fun i h1 h2 => by have h2 : i = b := h2; show i = b; omega)
        clear K132
        clear K136
        refine Ops.put (t := 29) (b := b9) (off := 0) (v := (agg [(i64 ((c.doAudit).1.why)), (Value.bool ((c.doAudit).1.wait)), (i64 ((c.doAudit).1.n))])) (ys := [(i64 ((c.doAudit).1.why)), (Value.bool ((c.doAudit).1.wait)), (i64 ((c.doAudit).1.n))]) (by kernel_rfl) (by kernel_rfl) H140 (by kernel_rfl) (d := none) (by kernel_rfl) rfl (fun w146 H147 K148 => ?_)
        clear H140
        have H149 := H137.keep K148 (by intro h; change b = b9 at h; omega)
        clear H137
        have H150 := H139.keep K148 (by intro h; change b1 = b9 at h; omega)
        clear H139
        have H151 := H141.keep K148 (by intro h; change b18 = b9 at h; omega)
        clear H141
        have H152 := H142.keep K148 (by intro h; change b28 = b9 at h; omega)
        clear H142
        have H153 := H143.keep K148 (by intro h; change b67 = b9 at h; omega)
        clear H143
        have H154 := H144.keep K148 (by intro h; change b110 = b9 at h; omega)
        clear H144
        have K155 := K145.trans K148 (U := (fun i => i = b)) (fun i h1 h2 => h2) (fun i h1 h2 => by have h2 : i = b9 := h2; show i = b; omega)
        clear K145
        clear K148
        refine Ops.done (by kernel_rfl) ?_
        refine q_ret (by kernel_rfl) ?_
        refine ⟨(agg [(i64 ((c.doAudit).1.why)), (Value.bool ((c.doAudit).1.wait)), (i64 ((c.doAudit).1.n))]), retv_cell rfl rfl (H147.loads (by kernel_rfl)), ?_⟩
        have e : c.do_ x = c.doAudit := by
          unfold Ch.do_
          first | rw [if_pos (by omega)] | (rw [if_neg (by omega)]; first | rw [if_pos (by omega)] | (rw [if_neg (by omega)]; first | rw [if_pos (by omega)] | (rw [if_neg (by omega)]; first | rw [if_pos (by omega)] | (rw [if_neg (by omega)]; first | rw [if_pos (by omega)] | rw [if_neg (by omega)]))))
        exact ⟨by rw [e]; rfl, K155, by rw [e]; exact H149⟩
      · rw [h133]
        have p156 : ¬ (3 = x.kind) := of_beq_f h133
        refine q_skip (by kernel_rfl) ?_
        refine q_region (by kernel_rfl) ?_
        refine Ops.regs 2 [(3, (Value.pointer (some ⟨b1, 0, none⟩))), (4, (Value.pointer (some ⟨b9, 0, none⟩))), (6, (Value.pointer (some ⟨b110, 0, none⟩))), (25, (Value.slice (some ⟨b18, 0, none⟩) 5 5)), (26, (i64 5)), (27, (i64 3)), (28, (Value.bool true)), (35, (Value.bool false))] (j := 2) (by kernel_rfl) (by kernel_rfl) ?_
        refine Ops.done (by kernel_rfl) ?_
        refine roll_step ?_
        refine q_seq (by kernel_rfl) ?_
        refine q_region (by kernel_rfl) ?_
        refine Ops.regs 1 [(3, (Value.pointer (some ⟨b1, 0, none⟩))), (4, (Value.pointer (some ⟨b9, 0, none⟩))), (6, (Value.pointer (some ⟨b110, 0, none⟩))), (25, (Value.slice (some ⟨b18, 0, none⟩) 5 5)), (26, (i64 5)), (27, (i64 3)), (28, (Value.bool true)), (35, (Value.bool false))] (j := 1) (by kernel_rfl) (by kernel_rfl) ?_
        refine Ops.done (by kernel_rfl) ?_
        refine q_seq (by kernel_rfl) ?_
        refine q_then (o := .tmp 28) (by kernel_rfl) rfl ?_
        refine q_skip (by kernel_rfl) ?_
        refine q_seq (by kernel_rfl) ?_
        refine q_block (id := 1) (by kernel_rfl) ?_
        refine q_seq (by kernel_rfl) ?_
        refine q_region (by kernel_rfl) ?_
        refine Ops.regs 1 [(3, (Value.pointer (some ⟨b1, 0, none⟩))), (4, (Value.pointer (some ⟨b9, 0, none⟩))), (6, (Value.pointer (some ⟨b110, 0, none⟩))), (25, (Value.slice (some ⟨b18, 0, none⟩) 5 5)), (26, (i64 5)), (27, (i64 3)), (28, (Value.bool true)), (29, (Value.pointer (some ⟨b18, 6, none⟩))), (35, (Value.bool false))] (j := 1) (by kernel_rfl) (by kernel_rfl) ?_
        refine Ops.go (v := (agg [(i64 4), (Value.func (Fn.func 62) ⟨[(Value.pointer (some ⟨b, 0, none⟩))]⟩ ⟨[]⟩)])) (by kernel_rfl) (Runs.load (t := 121) (a := ⟨b18, 6, none⟩) (by kernel_rfl) (H129.loads (by kernel_rfl))) (d := (some 30)) (by kernel_rfl) rfl ?_
        refine Ops.new (o := rowL [(i64 0), Value.nilFunc] 121) (V := fun b => (Value.pointer (some ⟨b, 0, none⟩))) (by kernel_rfl) (d := (some 6)) (by kernel_rfl) (fun b => rfl) (fun b157 w158 hb159 H160 K161 hs162 => ?_)
        have lb157 : b110 < b157 := by have := H124.lt; omega
        have nb157 : w.heap.size ≤ b157 := by have := K132.size; omega
        have H163 := H126.keep K161 (fun h => h)
        clear H126
        have H164 := H127.keep K161 (fun h => h)
        clear H127
        have H165 := H128.keep K161 (fun h => h)
        clear H128
        have H166 := H129.keep K161 (fun h => h)
        clear H129
        have H167 := H130.keep K161 (fun h => h)
        clear H130
        have H168 := H131.keep K161 (fun h => h)
        clear H131
        have H169 := H124.keep K161 (fun h => h)
        clear H124
        have K170 := K132.trans K161 (U := (fun i => i = b)) (fun i h1 h2 => h2) (fun i h1 h2 => by exact h2.elim)
        clear K132
        clear K161 hs162
        refine Ops.put (t := 121) (b := b157) (off := 0) (v := (agg [(i64 4), (Value.func (Fn.func 62) ⟨[(Value.pointer (some ⟨b, 0, none⟩))]⟩ ⟨[]⟩)])) (ys := [(i64 4), (Value.func (Fn.func 62) ⟨[(Value.pointer (some ⟨b, 0, none⟩))]⟩ ⟨[]⟩)]) (by kernel_rfl) (by kernel_rfl) H160 (by kernel_rfl) (d := none) (by kernel_rfl) rfl (fun w171 H172 K173 => ?_)
        clear H160
        have H174 := H163.keep K173 (by intro h; change b = b157 at h; omega)
        clear H163
        have H175 := H164.keep K173 (by intro h; change b1 = b157 at h; omega)
        clear H164
        have H176 := H165.keep K173 (by intro h; change b9 = b157 at h; omega)
        clear H165
        have H177 := H166.keep K173 (by intro h; change b18 = b157 at h; omega)
        clear H166
        have H178 := H167.keep K173 (by intro h; change b28 = b157 at h; omega)
        clear H167
        have H179 := H168.keep K173 (by intro h; change b67 = b157 at h; omega)
        clear H168
        have H180 := H169.keep K173 (by intro h; change b110 = b157 at h; omega)
        clear H169
        have K181 := K170.trans K173 (U := (fun i => i = b)) (fun i h1 h2 => h2) (fun i h1 h2 => by have h2 : i = b157 := h2; show i = b; omega)
        clear K170
        clear K173
        refine Ops.done (by kernel_rfl) ?_
        refine q_seq (by kernel_rfl) ?_
        refine q_region (by kernel_rfl) ?_
        refine Ops.regs 1 [(3, (Value.pointer (some ⟨b1, 0, none⟩))), (4, (Value.pointer (some ⟨b9, 0, none⟩))), (6, (Value.pointer (some ⟨b157, 0, none⟩))), (25, (Value.slice (some ⟨b18, 0, none⟩) 5 5)), (26, (i64 5)), (27, (i64 3)), (28, (Value.bool true)), (31, (Value.pointer (some ⟨b157, 0, none⟩))), (35, (Value.bool false))] (j := 1) (by kernel_rfl) (by kernel_rfl) ?_
        refine Ops.go (v := (i64 4)) (by kernel_rfl) (Runs.load (t := 3) (a := ⟨b157, 0, none⟩) (by kernel_rfl) (H172.loads (by kernel_rfl))) (d := (some 32)) (by kernel_rfl) rfl ?_
        refine Ops.regs 1 [(3, (Value.pointer (some ⟨b1, 0, none⟩))), (4, (Value.pointer (some ⟨b9, 0, none⟩))), (6, (Value.pointer (some ⟨b157, 0, none⟩))), (25, (Value.slice (some ⟨b18, 0, none⟩) 5 5)), (26, (i64 5)), (27, (i64 3)), (28, (Value.bool true)), (32, (i64 4)), (33, (Value.pointer (some ⟨b1, 0, none⟩))), (35, (Value.bool false))] (j := 3) (by kernel_rfl) (by kernel_rfl) ?_
        refine Ops.go (v := (i64 x.kind)) (by kernel_rfl) (Runs.load (t := 3) (a := ⟨b1, 0, none⟩) (by kernel_rfl) (H175.loads (by kernel_rfl))) (d := (some 34)) (by kernel_rfl) rfl ?_
        refine Ops.regs 1 [(3, (Value.pointer (some ⟨b1, 0, none⟩))), (4, (Value.pointer (some ⟨b9, 0, none⟩))), (6, (Value.pointer (some ⟨b157, 0, none⟩))), (25, (Value.slice (some ⟨b18, 0, none⟩) 5 5)), (26, (i64 5)), (27, (i64 3)), (28, (Value.bool true)), (35, (Value.bool (4 == x.kind)))] (j := 5) (by kernel_rfl) (by kernel_rfl) ?_
        refine Ops.done (by kernel_rfl) ?_
        refine q_cond (o := .tmp 35) (b := (4 == x.kind)) (by kernel_rfl) rfl (fun h182 => ?_) (fun h182 => ?_)
        · rw [h182]
          have p183 : 4 = x.kind := of_beq_t h182
          refine q_seq (by kernel_rfl) ?_
          refine q_region (by kernel_rfl) ?_
          refine Ops.regs 1 [(3, (Value.pointer (some ⟨b1, 0, none⟩))), (4, (Value.pointer (some ⟨b9, 0, none⟩))), (6, (Value.pointer (some ⟨b157, 0, none⟩))), (25, (Value.slice (some ⟨b18, 0, none⟩) 5 5)), (26, (i64 5)), (27, (i64 3)), (28, (Value.bool true)), (35, (Value.bool true)), (36, (Value.pointer (some ⟨b157, 1, none⟩)))] (j := 1) (by kernel_rfl) (by kernel_rfl) ?_
          refine Ops.go (v := (Value.func (Fn.func 62) ⟨[(Value.pointer (some ⟨b, 0, none⟩))]⟩ ⟨[]⟩)) (by kernel_rfl) (Runs.load (t := 30) (a := ⟨b157, 1, none⟩) (by kernel_rfl) (H172.loads (by kernel_rfl))) (d := (some 37)) (by kernel_rfl) rfl ?_
          refine Ops.go (v := (agg [(i64 x.kind), (i64 x.slot), (i64 x.shard), (i64 x.n), (i64 x.phase)])) (by kernel_rfl) (Runs.load (t := 32) (a := ⟨b1, 0, none⟩) (by kernel_rfl) (H175.loads (by kernel_rfl))) (d := (some 38)) (by kernel_rfl) rfl ?_
          refine Ops.call (by kernel_rfl) (d := (some 39)) (by kernel_rfl) (doCut_calls _ b c ⟨x.kind, x.slot, x.shard, x.n, x.phase⟩ h H174) ?_
          rintro _ w184 ⟨rfl, K185, H186⟩
          refine ⟨_, _, rfl, rfl, ?_⟩
          have H188 := H175.keep K185 (by intro h; change b1 = b at h; omega)
          clear H175
          have H189 := H176.keep K185 (by intro h; change b9 = b at h; omega)
          clear H176
          have H190 := H177.keep K185 (by intro h; change b18 = b at h; omega)
          clear H177
          have H191 := H178.keep K185 (by intro h; change b28 = b at h; omega)
          clear H178
          have H192 := H179.keep K185 (by intro h; change b67 = b at h; omega)
          clear H179
          have H193 := H180.keep K185 (by intro h; change b110 = b at h; omega)
          clear H180
          have H194 := H172.keep K185 (by intro h; change b157 = b at h; omega)
          clear H172
          have K195 := K181.trans K185 (U := (fun i => i = b)) (fun i h1 h2 => h2) (fun i h1 h2 => by have h2 : i = b := h2; show i = b; omega)
          clear K181
          clear K185
          refine Ops.put (t := 29) (b := b9) (off := 0) (v := (agg [(i64 ((c.doCut ⟨x.kind, x.slot, x.shard, x.n, x.phase⟩).1.why)), (Value.bool ((c.doCut ⟨x.kind, x.slot, x.shard, x.n, x.phase⟩).1.wait)), (i64 ((c.doCut ⟨x.kind, x.slot, x.shard, x.n, x.phase⟩).1.n))])) (ys := [(i64 ((c.doCut ⟨x.kind, x.slot, x.shard, x.n, x.phase⟩).1.why)), (Value.bool ((c.doCut ⟨x.kind, x.slot, x.shard, x.n, x.phase⟩).1.wait)), (i64 ((c.doCut ⟨x.kind, x.slot, x.shard, x.n, x.phase⟩).1.n))]) (by kernel_rfl) (by kernel_rfl) H189 (by kernel_rfl) (d := none) (by kernel_rfl) rfl (fun w196 H197 K198 => ?_)
          clear H189
          have H199 := H186.keep K198 (by intro h; change b = b9 at h; omega)
          clear H186
          have H200 := H188.keep K198 (by intro h; change b1 = b9 at h; omega)
          clear H188
          have H201 := H190.keep K198 (by intro h; change b18 = b9 at h; omega)
          clear H190
          have H202 := H191.keep K198 (by intro h; change b28 = b9 at h; omega)
          clear H191
          have H203 := H192.keep K198 (by intro h; change b67 = b9 at h; omega)
          clear H192
          have H204 := H193.keep K198 (by intro h; change b110 = b9 at h; omega)
          clear H193
          have H205 := H194.keep K198 (by intro h; change b157 = b9 at h; omega)
          clear H194
          have K206 := K195.trans K198 (U := (fun i => i = b)) (fun i h1 h2 => h2) (fun i h1 h2 => by have h2 : i = b9 := h2; show i = b; omega)
          clear K195
          clear K198
          refine Ops.done (by kernel_rfl) ?_
          refine q_ret (by kernel_rfl) ?_
          refine ⟨(agg [(i64 ((c.doCut ⟨x.kind, x.slot, x.shard, x.n, x.phase⟩).1.why)), (Value.bool ((c.doCut ⟨x.kind, x.slot, x.shard, x.n, x.phase⟩).1.wait)), (i64 ((c.doCut ⟨x.kind, x.slot, x.shard, x.n, x.phase⟩).1.n))]), retv_cell rfl rfl (H197.loads (by kernel_rfl)), ?_⟩
          have e : c.do_ x = c.doCut ⟨x.kind, x.slot, x.shard, x.n, x.phase⟩ := by
            unfold Ch.do_
            first | rw [if_pos (by omega)] | (rw [if_neg (by omega)]; first | rw [if_pos (by omega)] | (rw [if_neg (by omega)]; first | rw [if_pos (by omega)] | (rw [if_neg (by omega)]; first | rw [if_pos (by omega)] | (rw [if_neg (by omega)]; first | rw [if_pos (by omega)] | rw [if_neg (by omega)]))))
          exact ⟨by rw [e]; rfl, K206, by rw [e]; exact H199⟩
        · rw [h182]
          have p207 : ¬ (4 = x.kind) := of_beq_f h182
          refine q_skip (by kernel_rfl) ?_
          refine q_region (by kernel_rfl) ?_
          refine Ops.regs 2 [(3, (Value.pointer (some ⟨b1, 0, none⟩))), (4, (Value.pointer (some ⟨b9, 0, none⟩))), (6, (Value.pointer (some ⟨b157, 0, none⟩))), (25, (Value.slice (some ⟨b18, 0, none⟩) 5 5)), (26, (i64 5)), (27, (i64 4)), (28, (Value.bool true)), (35, (Value.bool false))] (j := 2) (by kernel_rfl) (by kernel_rfl) ?_
          refine Ops.done (by kernel_rfl) ?_
          refine roll_step ?_
          refine q_seq (by kernel_rfl) ?_
          refine q_region (by kernel_rfl) ?_
          refine Ops.regs 1 [(3, (Value.pointer (some ⟨b1, 0, none⟩))), (4, (Value.pointer (some ⟨b9, 0, none⟩))), (6, (Value.pointer (some ⟨b157, 0, none⟩))), (25, (Value.slice (some ⟨b18, 0, none⟩) 5 5)), (26, (i64 5)), (27, (i64 4)), (28, (Value.bool true)), (35, (Value.bool false))] (j := 1) (by kernel_rfl) (by kernel_rfl) ?_
          refine Ops.done (by kernel_rfl) ?_
          refine q_seq (by kernel_rfl) ?_
          refine q_then (o := .tmp 28) (by kernel_rfl) rfl ?_
          refine q_skip (by kernel_rfl) ?_
          refine q_seq (by kernel_rfl) ?_
          refine q_block (id := 1) (by kernel_rfl) ?_
          refine q_seq (by kernel_rfl) ?_
          refine q_region (by kernel_rfl) ?_
          refine Ops.regs 1 [(3, (Value.pointer (some ⟨b1, 0, none⟩))), (4, (Value.pointer (some ⟨b9, 0, none⟩))), (6, (Value.pointer (some ⟨b157, 0, none⟩))), (25, (Value.slice (some ⟨b18, 0, none⟩) 5 5)), (26, (i64 5)), (27, (i64 4)), (28, (Value.bool true)), (29, (Value.pointer (some ⟨b18, 8, none⟩))), (35, (Value.bool false))] (j := 1) (by kernel_rfl) (by kernel_rfl) ?_
          refine Ops.go (v := (agg [(i64 5), (Value.func (Fn.func 63) ⟨[(Value.pointer (some ⟨b, 0, none⟩))]⟩ ⟨[]⟩)])) (by kernel_rfl) (Runs.load (t := 121) (a := ⟨b18, 8, none⟩) (by kernel_rfl) (H177.loads (by kernel_rfl))) (d := (some 30)) (by kernel_rfl) rfl ?_
          refine Ops.new (o := rowL [(i64 0), Value.nilFunc] 121) (V := fun b => (Value.pointer (some ⟨b, 0, none⟩))) (by kernel_rfl) (d := (some 6)) (by kernel_rfl) (fun b => rfl) (fun b208 w209 hb210 H211 K212 hs213 => ?_)
          have lb208 : b157 < b208 := by have := H172.lt; omega
          have nb208 : w.heap.size ≤ b208 := by have := K181.size; omega
          have H214 := H174.keep K212 (fun h => h)
          clear H174
          have H215 := H175.keep K212 (fun h => h)
          clear H175
          have H216 := H176.keep K212 (fun h => h)
          clear H176
          have H217 := H177.keep K212 (fun h => h)
          clear H177
          have H218 := H178.keep K212 (fun h => h)
          clear H178
          have H219 := H179.keep K212 (fun h => h)
          clear H179
          have H220 := H180.keep K212 (fun h => h)
          clear H180
          have H221 := H172.keep K212 (fun h => h)
          clear H172
          have K222 := K181.trans K212 (U := (fun i => i = b)) (fun i h1 h2 => h2) (fun i h1 h2 => by exact h2.elim)
          clear K181
          clear K212 hs213
          refine Ops.put (t := 121) (b := b208) (off := 0) (v := (agg [(i64 5), (Value.func (Fn.func 63) ⟨[(Value.pointer (some ⟨b, 0, none⟩))]⟩ ⟨[]⟩)])) (ys := [(i64 5), (Value.func (Fn.func 63) ⟨[(Value.pointer (some ⟨b, 0, none⟩))]⟩ ⟨[]⟩)]) (by kernel_rfl) (by kernel_rfl) H211 (by kernel_rfl) (d := none) (by kernel_rfl) rfl (fun w223 H224 K225 => ?_)
          clear H211
          have H226 := H214.keep K225 (by intro h; change b = b208 at h; omega)
          clear H214
          have H227 := H215.keep K225 (by intro h; change b1 = b208 at h; omega)
          clear H215
          have H228 := H216.keep K225 (by intro h; change b9 = b208 at h; omega)
          clear H216
          have H229 := H217.keep K225 (by intro h; change b18 = b208 at h; omega)
          clear H217
          have H230 := H218.keep K225 (by intro h; change b28 = b208 at h; omega)
          clear H218
          have H231 := H219.keep K225 (by intro h; change b67 = b208 at h; omega)
          clear H219
          have H232 := H220.keep K225 (by intro h; change b110 = b208 at h; omega)
          clear H220
          have H233 := H221.keep K225 (by intro h; change b157 = b208 at h; omega)
          clear H221
          have K234 := K222.trans K225 (U := (fun i => i = b)) (fun i h1 h2 => h2) (fun i h1 h2 => by have h2 : i = b208 := h2; show i = b; omega)
          clear K222
          clear K225
          refine Ops.done (by kernel_rfl) ?_
          refine q_seq (by kernel_rfl) ?_
          refine q_region (by kernel_rfl) ?_
          refine Ops.regs 1 [(3, (Value.pointer (some ⟨b1, 0, none⟩))), (4, (Value.pointer (some ⟨b9, 0, none⟩))), (6, (Value.pointer (some ⟨b208, 0, none⟩))), (25, (Value.slice (some ⟨b18, 0, none⟩) 5 5)), (26, (i64 5)), (27, (i64 4)), (28, (Value.bool true)), (31, (Value.pointer (some ⟨b208, 0, none⟩))), (35, (Value.bool false))] (j := 1) (by kernel_rfl) (by kernel_rfl) ?_
          refine Ops.go (v := (i64 5)) (by kernel_rfl) (Runs.load (t := 3) (a := ⟨b208, 0, none⟩) (by kernel_rfl) (H224.loads (by kernel_rfl))) (d := (some 32)) (by kernel_rfl) rfl ?_
          refine Ops.regs 1 [(3, (Value.pointer (some ⟨b1, 0, none⟩))), (4, (Value.pointer (some ⟨b9, 0, none⟩))), (6, (Value.pointer (some ⟨b208, 0, none⟩))), (25, (Value.slice (some ⟨b18, 0, none⟩) 5 5)), (26, (i64 5)), (27, (i64 4)), (28, (Value.bool true)), (32, (i64 5)), (33, (Value.pointer (some ⟨b1, 0, none⟩))), (35, (Value.bool false))] (j := 3) (by kernel_rfl) (by kernel_rfl) ?_
          refine Ops.go (v := (i64 x.kind)) (by kernel_rfl) (Runs.load (t := 3) (a := ⟨b1, 0, none⟩) (by kernel_rfl) (H227.loads (by kernel_rfl))) (d := (some 34)) (by kernel_rfl) rfl ?_
          refine Ops.regs 1 [(3, (Value.pointer (some ⟨b1, 0, none⟩))), (4, (Value.pointer (some ⟨b9, 0, none⟩))), (6, (Value.pointer (some ⟨b208, 0, none⟩))), (25, (Value.slice (some ⟨b18, 0, none⟩) 5 5)), (26, (i64 5)), (27, (i64 4)), (28, (Value.bool true)), (35, (Value.bool (5 == x.kind)))] (j := 5) (by kernel_rfl) (by kernel_rfl) ?_
          refine Ops.done (by kernel_rfl) ?_
          refine q_cond (o := .tmp 35) (b := (5 == x.kind)) (by kernel_rfl) rfl (fun h235 => ?_) (fun h235 => ?_)
          · rw [h235]
            have p236 : 5 = x.kind := of_beq_t h235
            refine q_seq (by kernel_rfl) ?_
            refine q_region (by kernel_rfl) ?_
            refine Ops.regs 1 [(3, (Value.pointer (some ⟨b1, 0, none⟩))), (4, (Value.pointer (some ⟨b9, 0, none⟩))), (6, (Value.pointer (some ⟨b208, 0, none⟩))), (25, (Value.slice (some ⟨b18, 0, none⟩) 5 5)), (26, (i64 5)), (27, (i64 4)), (28, (Value.bool true)), (35, (Value.bool true)), (36, (Value.pointer (some ⟨b208, 1, none⟩)))] (j := 1) (by kernel_rfl) (by kernel_rfl) ?_
            refine Ops.go (v := (Value.func (Fn.func 63) ⟨[(Value.pointer (some ⟨b, 0, none⟩))]⟩ ⟨[]⟩)) (by kernel_rfl) (Runs.load (t := 30) (a := ⟨b208, 1, none⟩) (by kernel_rfl) (H224.loads (by kernel_rfl))) (d := (some 37)) (by kernel_rfl) rfl ?_
            refine Ops.go (v := (agg [(i64 x.kind), (i64 x.slot), (i64 x.shard), (i64 x.n), (i64 x.phase)])) (by kernel_rfl) (Runs.load (t := 32) (a := ⟨b1, 0, none⟩) (by kernel_rfl) (H227.loads (by kernel_rfl))) (d := (some 38)) (by kernel_rfl) rfl ?_
            refine Ops.call (by kernel_rfl) (d := (some 39)) (by kernel_rfl) (doThawed_calls _ b c ⟨x.kind, x.slot, x.shard, x.n, x.phase⟩ h H226) ?_
            rintro _ w237 ⟨rfl, K238, H239⟩
            refine ⟨_, _, rfl, rfl, ?_⟩
            have H241 := H227.keep K238 (by intro h; change b1 = b at h; omega)
            clear H227
            have H242 := H228.keep K238 (by intro h; change b9 = b at h; omega)
            clear H228
            have H243 := H229.keep K238 (by intro h; change b18 = b at h; omega)
            clear H229
            have H244 := H230.keep K238 (by intro h; change b28 = b at h; omega)
            clear H230
            have H245 := H231.keep K238 (by intro h; change b67 = b at h; omega)
            clear H231
            have H246 := H232.keep K238 (by intro h; change b110 = b at h; omega)
            clear H232
            have H247 := H233.keep K238 (by intro h; change b157 = b at h; omega)
            clear H233
            have H248 := H224.keep K238 (by intro h; change b208 = b at h; omega)
            clear H224
            have K249 := K234.trans K238 (U := (fun i => i = b)) (fun i h1 h2 => h2) (fun i h1 h2 => by have h2 : i = b := h2; show i = b; omega)
            clear K234
            clear K238
            refine Ops.put (t := 29) (b := b9) (off := 0) (v := (agg [(i64 ((c.doThawed ⟨x.kind, x.slot, x.shard, x.n, x.phase⟩).1.why)), (Value.bool ((c.doThawed ⟨x.kind, x.slot, x.shard, x.n, x.phase⟩).1.wait)), (i64 ((c.doThawed ⟨x.kind, x.slot, x.shard, x.n, x.phase⟩).1.n))])) (ys := [(i64 ((c.doThawed ⟨x.kind, x.slot, x.shard, x.n, x.phase⟩).1.why)), (Value.bool ((c.doThawed ⟨x.kind, x.slot, x.shard, x.n, x.phase⟩).1.wait)), (i64 ((c.doThawed ⟨x.kind, x.slot, x.shard, x.n, x.phase⟩).1.n))]) (by kernel_rfl) (by kernel_rfl) H242 (by kernel_rfl) (d := none) (by kernel_rfl) rfl (fun w250 H251 K252 => ?_)
            clear H242
            have H253 := H239.keep K252 (by intro h; change b = b9 at h; omega)
            clear H239
            have H254 := H241.keep K252 (by intro h; change b1 = b9 at h; omega)
            clear H241
            have H255 := H243.keep K252 (by intro h; change b18 = b9 at h; omega)
            clear H243
            have H256 := H244.keep K252 (by intro h; change b28 = b9 at h; omega)
            clear H244
            have H257 := H245.keep K252 (by intro h; change b67 = b9 at h; omega)
            clear H245
            have H258 := H246.keep K252 (by intro h; change b110 = b9 at h; omega)
            clear H246
            have H259 := H247.keep K252 (by intro h; change b157 = b9 at h; omega)
            clear H247
            have H260 := H248.keep K252 (by intro h; change b208 = b9 at h; omega)
            clear H248
            have K261 := K249.trans K252 (U := (fun i => i = b)) (fun i h1 h2 => h2) (fun i h1 h2 => by have h2 : i = b9 := h2; show i = b; omega)
            clear K249
            clear K252
            refine Ops.done (by kernel_rfl) ?_
            refine q_ret (by kernel_rfl) ?_
            refine ⟨(agg [(i64 ((c.doThawed ⟨x.kind, x.slot, x.shard, x.n, x.phase⟩).1.why)), (Value.bool ((c.doThawed ⟨x.kind, x.slot, x.shard, x.n, x.phase⟩).1.wait)), (i64 ((c.doThawed ⟨x.kind, x.slot, x.shard, x.n, x.phase⟩).1.n))]), retv_cell rfl rfl (H251.loads (by kernel_rfl)), ?_⟩
            have e : c.do_ x = c.doThawed ⟨x.kind, x.slot, x.shard, x.n, x.phase⟩ := by
              unfold Ch.do_
              first | rw [if_pos (by omega)] | (rw [if_neg (by omega)]; first | rw [if_pos (by omega)] | (rw [if_neg (by omega)]; first | rw [if_pos (by omega)] | (rw [if_neg (by omega)]; first | rw [if_pos (by omega)] | (rw [if_neg (by omega)]; first | rw [if_pos (by omega)] | rw [if_neg (by omega)]))))
            exact ⟨by rw [e]; rfl, K261, by rw [e]; exact H253⟩
          · rw [h235]
            have p262 : ¬ (5 = x.kind) := of_beq_f h235
            refine q_skip (by kernel_rfl) ?_
            refine q_region (by kernel_rfl) ?_
            refine Ops.regs 2 [(3, (Value.pointer (some ⟨b1, 0, none⟩))), (4, (Value.pointer (some ⟨b9, 0, none⟩))), (6, (Value.pointer (some ⟨b208, 0, none⟩))), (25, (Value.slice (some ⟨b18, 0, none⟩) 5 5)), (26, (i64 5)), (27, (i64 5)), (28, (Value.bool true)), (35, (Value.bool false))] (j := 2) (by kernel_rfl) (by kernel_rfl) ?_
            refine Ops.done (by kernel_rfl) ?_
            refine roll_step ?_
            refine q_seq (by kernel_rfl) ?_
            refine q_region (by kernel_rfl) ?_
            refine Ops.regs 1 [(3, (Value.pointer (some ⟨b1, 0, none⟩))), (4, (Value.pointer (some ⟨b9, 0, none⟩))), (6, (Value.pointer (some ⟨b208, 0, none⟩))), (25, (Value.slice (some ⟨b18, 0, none⟩) 5 5)), (26, (i64 5)), (27, (i64 5)), (28, (Value.bool false)), (35, (Value.bool false))] (j := 1) (by kernel_rfl) (by kernel_rfl) ?_
            refine Ops.done (by kernel_rfl) ?_
            refine q_seq (by kernel_rfl) ?_
            refine q_else (o := .tmp 28) (by kernel_rfl) rfl ?_
            refine q_exit (id := 0) (by kernel_rfl) ?_
            refine q_seq (by kernel_rfl) ?_
            refine q_region (by kernel_rfl) ?_
            refine Ops.regs 1 [(4, (Value.pointer (some ⟨b9, 0, none⟩))), (41, (agg [(i64 1), (Value.bool false), (i64 0)]))] (j := 1) (by kernel_rfl) (by kernel_rfl) ?_
            refine Ops.put (t := 29) (b := b9) (off := 0) (v := (agg [(i64 1), (Value.bool false), (i64 0)])) (ys := [(i64 1), (Value.bool false), (i64 0)]) (by kernel_rfl) (by kernel_rfl) H228 (by kernel_rfl) (d := none) (by kernel_rfl) rfl (fun w263 H264 K265 => ?_)
            clear H228
            have H266 := H226.keep K265 (by intro h; change b = b9 at h; omega)
            clear H226
            have H267 := H227.keep K265 (by intro h; change b1 = b9 at h; omega)
            clear H227
            have H268 := H229.keep K265 (by intro h; change b18 = b9 at h; omega)
            clear H229
            have H269 := H230.keep K265 (by intro h; change b28 = b9 at h; omega)
            clear H230
            have H270 := H231.keep K265 (by intro h; change b67 = b9 at h; omega)
            clear H231
            have H271 := H232.keep K265 (by intro h; change b110 = b9 at h; omega)
            clear H232
            have H272 := H233.keep K265 (by intro h; change b157 = b9 at h; omega)
            clear H233
            have H273 := H224.keep K265 (by intro h; change b208 = b9 at h; omega)
            clear H224
            have K274 := K234.trans K265 (U := (fun i => i = b)) (fun i h1 h2 => h2) (fun i h1 h2 => by have h2 : i = b9 := h2; show i = b; omega)
            clear K234
            clear K265
            refine Ops.done (by kernel_rfl) ?_
            refine q_ret (by kernel_rfl) ?_
            refine ⟨(agg [(i64 1), (Value.bool false), (i64 0)]), retv_cell rfl rfl (H264.loads (by kernel_rfl)), ?_⟩
            have e : c.do_ x = (⟨1, false, 0⟩, c) := by
              unfold Ch.do_
              first | rw [if_pos (by omega)] | (rw [if_neg (by omega)]; first | rw [if_pos (by omega)] | (rw [if_neg (by omega)]; first | rw [if_pos (by omega)] | (rw [if_neg (by omega)]; first | rw [if_pos (by omega)] | (rw [if_neg (by omega)]; first | rw [if_pos (by omega)] | rw [if_neg (by omega)]))))
            exact ⟨by rw [e]; rfl, K274, by rw [e]; exact H266⟩

theorem Owner_calls (w : World) (b : Nat) (c : Ch) (slot : Int) (h : c.Inv) (H0 : Has w b (rowL (chL c) 118)) : Calls Try.prog 15 ⟨[(Value.pointer (some ⟨b, 0, none⟩)), (i64 slot)]⟩ w (fun e w' => e = .returned (i64 (c.ownerAt slot)) ∧ Keeps none_ w w') := by
  have K0 : Keeps none_ w w := (Keeps.refl w)
  have Hb := H0.lt
  refine q_calls Try.func15 (by kernel_rfl) (by kernel_rfl) ?_
  refine q_seq (by kernel_rfl) ?_
  refine q_region (by kernel_rfl) ?_
  refine Ops.regs 1 [(0, (Value.pointer (some ⟨b, 0, none⟩))), (1, (i64 slot)), (4, (i64 0))] (j := 1) (by kernel_rfl) (by kernel_rfl) ?_
  refine Ops.done (by kernel_rfl) ?_
  refine q_seq (by kernel_rfl) ?_
  refine q_seq (by kernel_rfl) ?_
  refine q_region (by kernel_rfl) ?_
  refine Ops.regs 4 [(0, (Value.pointer (some ⟨b, 0, none⟩))), (1, (i64 slot)), (4, (i64 0)), (7, (Value.bool false)), (8, (i64 slot))] (j := 4) (by kernel_rfl) (by kernel_rfl) ?_
  refine Ops.call (by kernel_rfl) (d := (some 9)) (by kernel_rfl) (there_calls _ slot) ?_
  rintro _ _ ⟨rfl, rfl⟩
  refine ⟨_, _, rfl, rfl, ?_⟩
  refine Ops.regs 2 [(0, (Value.pointer (some ⟨b, 0, none⟩))), (1, (i64 slot)), (4, (i64 0)), (11, (Value.bool (!((decide (0 ≤ slot)) && (decide (slot < 16))))))] (j := 7) (by kernel_rfl) (by kernel_rfl) ?_
  refine Ops.done (by kernel_rfl) ?_
  refine q_cond (o := .tmp 11) (b := (!((decide (0 ≤ slot)) && (decide (slot < 16))))) (by kernel_rfl) rfl (fun h1 => ?_) (fun h1 => ?_)
  · rw [h1]
    have p2 : ¬ (0 ≤ slot ∧ slot < 16) := by simpa using (bnot_true h1)
    refine q_seq (by kernel_rfl) ?_
    refine q_region (by kernel_rfl) ?_
    refine Ops.regs 1 [(0, (Value.pointer (some ⟨b, 0, none⟩))), (1, (i64 slot)), (4, (i64 0))] (j := 1) (by kernel_rfl) (by kernel_rfl) ?_
    refine Ops.done (by kernel_rfl) ?_
    refine q_ret (by kernel_rfl) ?_
    refine ⟨(i64 0), retv_tmp rfl rfl, ?_⟩
    exact ⟨by simp only [Ch.ownerAt]; first | rw [if_pos ((there_iff _).2 (by omega))] | rw [if_neg (by rw [there_iff]; omega)], K0⟩
  · rw [h1]
    have p3 : (0 ≤ slot ∧ slot < 16) := by simpa using (bnot_false h1)
    refine q_skip (by kernel_rfl) ?_
    refine q_seq (by kernel_rfl) ?_
    refine q_region (by kernel_rfl) ?_
    refine Ops.regs 4 [(4, (i64 0)), (13, (i64 slot)), (15, (Value.pointer (some ⟨b, 1, none⟩)))] (j := 4) (by kernel_rfl) (by kernel_rfl) ?_
    refine Ops.go (by kernel_rfl) (Runs.ixArray (k := IntKind.i64) (t := 115) (b := b) (off := 1) (len := 16) (s := 1) (off' := 1 + (slot).toNat) (i := slot) (by kernel_rfl) (by kernel_rfl) (by omega) (by omega) (by omega)) (d := (some 16)) (by kernel_rfl) rfl ?_
    refine Ops.go (v := (i64 (c.owner.getD ((slot).toNat) 0))) (by kernel_rfl) (Runs.load (t := 3) (a := ⟨b, 1 + (slot).toNat, none⟩) (by kernel_rfl) (H0.loads (loadC1 (by kernel_rfl) (ch_own h.ok ((slot).toNat) (by omega))))) (d := (some 17)) (by kernel_rfl) rfl ?_
    refine Ops.regs 1 [(4, (i64 (c.owner.getD ((slot).toNat) 0)))] (j := 7) (by kernel_rfl) (by kernel_rfl) ?_
    refine Ops.done (by kernel_rfl) ?_
    refine q_ret (by kernel_rfl) ?_
    refine ⟨(i64 (c.owner.getD ((slot).toNat) 0)), retv_tmp rfl rfl, ?_⟩
    exact ⟨by simp only [Ch.ownerAt]; first | rw [if_pos ((there_iff _).2 (by omega))] | rw [if_neg (by rw [there_iff]; omega)], K0⟩

theorem Epoch_calls (w : World) (b : Nat) (c : Ch) (slot : Int) (h : c.Inv) (H0 : Has w b (rowL (chL c) 118)) : Calls Try.prog 18 ⟨[(Value.pointer (some ⟨b, 0, none⟩)), (i64 slot)]⟩ w (fun e w' => e = .returned (i64 (c.epochAt slot)) ∧ Keeps none_ w w') := by
  have K0 : Keeps none_ w w := (Keeps.refl w)
  have Hb := H0.lt
  refine q_calls Try.func18 (by kernel_rfl) (by kernel_rfl) ?_
  refine q_seq (by kernel_rfl) ?_
  refine q_region (by kernel_rfl) ?_
  refine Ops.regs 1 [(0, (Value.pointer (some ⟨b, 0, none⟩))), (1, (i64 slot)), (4, (i64 0))] (j := 1) (by kernel_rfl) (by kernel_rfl) ?_
  refine Ops.done (by kernel_rfl) ?_
  refine q_seq (by kernel_rfl) ?_
  refine q_seq (by kernel_rfl) ?_
  refine q_region (by kernel_rfl) ?_
  refine Ops.regs 4 [(0, (Value.pointer (some ⟨b, 0, none⟩))), (1, (i64 slot)), (4, (i64 0)), (7, (Value.bool false)), (8, (i64 slot))] (j := 4) (by kernel_rfl) (by kernel_rfl) ?_
  refine Ops.call (by kernel_rfl) (d := (some 9)) (by kernel_rfl) (there_calls _ slot) ?_
  rintro _ _ ⟨rfl, rfl⟩
  refine ⟨_, _, rfl, rfl, ?_⟩
  refine Ops.regs 2 [(0, (Value.pointer (some ⟨b, 0, none⟩))), (1, (i64 slot)), (4, (i64 0)), (11, (Value.bool (!((decide (0 ≤ slot)) && (decide (slot < 16))))))] (j := 7) (by kernel_rfl) (by kernel_rfl) ?_
  refine Ops.done (by kernel_rfl) ?_
  refine q_cond (o := .tmp 11) (b := (!((decide (0 ≤ slot)) && (decide (slot < 16))))) (by kernel_rfl) rfl (fun h1 => ?_) (fun h1 => ?_)
  · rw [h1]
    have p2 : ¬ (0 ≤ slot ∧ slot < 16) := by simpa using (bnot_true h1)
    refine q_seq (by kernel_rfl) ?_
    refine q_region (by kernel_rfl) ?_
    refine Ops.regs 1 [(0, (Value.pointer (some ⟨b, 0, none⟩))), (1, (i64 slot)), (4, (i64 0))] (j := 1) (by kernel_rfl) (by kernel_rfl) ?_
    refine Ops.done (by kernel_rfl) ?_
    refine q_ret (by kernel_rfl) ?_
    refine ⟨(i64 0), retv_tmp rfl rfl, ?_⟩
    exact ⟨by simp only [Ch.epochAt]; first | rw [if_pos ((there_iff _).2 (by omega))] | rw [if_neg (by rw [there_iff]; omega)], K0⟩
  · rw [h1]
    have p3 : (0 ≤ slot ∧ slot < 16) := by simpa using (bnot_false h1)
    refine q_skip (by kernel_rfl) ?_
    refine q_seq (by kernel_rfl) ?_
    refine q_region (by kernel_rfl) ?_
    refine Ops.regs 4 [(4, (i64 0)), (13, (i64 slot)), (15, (Value.pointer (some ⟨b, 17, none⟩)))] (j := 4) (by kernel_rfl) (by kernel_rfl) ?_
    refine Ops.go (by kernel_rfl) (Runs.ixArray (k := IntKind.i64) (t := 116) (b := b) (off := 17) (len := 16) (s := 1) (off' := 17 + (slot).toNat) (i := slot) (by kernel_rfl) (by kernel_rfl) (by omega) (by omega) (by omega)) (d := (some 16)) (by kernel_rfl) rfl ?_
    refine Ops.go (v := (i64 (c.epoch.getD ((slot).toNat) 0))) (by kernel_rfl) (Runs.load (t := 2) (a := ⟨b, 17 + (slot).toNat, none⟩) (by kernel_rfl) (H0.loads (loadC1 (by kernel_rfl) (ch_ep h.ok ((slot).toNat) (by omega))))) (d := (some 17)) (by kernel_rfl) rfl ?_
    refine Ops.regs 1 [(4, (i64 (c.epoch.getD ((slot).toNat) 0)))] (j := 7) (by kernel_rfl) (by kernel_rfl) ?_
    refine Ops.done (by kernel_rfl) ?_
    refine q_ret (by kernel_rfl) ?_
    refine ⟨(i64 (c.epoch.getD ((slot).toNat) 0)), retv_tmp rfl rfl, ?_⟩
    exact ⟨by simp only [Ch.epochAt]; first | rw [if_pos ((there_iff _).2 (by omega))] | rw [if_neg (by rw [there_iff]; omega)], K0⟩

theorem Move_calls (w : World) (b : Nat) (c : Ch) (h : c.Inv) (H0 : Has w b (rowL (chL c) 118)) : Calls Try.prog 17 ⟨[(Value.pointer (some ⟨b, 0, none⟩))]⟩ w (fun e w' => e = .returned (agg c.moves) ∧ Keeps none_ w w') := by
  have K0 : Keeps none_ w w := (Keeps.refl w)
  have Hb := H0.lt
  refine q_calls Try.func17 (by kernel_rfl) (by kernel_rfl) ?_
  refine q_seq (by kernel_rfl) ?_
  refine q_region (by kernel_rfl) ?_
  refine Ops.new (o := rowL [(i64 0), (i64 0), (i64 0), (i64 0), (i64 0), (i64 0)] 34) (V := fun b => (Value.pointer (some ⟨b, 0, none⟩))) (by kernel_rfl) (d := (some 2)) (by kernel_rfl) (fun b => rfl) (fun b1 w2 hb3 H4 K5 hs6 => ?_)
  have lb1 : b < b1 := by have := H0.lt; omega
  have nb1 : w.heap.size ≤ b1 := by have := K0.size; omega
  have H7 := H0.keep K5 (fun h => h)
  clear H0
  have K8 := K0.trans K5 (U := none_) (fun i h1 h2 => h2) (fun i h1 h2 => by exact h2)
  clear K0
  clear K5 hs6
  refine Ops.done (by kernel_rfl) ?_
  refine q_seq (by kernel_rfl) ?_
  refine q_seq (by kernel_rfl) ?_
  refine q_region (by kernel_rfl) ?_
  refine Ops.regs 2 [(0, (Value.pointer (some ⟨b, 0, none⟩))), (2, (Value.pointer (some ⟨b1, 0, none⟩))), (4, (Value.bool false))] (j := 2) (by kernel_rfl) (by kernel_rfl) ?_
  refine Ops.done (by kernel_rfl) ?_
  refine q_else (o := .tmp 4) (by kernel_rfl) rfl ?_
  refine q_skip (by kernel_rfl) ?_
  refine q_seq (by kernel_rfl) ?_
  refine q_region (by kernel_rfl) ?_
  refine Ops.regs 3 [(2, (Value.pointer (some ⟨b1, 0, none⟩))), (8, (Value.pointer (some ⟨b, 34, none⟩)))] (j := 3) (by kernel_rfl) (by kernel_rfl) ?_
  refine Ops.go (v := (agg [(i64 c.ms), (i64 c.mf), (i64 c.mt), (i64 c.me), (i64 c.mp), (i64 c.mn)])) (by kernel_rfl) (Runs.load (t := 34) (a := ⟨b, 34, none⟩) (by kernel_rfl) (H7.loads (loadCN (by kernel_rfl) (by kernel_rfl) (ch_move h.ok) (by rw [chL_length h.ok]; exact Nat.le_of_ble_eq_true rfl)))) (d := (some 9)) (by kernel_rfl) rfl ?_
  refine Ops.put (t := 34) (b := b1) (off := 0) (v := (agg [(i64 c.ms), (i64 c.mf), (i64 c.mt), (i64 c.me), (i64 c.mp), (i64 c.mn)])) (ys := [(i64 c.ms), (i64 c.mf), (i64 c.mt), (i64 c.me), (i64 c.mp), (i64 c.mn)]) (by kernel_rfl) (by kernel_rfl) H4 (by kernel_rfl) (d := none) (by kernel_rfl) rfl (fun w9 H10 K11 => ?_)
  clear H4
  have H12 := H7.keep K11 (by intro h; change b = b1 at h; omega)
  clear H7
  have K13 := K8.trans K11 (U := none_) (fun i h1 h2 => h2) (fun i h1 h2 => by have h2 : i = b1 := h2; exfalso; omega)
  clear K8
  clear K11
  refine Ops.done (by kernel_rfl) ?_
  refine q_ret (by kernel_rfl) ?_
  refine ⟨(agg [(i64 c.ms), (i64 c.mf), (i64 c.mt), (i64 c.me), (i64 c.mp), (i64 c.mn)]), retv_cell rfl rfl (H10.loads (by kernel_rfl)), ?_⟩
  exact ⟨rfl, K13⟩

theorem Audit_calls (w : World) (b : Nat) (c : Ch) (h : c.Inv) (H0 : Has w b (rowL (chL c) 118)) : Calls Try.prog 20 ⟨[(Value.pointer (some ⟨b, 0, none⟩))]⟩ w (fun e w' => e = .returned (.tuple #[i64 c.audit, i64 c.phase]) ∧ Keeps none_ w w') := by
  have K0 : Keeps none_ w w := (Keeps.refl w)
  have Hb := H0.lt
  refine q_calls Try.func20 (by kernel_rfl) (by kernel_rfl) ?_
  refine q_seq (by kernel_rfl) ?_
  refine q_region (by kernel_rfl) ?_
  refine Ops.regs 2 [(0, (Value.pointer (some ⟨b, 0, none⟩))), (2, (i64 0)), (3, (i64 0))] (j := 2) (by kernel_rfl) (by kernel_rfl) ?_
  refine Ops.done (by kernel_rfl) ?_
  refine q_seq (by kernel_rfl) ?_
  refine q_seq (by kernel_rfl) ?_
  refine q_region (by kernel_rfl) ?_
  refine Ops.regs 2 [(0, (Value.pointer (some ⟨b, 0, none⟩))), (2, (i64 0)), (3, (i64 0)), (5, (Value.bool false))] (j := 2) (by kernel_rfl) (by kernel_rfl) ?_
  refine Ops.done (by kernel_rfl) ?_
  refine q_else (o := .tmp 5) (by kernel_rfl) rfl ?_
  refine q_skip (by kernel_rfl) ?_
  refine q_seq (by kernel_rfl) ?_
  refine q_draw (fun wz => Keeps none_ w wz) 10 (by kernel_rfl) (by kernel_rfl) (by kernel_rfl) (fun w1 K2 _ _ => ⟨K2, ?_⟩)
  have H3 := H0.keep K2 (fun h => h)
  clear H0
  have K4 := K0.trans K2 (U := none_) (fun i h1 h2 => h2) (fun i h1 h2 => by exact h2)
  clear K0
  refine Dr.strong (S' := (fun wz => Keeps none_ w1 wz)) (Keeps.refl w1) (fun wz hx => K2.trans hx (fun _ _ h => h) (fun _ _ h => h)) ?_
  clear K2
  refine Dr.takes (fuel' := 7) (is' := [2, 1, 0]) [0, 1, 2] [(0, (Value.pointer (some ⟨b, 0, none⟩))), (2, (i64 0)), (3, (i64 0)), (8, (Value.pointer (some ⟨b, 40, none⟩)))] (by kernel_rfl) rfl (by kernel_rfl) ?_
  refine Dr.take (i := 3) (v := (i64 c.audit)) (by kernel_rfl) (by kernel_rfl) (fun wz hS => Runs.load (t := 2) (a := ⟨b, 40, none⟩) (by kernel_rfl) ((H3.keep hS (fun h => h)).loads (loadC1 (by kernel_rfl) (ch_40 h.ok)))) (d := (some 9)) (by kernel_rfl) rfl ?_
  refine Dr.takes (fuel' := 3) (is' := [6, 5, 4, 3, 2, 1, 0]) [4, 5, 6] [(2, (i64 0)), (3, (i64 0)), (9, (i64 c.audit)), (12, (Value.pointer (some ⟨b, 41, none⟩)))] (by kernel_rfl) rfl (by kernel_rfl) ?_
  refine Dr.take (i := 7) (v := (i64 c.phase)) (by kernel_rfl) (by kernel_rfl) (fun wz hS => Runs.load (t := 3) (a := ⟨b, 41, none⟩) (by kernel_rfl) ((H3.keep hS (fun h => h)).loads (loadC1 (by kernel_rfl) (ch_41 h.ok)))) (d := (some 13)) (by kernel_rfl) rfl ?_
  refine Dr.takes (fuel' := 0) (is' := [9, 8, 7, 6, 5, 4, 3, 2, 1, 0]) [8, 9] [(2, (i64 c.audit)), (3, (i64 c.phase))] (by kernel_rfl) rfl (by kernel_rfl) ?_
  refine Dr.done (by kernel_rfl) ?_
  refine q_ret (by kernel_rfl) ?_
  refine ⟨(Value.tuple #[(i64 c.audit), (i64 c.phase)]), retv_tmp2 rfl rfl rfl, ?_⟩
  exact ⟨rfl, K4⟩

theorem Shards_calls (w : World) (b : Nat) (c : Ch) (h : c.Inv) (H0 : Has w b (rowL (chL c) 118)) : Calls Try.prog 27 ⟨[(Value.pointer (some ⟨b, 0, none⟩))]⟩ w (fun e w' => e = .returned (i64 c.shards) ∧ Keeps none_ w w') := by
  have K0 : Keeps none_ w w := (Keeps.refl w)
  have Hb := H0.lt
  refine q_calls Try.func27 (by kernel_rfl) (by kernel_rfl) ?_
  refine q_seq (by kernel_rfl) ?_
  refine q_region (by kernel_rfl) ?_
  refine Ops.regs 1 [(0, (Value.pointer (some ⟨b, 0, none⟩))), (2, (i64 0))] (j := 1) (by kernel_rfl) (by kernel_rfl) ?_
  refine Ops.done (by kernel_rfl) ?_
  refine q_seq (by kernel_rfl) ?_
  refine q_seq (by kernel_rfl) ?_
  refine q_region (by kernel_rfl) ?_
  refine Ops.regs 2 [(0, (Value.pointer (some ⟨b, 0, none⟩))), (2, (i64 0)), (4, (Value.bool false))] (j := 2) (by kernel_rfl) (by kernel_rfl) ?_
  refine Ops.done (by kernel_rfl) ?_
  refine q_else (o := .tmp 4) (by kernel_rfl) rfl ?_
  refine q_skip (by kernel_rfl) ?_
  refine q_seq (by kernel_rfl) ?_
  refine q_region (by kernel_rfl) ?_
  refine Ops.regs 3 [(2, (i64 0)), (7, (Value.pointer (some ⟨b, 0, none⟩)))] (j := 3) (by kernel_rfl) (by kernel_rfl) ?_
  refine Ops.go (v := (i64 c.shards)) (by kernel_rfl) (Runs.load (t := 3) (a := ⟨b, 0, none⟩) (by kernel_rfl) (H0.loads (loadC1 (by kernel_rfl) (ch_0 h.ok)))) (d := (some 8)) (by kernel_rfl) rfl ?_
  refine Ops.regs 1 [(2, (i64 c.shards))] (j := 5) (by kernel_rfl) (by kernel_rfl) ?_
  refine Ops.done (by kernel_rfl) ?_
  refine q_ret (by kernel_rfl) ?_
  refine ⟨(i64 c.shards), retv_tmp rfl rfl, ?_⟩
  exact ⟨rfl, K0⟩
end Go.Proofs.Ytoljbckhoigibaa
