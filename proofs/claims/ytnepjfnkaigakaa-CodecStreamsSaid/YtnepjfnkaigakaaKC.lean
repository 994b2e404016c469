/- codec: readers on both sides: how many, bytes, texts, truths, operations -/
import Derived.Test.YtnepjfnkaigakaaProg
import Derived.Test.YtnepjfnkaigakaaKB
set_option linter.unusedVariables false
namespace Go.Proofs.Ytnepjfnkaigakaa
open Go.Q Go.RowKit

theorem sized_calls (w : World) (b : Nat) (A : Option Addr) (c : Nat) (r : Rdr) (hok : r.Ok) (H0 : Has w b (rowL (rdrL A c r) 88)) (hR : RdO w A c r.bs) (hne : ∀ g o s, A = some ⟨g, o, s⟩ → g ≠ b) (most : Int) (hm : -9223372036854775808 ≤ most ∧ most ≤ 9223372036854775807) : Calls Try.prog 67 ⟨[(Value.pointer (some ⟨b, 0, none⟩)), (i64 most)]⟩ w (fun e w' => e = .returned (i64 (((r.sized most).1 : Nat) : Int)) ∧ Keeps (fun i => i = b) w w' ∧ Has w' b (rowL (rdrL A c (r.sized most).2) 88)) := by
  have hpos := hok.pos
  have hlen := hok.len
  have hsc := r.scan_le
  have hdl : (r.bs.drop r.pos).length = r.bs.length - r.pos := List.length_drop
  have hcap := hR.1.slice
  have Hb := H0.lt
  have K0 : Keeps (fun i => i = b) w w := (Keeps.refl w).mono (fun _ _ h => h.elim)
  have hub := r.uint_bs
  have hubl := congrArg List.length hub
  have hul := r.uint_lt
  refine q_calls Try.func67 (by kernel_rfl) (by kernel_rfl) ?_
  refine q_seq (by kernel_rfl) ?_
  refine q_region (by kernel_rfl) ?_
  refine Ops.regs 1 [(0, (Value.pointer (some ⟨b, 0, none⟩))), (1, (i64 most)), (4, (i64 0))] (j := 1) (by kernel_rfl) (by kernel_rfl) ?_
  refine Ops.done (by kernel_rfl) ?_
  refine q_seq (by kernel_rfl) ?_
  refine q_seq (by kernel_rfl) ?_
  refine q_region (by kernel_rfl) ?_
  refine Ops.regs 1 [(0, (Value.pointer (some ⟨b, 0, none⟩))), (1, (i64 most)), (4, (i64 0)), (7, (Value.pointer (some ⟨b, 0, none⟩)))] (j := 1) (by kernel_rfl) (by kernel_rfl) ?_
  refine Ops.call (by kernel_rfl) (d := (some 8)) (by kernel_rfl) (ok_calls _ b A c r hok H0 hR hne) ?_
  rintro _ w1 ⟨rfl, K2⟩
  refine ⟨_, _, rfl, rfl, ?_⟩
  have K3 := K0.trans K2 (U := (fun i => i = b)) (fun i h1 h2 => h2) (fun i h1 h2 => by exact h2.elim)
  clear K0
  have H4 := H0.keep K2 (fun h => h)
  clear H0
  have F5 := RdO.keep0 hR K2
  clear hR
  clear K2
  refine Ops.regs 1 [(0, (Value.pointer (some ⟨b, 0, none⟩))), (1, (i64 most)), (4, (i64 0)), (9, (Value.bool (!(r.why == 0))))] (j := 3) (by kernel_rfl) (by kernel_rfl) ?_
  refine Ops.done (by kernel_rfl) ?_
  refine q_cond (o := .tmp 9) (b := (!(r.why == 0))) (by kernel_rfl) rfl (fun h6 => ?_) (fun h6 => ?_)
  · rw [h6]
    have p7 : ¬ (r.why = 0) := of_beq_f (bnot_true h6)
    refine q_seq (by kernel_rfl) ?_
    refine q_region (by kernel_rfl) ?_
    refine Ops.regs 1 [(0, (Value.pointer (some ⟨b, 0, none⟩))), (1, (i64 most)), (4, (i64 0))] (j := 1) (by kernel_rfl) (by kernel_rfl) ?_
    refine Ops.done (by kernel_rfl) ?_
    refine q_ret (by kernel_rfl) ?_
    refine ⟨(i64 0), retv_tmp rfl rfl, ?_⟩
    have e : r.sized most = (0, r) := by unfold Rdr.sized; (repeat' split) <;> first | (exfalso; omega) | rfl | (simp only [Rdr.uint_bs]; done) | (rw [Rdr.uint_bs]; done)
    exact ⟨by first | (rw [e]; done) | (rw [e]; rfl), K3, by rw [e]; exact H4⟩
  · rw [h6]
    have p8 : r.why = 0 := of_beq_t (bnot_false h6)
    refine q_skip (by kernel_rfl) ?_
    refine q_seq (by kernel_rfl) ?_
    refine q_region (by kernel_rfl) ?_
    refine Ops.regs 3 [(0, (Value.pointer (some ⟨b, 0, none⟩))), (1, (i64 most)), (4, (i64 0)), (12, (Value.pointer (some ⟨b, 1, none⟩)))] (j := 3) (by kernel_rfl) (by kernel_rfl) ?_
    refine Ops.go (v := (i64 ((r.pos : Nat) : Int))) (by kernel_rfl) (Runs.load (t := 3) (a := ⟨b, 1, none⟩) (by kernel_rfl) (H4.loads (by kernel_rfl))) (d := (some 13)) (by kernel_rfl) rfl ?_
    refine Ops.regs 1 [(0, (Value.pointer (some ⟨b, 0, none⟩))), (1, (i64 most)), (4, (i64 0)), (5, (i64 ((r.pos : Nat) : Int)))] (j := 5) (by kernel_rfl) (by kernel_rfl) ?_
    refine Ops.done (by kernel_rfl) ?_
    refine q_seq (by kernel_rfl) ?_
    refine q_region (by kernel_rfl) ?_
    refine Ops.regs 1 [(0, (Value.pointer (some ⟨b, 0, none⟩))), (1, (i64 most)), (4, (i64 0)), (5, (i64 ((r.pos : Nat) : Int))), (14, (Value.pointer (some ⟨b, 0, none⟩)))] (j := 1) (by kernel_rfl) (by kernel_rfl) ?_
    refine Ops.call (by kernel_rfl) (d := (some 15)) (by kernel_rfl) (RdUint_calls _ b A c r hok H4 F5 hne) ?_
    rintro _ w9 ⟨rfl, K10, H11⟩
    have hok12 := Rdr.Ok.uint hok
    have hu13 := Rdr.uint_lt r
    refine ⟨_, _, rfl, rfl, ?_⟩
    have K14 := K3.trans K10 (U := (fun i => i = b)) (fun i h1 h2 => h2) (fun i h1 h2 => by have h2 : i = b := h2; show i = b; omega)
    clear K3
    have F15 := RdO.keep F5 K10 (fun i _ _ hi hs => by have hs : i = b := hs; have := hne i _ _ hi; omega)
    clear F5
    clear K10
    have F16 : RdO w9 A c (r.uint.2).bs := by rw [Rdr.uint_bs]; exact F15
    clear F15
    refine Ops.regs 1 [(0, (Value.pointer (some ⟨b, 0, none⟩))), (1, (i64 most)), (4, (i64 0)), (5, (i64 ((r.pos : Nat) : Int))), (6, (Value.int IntKind.u64 ((r.uint.1 : Nat) : Int)))] (j := 3) (by kernel_rfl) (by kernel_rfl) ?_
    refine Ops.done (by kernel_rfl) ?_
    refine q_seq (by kernel_rfl) ?_
    refine q_block (id := 0) (by kernel_rfl) ?_
    refine q_seq (by kernel_rfl) ?_
    refine q_region (by kernel_rfl) ?_
    refine Ops.regs 3 [(0, (Value.pointer (some ⟨b, 0, none⟩))), (1, (i64 most)), (4, (i64 0)), (5, (i64 ((r.pos : Nat) : Int))), (6, (Value.int IntKind.u64 ((r.uint.1 : Nat) : Int))), (21, (Value.pointer (some ⟨b, 2, none⟩)))] (j := 3) (by kernel_rfl) (by kernel_rfl) ?_
    refine Ops.go (v := (i64 r.uint.2.why)) (by kernel_rfl) (Runs.load (t := 28) (a := ⟨b, 2, none⟩) (by kernel_rfl) (H11.loads (by kernel_rfl))) (d := (some 22)) (by kernel_rfl) rfl ?_
    refine Ops.regs 2 [(0, (Value.pointer (some ⟨b, 0, none⟩))), (1, (i64 most)), (4, (i64 0)), (5, (i64 ((r.pos : Nat) : Int))), (6, (Value.int IntKind.u64 ((r.uint.1 : Nat) : Int))), (18, (Value.bool (r.uint.2.why != 0)))] (j := 6) (by kernel_rfl) (by kernel_rfl) ?_
    refine Ops.done (by kernel_rfl) ?_
    refine q_cond (o := .tmp 18) (b := (r.uint.2.why != 0)) (by kernel_rfl) rfl (fun h17 => ?_) (fun h17 => ?_)
    · rw [h17]
      have p18 : ¬ (r.uint.2.why = 0) := of_bne_t h17
      refine q_skip (by kernel_rfl) ?_
      refine q_seq (by kernel_rfl) ?_
      refine q_region (by kernel_rfl) ?_
      refine Ops.regs 4 [(4, (i64 0)), (47, (i64 ((r.pos : Nat) : Int))), (49, (Value.pointer (some ⟨b, 1, none⟩)))] (j := 4) (by kernel_rfl) (by kernel_rfl) ?_
      refine Ops.put (t := 3) (b := b) (off := 1) (v := (i64 ((r.pos : Nat) : Int))) (ys := [(Value.slice A r.uint.2.bs.length c), (i64 ((r.pos : Nat) : Int)), (i64 r.uint.2.why)]) (by kernel_rfl) (by kernel_rfl) H11 (by kernel_rfl) (d := none) (by kernel_rfl) rfl (fun w19 H20 K21 => ?_)
      clear H11
      have K22 := K14.trans K21 (U := (fun i => i = b)) (fun i h1 h2 => h2) (fun i h1 h2 => by have h2 : i = b := h2; show i = b; omega)
      clear K14
      have F23 := RdO.keep F16 K21 (fun i _ _ hi hs => by have hs : i = b := hs; have := hne i _ _ hi; omega)
      clear F16
      clear K21
      refine Ops.done (by kernel_rfl) ?_
      refine q_seq (by kernel_rfl) ?_
      refine q_region (by kernel_rfl) ?_
      refine Ops.regs 1 [(4, (i64 0))] (j := 1) (by kernel_rfl) (by kernel_rfl) ?_
      refine Ops.done (by kernel_rfl) ?_
      refine q_ret (by kernel_rfl) ?_
      refine ⟨(i64 0), retv_tmp rfl rfl, ?_⟩
      have e : r.sized most = (0, (⟨r.uint.2.bs, r.pos, r.uint.2.why⟩ : Rdr)) := by unfold Rdr.sized; (repeat' split) <;> first | (exfalso; omega) | rfl | (simp only [Rdr.uint_bs]; done) | (rw [Rdr.uint_bs]; done)
      exact ⟨by first | (rw [e]; done) | (rw [e]; rfl), K22, by rw [e]; exact H20⟩
    · rw [h17]
      have p24 : r.uint.2.why = 0 := of_bne_f h17
      refine q_seq (by kernel_rfl) ?_
      refine q_region (by kernel_rfl) ?_
      refine Ops.regs 3 [(0, (Value.pointer (some ⟨b, 0, none⟩))), (1, (i64 most)), (4, (i64 0)), (5, (i64 ((r.pos : Nat) : Int))), (6, (Value.int IntKind.u64 ((r.uint.1 : Nat) : Int))), (27, (Value.bool (decide (most < 0))))] (j := 3) (by kernel_rfl) (by kernel_rfl) ?_
      refine Ops.split (decide (most < 0)) (fun h25 => ?_) (fun h25 => ?_)
      · rw [h25]
        have p26 : most < 0 := of_decide_eq_true h25
        refine Ops.regs 6 [(0, (Value.pointer (some ⟨b, 0, none⟩))), (4, (i64 0)), (5, (i64 ((r.pos : Nat) : Int))), (6, (Value.int IntKind.u64 ((r.uint.1 : Nat) : Int))), (24, (Value.bool true))] (j := 9) (by kernel_rfl) (by kernel_rfl) ?_
        refine Ops.done (by kernel_rfl) ?_
        refine q_then (o := .tmp 24) (by kernel_rfl) rfl ?_
        refine q_region (by kernel_rfl) ?_
        refine Ops.regs 3 [(0, (Value.pointer (some ⟨b, 0, none⟩))), (4, (i64 0)), (5, (i64 ((r.pos : Nat) : Int))), (6, (Value.int IntKind.u64 ((r.uint.1 : Nat) : Int))), (35, (Value.pointer (some ⟨b, 2, none⟩)))] (j := 3) (by kernel_rfl) (by kernel_rfl) ?_
        refine Ops.put (t := 28) (b := b) (off := 2) (v := (i64 3)) (ys := [(Value.slice A r.uint.2.bs.length c), (i64 ((r.uint.2.pos : Nat) : Int)), (i64 3)]) (by kernel_rfl) (by kernel_rfl) H11 (by kernel_rfl) (d := none) (by kernel_rfl) rfl (fun w27 H28 K29 => ?_)
        clear H11
        have K30 := K14.trans K29 (U := (fun i => i = b)) (fun i h1 h2 => h2) (fun i h1 h2 => by have h2 : i = b := h2; show i = b; omega)
        clear K14
        have F31 := RdO.keep F16 K29 (fun i _ _ hi hs => by have hs : i = b := hs; have := hne i _ _ hi; omega)
        clear F16
        clear K29
        refine Ops.done (by kernel_rfl) ?_
        refine q_seq (by kernel_rfl) ?_
        refine q_region (by kernel_rfl) ?_
        refine Ops.regs 4 [(4, (i64 0)), (47, (i64 ((r.pos : Nat) : Int))), (49, (Value.pointer (some ⟨b, 1, none⟩)))] (j := 4) (by kernel_rfl) (by kernel_rfl) ?_
        refine Ops.put (t := 3) (b := b) (off := 1) (v := (i64 ((r.pos : Nat) : Int))) (ys := [(Value.slice A r.uint.2.bs.length c), (i64 ((r.pos : Nat) : Int)), (i64 3)]) (by kernel_rfl) (by kernel_rfl) H28 (by kernel_rfl) (d := none) (by kernel_rfl) rfl (fun w32 H33 K34 => ?_)
        clear H28
        have K35 := K30.trans K34 (U := (fun i => i = b)) (fun i h1 h2 => h2) (fun i h1 h2 => by have h2 : i = b := h2; show i = b; omega)
        clear K30
        have F36 := RdO.keep F31 K34 (fun i _ _ hi hs => by have hs : i = b := hs; have := hne i _ _ hi; omega)
        clear F31
        clear K34
        refine Ops.done (by kernel_rfl) ?_
        refine q_seq (by kernel_rfl) ?_
        refine q_region (by kernel_rfl) ?_
        refine Ops.regs 1 [(4, (i64 0))] (j := 1) (by kernel_rfl) (by kernel_rfl) ?_
        refine Ops.done (by kernel_rfl) ?_
        refine q_ret (by kernel_rfl) ?_
        refine ⟨(i64 0), retv_tmp rfl rfl, ?_⟩
        have e : r.sized most = (0, (⟨r.uint.2.bs, r.pos, 3⟩ : Rdr)) := by unfold Rdr.sized; (repeat' split) <;> first | (exfalso; omega) | rfl | (simp only [Rdr.uint_bs]; done) | (rw [Rdr.uint_bs]; done)
        exact ⟨by first | (rw [e]; done) | (rw [e]; rfl), K35, by rw [e]; exact H33⟩
      · rw [h25]
        have p37 : ¬ (most < 0) := of_decide_eq_false h25
        refine Ops.regs 3 [(0, (Value.pointer (some ⟨b, 0, none⟩))), (4, (i64 0)), (5, (i64 ((r.pos : Nat) : Int))), (6, (Value.int IntKind.u64 ((r.uint.1 : Nat) : Int))), (27, (Value.bool false)), (28, (Value.int IntKind.u64 ((r.uint.1 : Nat) : Int))), (30, (Value.int IntKind.u64 (IntKind.u64.wrap (most))))] (j := 6) (by kernel_rfl) (by kernel_rfl) ?_
        have e38 : IntKind.u64.wrap (most) = most := wrap_u64 (by omega) (by omega)
        rw [e38]
        refine Ops.regs 3 [(0, (Value.pointer (some ⟨b, 0, none⟩))), (4, (i64 0)), (5, (i64 ((r.pos : Nat) : Int))), (6, (Value.int IntKind.u64 ((r.uint.1 : Nat) : Int))), (24, (Value.bool (decide (((r.uint.1 : Nat) : Int) > most))))] (j := 9) (by kernel_rfl) (by kernel_rfl) ?_
        refine Ops.done (by kernel_rfl) ?_
        refine q_cond (o := .tmp 24) (b := (decide (((r.uint.1 : Nat) : Int) > most))) (by kernel_rfl) rfl (fun h39 => ?_) (fun h39 => ?_)
        · rw [h39]
          have p40 : ((r.uint.1 : Nat) : Int) > most := of_decide_eq_true h39
          refine q_region (by kernel_rfl) ?_
          refine Ops.regs 3 [(0, (Value.pointer (some ⟨b, 0, none⟩))), (4, (i64 0)), (5, (i64 ((r.pos : Nat) : Int))), (6, (Value.int IntKind.u64 ((r.uint.1 : Nat) : Int))), (35, (Value.pointer (some ⟨b, 2, none⟩)))] (j := 3) (by kernel_rfl) (by kernel_rfl) ?_
          refine Ops.put (t := 28) (b := b) (off := 2) (v := (i64 3)) (ys := [(Value.slice A r.uint.2.bs.length c), (i64 ((r.uint.2.pos : Nat) : Int)), (i64 3)]) (by kernel_rfl) (by kernel_rfl) H11 (by kernel_rfl) (d := none) (by kernel_rfl) rfl (fun w41 H42 K43 => ?_)
          clear H11
          have K44 := K14.trans K43 (U := (fun i => i = b)) (fun i h1 h2 => h2) (fun i h1 h2 => by have h2 : i = b := h2; show i = b; omega)
          clear K14
          have F45 := RdO.keep F16 K43 (fun i _ _ hi hs => by have hs : i = b := hs; have := hne i _ _ hi; omega)
          clear F16
          clear K43
          refine Ops.done (by kernel_rfl) ?_
          refine q_seq (by kernel_rfl) ?_
          refine q_region (by kernel_rfl) ?_
          refine Ops.regs 4 [(4, (i64 0)), (47, (i64 ((r.pos : Nat) : Int))), (49, (Value.pointer (some ⟨b, 1, none⟩)))] (j := 4) (by kernel_rfl) (by kernel_rfl) ?_
          refine Ops.put (t := 3) (b := b) (off := 1) (v := (i64 ((r.pos : Nat) : Int))) (ys := [(Value.slice A r.uint.2.bs.length c), (i64 ((r.pos : Nat) : Int)), (i64 3)]) (by kernel_rfl) (by kernel_rfl) H42 (by kernel_rfl) (d := none) (by kernel_rfl) rfl (fun w46 H47 K48 => ?_)
          clear H42
          have K49 := K44.trans K48 (U := (fun i => i = b)) (fun i h1 h2 => h2) (fun i h1 h2 => by have h2 : i = b := h2; show i = b; omega)
          clear K44
          have F50 := RdO.keep F45 K48 (fun i _ _ hi hs => by have hs : i = b := hs; have := hne i _ _ hi; omega)
          clear F45
          clear K48
          refine Ops.done (by kernel_rfl) ?_
          refine q_seq (by kernel_rfl) ?_
          refine q_region (by kernel_rfl) ?_
          refine Ops.regs 1 [(4, (i64 0))] (j := 1) (by kernel_rfl) (by kernel_rfl) ?_
          refine Ops.done (by kernel_rfl) ?_
          refine q_ret (by kernel_rfl) ?_
          refine ⟨(i64 0), retv_tmp rfl rfl, ?_⟩
          have e : r.sized most = (0, (⟨r.uint.2.bs, r.pos, 3⟩ : Rdr)) := by unfold Rdr.sized; (repeat' split) <;> first | (exfalso; omega) | rfl | (simp only [Rdr.uint_bs]; done) | (rw [Rdr.uint_bs]; done)
          exact ⟨by first | (rw [e]; done) | (rw [e]; rfl), K49, by rw [e]; exact H47⟩
        · rw [h39]
          have p51 : ¬ (((r.uint.1 : Nat) : Int) > most) := of_decide_eq_false h39
          refine q_seq (by kernel_rfl) ?_
          refine q_region (by kernel_rfl) ?_
          refine Ops.regs 2 [(0, (Value.pointer (some ⟨b, 0, none⟩))), (4, (i64 0)), (5, (i64 ((r.pos : Nat) : Int))), (6, (Value.int IntKind.u64 ((r.uint.1 : Nat) : Int))), (37, (Value.int IntKind.u64 ((r.uint.1 : Nat) : Int))), (38, (Value.pointer (some ⟨b, 0, none⟩)))] (j := 2) (by kernel_rfl) (by kernel_rfl) ?_
          refine Ops.call (by kernel_rfl) (d := (some 39)) (by kernel_rfl) (left_calls _ b A c r.uint.2 hok12 H11 F16 hne) ?_
          rintro _ w52 ⟨A54, c55, rfl, K53, h56, hlb57⟩
          have ob58 := left_ne (n := (r.uint.2.bs.drop r.uint.2.pos).length) (c := c55) hlb57 hne
          have hdlA54 : (r.uint.2.bs.drop r.uint.2.pos).length = r.uint.2.bs.length - r.uint.2.pos := List.length_drop
          have hslA54 := RdB.slice h56
          refine ⟨_, _, rfl, rfl, ?_⟩
          have K59 := K14.trans K53 (U := (fun i => i = b)) (fun i h1 h2 => h2) (fun i h1 h2 => by exact h2.elim)
          clear K14
          have H60 := H11.keep K53 (fun h => h)
          clear H11
          have F61 := RdO.keep0 F16 K53
          clear F16
          clear K53
          refine Ops.regs 2 [(0, (Value.pointer (some ⟨b, 0, none⟩))), (4, (i64 0)), (5, (i64 ((r.pos : Nat) : Int))), (6, (Value.int IntKind.u64 ((r.uint.1 : Nat) : Int))), (37, (Value.int IntKind.u64 ((r.uint.1 : Nat) : Int))), (41, (Value.int IntKind.u64 (IntKind.u64.wrap ((((r.uint.2.bs.drop r.uint.2.pos).length : Nat) : Int)))))] (j := 5) (by kernel_rfl) (by kernel_rfl) ?_
          have e62 : IntKind.u64.wrap ((((r.uint.2.bs.drop r.uint.2.pos).length : Nat) : Int)) = (((r.uint.2.bs.drop r.uint.2.pos).length : Nat) : Int) := wrap_u64 (by omega) (by omega)
          rw [e62]
          refine Ops.regs 2 [(0, (Value.pointer (some ⟨b, 0, none⟩))), (4, (i64 0)), (5, (i64 ((r.pos : Nat) : Int))), (6, (Value.int IntKind.u64 ((r.uint.1 : Nat) : Int))), (36, (Value.bool (decide (((r.uint.1 : Nat) : Int) > (((r.uint.2.bs.drop r.uint.2.pos).length : Nat) : Int)))))] (j := 7) (by kernel_rfl) (by kernel_rfl) ?_
          refine Ops.done (by kernel_rfl) ?_
          refine q_cond (o := .tmp 36) (b := (decide (((r.uint.1 : Nat) : Int) > (((r.uint.2.bs.drop r.uint.2.pos).length : Nat) : Int)))) (by kernel_rfl) rfl (fun h63 => ?_) (fun h63 => ?_)
          · rw [h63]
            have p64 : ((r.uint.1 : Nat) : Int) > (((r.uint.2.bs.drop r.uint.2.pos).length : Nat) : Int) := of_decide_eq_true h63
            refine q_region (by kernel_rfl) ?_
            refine Ops.regs 3 [(0, (Value.pointer (some ⟨b, 0, none⟩))), (4, (i64 0)), (5, (i64 ((r.pos : Nat) : Int))), (6, (Value.int IntKind.u64 ((r.uint.1 : Nat) : Int))), (45, (Value.pointer (some ⟨b, 2, none⟩)))] (j := 3) (by kernel_rfl) (by kernel_rfl) ?_
            refine Ops.put (t := 28) (b := b) (off := 2) (v := (i64 10)) (ys := [(Value.slice A r.uint.2.bs.length c), (i64 ((r.uint.2.pos : Nat) : Int)), (i64 10)]) (by kernel_rfl) (by kernel_rfl) H60 (by kernel_rfl) (d := none) (by kernel_rfl) rfl (fun w65 H66 K67 => ?_)
            clear H60
            have K68 := K59.trans K67 (U := (fun i => i = b)) (fun i h1 h2 => h2) (fun i h1 h2 => by have h2 : i = b := h2; show i = b; omega)
            clear K59
            have F69 := RdO.keep F61 K67 (fun i _ _ hi hs => by have hs : i = b := hs; have := hne i _ _ hi; omega)
            clear F61
            have F70 := Rd.keep (by omega) h56 K67 (fun i hi hs => by have hs : i = b := hs; have := ob58 i hi; omega)
            clear h56
            clear K67
            refine Ops.done (by kernel_rfl) ?_
            refine q_seq (by kernel_rfl) ?_
            refine q_region (by kernel_rfl) ?_
            refine Ops.regs 4 [(4, (i64 0)), (47, (i64 ((r.pos : Nat) : Int))), (49, (Value.pointer (some ⟨b, 1, none⟩)))] (j := 4) (by kernel_rfl) (by kernel_rfl) ?_
            refine Ops.put (t := 3) (b := b) (off := 1) (v := (i64 ((r.pos : Nat) : Int))) (ys := [(Value.slice A r.uint.2.bs.length c), (i64 ((r.pos : Nat) : Int)), (i64 10)]) (by kernel_rfl) (by kernel_rfl) H66 (by kernel_rfl) (d := none) (by kernel_rfl) rfl (fun w71 H72 K73 => ?_)
            clear H66
            have K74 := K68.trans K73 (U := (fun i => i = b)) (fun i h1 h2 => h2) (fun i h1 h2 => by have h2 : i = b := h2; show i = b; omega)
            clear K68
            have F75 := RdO.keep F69 K73 (fun i _ _ hi hs => by have hs : i = b := hs; have := hne i _ _ hi; omega)
            clear F69
            have F76 := Rd.keep (by omega) F70 K73 (fun i hi hs => by have hs : i = b := hs; have := ob58 i hi; omega)
            clear F70
            clear K73
            refine Ops.done (by kernel_rfl) ?_
            refine q_seq (by kernel_rfl) ?_
            refine q_region (by kernel_rfl) ?_
            refine Ops.regs 1 [(4, (i64 0))] (j := 1) (by kernel_rfl) (by kernel_rfl) ?_
            refine Ops.done (by kernel_rfl) ?_
            refine q_ret (by kernel_rfl) ?_
            refine ⟨(i64 0), retv_tmp rfl rfl, ?_⟩
            have e : r.sized most = (0, (⟨r.uint.2.bs, r.pos, 10⟩ : Rdr)) := by unfold Rdr.sized; (repeat' split) <;> first | (exfalso; omega) | rfl | (simp only [Rdr.uint_bs]; done) | (rw [Rdr.uint_bs]; done)
            exact ⟨by first | (rw [e]; done) | (rw [e]; rfl), K74, by rw [e]; exact H72⟩
          · rw [h63]
            have p77 : ¬ (((r.uint.1 : Nat) : Int) > (((r.uint.2.bs.drop r.uint.2.pos).length : Nat) : Int)) := of_decide_eq_false h63
            refine q_seq (by kernel_rfl) ?_
            refine q_region (by kernel_rfl) ?_
            refine Ops.regs 2 [(0, (Value.pointer (some ⟨b, 0, none⟩))), (4, (i64 0)), (5, (i64 ((r.pos : Nat) : Int))), (17, (i64 (IntKind.i64.wrap (((r.uint.1 : Nat) : Int)))))] (j := 2) (by kernel_rfl) (by kernel_rfl) ?_
            have e78 : IntKind.i64.wrap (((r.uint.1 : Nat) : Int)) = ((r.uint.1 : Nat) : Int) := wrap_i64 (by omega) (by omega)
            rw [e78]
            refine Ops.regs 1 [(0, (Value.pointer (some ⟨b, 0, none⟩))), (4, (i64 ((r.uint.1 : Nat) : Int))), (5, (i64 ((r.pos : Nat) : Int)))] (j := 3) (by kernel_rfl) (by kernel_rfl) ?_
            refine Ops.done (by kernel_rfl) ?_
            refine q_ret (by kernel_rfl) ?_
            refine ⟨(i64 ((r.uint.1 : Nat) : Int)), retv_tmp rfl rfl, ?_⟩
            have e : r.sized most = (r.uint.1, r.uint.2) := by unfold Rdr.sized; (repeat' split) <;> first | (exfalso; omega) | rfl | (simp only [Rdr.uint_bs]; done) | (rw [Rdr.uint_bs]; done)
            exact ⟨by first | (rw [e]; done) | (rw [e]; rfl), K59, by rw [e]; exact H60⟩

theorem Count_calls (w : World) (b : Nat) (A : Option Addr) (c : Nat) (r : Rdr) (hok : r.Ok) (H0 : Has w b (rowL (rdrL A c r) 88)) (hR : RdO w A c r.bs) (hne : ∀ g o s, A = some ⟨g, o, s⟩ → g ≠ b) (most : Int) (hm : -9223372036854775808 ≤ most ∧ most ≤ 9223372036854775807) : Calls Try.prog 42 ⟨[(Value.pointer (some ⟨b, 0, none⟩)), (i64 most)]⟩ w (fun e w' => e = .returned (i64 (((r.sized most).1 : Nat) : Int)) ∧ Keeps (fun i => i = b) w w' ∧ Has w' b (rowL (rdrL A c (r.sized most).2) 88)) := by
  have hpos := hok.pos
  have hlen := hok.len
  have hsc := r.scan_le
  have hdl : (r.bs.drop r.pos).length = r.bs.length - r.pos := List.length_drop
  have hcap := hR.1.slice
  have Hb := H0.lt
  have K0 : Keeps (fun i => i = b) w w := (Keeps.refl w).mono (fun _ _ h => h.elim)
  refine q_calls Try.func42 (by kernel_rfl) (by kernel_rfl) ?_
  refine q_seq (by kernel_rfl) ?_
  refine q_region (by kernel_rfl) ?_
  refine Ops.regs 1 [(0, (Value.pointer (some ⟨b, 0, none⟩))), (1, (i64 most)), (4, (i64 0))] (j := 1) (by kernel_rfl) (by kernel_rfl) ?_
  refine Ops.done (by kernel_rfl) ?_
  refine q_seq (by kernel_rfl) ?_
  refine q_region (by kernel_rfl) ?_
  refine Ops.regs 2 [(4, (i64 0)), (5, (Value.pointer (some ⟨b, 0, none⟩))), (6, (i64 most))] (j := 2) (by kernel_rfl) (by kernel_rfl) ?_
  refine Ops.call (by kernel_rfl) (d := (some 7)) (by kernel_rfl) (sized_calls _ b A c r hok H0 hR hne most (by omega)) ?_
  rintro _ w1 ⟨rfl, K2, H3⟩
  have hok4 : (r.sized most).2.Ok := Rdr.Ok.sized hok most
  have hu5 := Rdr.sized_le hok most
  have hu6 := Rdr.sized_lt r most
  refine ⟨_, _, rfl, rfl, ?_⟩
  have K7 := K0.trans K2 (U := (fun i => i = b)) (fun i h1 h2 => h2) (fun i h1 h2 => by have h2 : i = b := h2; show i = b; omega)
  clear K0
  have F8 := RdO.keep hR K2 (fun i _ _ hi hs => by have hs : i = b := hs; have := hne i _ _ hi; omega)
  clear hR
  clear K2
  have F9 : RdO w1 A c (r.sized most).2.bs := by rw [Rdr.sized_bs]; exact F8
  clear F8
  refine Ops.regs 1 [(4, (i64 (((r.sized most).1 : Nat) : Int)))] (j := 4) (by kernel_rfl) (by kernel_rfl) ?_
  refine Ops.done (by kernel_rfl) ?_
  refine q_ret (by kernel_rfl) ?_
  refine ⟨(i64 (((r.sized most).1 : Nat) : Int)), retv_tmp rfl rfl, ?_⟩
  have e : r.sized most = ((r.sized most).1, (r.sized most).2) := by rfl
  exact ⟨by first | (rw [e]; done) | (rw [e]; rfl), K7, by rw [e]; exact H3⟩

theorem RdBytes_calls (w : World) (b : Nat) (A : Option Addr) (c : Nat) (r : Rdr) (hok : r.Ok) (H0 : Has w b (rowL (rdrL A c r) 88)) (hR : RdO w A c r.bs) (hne : ∀ g o s, A = some ⟨g, o, s⟩ → g ≠ b) : Calls Try.prog 48 ⟨[(Value.pointer (some ⟨b, 0, none⟩))]⟩ w (fun e w' => ∃ v', e = .returned v' ∧ Keeps (fun i => i = b) w w' ∧ OwnB w' w.heap.size 5 v' (r.bytes.1) ∧ Has w' b (rowL (rdrL A c (r.bytes).2) 88)) := by
  have hpos := hok.pos
  have hlen := hok.len
  have hsc := r.scan_le
  have hdl : (r.bs.drop r.pos).length = r.bs.length - r.pos := List.length_drop
  have hcap := hR.1.slice
  have Hb := H0.lt
  have K0 : Keeps (fun i => i = b) w w := (Keeps.refl w).mono (fun _ _ h => h.elim)
  have hsb := r.sized_bs 65536
  have hsbl := congrArg List.length hsb
  refine q_calls Try.func48 (by kernel_rfl) (by kernel_rfl) ?_
  refine q_seq (by kernel_rfl) ?_
  refine q_region (by kernel_rfl) ?_
  refine Ops.regs 1 [(0, (Value.pointer (some ⟨b, 0, none⟩))), (2, (Value.slice none 0 0))] (j := 1) (by kernel_rfl) (by kernel_rfl) ?_
  refine Ops.done (by kernel_rfl) ?_
  refine q_seq (by kernel_rfl) ?_
  refine q_region (by kernel_rfl) ?_
  refine Ops.regs 1 [(0, (Value.pointer (some ⟨b, 0, none⟩))), (2, (Value.slice none 0 0)), (5, (Value.pointer (some ⟨b, 0, none⟩)))] (j := 1) (by kernel_rfl) (by kernel_rfl) ?_
  refine Ops.call (by kernel_rfl) (d := (some 6)) (by kernel_rfl) (sized_calls _ b A c r hok H0 hR hne 65536 (by omega)) ?_
  rintro _ w1 ⟨rfl, K2, H3⟩
  have hok4 : (r.sized 65536).2.Ok := Rdr.Ok.sized hok 65536
  have hu5 := Rdr.sized_le hok 65536
  have hu6 := Rdr.sized_lt r 65536
  refine ⟨_, _, rfl, rfl, ?_⟩
  have K7 := K0.trans K2 (U := (fun i => i = b)) (fun i h1 h2 => h2) (fun i h1 h2 => by have h2 : i = b := h2; show i = b; omega)
  clear K0
  have F8 := RdO.keep hR K2 (fun i _ _ hi hs => by have hs : i = b := hs; have := hne i _ _ hi; omega)
  clear hR
  clear K2
  have F9 : RdO w1 A c (r.sized 65536).2.bs := by rw [Rdr.sized_bs]; exact F8
  clear F8
  refine Ops.regs 1 [(0, (Value.pointer (some ⟨b, 0, none⟩))), (2, (Value.slice none 0 0)), (3, (i64 (((r.sized 65536).1 : Nat) : Int)))] (j := 3) (by kernel_rfl) (by kernel_rfl) ?_
  refine Ops.done (by kernel_rfl) ?_
  refine q_seq (by kernel_rfl) ?_
  refine q_seq (by kernel_rfl) ?_
  refine q_region (by kernel_rfl) ?_
  refine Ops.regs 1 [(0, (Value.pointer (some ⟨b, 0, none⟩))), (2, (Value.slice none 0 0)), (3, (i64 (((r.sized 65536).1 : Nat) : Int))), (7, (Value.pointer (some ⟨b, 0, none⟩)))] (j := 1) (by kernel_rfl) (by kernel_rfl) ?_
  refine Ops.call (by kernel_rfl) (d := (some 8)) (by kernel_rfl) (ok_calls _ b A c ((r.sized 65536).2) hok4 H3 F9 hne) ?_
  rintro _ w10 ⟨rfl, K11⟩
  refine ⟨_, _, rfl, rfl, ?_⟩
  have K12 := K7.trans K11 (U := (fun i => i = b)) (fun i h1 h2 => h2) (fun i h1 h2 => by exact h2.elim)
  clear K7
  have H13 := H3.keep K11 (fun h => h)
  clear H3
  have F14 := RdO.keep0 F9 K11
  clear F9
  clear K11
  refine Ops.regs 1 [(0, (Value.pointer (some ⟨b, 0, none⟩))), (2, (Value.slice none 0 0)), (3, (i64 (((r.sized 65536).1 : Nat) : Int))), (9, (Value.bool (!((((r.sized 65536).2).why) == 0))))] (j := 3) (by kernel_rfl) (by kernel_rfl) ?_
  refine Ops.done (by kernel_rfl) ?_
  refine q_cond (o := .tmp 9) (b := (!((((r.sized 65536).2).why) == 0))) (by kernel_rfl) rfl (fun h15 => ?_) (fun h15 => ?_)
  · rw [h15]
    have p16 : ¬ (((r.sized 65536).2).why = 0) := of_beq_f (bnot_true h15)
    refine q_seq (by kernel_rfl) ?_
    refine q_region (by kernel_rfl) ?_
    refine Ops.regs 1 [(0, (Value.pointer (some ⟨b, 0, none⟩))), (2, (Value.slice none 0 0)), (3, (i64 (((r.sized 65536).1 : Nat) : Int)))] (j := 1) (by kernel_rfl) (by kernel_rfl) ?_
    refine Ops.done (by kernel_rfl) ?_
    refine q_ret (by kernel_rfl) ?_
    refine ⟨(Value.slice none 0 0), retv_tmp rfl rfl, ?_⟩
    have e : r.bytes = ([], (r.sized 65536).2) := by unfold Rdr.bytes; split <;> first | (exfalso; omega) | rfl | (simp only [Rdr.sized_bs]; done)
    exact ⟨(Value.slice none 0 0), rfl, K12, by rw [e]; exact (World.ownsRow_nil _ _ _ _), by rw [e]; exact H13⟩
  · rw [h15]
    have p17 : ((r.sized 65536).2).why = 0 := of_beq_t (bnot_false h15)
    refine q_skip (by kernel_rfl) ?_
    refine q_seq (by kernel_rfl) ?_
    refine q_region (by kernel_rfl) ?_
    refine Ops.regs 1 [(0, (Value.pointer (some ⟨b, 0, none⟩))), (2, (Value.slice none 0 0)), (3, (i64 (((r.sized 65536).1 : Nat) : Int))), (10, (Value.pointer (some ⟨b, 0, none⟩)))] (j := 1) (by kernel_rfl) (by kernel_rfl) ?_
    refine Ops.call (by kernel_rfl) (d := (some 11)) (by kernel_rfl) (left_calls _ b A c ((r.sized 65536).2) hok4 H13 F14 hne) ?_
    rintro _ w18 ⟨A20, c21, rfl, K19, h22, hlb23⟩
    have ob24 := left_ne (n := (((r.sized 65536).2).bs.drop ((r.sized 65536).2).pos).length) (c := c21) hlb23 hne
    have hdlA20 : (((r.sized 65536).2).bs.drop ((r.sized 65536).2).pos).length = ((r.sized 65536).2).bs.length - ((r.sized 65536).2).pos := List.length_drop
    have hslA20 := RdB.slice h22
    refine ⟨_, _, rfl, rfl, ?_⟩
    have K25 := K12.trans K19 (U := (fun i => i = b)) (fun i h1 h2 => h2) (fun i h1 h2 => by exact h2.elim)
    clear K12
    have H26 := H13.keep K19 (fun h => h)
    clear H13
    have F27 := RdO.keep0 F14 K19
    clear F14
    clear K19
    refine Ops.regs 1 [(0, (Value.pointer (some ⟨b, 0, none⟩))), (2, (Value.slice none 0 0)), (3, (i64 (((r.sized 65536).1 : Nat) : Int))), (11, (Value.slice A20 ((((r.sized 65536).2).bs.drop ((r.sized 65536).2).pos).length) c21)), (12, (i64 (((r.sized 65536).1 : Nat) : Int)))] (j := 3) (by kernel_rfl) (by kernel_rfl) ?_
    have hcut := run_cut (sz := 1) (P := Try.prog) (w := w18) (t := 23) (A := A20) (n := ((((r.sized 65536).2).bs.drop ((r.sized 65536).2).pos).length)) (c := c21) 0 ((r.sized 65536).1) c21 (lo := none) (hi := some (i64 (((r.sized 65536).1 : Nat) : Int))) (mx := none) tyB.slice (by kernel_rfl) (.inl ⟨rfl, rfl⟩) (.inr ⟨_, rfl⟩) (.inl ⟨rfl, rfl⟩) (by omega) (by omega) (by omega)
    have hA0 : (if c21 = 0 then A20 else Option.map (fun q => Addr.add q (0 * 1)) A20) = A20 := by cases A20 <;> simp [Addr.add]
    rw [hA0, Nat.sub_zero, Nat.sub_zero] at hcut
    have F28 := RdB.take h22 (k := (r.sized 65536).1) (by omega)
    have htl : ((((r.sized 65536).2).bs.drop ((r.sized 65536).2).pos).take ((r.sized 65536).1)).length = (r.sized 65536).1 := by rw [List.length_take]; omega
    refine Ops.go (v := (Value.slice A20 ((r.sized 65536).1) c21)) (by kernel_rfl) (Runs.slice (by kernel_rfl) hcut) (d := (some 13)) (by kernel_rfl) rfl ?_
    clear hcut hA0
    refine Ops.call (by kernel_rfl) (d := (some 14)) (by kernel_rfl) (Clone_calls _ (Value.slice A20 ((r.sized 65536).1) c21) ((((r.sized 65536).2).bs.drop ((r.sized 65536).2).pos).take ((r.sized 65536).1)) F28 (by omega)) ?_
    rintro _ w30 ⟨v29, rfl, K31, hO32⟩
    have ob34 : ∀ i, (v29).ownBlock = some i → i ≠ b := fun i hi => by have := (World.ownsRow.lt hO32 i hi).1; have := H26.lt; omega
    have oo35 : ∀ i o s, A = some ⟨i, o, s⟩ → (v29).ownBlock = some i → False := fun i o s hi hs => by have := (World.ownsRow.lt hO32 i hs).1; have := F27.2 i o s hi; omega
    have O33 := own_base hO32 K25.size
    clear hO32
    refine ⟨_, _, rfl, rfl, ?_⟩
    have K37 := K25.trans K31 (U := (fun i => i = b)) (fun i h1 h2 => h2) (fun i h1 h2 => by exact h2.elim)
    clear K25
    have H38 := H26.keep K31 (fun h => h)
    clear H26
    have F39 := RdO.keep0 F27 K31
    clear F27
    have F40 := (Rd.keep0 (by omega) h22 K31)
    clear h22
    have F41 := (Rd.keep0 (by omega) F28 K31)
    clear F28
    clear K31
    refine Ops.regs 1 [(0, (Value.pointer (some ⟨b, 0, none⟩))), (2, (Value.slice none 0 0)), (3, (i64 (((r.sized 65536).1 : Nat) : Int))), (4, v29)] (j := 6) (by kernel_rfl) (by kernel_rfl) ?_
    refine Ops.done (by kernel_rfl) ?_
    refine q_seq (by kernel_rfl) ?_
    refine q_region (by kernel_rfl) ?_
    refine Ops.regs 3 [(2, (Value.slice none 0 0)), (3, (i64 (((r.sized 65536).1 : Nat) : Int))), (4, v29), (15, (Value.pointer (some ⟨b, 0, none⟩))), (17, (Value.pointer (some ⟨b, 1, none⟩)))] (j := 3) (by kernel_rfl) (by kernel_rfl) ?_
    refine Ops.go (v := (i64 ((((r.sized 65536).2).pos : Nat) : Int))) (by kernel_rfl) (Runs.load (t := 3) (a := ⟨b, 1, none⟩) (by kernel_rfl) (H38.loads (by kernel_rfl))) (d := (some 18)) (by kernel_rfl) rfl ?_
    refine Ops.regs 2 [(2, (Value.slice none 0 0)), (4, v29), (15, (Value.pointer (some ⟨b, 0, none⟩))), (20, (i64 (IntKind.i64.wrap (((((r.sized 65536).2).pos : Nat) : Int) + (((r.sized 65536).1 : Nat) : Int)))))] (j := 6) (by kernel_rfl) (by kernel_rfl) ?_
    have e42 : IntKind.i64.wrap (((((r.sized 65536).2).pos : Nat) : Int) + (((r.sized 65536).1 : Nat) : Int)) = (((((r.sized 65536).2).pos) + ((r.sized 65536).1) : Nat) : Int) := by rw [wrap_i64 (by omega) (by omega)]; omega
    rw [e42]
    clear e42
    refine Ops.regs 2 [(2, (Value.slice none 0 0)), (4, v29), (20, (i64 (((((r.sized 65536).2).pos) + ((r.sized 65536).1) : Nat) : Int))), (22, (Value.pointer (some ⟨b, 1, none⟩)))] (j := 8) (by kernel_rfl) (by kernel_rfl) ?_
    refine Ops.put (t := 3) (b := b) (off := 1) (v := (i64 (((((r.sized 65536).2).pos) + ((r.sized 65536).1) : Nat) : Int))) (ys := [(Value.slice A (((r.sized 65536).2).bs.length) c), (i64 (((((r.sized 65536).2).pos) + ((r.sized 65536).1) : Nat) : Int)), (i64 (((r.sized 65536).2).why))]) (by kernel_rfl) (by kernel_rfl) H38 (by kernel_rfl) (d := none) (by kernel_rfl) rfl (fun w43 H44 K45 => ?_)
    clear H38
    have K46 := K37.trans K45 (U := (fun i => i = b)) (fun i h1 h2 => h2) (fun i h1 h2 => by have h2 : i = b := h2; show i = b; omega)
    clear K37
    have F47 := RdO.keep F39 K45 (fun i _ _ hi hs => by have hs : i = b := hs; have := hne i _ _ hi; omega)
    clear F39
    have F48 := Rd.keep (by omega) F40 K45 (fun i hi hs => by have hs : i = b := hs; have := ob24 i hi; omega)
    clear F40
    clear F41
    have F49 := own_keep O33 K45 (fun i hi hs => by have hs : i = b := hs; have := ob34 i hi; omega)
    clear O33
    clear K45
    refine Ops.done (by kernel_rfl) ?_
    refine q_seq (by kernel_rfl) ?_
    refine q_region (by kernel_rfl) ?_
    refine Ops.regs 2 [(2, v29)] (j := 2) (by kernel_rfl) (by kernel_rfl) ?_
    refine Ops.done (by kernel_rfl) ?_
    refine q_ret (by kernel_rfl) ?_
    refine ⟨v29, retv_tmp rfl rfl, ?_⟩
    have e : r.bytes = ((((r.sized 65536).2).bs.drop ((r.sized 65536).2).pos).take ((r.sized 65536).1), (⟨((r.sized 65536).2).bs, (((r.sized 65536).2).pos) + ((r.sized 65536).1), ((r.sized 65536).2).why⟩ : Rdr)) := by unfold Rdr.bytes; split <;> first | (exfalso; omega) | rfl | (simp only [Rdr.sized_bs]; done)
    exact ⟨v29, rfl, K46, by rw [e]; exact F49, by rw [e]; exact H44⟩

theorem RdText_calls (w : World) (b : Nat) (A : Option Addr) (c : Nat) (r : Rdr) (hok : r.Ok) (H0 : Has w b (rowL (rdrL A c r) 88)) (hR : RdO w A c r.bs) (hne : ∀ g o s, A = some ⟨g, o, s⟩ → g ≠ b) : Calls Try.prog 41 ⟨[(Value.pointer (some ⟨b, 0, none⟩))]⟩ w (fun e w' => e = .returned (.string (str r.bytes.1)) ∧ Keeps (fun i => i = b) w w' ∧ Has w' b (rowL (rdrL A c (r.bytes).2) 88)) := by
  have hpos := hok.pos
  have hlen := hok.len
  have hsc := r.scan_le
  have hdl : (r.bs.drop r.pos).length = r.bs.length - r.pos := List.length_drop
  have hcap := hR.1.slice
  have Hb := H0.lt
  have K0 : Keeps (fun i => i = b) w w := (Keeps.refl w).mono (fun _ _ h => h.elim)
  refine q_calls Try.func41 (by kernel_rfl) (by kernel_rfl) ?_
  refine q_seq (by kernel_rfl) ?_
  refine q_region (by kernel_rfl) ?_
  refine Ops.regs 1 [(0, (Value.pointer (some ⟨b, 0, none⟩))), (2, (Value.string (str ([] : List UInt8))))] (j := 1) (by kernel_rfl) (by kernel_rfl) ?_
  refine Ops.done (by kernel_rfl) ?_
  refine q_seq (by kernel_rfl) ?_
  refine q_region (by kernel_rfl) ?_
  refine Ops.regs 1 [(2, (Value.string (str ([] : List UInt8)))), (3, (Value.pointer (some ⟨b, 0, none⟩)))] (j := 1) (by kernel_rfl) (by kernel_rfl) ?_
  refine Ops.call (by kernel_rfl) (d := (some 4)) (by kernel_rfl) (RdBytes_calls _ b A c r hok H0 hR hne ) ?_
  rintro _ w1 ⟨v6, rfl, K2, hO7, H3⟩
  have hok4 : (r.bytes).2.Ok := Rdr.Ok.bytes hok
  have hu5 := Rdr.bytes_le hok
  have ob9 : ∀ i, (v6).ownBlock = some i → i ≠ b := fun i hi => by have := (World.ownsRow.lt hO7 i hi).1; have := H0.lt; omega
  have oo10 : ∀ i o s, A = some ⟨i, o, s⟩ → (v6).ownBlock = some i → False := fun i o s hi hs => by have := (World.ownsRow.lt hO7 i hs).1; have := hR.2 i o s hi; omega
  have O8 := own_base hO7 K0.size
  clear hO7
  refine ⟨_, _, rfl, rfl, ?_⟩
  have K12 := K0.trans K2 (U := (fun i => i = b)) (fun i h1 h2 => h2) (fun i h1 h2 => by have h2 : i = b := h2; show i = b; omega)
  clear K0
  have F13 := RdO.keep hR K2 (fun i _ _ hi hs => by have hs : i = b := hs; have := hne i _ _ hi; omega)
  clear hR
  clear K2
  have F14 : RdO w1 A c (r.bytes).2.bs := by rw [Rdr.bytes_bs]; exact F13
  clear F13
  refine Ops.go (v := (Value.string (str ((r.bytes).1)))) (by kernel_rfl) (Runs.b2s (s := 23) (d := 9) (e := 5) (by kernel_rfl) (by kernel_rfl) (by kernel_rfl) (OwnB.rd O8)) (d := (some 5)) (by kernel_rfl) rfl ?_
  refine Ops.regs 1 [(2, (Value.string (str ((r.bytes).1))))] (j := 4) (by kernel_rfl) (by kernel_rfl) ?_
  refine Ops.done (by kernel_rfl) ?_
  refine q_ret (by kernel_rfl) ?_
  refine ⟨(Value.string (str ((r.bytes).1))), retv_tmp rfl rfl, ?_⟩
  exact ⟨rfl, K12, H3⟩

theorem RdBool_calls (w : World) (b : Nat) (A : Option Addr) (c : Nat) (r : Rdr) (hok : r.Ok) (H0 : Has w b (rowL (rdrL A c r) 88)) (hR : RdO w A c r.bs) (hne : ∀ g o s, A = some ⟨g, o, s⟩ → g ≠ b) : Calls Try.prog 40 ⟨[(Value.pointer (some ⟨b, 0, none⟩))]⟩ w (fun e w' => e = .returned (.bool r.bool_.1) ∧ Keeps (fun i => i = b) w w' ∧ Has w' b (rowL (rdrL A c (r.bool_).2) 88)) := by
  have hpos := hok.pos
  have hlen := hok.len
  have hsc := r.scan_le
  have hdl : (r.bs.drop r.pos).length = r.bs.length - r.pos := List.length_drop
  have hcap := hR.1.slice
  have Hb := H0.lt
  have K0 : Keeps (fun i => i = b) w w := (Keeps.refl w).mono (fun _ _ h => h.elim)
  refine q_calls Try.func40 (by kernel_rfl) (by kernel_rfl) ?_
  refine q_seq (by kernel_rfl) ?_
  refine q_region (by kernel_rfl) ?_
  refine Ops.regs 1 [(0, (Value.pointer (some ⟨b, 0, none⟩))), (2, (Value.bool false))] (j := 1) (by kernel_rfl) (by kernel_rfl) ?_
  refine Ops.done (by kernel_rfl) ?_
  refine q_seq (by kernel_rfl) ?_
  refine q_seq (by kernel_rfl) ?_
  refine q_region (by kernel_rfl) ?_
  refine Ops.regs 1 [(0, (Value.pointer (some ⟨b, 0, none⟩))), (2, (Value.bool false)), (4, (Value.pointer (some ⟨b, 0, none⟩)))] (j := 1) (by kernel_rfl) (by kernel_rfl) ?_
  refine Ops.call (by kernel_rfl) (d := (some 5)) (by kernel_rfl) (ok_calls _ b A c r hok H0 hR hne) ?_
  rintro _ w1 ⟨rfl, K2⟩
  refine ⟨_, _, rfl, rfl, ?_⟩
  have K3 := K0.trans K2 (U := (fun i => i = b)) (fun i h1 h2 => h2) (fun i h1 h2 => by exact h2.elim)
  clear K0
  have H4 := H0.keep K2 (fun h => h)
  clear H0
  have F5 := RdO.keep0 hR K2
  clear hR
  clear K2
  refine Ops.regs 1 [(0, (Value.pointer (some ⟨b, 0, none⟩))), (2, (Value.bool false)), (6, (Value.bool (!(r.why == 0))))] (j := 3) (by kernel_rfl) (by kernel_rfl) ?_
  refine Ops.done (by kernel_rfl) ?_
  refine q_cond (o := .tmp 6) (b := (!(r.why == 0))) (by kernel_rfl) rfl (fun h6 => ?_) (fun h6 => ?_)
  · rw [h6]
    have p7 : ¬ (r.why = 0) := of_beq_f (bnot_true h6)
    refine q_seq (by kernel_rfl) ?_
    refine q_region (by kernel_rfl) ?_
    refine Ops.regs 1 [(0, (Value.pointer (some ⟨b, 0, none⟩))), (2, (Value.bool false))] (j := 1) (by kernel_rfl) (by kernel_rfl) ?_
    refine Ops.done (by kernel_rfl) ?_
    refine q_ret (by kernel_rfl) ?_
    refine ⟨(Value.bool false), retv_tmp rfl rfl, ?_⟩
    have e : r.bool_ = (false, r) := by unfold Rdr.bool_; first | (rw [if_pos (by omega)]; done) | (rw [if_neg (by omega)]; first | (rw [hd0]; simp only; first | (rw [if_pos (by omega)]; done) | (rw [if_neg (by omega)]; done)) | (rw [show r.bs.drop r.pos = [] from List.eq_nil_of_length_eq_zero (by omega)]; done))
    exact ⟨by rw [e], K3, by rw [e]; exact H4⟩
  · rw [h6]
    have p8 : r.why = 0 := of_beq_t (bnot_false h6)
    refine q_skip (by kernel_rfl) ?_
    refine q_seq (by kernel_rfl) ?_
    refine q_region (by kernel_rfl) ?_
    refine Ops.regs 1 [(0, (Value.pointer (some ⟨b, 0, none⟩))), (2, (Value.bool false)), (7, (Value.pointer (some ⟨b, 0, none⟩)))] (j := 1) (by kernel_rfl) (by kernel_rfl) ?_
    refine Ops.call (by kernel_rfl) (d := (some 8)) (by kernel_rfl) (left_calls _ b A c r hok H4 F5 hne) ?_
    rintro _ w9 ⟨A11, c12, rfl, K10, h13, hlb14⟩
    have ob15 := left_ne (n := (r.bs.drop r.pos).length) (c := c12) hlb14 hne
    have hdlA11 : (r.bs.drop r.pos).length = r.bs.length - r.pos := List.length_drop
    have hslA11 := RdB.slice h13
    refine ⟨_, _, rfl, rfl, ?_⟩
    have K16 := K3.trans K10 (U := (fun i => i = b)) (fun i h1 h2 => h2) (fun i h1 h2 => by exact h2.elim)
    clear K3
    have H17 := H4.keep K10 (fun h => h)
    clear H4
    have F18 := RdO.keep0 F5 K10
    clear F5
    clear K10
    refine Ops.regs 1 [(0, (Value.pointer (some ⟨b, 0, none⟩))), (2, (Value.bool false)), (3, (Value.slice A11 ((r.bs.drop r.pos).length) c12))] (j := 3) (by kernel_rfl) (by kernel_rfl) ?_
    refine Ops.done (by kernel_rfl) ?_
    refine q_seq (by kernel_rfl) ?_
    refine q_block (id := 0) (by kernel_rfl) ?_
    refine q_seq (by kernel_rfl) ?_
    refine q_region (by kernel_rfl) ?_
    refine Ops.regs 4 [(0, (Value.pointer (some ⟨b, 0, none⟩))), (2, (Value.bool false)), (3, (Value.slice A11 ((r.bs.drop r.pos).length) c12)), (20, (Value.bool ((((r.bs.drop r.pos).length : Nat) : Int) == 0)))] (j := 4) (by kernel_rfl) (by kernel_rfl) ?_
    refine Ops.done (by kernel_rfl) ?_
    refine q_cond (o := .tmp 20) (b := ((((r.bs.drop r.pos).length : Nat) : Int) == 0)) (by kernel_rfl) rfl (fun h19 => ?_) (fun h19 => ?_)
    · rw [h19]
      have p20 : (((r.bs.drop r.pos).length : Nat) : Int) = 0 := of_beq_t h19
      refine q_region (by kernel_rfl) ?_
      refine Ops.regs 3 [(0, (Value.pointer (some ⟨b, 0, none⟩))), (2, (Value.bool false)), (3, (Value.slice A11 ((r.bs.drop r.pos).length) c12)), (26, (Value.pointer (some ⟨b, 2, none⟩)))] (j := 3) (by kernel_rfl) (by kernel_rfl) ?_
      refine Ops.put (t := 28) (b := b) (off := 2) (v := (i64 10)) (ys := [(Value.slice A r.bs.length c), (i64 ((r.pos : Nat) : Int)), (i64 10)]) (by kernel_rfl) (by kernel_rfl) H17 (by kernel_rfl) (d := none) (by kernel_rfl) rfl (fun w21 H22 K23 => ?_)
      clear H17
      have K24 := K16.trans K23 (U := (fun i => i = b)) (fun i h1 h2 => h2) (fun i h1 h2 => by have h2 : i = b := h2; show i = b; omega)
      clear K16
      have F25 := RdO.keep F18 K23 (fun i _ _ hi hs => by have hs : i = b := hs; have := hne i _ _ hi; omega)
      clear F18
      have F26 := Rd.keep (by omega) h13 K23 (fun i hi hs => by have hs : i = b := hs; have := ob15 i hi; omega)
      clear h13
      clear K23
      refine Ops.done (by kernel_rfl) ?_
      refine q_seq (by kernel_rfl) ?_
      refine q_region (by kernel_rfl) ?_
      refine Ops.regs 1 [(2, (Value.bool false))] (j := 1) (by kernel_rfl) (by kernel_rfl) ?_
      refine Ops.done (by kernel_rfl) ?_
      refine q_ret (by kernel_rfl) ?_
      refine ⟨(Value.bool false), retv_tmp rfl rfl, ?_⟩
      have e : r.bool_ = (false, (⟨r.bs, r.pos, 10⟩ : Rdr)) := by unfold Rdr.bool_; first | (rw [if_pos (by omega)]; done) | (rw [if_neg (by omega)]; first | (rw [hd0]; simp only; first | (rw [if_pos (by omega)]; done) | (rw [if_neg (by omega)]; done)) | (rw [show r.bs.drop r.pos = [] from List.eq_nil_of_length_eq_zero (by omega)]; done))
      exact ⟨by rw [e], K24, by rw [e]; exact H22⟩
    · rw [h19]
      have p27 : ¬ ((((r.bs.drop r.pos).length : Nat) : Int) = 0) := of_beq_f h19
      obtain ⟨lb28, lo29, hA30⟩ := RdB.addr h13 (by omega)
      obtain ⟨x, hx31⟩ : ∃ y, (r.bs.drop r.pos)[0]? = some y := ⟨_, List.getElem?_eq_getElem (by omega)⟩
      have x256 : x.toNat < 256 := x.toNat_lt
      have hd0 : r.bs.drop r.pos = x :: (r.bs.drop r.pos).tail := by cases hq : r.bs.drop r.pos with | nil => rw [hq] at hx31; cases hx31 | cons y ys => rw [hq] at hx31; simp only [List.getElem?_cons_zero, Option.some.injEq] at hx31; rw [hx31]; rfl
      refine q_seq (by kernel_rfl) ?_
      refine q_region (by kernel_rfl) ?_
      refine Ops.regs 1 [(0, (Value.pointer (some ⟨b, 0, none⟩))), (2, (Value.bool false)), (3, (Value.slice A11 ((r.bs.drop r.pos).length) c12)), (28, (Value.slice A11 ((r.bs.drop r.pos).length) c12))] (j := 1) (by kernel_rfl) (by kernel_rfl) ?_
      refine Ops.go (by kernel_rfl) (Runs.ixSliceE (k := IntKind.i64) (t := 23) (len := ((r.bs.drop r.pos).length)) (cap := c12) (s := 1) (off' := lo29 + 0) (i := 0) hA30 (by kernel_rfl) (by kernel_rfl) (by omega) (by omega) (by omega)) (d := (some 29)) (by kernel_rfl) rfl ?_
      refine Ops.go (v := (Value.int IntKind.u8 ((x.toNat : Nat) : Int))) (by kernel_rfl) (Runs.load (t := 5) (a := ⟨lb28, lo29 + 0, none⟩) (by kernel_rfl) (RdB.ld h13 (by kernel_rfl) hA30 hx31)) (d := (some 30)) (by kernel_rfl) rfl ?_
      refine Ops.regs 2 [(0, (Value.pointer (some ⟨b, 0, none⟩))), (2, (Value.bool false)), (3, (Value.slice A11 ((r.bs.drop r.pos).length) c12)), (27, (Value.bool (decide (((x.toNat : Nat) : Int) > 1))))] (j := 5) (by kernel_rfl) (by kernel_rfl) ?_
      refine Ops.done (by kernel_rfl) ?_
      refine q_cond (o := .tmp 27) (b := (decide (((x.toNat : Nat) : Int) > 1))) (by kernel_rfl) rfl (fun h32 => ?_) (fun h32 => ?_)
      · rw [h32]
        have p33 : ((x.toNat : Nat) : Int) > 1 := of_decide_eq_true h32
        refine q_region (by kernel_rfl) ?_
        refine Ops.regs 3 [(0, (Value.pointer (some ⟨b, 0, none⟩))), (2, (Value.bool false)), (3, (Value.slice A11 ((r.bs.drop r.pos).length) c12)), (34, (Value.pointer (some ⟨b, 2, none⟩)))] (j := 3) (by kernel_rfl) (by kernel_rfl) ?_
        refine Ops.put (t := 28) (b := b) (off := 2) (v := (i64 11)) (ys := [(Value.slice A r.bs.length c), (i64 ((r.pos : Nat) : Int)), (i64 11)]) (by kernel_rfl) (by kernel_rfl) H17 (by kernel_rfl) (d := none) (by kernel_rfl) rfl (fun w34 H35 K36 => ?_)
        clear H17
        have K37 := K16.trans K36 (U := (fun i => i = b)) (fun i h1 h2 => h2) (fun i h1 h2 => by have h2 : i = b := h2; show i = b; omega)
        clear K16
        have F38 := RdO.keep F18 K36 (fun i _ _ hi hs => by have hs : i = b := hs; have := hne i _ _ hi; omega)
        clear F18
        have F39 := Rd.keep (by omega) h13 K36 (fun i hi hs => by have hs : i = b := hs; have := ob15 i hi; omega)
        clear h13
        clear K36
        refine Ops.done (by kernel_rfl) ?_
        refine q_seq (by kernel_rfl) ?_
        refine q_region (by kernel_rfl) ?_
        refine Ops.regs 1 [(2, (Value.bool false))] (j := 1) (by kernel_rfl) (by kernel_rfl) ?_
        refine Ops.done (by kernel_rfl) ?_
        refine q_ret (by kernel_rfl) ?_
        refine ⟨(Value.bool false), retv_tmp rfl rfl, ?_⟩
        have e : r.bool_ = (false, (⟨r.bs, r.pos, 11⟩ : Rdr)) := by unfold Rdr.bool_; first | (rw [if_pos (by omega)]; done) | (rw [if_neg (by omega)]; first | (rw [hd0]; simp only; first | (rw [if_pos (by omega)]; done) | (rw [if_neg (by omega)]; done)) | (rw [show r.bs.drop r.pos = [] from List.eq_nil_of_length_eq_zero (by omega)]; done))
        exact ⟨by rw [e], K37, by rw [e]; exact H35⟩
      · rw [h32]
        have p40 : ¬ (((x.toNat : Nat) : Int) > 1) := of_decide_eq_false h32
        refine q_seq (by kernel_rfl) ?_
        refine q_region (by kernel_rfl) ?_
        refine Ops.regs 3 [(2, (Value.bool false)), (3, (Value.slice A11 ((r.bs.drop r.pos).length) c12)), (9, (Value.pointer (some ⟨b, 0, none⟩))), (11, (Value.pointer (some ⟨b, 1, none⟩)))] (j := 3) (by kernel_rfl) (by kernel_rfl) ?_
        refine Ops.go (v := (i64 ((r.pos : Nat) : Int))) (by kernel_rfl) (Runs.load (t := 3) (a := ⟨b, 1, none⟩) (by kernel_rfl) (H17.loads (by kernel_rfl))) (d := (some 12)) (by kernel_rfl) rfl ?_
        refine Ops.regs 1 [(2, (Value.bool false)), (3, (Value.slice A11 ((r.bs.drop r.pos).length) c12)), (9, (Value.pointer (some ⟨b, 0, none⟩))), (13, (i64 (IntKind.i64.wrap (((r.pos : Nat) : Int) + 1))))] (j := 5) (by kernel_rfl) (by kernel_rfl) ?_
        have e41 : IntKind.i64.wrap (((r.pos : Nat) : Int) + 1) = ((r.pos + 1 : Nat) : Int) := by rw [wrap_i64 (by omega) (by omega)]; omega
        rw [e41]
        clear e41
        refine Ops.regs 2 [(2, (Value.bool false)), (3, (Value.slice A11 ((r.bs.drop r.pos).length) c12)), (13, (i64 ((r.pos + 1 : Nat) : Int))), (15, (Value.pointer (some ⟨b, 1, none⟩)))] (j := 7) (by kernel_rfl) (by kernel_rfl) ?_
        refine Ops.put (t := 3) (b := b) (off := 1) (v := (i64 ((r.pos + 1 : Nat) : Int))) (ys := [(Value.slice A r.bs.length c), (i64 ((r.pos + 1 : Nat) : Int)), (i64 r.why)]) (by kernel_rfl) (by kernel_rfl) H17 (by kernel_rfl) (d := none) (by kernel_rfl) rfl (fun w42 H43 K44 => ?_)
        clear H17
        have K45 := K16.trans K44 (U := (fun i => i = b)) (fun i h1 h2 => h2) (fun i h1 h2 => by have h2 : i = b := h2; show i = b; omega)
        clear K16
        have F46 := RdO.keep F18 K44 (fun i _ _ hi hs => by have hs : i = b := hs; have := hne i _ _ hi; omega)
        clear F18
        have F47 := Rd.keep (by omega) h13 K44 (fun i hi hs => by have hs : i = b := hs; have := ob15 i hi; omega)
        clear h13
        clear K44
        refine Ops.done (by kernel_rfl) ?_
        refine q_seq (by kernel_rfl) ?_
        refine q_region (by kernel_rfl) ?_
        refine Ops.regs 1 [(2, (Value.bool false)), (16, (Value.slice A11 ((r.bs.drop r.pos).length) c12))] (j := 1) (by kernel_rfl) (by kernel_rfl) ?_
        refine Ops.go (by kernel_rfl) (Runs.ixSliceE (k := IntKind.i64) (t := 23) (len := ((r.bs.drop r.pos).length)) (cap := c12) (s := 1) (off' := lo29 + 0) (i := 0) hA30 (by kernel_rfl) (by kernel_rfl) (by omega) (by omega) (by omega)) (d := (some 17)) (by kernel_rfl) rfl ?_
        refine Ops.go (v := (Value.int IntKind.u8 ((x.toNat : Nat) : Int))) (by kernel_rfl) (Runs.load (t := 5) (a := ⟨lb28, lo29 + 0, none⟩) (by kernel_rfl) (RdB.ld F47 (by kernel_rfl) hA30 hx31)) (d := (some 18)) (by kernel_rfl) rfl ?_
        refine Ops.regs 2 [(2, (Value.bool (((x.toNat : Nat) : Int) == 1)))] (j := 5) (by kernel_rfl) (by kernel_rfl) ?_
        refine Ops.done (by kernel_rfl) ?_
        refine q_ret (by kernel_rfl) ?_
        refine ⟨(Value.bool (((x.toNat : Nat) : Int) == 1)), retv_tmp rfl rfl, ?_⟩
        have e : r.bool_ = (x.toNat == 1, (⟨r.bs, r.pos + 1, r.why⟩ : Rdr)) := by unfold Rdr.bool_; first | (rw [if_pos (by omega)]; done) | (rw [if_neg (by omega)]; first | (rw [hd0]; simp only; first | (rw [if_pos (by omega)]; done) | (rw [if_neg (by omega)]; done)) | (rw [show r.bs.drop r.pos = [] from List.eq_nil_of_length_eq_zero (by omega)]; done))
        have e1 : (((x.toNat : Nat) : Int) == 1) = (x.toNat == 1) := by rw [Bool.eq_iff_iff]; simp only [beq_iff_eq]; omega
        exact ⟨by rw [e]; show _ = Ending.returned (Value.bool (x.toNat == 1)); rw [← e1], K45, by rw [e]; exact H43⟩

theorem RRCount_calls (w : World) (b : Nat) (A : Option Addr) (c : Nat) (r : Rdr) (hok : r.Ok) (H0 : Has w b (rowL (rdrL A c r) 72)) (hR : RdO w A c r.bs) (hne : ∀ g o s, A = some ⟨g, o, s⟩ → g ≠ b) (most : Int) (hm : -9223372036854775808 ≤ most ∧ most ≤ 9223372036854775807) : Calls Try.prog 73 ⟨[(Value.pointer (some ⟨b, 0, none⟩)), (i64 most)]⟩ w (fun e w' => e = .returned (i64 (((r.sized most).1 : Nat) : Int)) ∧ Keeps (fun i => i = b) w w' ∧ Has w' b (rowL (rdrL A c (r.sized most).2) 72)) := by
  have hpos := hok.pos
  have hlen := hok.len
  have hsc := r.scan_le
  have hdl : (r.bs.drop r.pos).length = r.bs.length - r.pos := List.length_drop
  have hcap := hR.1.slice
  have Hb := H0.lt
  have K0 : Keeps (fun i => i = b) w w := (Keeps.refl w).mono (fun _ _ h => h.elim)
  have hub := r.uint_bs
  have hubl := congrArg List.length hub
  have hul := r.uint_lt
  have hw0 : r.why ≠ 0 → r.uint.1 = 0 ∧ r.uint.2.pos = r.pos ∧ r.uint.2.why = r.why := fun h => by rw [Rdr.uint_err h]; exact ⟨rfl, rfl, rfl⟩
  have hup := hok.uint.pos
  refine q_calls Try.func73 (by kernel_rfl) (by kernel_rfl) ?_
  refine q_seq (by kernel_rfl) ?_
  refine q_region (by kernel_rfl) ?_
  refine Ops.regs 1 [(0, (Value.pointer (some ⟨b, 0, none⟩))), (1, (i64 most)), (4, (i64 0))] (j := 1) (by kernel_rfl) (by kernel_rfl) ?_
  refine Ops.done (by kernel_rfl) ?_
  refine q_seq (by kernel_rfl) ?_
  refine q_region (by kernel_rfl) ?_
  refine Ops.regs 3 [(0, (Value.pointer (some ⟨b, 0, none⟩))), (1, (i64 most)), (4, (i64 0)), (9, (Value.pointer (some ⟨b, 1, none⟩)))] (j := 3) (by kernel_rfl) (by kernel_rfl) ?_
  refine Ops.go (v := (i64 ((r.pos : Nat) : Int))) (by kernel_rfl) (Runs.load (t := 3) (a := ⟨b, 1, none⟩) (by kernel_rfl) (H0.loads (by kernel_rfl))) (d := (some 10)) (by kernel_rfl) rfl ?_
  refine Ops.regs 1 [(0, (Value.pointer (some ⟨b, 0, none⟩))), (1, (i64 most)), (4, (i64 0)), (5, (i64 ((r.pos : Nat) : Int)))] (j := 5) (by kernel_rfl) (by kernel_rfl) ?_
  refine Ops.done (by kernel_rfl) ?_
  refine q_seq (by kernel_rfl) ?_
  refine q_region (by kernel_rfl) ?_
  refine Ops.regs 1 [(0, (Value.pointer (some ⟨b, 0, none⟩))), (1, (i64 most)), (4, (i64 0)), (5, (i64 ((r.pos : Nat) : Int))), (11, (Value.pointer (some ⟨b, 0, none⟩)))] (j := 1) (by kernel_rfl) (by kernel_rfl) ?_
  refine Ops.call (by kernel_rfl) (d := (some 12)) (by kernel_rfl) (RRUint_calls _ b A c r hok H0 hR hne) ?_
  rintro _ w1 ⟨rfl, K2, H3⟩
  have hok4 := Rdr.Ok.uint hok
  have hu5 := Rdr.uint_lt r
  refine ⟨_, _, rfl, rfl, ?_⟩
  have K6 := K0.trans K2 (U := (fun i => i = b)) (fun i h1 h2 => h2) (fun i h1 h2 => by have h2 : i = b := h2; show i = b; omega)
  clear K0
  have F7 := RdO.keep hR K2 (fun i _ _ hi hs => by have hs : i = b := hs; have := hne i _ _ hi; omega)
  clear hR
  clear K2
  have F8 : RdO w1 A c (r.uint.2).bs := by rw [Rdr.uint_bs]; exact F7
  clear F7
  refine Ops.regs 1 [(0, (Value.pointer (some ⟨b, 0, none⟩))), (1, (i64 most)), (4, (i64 0)), (5, (i64 ((r.pos : Nat) : Int))), (6, (Value.int IntKind.u64 ((r.uint.1 : Nat) : Int)))] (j := 3) (by kernel_rfl) (by kernel_rfl) ?_
  refine Ops.done (by kernel_rfl) ?_
  refine q_seq (by kernel_rfl) ?_
  refine q_seq (by kernel_rfl) ?_
  refine q_region (by kernel_rfl) ?_
  refine Ops.regs 3 [(0, (Value.pointer (some ⟨b, 0, none⟩))), (1, (i64 most)), (4, (i64 0)), (5, (i64 ((r.pos : Nat) : Int))), (6, (Value.int IntKind.u64 ((r.uint.1 : Nat) : Int))), (15, (Value.pointer (some ⟨b, 2, none⟩)))] (j := 3) (by kernel_rfl) (by kernel_rfl) ?_
  refine Ops.go (v := (i64 r.uint.2.why)) (by kernel_rfl) (Runs.load (t := 28) (a := ⟨b, 2, none⟩) (by kernel_rfl) (H3.loads (by kernel_rfl))) (d := (some 16)) (by kernel_rfl) rfl ?_
  refine Ops.regs 2 [(0, (Value.pointer (some ⟨b, 0, none⟩))), (1, (i64 most)), (4, (i64 0)), (5, (i64 ((r.pos : Nat) : Int))), (6, (Value.int IntKind.u64 ((r.uint.1 : Nat) : Int))), (18, (Value.bool (r.uint.2.why == 0)))] (j := 6) (by kernel_rfl) (by kernel_rfl) ?_
  refine Ops.split (r.uint.2.why == 0) (fun h9 => ?_) (fun h9 => ?_)
  · rw [h9]
    have p10 : r.uint.2.why = 0 := of_beq_t h9
    refine Ops.regs 3 [(0, (Value.pointer (some ⟨b, 0, none⟩))), (1, (i64 most)), (4, (i64 0)), (5, (i64 ((r.pos : Nat) : Int))), (6, (Value.int IntKind.u64 ((r.uint.1 : Nat) : Int))), (18, (Value.bool true)), (21, (Value.bool (decide (most < 0))))] (j := 9) (by kernel_rfl) (by kernel_rfl) ?_
    refine Ops.split (decide (most < 0)) (fun h11 => ?_) (fun h11 => ?_)
    · rw [h11]
      have p12 : most < 0 := of_decide_eq_true h11
      refine Ops.regs 6 [(0, (Value.pointer (some ⟨b, 0, none⟩))), (4, (i64 0)), (5, (i64 ((r.pos : Nat) : Int))), (6, (Value.int IntKind.u64 ((r.uint.1 : Nat) : Int))), (27, (Value.bool true))] (j := 15) (by kernel_rfl) (by kernel_rfl) ?_
      refine Ops.done (by kernel_rfl) ?_
      refine q_then (o := .tmp 27) (by kernel_rfl) rfl ?_
      refine q_region (by kernel_rfl) ?_
      refine Ops.regs 3 [(0, (Value.pointer (some ⟨b, 0, none⟩))), (4, (i64 0)), (5, (i64 ((r.pos : Nat) : Int))), (6, (Value.int IntKind.u64 ((r.uint.1 : Nat) : Int))), (30, (Value.pointer (some ⟨b, 2, none⟩)))] (j := 3) (by kernel_rfl) (by kernel_rfl) ?_
      refine Ops.put (t := 28) (b := b) (off := 2) (v := (i64 3)) (ys := [(Value.slice A r.uint.2.bs.length c), (i64 ((r.uint.2.pos : Nat) : Int)), (i64 3)]) (by kernel_rfl) (by kernel_rfl) H3 (by kernel_rfl) (d := none) (by kernel_rfl) rfl (fun w13 H14 K15 => ?_)
      clear H3
      have K16 := K6.trans K15 (U := (fun i => i = b)) (fun i h1 h2 => h2) (fun i h1 h2 => by have h2 : i = b := h2; show i = b; omega)
      clear K6
      have F17 := RdO.keep F8 K15 (fun i _ _ hi hs => by have hs : i = b := hs; have := hne i _ _ hi; omega)
      clear F8
      clear K15
      refine Ops.done (by kernel_rfl) ?_
      refine q_seq (by kernel_rfl) ?_
      refine q_seq (by kernel_rfl) ?_
      refine q_draw (fun wz => Keeps none_ w13 wz) 20 (by kernel_rfl) (by kernel_rfl) (by kernel_rfl) (fun w18 K19 _ _ => ⟨K19, ?_⟩)
      have K20 := K16.trans K19 (U := (fun i => i = b)) (fun i h1 h2 => h2) (fun i h1 h2 => by exact h2.elim)
      clear K16
      have H21 := H14.keep K19 (fun h => h)
      clear H14
      have F22 := RdO.keep0 F17 K19
      clear F17
      refine Dr.strong (S' := (fun wz => Keeps none_ w18 wz)) (Keeps.refl w18) (fun wz hx => K19.trans hx (fun i _ h => h) (fun _ _ h => h)) ?_
      clear K19
      refine Dr.takes (fuel' := 17) (is' := [2, 1, 0]) [0, 1, 2] [(0, (Value.pointer (some ⟨b, 0, none⟩))), (4, (i64 0)), (5, (i64 ((r.pos : Nat) : Int))), (6, (Value.int IntKind.u64 ((r.uint.1 : Nat) : Int))), (33, (Value.pointer (some ⟨b, 2, none⟩)))] (by kernel_rfl) rfl (by kernel_rfl) ?_
      refine Dr.take (i := 3) (v := (i64 3)) (by kernel_rfl) (by kernel_rfl) (fun wz hS => Runs.load (t := 28) (a := ⟨b, 2, none⟩) (by kernel_rfl) ((H21.keep hS (fun h => h)).loads (by kernel_rfl))) (d := (some 34)) (by kernel_rfl) rfl ?_
      refine Dr.takes (fuel' := 0) (is' := [19, 18, 17, 16, 15, 14, 13, 12, 11, 10, 9, 8, 7, 6, 5, 4, 3, 2, 1, 0]) [4, 5, 6, 7, 8, 9, 10, 11, 12, 13, 14, 15, 16, 17, 18, 19] [(0, (Value.pointer (some ⟨b, 0, none⟩))), (4, (i64 0)), (5, (i64 ((r.pos : Nat) : Int))), (6, (Value.int IntKind.u64 ((r.uint.1 : Nat) : Int))), (50, (Value.bool false))] (by kernel_rfl) rfl (by kernel_rfl) ?_
      refine Dr.done (by kernel_rfl) ?_
      refine q_else (o := .tmp 50) (by kernel_rfl) rfl ?_
      refine q_skip (by kernel_rfl) ?_
      refine q_seq (by kernel_rfl) ?_
      refine q_seq (by kernel_rfl) ?_
      refine q_region (by kernel_rfl) ?_
      refine Ops.regs 3 [(0, (Value.pointer (some ⟨b, 0, none⟩))), (4, (i64 0)), (5, (i64 ((r.pos : Nat) : Int))), (6, (Value.int IntKind.u64 ((r.uint.1 : Nat) : Int))), (56, (Value.pointer (some ⟨b, 2, none⟩)))] (j := 3) (by kernel_rfl) (by kernel_rfl) ?_
      refine Ops.go (v := (i64 3)) (by kernel_rfl) (Runs.load (t := 28) (a := ⟨b, 2, none⟩) (by kernel_rfl) (H21.loads (by kernel_rfl))) (d := (some 57)) (by kernel_rfl) rfl ?_
      refine Ops.regs 1 [(0, (Value.pointer (some ⟨b, 0, none⟩))), (4, (i64 0)), (5, (i64 ((r.pos : Nat) : Int))), (6, (Value.int IntKind.u64 ((r.uint.1 : Nat) : Int))), (58, (Value.bool true))] (j := 5) (by kernel_rfl) (by kernel_rfl) ?_
      refine Ops.done (by kernel_rfl) ?_
      refine q_then (o := .tmp 58) (by kernel_rfl) rfl ?_
      refine q_seq (by kernel_rfl) ?_
      refine q_region (by kernel_rfl) ?_
      refine Ops.regs 4 [(4, (i64 0)), (6, (Value.int IntKind.u64 ((r.uint.1 : Nat) : Int))), (60, (i64 ((r.pos : Nat) : Int))), (62, (Value.pointer (some ⟨b, 1, none⟩)))] (j := 4) (by kernel_rfl) (by kernel_rfl) ?_
      refine Ops.put (t := 3) (b := b) (off := 1) (v := (i64 ((r.pos : Nat) : Int))) (ys := [(Value.slice A r.uint.2.bs.length c), (i64 ((r.pos : Nat) : Int)), (i64 3)]) (by kernel_rfl) (by kernel_rfl) H21 (by kernel_rfl) (d := none) (by kernel_rfl) rfl (fun w23 H24 K25 => ?_)
      clear H21
      have K26 := K20.trans K25 (U := (fun i => i = b)) (fun i h1 h2 => h2) (fun i h1 h2 => by have h2 : i = b := h2; show i = b; omega)
      clear K20
      have F27 := RdO.keep F22 K25 (fun i _ _ hi hs => by have hs : i = b := hs; have := hne i _ _ hi; omega)
      clear F22
      clear K25
      refine Ops.done (by kernel_rfl) ?_
      refine q_seq (by kernel_rfl) ?_
      refine q_region (by kernel_rfl) ?_
      refine Ops.regs 1 [(4, (i64 0)), (6, (Value.int IntKind.u64 ((r.uint.1 : Nat) : Int)))] (j := 1) (by kernel_rfl) (by kernel_rfl) ?_
      refine Ops.done (by kernel_rfl) ?_
      refine q_ret (by kernel_rfl) ?_
      refine ⟨(i64 0), retv_tmp rfl rfl, ?_⟩
      have e : r.sized most = (0, (⟨r.uint.2.bs, r.pos, 3⟩ : Rdr)) := by by_cases hr0 : r.why = 0; (unfold Rdr.sized; (repeat' split) <;> first | (exfalso; omega) | rfl | (simp only [Rdr.uint_bs]; done) | (rw [Rdr.uint_bs]; done)); (have hr1 := hw0 hr0; rw [Rdr.sized_err hr0]; first | (exfalso; omega) | (rw [Rdr.uint_bs, hr1.2.2]; done))
      exact ⟨by first | (rw [e]; done) | (rw [e]; rfl), K26, by rw [e]; exact H24⟩
    · rw [h11]
      have p28 : ¬ (most < 0) := of_decide_eq_false h11
      refine Ops.regs 3 [(0, (Value.pointer (some ⟨b, 0, none⟩))), (4, (i64 0)), (5, (i64 ((r.pos : Nat) : Int))), (6, (Value.int IntKind.u64 ((r.uint.1 : Nat) : Int))), (18, (Value.bool true)), (21, (Value.bool false)), (22, (Value.int IntKind.u64 ((r.uint.1 : Nat) : Int))), (24, (Value.int IntKind.u64 (IntKind.u64.wrap (most))))] (j := 12) (by kernel_rfl) (by kernel_rfl) ?_
      have e29 : IntKind.u64.wrap (most) = most := wrap_u64 (by omega) (by omega)
      rw [e29]
      refine Ops.regs 3 [(0, (Value.pointer (some ⟨b, 0, none⟩))), (4, (i64 0)), (5, (i64 ((r.pos : Nat) : Int))), (6, (Value.int IntKind.u64 ((r.uint.1 : Nat) : Int))), (27, (Value.bool (decide (((r.uint.1 : Nat) : Int) > most))))] (j := 15) (by kernel_rfl) (by kernel_rfl) ?_
      refine Ops.done (by kernel_rfl) ?_
      refine q_cond (o := .tmp 27) (b := (decide (((r.uint.1 : Nat) : Int) > most))) (by kernel_rfl) rfl (fun h30 => ?_) (fun h30 => ?_)
      · rw [h30]
        have p31 : ((r.uint.1 : Nat) : Int) > most := of_decide_eq_true h30
        refine q_region (by kernel_rfl) ?_
        refine Ops.regs 3 [(0, (Value.pointer (some ⟨b, 0, none⟩))), (4, (i64 0)), (5, (i64 ((r.pos : Nat) : Int))), (6, (Value.int IntKind.u64 ((r.uint.1 : Nat) : Int))), (30, (Value.pointer (some ⟨b, 2, none⟩)))] (j := 3) (by kernel_rfl) (by kernel_rfl) ?_
        refine Ops.put (t := 28) (b := b) (off := 2) (v := (i64 3)) (ys := [(Value.slice A r.uint.2.bs.length c), (i64 ((r.uint.2.pos : Nat) : Int)), (i64 3)]) (by kernel_rfl) (by kernel_rfl) H3 (by kernel_rfl) (d := none) (by kernel_rfl) rfl (fun w32 H33 K34 => ?_)
        clear H3
        have K35 := K6.trans K34 (U := (fun i => i = b)) (fun i h1 h2 => h2) (fun i h1 h2 => by have h2 : i = b := h2; show i = b; omega)
        clear K6
        have F36 := RdO.keep F8 K34 (fun i _ _ hi hs => by have hs : i = b := hs; have := hne i _ _ hi; omega)
        clear F8
        clear K34
        refine Ops.done (by kernel_rfl) ?_
        refine q_seq (by kernel_rfl) ?_
        refine q_seq (by kernel_rfl) ?_
        refine q_draw (fun wz => Keeps none_ w32 wz) 20 (by kernel_rfl) (by kernel_rfl) (by kernel_rfl) (fun w37 K38 _ _ => ⟨K38, ?_⟩)
        have K39 := K35.trans K38 (U := (fun i => i = b)) (fun i h1 h2 => h2) (fun i h1 h2 => by exact h2.elim)
        clear K35
        have H40 := H33.keep K38 (fun h => h)
        clear H33
        have F41 := RdO.keep0 F36 K38
        clear F36
        refine Dr.strong (S' := (fun wz => Keeps none_ w37 wz)) (Keeps.refl w37) (fun wz hx => K38.trans hx (fun i _ h => h) (fun _ _ h => h)) ?_
        clear K38
        refine Dr.takes (fuel' := 17) (is' := [2, 1, 0]) [0, 1, 2] [(0, (Value.pointer (some ⟨b, 0, none⟩))), (4, (i64 0)), (5, (i64 ((r.pos : Nat) : Int))), (6, (Value.int IntKind.u64 ((r.uint.1 : Nat) : Int))), (33, (Value.pointer (some ⟨b, 2, none⟩)))] (by kernel_rfl) rfl (by kernel_rfl) ?_
        refine Dr.take (i := 3) (v := (i64 3)) (by kernel_rfl) (by kernel_rfl) (fun wz hS => Runs.load (t := 28) (a := ⟨b, 2, none⟩) (by kernel_rfl) ((H40.keep hS (fun h => h)).loads (by kernel_rfl))) (d := (some 34)) (by kernel_rfl) rfl ?_
        refine Dr.takes (fuel' := 0) (is' := [19, 18, 17, 16, 15, 14, 13, 12, 11, 10, 9, 8, 7, 6, 5, 4, 3, 2, 1, 0]) [4, 5, 6, 7, 8, 9, 10, 11, 12, 13, 14, 15, 16, 17, 18, 19] [(0, (Value.pointer (some ⟨b, 0, none⟩))), (4, (i64 0)), (5, (i64 ((r.pos : Nat) : Int))), (6, (Value.int IntKind.u64 ((r.uint.1 : Nat) : Int))), (50, (Value.bool false))] (by kernel_rfl) rfl (by kernel_rfl) ?_
        refine Dr.done (by kernel_rfl) ?_
        refine q_else (o := .tmp 50) (by kernel_rfl) rfl ?_
        refine q_skip (by kernel_rfl) ?_
        refine q_seq (by kernel_rfl) ?_
        refine q_seq (by kernel_rfl) ?_
        refine q_region (by kernel_rfl) ?_
        refine Ops.regs 3 [(0, (Value.pointer (some ⟨b, 0, none⟩))), (4, (i64 0)), (5, (i64 ((r.pos : Nat) : Int))), (6, (Value.int IntKind.u64 ((r.uint.1 : Nat) : Int))), (56, (Value.pointer (some ⟨b, 2, none⟩)))] (j := 3) (by kernel_rfl) (by kernel_rfl) ?_
        refine Ops.go (v := (i64 3)) (by kernel_rfl) (Runs.load (t := 28) (a := ⟨b, 2, none⟩) (by kernel_rfl) (H40.loads (by kernel_rfl))) (d := (some 57)) (by kernel_rfl) rfl ?_
        refine Ops.regs 1 [(0, (Value.pointer (some ⟨b, 0, none⟩))), (4, (i64 0)), (5, (i64 ((r.pos : Nat) : Int))), (6, (Value.int IntKind.u64 ((r.uint.1 : Nat) : Int))), (58, (Value.bool true))] (j := 5) (by kernel_rfl) (by kernel_rfl) ?_
        refine Ops.done (by kernel_rfl) ?_
        refine q_then (o := .tmp 58) (by kernel_rfl) rfl ?_
        refine q_seq (by kernel_rfl) ?_
        refine q_region (by kernel_rfl) ?_
        refine Ops.regs 4 [(4, (i64 0)), (6, (Value.int IntKind.u64 ((r.uint.1 : Nat) : Int))), (60, (i64 ((r.pos : Nat) : Int))), (62, (Value.pointer (some ⟨b, 1, none⟩)))] (j := 4) (by kernel_rfl) (by kernel_rfl) ?_
        refine Ops.put (t := 3) (b := b) (off := 1) (v := (i64 ((r.pos : Nat) : Int))) (ys := [(Value.slice A r.uint.2.bs.length c), (i64 ((r.pos : Nat) : Int)), (i64 3)]) (by kernel_rfl) (by kernel_rfl) H40 (by kernel_rfl) (d := none) (by kernel_rfl) rfl (fun w42 H43 K44 => ?_)
        clear H40
        have K45 := K39.trans K44 (U := (fun i => i = b)) (fun i h1 h2 => h2) (fun i h1 h2 => by have h2 : i = b := h2; show i = b; omega)
        clear K39
        have F46 := RdO.keep F41 K44 (fun i _ _ hi hs => by have hs : i = b := hs; have := hne i _ _ hi; omega)
        clear F41
        clear K44
        refine Ops.done (by kernel_rfl) ?_
        refine q_seq (by kernel_rfl) ?_
        refine q_region (by kernel_rfl) ?_
        refine Ops.regs 1 [(4, (i64 0)), (6, (Value.int IntKind.u64 ((r.uint.1 : Nat) : Int)))] (j := 1) (by kernel_rfl) (by kernel_rfl) ?_
        refine Ops.done (by kernel_rfl) ?_
        refine q_ret (by kernel_rfl) ?_
        refine ⟨(i64 0), retv_tmp rfl rfl, ?_⟩
        have e : r.sized most = (0, (⟨r.uint.2.bs, r.pos, 3⟩ : Rdr)) := by by_cases hr0 : r.why = 0; (unfold Rdr.sized; (repeat' split) <;> first | (exfalso; omega) | rfl | (simp only [Rdr.uint_bs]; done) | (rw [Rdr.uint_bs]; done)); (have hr1 := hw0 hr0; rw [Rdr.sized_err hr0]; first | (exfalso; omega) | (rw [Rdr.uint_bs, hr1.2.2]; done))
        exact ⟨by first | (rw [e]; done) | (rw [e]; rfl), K45, by rw [e]; exact H43⟩
      · rw [h30]
        have p47 : ¬ (((r.uint.1 : Nat) : Int) > most) := of_decide_eq_false h30
        refine q_skip (by kernel_rfl) ?_
        refine q_seq (by kernel_rfl) ?_
        refine q_seq (by kernel_rfl) ?_
        refine q_draw (fun wz => Keeps none_ w1 wz) 20 (by kernel_rfl) (by kernel_rfl) (by kernel_rfl) (fun w48 K49 _ _ => ⟨K49, ?_⟩)
        have K50 := K6.trans K49 (U := (fun i => i = b)) (fun i h1 h2 => h2) (fun i h1 h2 => by exact h2.elim)
        clear K6
        have H51 := H3.keep K49 (fun h => h)
        clear H3
        have F52 := RdO.keep0 F8 K49
        clear F8
        refine Dr.strong (S' := (fun wz => Keeps none_ w48 wz)) (Keeps.refl w48) (fun wz hx => K49.trans hx (fun i _ h => h) (fun _ _ h => h)) ?_
        clear K49
        refine Dr.takes (fuel' := 17) (is' := [2, 1, 0]) [0, 1, 2] [(0, (Value.pointer (some ⟨b, 0, none⟩))), (4, (i64 0)), (5, (i64 ((r.pos : Nat) : Int))), (6, (Value.int IntKind.u64 ((r.uint.1 : Nat) : Int))), (33, (Value.pointer (some ⟨b, 2, none⟩)))] (by kernel_rfl) rfl (by kernel_rfl) ?_
        refine Dr.take (i := 3) (v := (i64 r.uint.2.why)) (by kernel_rfl) (by kernel_rfl) (fun wz hS => Runs.load (t := 28) (a := ⟨b, 2, none⟩) (by kernel_rfl) ((H51.keep hS (fun h => h)).loads (by kernel_rfl))) (d := (some 34)) (by kernel_rfl) rfl ?_
        refine Dr.takes (fuel' := 14) (is' := [5, 4, 3, 2, 1, 0]) [4, 5] [(0, (Value.pointer (some ⟨b, 0, none⟩))), (4, (i64 0)), (5, (i64 ((r.pos : Nat) : Int))), (6, (Value.int IntKind.u64 ((r.uint.1 : Nat) : Int))), (36, (Value.bool (r.uint.2.why == 0)))] (by kernel_rfl) rfl (by kernel_rfl) ?_
        rw [h9]
        refine Dr.takes (fuel' := 10) (is' := [9, 8, 7, 6, 5, 4, 3, 2, 1, 0]) [6, 7, 8, 9] [(0, (Value.pointer (some ⟨b, 0, none⟩))), (4, (i64 0)), (5, (i64 ((r.pos : Nat) : Int))), (6, (Value.int IntKind.u64 ((r.uint.1 : Nat) : Int))), (36, (Value.bool true)), (37, (Value.int IntKind.u64 ((r.uint.1 : Nat) : Int))), (40, (Value.pointer (some ⟨b, 0, none⟩)))] (by kernel_rfl) rfl (by kernel_rfl) ?_
        refine Dr.take (i := 10) (v := (Value.slice A r.uint.2.bs.length c)) (by kernel_rfl) (by kernel_rfl) (fun wz hS => Runs.load (t := 23) (a := ⟨b, 0, none⟩) (by kernel_rfl) ((H51.keep hS (fun h => h)).loads (by kernel_rfl))) (d := (some 41)) (by kernel_rfl) rfl ?_
        refine Dr.takes (fuel' := 5) (is' := [14, 13, 12, 11, 10, 9, 8, 7, 6, 5, 4, 3, 2, 1, 0]) [11, 12, 13, 14] [(0, (Value.pointer (some ⟨b, 0, none⟩))), (4, (i64 0)), (5, (i64 ((r.pos : Nat) : Int))), (6, (Value.int IntKind.u64 ((r.uint.1 : Nat) : Int))), (36, (Value.bool true)), (37, (Value.int IntKind.u64 ((r.uint.1 : Nat) : Int))), (42, (i64 ((r.uint.2.bs.length : Nat) : Int))), (45, (Value.pointer (some ⟨b, 1, none⟩)))] (by kernel_rfl) rfl (by kernel_rfl) ?_
        refine Dr.take (i := 15) (v := (i64 ((r.uint.2.pos : Nat) : Int))) (by kernel_rfl) (by kernel_rfl) (fun wz hS => Runs.load (t := 3) (a := ⟨b, 1, none⟩) (by kernel_rfl) ((H51.keep hS (fun h => h)).loads (by kernel_rfl))) (d := (some 46)) (by kernel_rfl) rfl ?_
        refine Dr.takes (fuel' := 3) (is' := [16, 15, 14, 13, 12, 11, 10, 9, 8, 7, 6, 5, 4, 3, 2, 1, 0]) [16] [(0, (Value.pointer (some ⟨b, 0, none⟩))), (4, (i64 0)), (5, (i64 ((r.pos : Nat) : Int))), (6, (Value.int IntKind.u64 ((r.uint.1 : Nat) : Int))), (36, (Value.bool true)), (37, (Value.int IntKind.u64 ((r.uint.1 : Nat) : Int))), (47, (i64 (IntKind.i64.wrap (((r.uint.2.bs.length : Nat) : Int) - ((r.uint.2.pos : Nat) : Int)))))] (by kernel_rfl) rfl (by kernel_rfl) ?_
        have e53 : IntKind.i64.wrap (((r.uint.2.bs.length : Nat) : Int) - ((r.uint.2.pos : Nat) : Int)) = ((r.uint.2.bs.length : Nat) : Int) - ((r.uint.2.pos : Nat) : Int) := wrap_i64 (by omega) (by omega)
        rw [e53]
        refine Dr.takes (fuel' := 2) (is' := [17, 16, 15, 14, 13, 12, 11, 10, 9, 8, 7, 6, 5, 4, 3, 2, 1, 0]) [17] [(0, (Value.pointer (some ⟨b, 0, none⟩))), (4, (i64 0)), (5, (i64 ((r.pos : Nat) : Int))), (6, (Value.int IntKind.u64 ((r.uint.1 : Nat) : Int))), (36, (Value.bool true)), (37, (Value.int IntKind.u64 ((r.uint.1 : Nat) : Int))), (48, (Value.int IntKind.u64 (IntKind.u64.wrap (((r.uint.2.bs.length : Nat) : Int) - ((r.uint.2.pos : Nat) : Int)))))] (by kernel_rfl) rfl (by kernel_rfl) ?_
        have e54 : IntKind.u64.wrap (((r.uint.2.bs.length : Nat) : Int) - ((r.uint.2.pos : Nat) : Int)) = ((r.uint.2.bs.length : Nat) : Int) - ((r.uint.2.pos : Nat) : Int) := wrap_u64 (by omega) (by omega)
        rw [e54]
        refine Dr.takes (fuel' := 0) (is' := [19, 18, 17, 16, 15, 14, 13, 12, 11, 10, 9, 8, 7, 6, 5, 4, 3, 2, 1, 0]) [18, 19] [(0, (Value.pointer (some ⟨b, 0, none⟩))), (4, (i64 0)), (5, (i64 ((r.pos : Nat) : Int))), (6, (Value.int IntKind.u64 ((r.uint.1 : Nat) : Int))), (50, (Value.bool (decide (((r.uint.1 : Nat) : Int) > ((r.uint.2.bs.length : Nat) : Int) - ((r.uint.2.pos : Nat) : Int)))))] (by kernel_rfl) rfl (by kernel_rfl) ?_
        refine Dr.done (by kernel_rfl) ?_
        refine q_cond (o := .tmp 50) (b := (decide (((r.uint.1 : Nat) : Int) > ((r.uint.2.bs.length : Nat) : Int) - ((r.uint.2.pos : Nat) : Int)))) (by kernel_rfl) rfl (fun h55 => ?_) (fun h55 => ?_)
        · rw [h55]
          have p56 : ((r.uint.1 : Nat) : Int) > ((r.uint.2.bs.length : Nat) : Int) - ((r.uint.2.pos : Nat) : Int) := of_decide_eq_true h55
          refine q_region (by kernel_rfl) ?_
          refine Ops.regs 3 [(0, (Value.pointer (some ⟨b, 0, none⟩))), (4, (i64 0)), (5, (i64 ((r.pos : Nat) : Int))), (6, (Value.int IntKind.u64 ((r.uint.1 : Nat) : Int))), (53, (Value.pointer (some ⟨b, 2, none⟩)))] (j := 3) (by kernel_rfl) (by kernel_rfl) ?_
          refine Ops.put (t := 28) (b := b) (off := 2) (v := (i64 10)) (ys := [(Value.slice A r.uint.2.bs.length c), (i64 ((r.uint.2.pos : Nat) : Int)), (i64 10)]) (by kernel_rfl) (by kernel_rfl) H51 (by kernel_rfl) (d := none) (by kernel_rfl) rfl (fun w57 H58 K59 => ?_)
          clear H51
          have K60 := K50.trans K59 (U := (fun i => i = b)) (fun i h1 h2 => h2) (fun i h1 h2 => by have h2 : i = b := h2; show i = b; omega)
          clear K50
          have F61 := RdO.keep F52 K59 (fun i _ _ hi hs => by have hs : i = b := hs; have := hne i _ _ hi; omega)
          clear F52
          clear K59
          refine Ops.done (by kernel_rfl) ?_
          refine q_seq (by kernel_rfl) ?_
          refine q_seq (by kernel_rfl) ?_
          refine q_region (by kernel_rfl) ?_
          refine Ops.regs 3 [(0, (Value.pointer (some ⟨b, 0, none⟩))), (4, (i64 0)), (5, (i64 ((r.pos : Nat) : Int))), (6, (Value.int IntKind.u64 ((r.uint.1 : Nat) : Int))), (56, (Value.pointer (some ⟨b, 2, none⟩)))] (j := 3) (by kernel_rfl) (by kernel_rfl) ?_
          refine Ops.go (v := (i64 10)) (by kernel_rfl) (Runs.load (t := 28) (a := ⟨b, 2, none⟩) (by kernel_rfl) (H58.loads (by kernel_rfl))) (d := (some 57)) (by kernel_rfl) rfl ?_
          refine Ops.regs 1 [(0, (Value.pointer (some ⟨b, 0, none⟩))), (4, (i64 0)), (5, (i64 ((r.pos : Nat) : Int))), (6, (Value.int IntKind.u64 ((r.uint.1 : Nat) : Int))), (58, (Value.bool true))] (j := 5) (by kernel_rfl) (by kernel_rfl) ?_
          refine Ops.done (by kernel_rfl) ?_
          refine q_then (o := .tmp 58) (by kernel_rfl) rfl ?_
          refine q_seq (by kernel_rfl) ?_
          refine q_region (by kernel_rfl) ?_
          refine Ops.regs 4 [(4, (i64 0)), (6, (Value.int IntKind.u64 ((r.uint.1 : Nat) : Int))), (60, (i64 ((r.pos : Nat) : Int))), (62, (Value.pointer (some ⟨b, 1, none⟩)))] (j := 4) (by kernel_rfl) (by kernel_rfl) ?_
          refine Ops.put (t := 3) (b := b) (off := 1) (v := (i64 ((r.pos : Nat) : Int))) (ys := [(Value.slice A r.uint.2.bs.length c), (i64 ((r.pos : Nat) : Int)), (i64 10)]) (by kernel_rfl) (by kernel_rfl) H58 (by kernel_rfl) (d := none) (by kernel_rfl) rfl (fun w62 H63 K64 => ?_)
          clear H58
          have K65 := K60.trans K64 (U := (fun i => i = b)) (fun i h1 h2 => h2) (fun i h1 h2 => by have h2 : i = b := h2; show i = b; omega)
          clear K60
          have F66 := RdO.keep F61 K64 (fun i _ _ hi hs => by have hs : i = b := hs; have := hne i _ _ hi; omega)
          clear F61
          clear K64
          refine Ops.done (by kernel_rfl) ?_
          refine q_seq (by kernel_rfl) ?_
          refine q_region (by kernel_rfl) ?_
          refine Ops.regs 1 [(4, (i64 0)), (6, (Value.int IntKind.u64 ((r.uint.1 : Nat) : Int)))] (j := 1) (by kernel_rfl) (by kernel_rfl) ?_
          refine Ops.done (by kernel_rfl) ?_
          refine q_ret (by kernel_rfl) ?_
          refine ⟨(i64 0), retv_tmp rfl rfl, ?_⟩
          have e : r.sized most = (0, (⟨r.uint.2.bs, r.pos, 10⟩ : Rdr)) := by by_cases hr0 : r.why = 0; (unfold Rdr.sized; (repeat' split) <;> first | (exfalso; omega) | rfl | (simp only [Rdr.uint_bs]; done) | (rw [Rdr.uint_bs]; done)); (have hr1 := hw0 hr0; rw [Rdr.sized_err hr0]; first | (exfalso; omega) | (rw [Rdr.uint_bs, hr1.2.2]; done))
          exact ⟨by first | (rw [e]; done) | (rw [e]; rfl), K65, by rw [e]; exact H63⟩
        · rw [h55]
          have p67 : ¬ (((r.uint.1 : Nat) : Int) > ((r.uint.2.bs.length : Nat) : Int) - ((r.uint.2.pos : Nat) : Int)) := of_decide_eq_false h55
          refine q_skip (by kernel_rfl) ?_
          refine q_seq (by kernel_rfl) ?_
          refine q_seq (by kernel_rfl) ?_
          refine q_region (by kernel_rfl) ?_
          refine Ops.regs 3 [(0, (Value.pointer (some ⟨b, 0, none⟩))), (4, (i64 0)), (5, (i64 ((r.pos : Nat) : Int))), (6, (Value.int IntKind.u64 ((r.uint.1 : Nat) : Int))), (56, (Value.pointer (some ⟨b, 2, none⟩)))] (j := 3) (by kernel_rfl) (by kernel_rfl) ?_
          refine Ops.go (v := (i64 r.uint.2.why)) (by kernel_rfl) (Runs.load (t := 28) (a := ⟨b, 2, none⟩) (by kernel_rfl) (H51.loads (by kernel_rfl))) (d := (some 57)) (by kernel_rfl) rfl ?_
          refine Ops.regs 1 [(0, (Value.pointer (some ⟨b, 0, none⟩))), (4, (i64 0)), (5, (i64 ((r.pos : Nat) : Int))), (6, (Value.int IntKind.u64 ((r.uint.1 : Nat) : Int))), (58, (Value.bool (r.uint.2.why != 0)))] (j := 5) (by kernel_rfl) (by kernel_rfl) ?_
          refine Ops.done (by kernel_rfl) ?_
          refine q_cond (o := .tmp 58) (b := (r.uint.2.why != 0)) (by kernel_rfl) rfl (fun h68 => ?_) (fun h68 => ?_)
          · rw [h68]
            have p69 : ¬ (r.uint.2.why = 0) := of_bne_t h68
            refine q_seq (by kernel_rfl) ?_
            refine q_region (by kernel_rfl) ?_
            refine Ops.regs 4 [(4, (i64 0)), (6, (Value.int IntKind.u64 ((r.uint.1 : Nat) : Int))), (60, (i64 ((r.pos : Nat) : Int))), (62, (Value.pointer (some ⟨b, 1, none⟩)))] (j := 4) (by kernel_rfl) (by kernel_rfl) ?_
            refine Ops.put (t := 3) (b := b) (off := 1) (v := (i64 ((r.pos : Nat) : Int))) (ys := [(Value.slice A r.uint.2.bs.length c), (i64 ((r.pos : Nat) : Int)), (i64 r.uint.2.why)]) (by kernel_rfl) (by kernel_rfl) H51 (by kernel_rfl) (d := none) (by kernel_rfl) rfl (fun w70 H71 K72 => ?_)
            clear H51
            have K73 := K50.trans K72 (U := (fun i => i = b)) (fun i h1 h2 => h2) (fun i h1 h2 => by have h2 : i = b := h2; show i = b; omega)
            clear K50
            have F74 := RdO.keep F52 K72 (fun i _ _ hi hs => by have hs : i = b := hs; have := hne i _ _ hi; omega)
            clear F52
            clear K72
            refine Ops.done (by kernel_rfl) ?_
            refine q_seq (by kernel_rfl) ?_
            refine q_region (by kernel_rfl) ?_
            refine Ops.regs 1 [(4, (i64 0)), (6, (Value.int IntKind.u64 ((r.uint.1 : Nat) : Int)))] (j := 1) (by kernel_rfl) (by kernel_rfl) ?_
            refine Ops.done (by kernel_rfl) ?_
            refine q_ret (by kernel_rfl) ?_
            refine ⟨(i64 0), retv_tmp rfl rfl, ?_⟩
            have e : r.sized most = (0, (⟨r.uint.2.bs, r.pos, r.uint.2.why⟩ : Rdr)) := by by_cases hr0 : r.why = 0; (unfold Rdr.sized; (repeat' split) <;> first | (exfalso; omega) | rfl | (simp only [Rdr.uint_bs]; done) | (rw [Rdr.uint_bs]; done)); (have hr1 := hw0 hr0; rw [Rdr.sized_err hr0]; first | (exfalso; omega) | (rw [Rdr.uint_bs, hr1.2.2]; done))
            exact ⟨by first | (rw [e]; done) | (rw [e]; rfl), K73, by rw [e]; exact H71⟩
          · rw [h68]
            have p75 : r.uint.2.why = 0 := of_bne_f h68
            refine q_skip (by kernel_rfl) ?_
            refine q_seq (by kernel_rfl) ?_
            refine q_region (by kernel_rfl) ?_
            refine Ops.regs 2 [(4, (i64 0)), (64, (i64 (IntKind.i64.wrap (((r.uint.1 : Nat) : Int)))))] (j := 2) (by kernel_rfl) (by kernel_rfl) ?_
            have e76 : IntKind.i64.wrap (((r.uint.1 : Nat) : Int)) = ((r.uint.1 : Nat) : Int) := wrap_i64 (by omega) (by omega)
            rw [e76]
            refine Ops.regs 1 [(4, (i64 ((r.uint.1 : Nat) : Int)))] (j := 3) (by kernel_rfl) (by kernel_rfl) ?_
            refine Ops.done (by kernel_rfl) ?_
            refine q_ret (by kernel_rfl) ?_
            refine ⟨(i64 ((r.uint.1 : Nat) : Int)), retv_tmp rfl rfl, ?_⟩
            have e : r.sized most = (r.uint.1, r.uint.2) := by by_cases hr0 : r.why = 0; (unfold Rdr.sized; (repeat' split) <;> first | (exfalso; omega) | rfl | (simp only [Rdr.uint_bs]; done) | (rw [Rdr.uint_bs]; done)); (have hr1 := hw0 hr0; rw [Rdr.sized_err hr0]; first | (exfalso; omega) | (rw [Rdr.uint_bs, hr1.2.2]; done))
            exact ⟨by first | (rw [e]; done) | (rw [e]; rfl), K50, by rw [e]; exact H51⟩
  · rw [h9]
    have p77 : ¬ (r.uint.2.why = 0) := of_beq_f h9
    refine Ops.regs 9 [(0, (Value.pointer (some ⟨b, 0, none⟩))), (4, (i64 0)), (5, (i64 ((r.pos : Nat) : Int))), (6, (Value.int IntKind.u64 ((r.uint.1 : Nat) : Int))), (27, (Value.bool false))] (j := 15) (by kernel_rfl) (by kernel_rfl) ?_
    refine Ops.done (by kernel_rfl) ?_
    refine q_else (o := .tmp 27) (by kernel_rfl) rfl ?_
    refine q_skip (by kernel_rfl) ?_
    refine q_seq (by kernel_rfl) ?_
    refine q_seq (by kernel_rfl) ?_
    refine q_draw (fun wz => Keeps none_ w1 wz) 20 (by kernel_rfl) (by kernel_rfl) (by kernel_rfl) (fun w78 K79 _ _ => ⟨K79, ?_⟩)
    have K80 := K6.trans K79 (U := (fun i => i = b)) (fun i h1 h2 => h2) (fun i h1 h2 => by exact h2.elim)
    clear K6
    have H81 := H3.keep K79 (fun h => h)
    clear H3
    have F82 := RdO.keep0 F8 K79
    clear F8
    refine Dr.strong (S' := (fun wz => Keeps none_ w78 wz)) (Keeps.refl w78) (fun wz hx => K79.trans hx (fun i _ h => h) (fun _ _ h => h)) ?_
    clear K79
    refine Dr.takes (fuel' := 17) (is' := [2, 1, 0]) [0, 1, 2] [(0, (Value.pointer (some ⟨b, 0, none⟩))), (4, (i64 0)), (5, (i64 ((r.pos : Nat) : Int))), (6, (Value.int IntKind.u64 ((r.uint.1 : Nat) : Int))), (33, (Value.pointer (some ⟨b, 2, none⟩)))] (by kernel_rfl) rfl (by kernel_rfl) ?_
    refine Dr.take (i := 3) (v := (i64 r.uint.2.why)) (by kernel_rfl) (by kernel_rfl) (fun wz hS => Runs.load (t := 28) (a := ⟨b, 2, none⟩) (by kernel_rfl) ((H81.keep hS (fun h => h)).loads (by kernel_rfl))) (d := (some 34)) (by kernel_rfl) rfl ?_
    refine Dr.takes (fuel' := 14) (is' := [5, 4, 3, 2, 1, 0]) [4, 5] [(0, (Value.pointer (some ⟨b, 0, none⟩))), (4, (i64 0)), (5, (i64 ((r.pos : Nat) : Int))), (6, (Value.int IntKind.u64 ((r.uint.1 : Nat) : Int))), (36, (Value.bool (r.uint.2.why == 0)))] (by kernel_rfl) rfl (by kernel_rfl) ?_
    rw [h9]
    refine Dr.takes (fuel' := 0) (is' := [19, 18, 17, 16, 15, 14, 13, 12, 11, 10, 9, 8, 7, 6, 5, 4, 3, 2, 1, 0]) [6, 7, 8, 9, 10, 11, 12, 13, 14, 15, 16, 17, 18, 19] [(0, (Value.pointer (some ⟨b, 0, none⟩))), (4, (i64 0)), (5, (i64 ((r.pos : Nat) : Int))), (6, (Value.int IntKind.u64 ((r.uint.1 : Nat) : Int))), (50, (Value.bool false))] (by kernel_rfl) rfl (by kernel_rfl) ?_
    refine Dr.done (by kernel_rfl) ?_
    refine q_else (o := .tmp 50) (by kernel_rfl) rfl ?_
    refine q_skip (by kernel_rfl) ?_
    refine q_seq (by kernel_rfl) ?_
    refine q_seq (by kernel_rfl) ?_
    refine q_region (by kernel_rfl) ?_
    refine Ops.regs 3 [(0, (Value.pointer (some ⟨b, 0, none⟩))), (4, (i64 0)), (5, (i64 ((r.pos : Nat) : Int))), (6, (Value.int IntKind.u64 ((r.uint.1 : Nat) : Int))), (56, (Value.pointer (some ⟨b, 2, none⟩)))] (j := 3) (by kernel_rfl) (by kernel_rfl) ?_
    refine Ops.go (v := (i64 r.uint.2.why)) (by kernel_rfl) (Runs.load (t := 28) (a := ⟨b, 2, none⟩) (by kernel_rfl) (H81.loads (by kernel_rfl))) (d := (some 57)) (by kernel_rfl) rfl ?_
    refine Ops.regs 1 [(0, (Value.pointer (some ⟨b, 0, none⟩))), (4, (i64 0)), (5, (i64 ((r.pos : Nat) : Int))), (6, (Value.int IntKind.u64 ((r.uint.1 : Nat) : Int))), (58, (Value.bool (r.uint.2.why != 0)))] (j := 5) (by kernel_rfl) (by kernel_rfl) ?_
    refine Ops.done (by kernel_rfl) ?_
    refine q_cond (o := .tmp 58) (b := (r.uint.2.why != 0)) (by kernel_rfl) rfl (fun h83 => ?_) (fun h83 => ?_)
    · rw [h83]
      have p84 : ¬ (r.uint.2.why = 0) := of_bne_t h83
      refine q_seq (by kernel_rfl) ?_
      refine q_region (by kernel_rfl) ?_
      refine Ops.regs 4 [(4, (i64 0)), (6, (Value.int IntKind.u64 ((r.uint.1 : Nat) : Int))), (60, (i64 ((r.pos : Nat) : Int))), (62, (Value.pointer (some ⟨b, 1, none⟩)))] (j := 4) (by kernel_rfl) (by kernel_rfl) ?_
      refine Ops.put (t := 3) (b := b) (off := 1) (v := (i64 ((r.pos : Nat) : Int))) (ys := [(Value.slice A r.uint.2.bs.length c), (i64 ((r.pos : Nat) : Int)), (i64 r.uint.2.why)]) (by kernel_rfl) (by kernel_rfl) H81 (by kernel_rfl) (d := none) (by kernel_rfl) rfl (fun w85 H86 K87 => ?_)
      clear H81
      have K88 := K80.trans K87 (U := (fun i => i = b)) (fun i h1 h2 => h2) (fun i h1 h2 => by have h2 : i = b := h2; show i = b; omega)
      clear K80
      have F89 := RdO.keep F82 K87 (fun i _ _ hi hs => by have hs : i = b := hs; have := hne i _ _ hi; omega)
      clear F82
      clear K87
      refine Ops.done (by kernel_rfl) ?_
      refine q_seq (by kernel_rfl) ?_
      refine q_region (by kernel_rfl) ?_
      refine Ops.regs 1 [(4, (i64 0)), (6, (Value.int IntKind.u64 ((r.uint.1 : Nat) : Int)))] (j := 1) (by kernel_rfl) (by kernel_rfl) ?_
      refine Ops.done (by kernel_rfl) ?_
      refine q_ret (by kernel_rfl) ?_
      refine ⟨(i64 0), retv_tmp rfl rfl, ?_⟩
      have e : r.sized most = (0, (⟨r.uint.2.bs, r.pos, r.uint.2.why⟩ : Rdr)) := by by_cases hr0 : r.why = 0; (unfold Rdr.sized; (repeat' split) <;> first | (exfalso; omega) | rfl | (simp only [Rdr.uint_bs]; done) | (rw [Rdr.uint_bs]; done)); (have hr1 := hw0 hr0; rw [Rdr.sized_err hr0]; first | (exfalso; omega) | (rw [Rdr.uint_bs, hr1.2.2]; done))
      exact ⟨by first | (rw [e]; done) | (rw [e]; rfl), K88, by rw [e]; exact H86⟩
    · rw [h83]
      have p90 : r.uint.2.why = 0 := of_bne_f h83
      refine q_skip (by kernel_rfl) ?_
      refine q_seq (by kernel_rfl) ?_
      refine q_region (by kernel_rfl) ?_
      refine Ops.regs 2 [(4, (i64 0)), (64, (i64 (IntKind.i64.wrap (((r.uint.1 : Nat) : Int)))))] (j := 2) (by kernel_rfl) (by kernel_rfl) ?_
      have e91 : IntKind.i64.wrap (((r.uint.1 : Nat) : Int)) = ((r.uint.1 : Nat) : Int) := wrap_i64 (by omega) (by omega)
      rw [e91]
      refine Ops.regs 1 [(4, (i64 ((r.uint.1 : Nat) : Int)))] (j := 3) (by kernel_rfl) (by kernel_rfl) ?_
      refine Ops.done (by kernel_rfl) ?_
      refine q_ret (by kernel_rfl) ?_
      refine ⟨(i64 ((r.uint.1 : Nat) : Int)), retv_tmp rfl rfl, ?_⟩
      have e : r.sized most = (r.uint.1, r.uint.2) := by by_cases hr0 : r.why = 0; (unfold Rdr.sized; (repeat' split) <;> first | (exfalso; omega) | rfl | (simp only [Rdr.uint_bs]; done) | (rw [Rdr.uint_bs]; done)); (have hr1 := hw0 hr0; rw [Rdr.sized_err hr0]; first | (exfalso; omega) | (rw [Rdr.uint_bs, hr1.2.2]; done))
      exact ⟨by first | (rw [e]; done) | (rw [e]; rfl), K80, by rw [e]; exact H81⟩

theorem RRBytes_calls (w : World) (b : Nat) (A : Option Addr) (c : Nat) (r : Rdr) (hok : r.Ok) (H0 : Has w b (rowL (rdrL A c r) 72)) (hR : RdO w A c r.bs) (hne : ∀ g o s, A = some ⟨g, o, s⟩ → g ≠ b) : Calls Try.prog 70 ⟨[(Value.pointer (some ⟨b, 0, none⟩))]⟩ w (fun e w' => ∃ v', e = .returned v' ∧ Keeps (fun i => i = b) w w' ∧ OwnB w' w.heap.size 5 v' (r.bytes.1) ∧ Has w' b (rowL (rdrL A c (r.bytes).2) 72)) := by
  have hpos := hok.pos
  have hlen := hok.len
  have hsc := r.scan_le
  have hdl : (r.bs.drop r.pos).length = r.bs.length - r.pos := List.length_drop
  have hcap := hR.1.slice
  have Hb := H0.lt
  have K0 : Keeps (fun i => i = b) w w := (Keeps.refl w).mono (fun _ _ h => h.elim)
  have hub := r.uint_bs
  have hubl := congrArg List.length hub
  have hul := r.uint_lt
  have hw0 : r.why ≠ 0 → r.uint.1 = 0 ∧ r.uint.2.pos = r.pos ∧ r.uint.2.why = r.why := fun h => by rw [Rdr.uint_err h]; exact ⟨rfl, rfl, rfl⟩
  have hup := hok.uint.pos
  refine q_calls Try.func70 (by kernel_rfl) (by kernel_rfl) ?_
  refine q_seq (by kernel_rfl) ?_
  refine q_region (by kernel_rfl) ?_
  refine Ops.regs 1 [(0, (Value.pointer (some ⟨b, 0, none⟩))), (2, (Value.slice none 0 0))] (j := 1) (by kernel_rfl) (by kernel_rfl) ?_
  refine Ops.done (by kernel_rfl) ?_
  refine q_seq (by kernel_rfl) ?_
  refine q_region (by kernel_rfl) ?_
  refine Ops.regs 3 [(0, (Value.pointer (some ⟨b, 0, none⟩))), (2, (Value.slice none 0 0)), (8, (Value.pointer (some ⟨b, 1, none⟩)))] (j := 3) (by kernel_rfl) (by kernel_rfl) ?_
  refine Ops.go (v := (i64 ((r.pos : Nat) : Int))) (by kernel_rfl) (Runs.load (t := 3) (a := ⟨b, 1, none⟩) (by kernel_rfl) (H0.loads (by kernel_rfl))) (d := (some 9)) (by kernel_rfl) rfl ?_
  refine Ops.regs 1 [(0, (Value.pointer (some ⟨b, 0, none⟩))), (2, (Value.slice none 0 0)), (3, (i64 ((r.pos : Nat) : Int)))] (j := 5) (by kernel_rfl) (by kernel_rfl) ?_
  refine Ops.done (by kernel_rfl) ?_
  refine q_seq (by kernel_rfl) ?_
  refine q_region (by kernel_rfl) ?_
  refine Ops.regs 1 [(0, (Value.pointer (some ⟨b, 0, none⟩))), (2, (Value.slice none 0 0)), (3, (i64 ((r.pos : Nat) : Int))), (10, (Value.pointer (some ⟨b, 0, none⟩)))] (j := 1) (by kernel_rfl) (by kernel_rfl) ?_
  refine Ops.call (by kernel_rfl) (d := (some 11)) (by kernel_rfl) (RRUint_calls _ b A c r hok H0 hR hne) ?_
  rintro _ w1 ⟨rfl, K2, H3⟩
  have hok4 := Rdr.Ok.uint hok
  have hu5 := Rdr.uint_lt r
  refine ⟨_, _, rfl, rfl, ?_⟩
  have K6 := K0.trans K2 (U := (fun i => i = b)) (fun i h1 h2 => h2) (fun i h1 h2 => by have h2 : i = b := h2; show i = b; omega)
  clear K0
  have F7 := RdO.keep hR K2 (fun i _ _ hi hs => by have hs : i = b := hs; have := hne i _ _ hi; omega)
  clear hR
  clear K2
  have F8 : RdO w1 A c (r.uint.2).bs := by rw [Rdr.uint_bs]; exact F7
  clear F7
  refine Ops.regs 1 [(0, (Value.pointer (some ⟨b, 0, none⟩))), (2, (Value.slice none 0 0)), (3, (i64 ((r.pos : Nat) : Int))), (4, (Value.int IntKind.u64 ((r.uint.1 : Nat) : Int)))] (j := 3) (by kernel_rfl) (by kernel_rfl) ?_
  refine Ops.done (by kernel_rfl) ?_
  refine q_seq (by kernel_rfl) ?_
  refine q_seq (by kernel_rfl) ?_
  refine q_region (by kernel_rfl) ?_
  refine Ops.regs 3 [(0, (Value.pointer (some ⟨b, 0, none⟩))), (2, (Value.slice none 0 0)), (3, (i64 ((r.pos : Nat) : Int))), (4, (Value.int IntKind.u64 ((r.uint.1 : Nat) : Int))), (14, (Value.pointer (some ⟨b, 2, none⟩)))] (j := 3) (by kernel_rfl) (by kernel_rfl) ?_
  refine Ops.go (v := (i64 r.uint.2.why)) (by kernel_rfl) (Runs.load (t := 28) (a := ⟨b, 2, none⟩) (by kernel_rfl) (H3.loads (by kernel_rfl))) (d := (some 15)) (by kernel_rfl) rfl ?_
  refine Ops.regs 2 [(0, (Value.pointer (some ⟨b, 0, none⟩))), (2, (Value.slice none 0 0)), (3, (i64 ((r.pos : Nat) : Int))), (4, (Value.int IntKind.u64 ((r.uint.1 : Nat) : Int))), (17, (Value.bool (r.uint.2.why == 0)))] (j := 6) (by kernel_rfl) (by kernel_rfl) ?_
  refine Ops.split (r.uint.2.why == 0) (fun h9 => ?_) (fun h9 => ?_)
  · rw [h9]
    have p10 : r.uint.2.why = 0 := of_beq_t h9
    refine Ops.regs 3 [(0, (Value.pointer (some ⟨b, 0, none⟩))), (2, (Value.slice none 0 0)), (3, (i64 ((r.pos : Nat) : Int))), (4, (Value.int IntKind.u64 ((r.uint.1 : Nat) : Int))), (20, (Value.bool (decide (((r.uint.1 : Nat) : Int) > 65536))))] (j := 9) (by kernel_rfl) (by kernel_rfl) ?_
    refine Ops.done (by kernel_rfl) ?_
    refine q_cond (o := .tmp 20) (b := (decide (((r.uint.1 : Nat) : Int) > 65536))) (by kernel_rfl) rfl (fun h11 => ?_) (fun h11 => ?_)
    · rw [h11]
      have p12 : ((r.uint.1 : Nat) : Int) > 65536 := of_decide_eq_true h11
      refine q_region (by kernel_rfl) ?_
      refine Ops.regs 3 [(0, (Value.pointer (some ⟨b, 0, none⟩))), (2, (Value.slice none 0 0)), (3, (i64 ((r.pos : Nat) : Int))), (4, (Value.int IntKind.u64 ((r.uint.1 : Nat) : Int))), (23, (Value.pointer (some ⟨b, 2, none⟩)))] (j := 3) (by kernel_rfl) (by kernel_rfl) ?_
      refine Ops.put (t := 28) (b := b) (off := 2) (v := (i64 3)) (ys := [(Value.slice A r.uint.2.bs.length c), (i64 ((r.uint.2.pos : Nat) : Int)), (i64 3)]) (by kernel_rfl) (by kernel_rfl) H3 (by kernel_rfl) (d := none) (by kernel_rfl) rfl (fun w13 H14 K15 => ?_)
      clear H3
      have K16 := K6.trans K15 (U := (fun i => i = b)) (fun i h1 h2 => h2) (fun i h1 h2 => by have h2 : i = b := h2; show i = b; omega)
      clear K6
      have F17 := RdO.keep F8 K15 (fun i _ _ hi hs => by have hs : i = b := hs; have := hne i _ _ hi; omega)
      clear F8
      clear K15
      refine Ops.done (by kernel_rfl) ?_
      refine q_seq (by kernel_rfl) ?_
      refine q_seq (by kernel_rfl) ?_
      refine q_draw (fun wz => Keeps none_ w13 wz) 20 (by kernel_rfl) (by kernel_rfl) (by kernel_rfl) (fun w18 K19 _ _ => ⟨K19, ?_⟩)
      have K20 := K16.trans K19 (U := (fun i => i = b)) (fun i h1 h2 => h2) (fun i h1 h2 => by exact h2.elim)
      clear K16
      have H21 := H14.keep K19 (fun h => h)
      clear H14
      have F22 := RdO.keep0 F17 K19
      clear F17
      refine Dr.strong (S' := (fun wz => Keeps none_ w18 wz)) (Keeps.refl w18) (fun wz hx => K19.trans hx (fun i _ h => h) (fun _ _ h => h)) ?_
      clear K19
      refine Dr.takes (fuel' := 17) (is' := [2, 1, 0]) [0, 1, 2] [(0, (Value.pointer (some ⟨b, 0, none⟩))), (2, (Value.slice none 0 0)), (3, (i64 ((r.pos : Nat) : Int))), (4, (Value.int IntKind.u64 ((r.uint.1 : Nat) : Int))), (26, (Value.pointer (some ⟨b, 2, none⟩)))] (by kernel_rfl) rfl (by kernel_rfl) ?_
      refine Dr.take (i := 3) (v := (i64 3)) (by kernel_rfl) (by kernel_rfl) (fun wz hS => Runs.load (t := 28) (a := ⟨b, 2, none⟩) (by kernel_rfl) ((H21.keep hS (fun h => h)).loads (by kernel_rfl))) (d := (some 27)) (by kernel_rfl) rfl ?_
      refine Dr.takes (fuel' := 0) (is' := [19, 18, 17, 16, 15, 14, 13, 12, 11, 10, 9, 8, 7, 6, 5, 4, 3, 2, 1, 0]) [4, 5, 6, 7, 8, 9, 10, 11, 12, 13, 14, 15, 16, 17, 18, 19] [(0, (Value.pointer (some ⟨b, 0, none⟩))), (2, (Value.slice none 0 0)), (3, (i64 ((r.pos : Nat) : Int))), (4, (Value.int IntKind.u64 ((r.uint.1 : Nat) : Int))), (43, (Value.bool false))] (by kernel_rfl) rfl (by kernel_rfl) ?_
      refine Dr.done (by kernel_rfl) ?_
      refine q_else (o := .tmp 43) (by kernel_rfl) rfl ?_
      refine q_skip (by kernel_rfl) ?_
      refine q_seq (by kernel_rfl) ?_
      refine q_seq (by kernel_rfl) ?_
      refine q_region (by kernel_rfl) ?_
      refine Ops.regs 3 [(0, (Value.pointer (some ⟨b, 0, none⟩))), (2, (Value.slice none 0 0)), (3, (i64 ((r.pos : Nat) : Int))), (4, (Value.int IntKind.u64 ((r.uint.1 : Nat) : Int))), (49, (Value.pointer (some ⟨b, 2, none⟩)))] (j := 3) (by kernel_rfl) (by kernel_rfl) ?_
      refine Ops.go (v := (i64 3)) (by kernel_rfl) (Runs.load (t := 28) (a := ⟨b, 2, none⟩) (by kernel_rfl) (H21.loads (by kernel_rfl))) (d := (some 50)) (by kernel_rfl) rfl ?_
      refine Ops.regs 1 [(0, (Value.pointer (some ⟨b, 0, none⟩))), (2, (Value.slice none 0 0)), (3, (i64 ((r.pos : Nat) : Int))), (4, (Value.int IntKind.u64 ((r.uint.1 : Nat) : Int))), (51, (Value.bool true))] (j := 5) (by kernel_rfl) (by kernel_rfl) ?_
      refine Ops.done (by kernel_rfl) ?_
      refine q_then (o := .tmp 51) (by kernel_rfl) rfl ?_
      refine q_seq (by kernel_rfl) ?_
      refine q_region (by kernel_rfl) ?_
      refine Ops.regs 4 [(0, (Value.pointer (some ⟨b, 0, none⟩))), (2, (Value.slice none 0 0)), (4, (Value.int IntKind.u64 ((r.uint.1 : Nat) : Int))), (53, (i64 ((r.pos : Nat) : Int))), (55, (Value.pointer (some ⟨b, 1, none⟩)))] (j := 4) (by kernel_rfl) (by kernel_rfl) ?_
      refine Ops.put (t := 3) (b := b) (off := 1) (v := (i64 ((r.pos : Nat) : Int))) (ys := [(Value.slice A r.uint.2.bs.length c), (i64 ((r.pos : Nat) : Int)), (i64 3)]) (by kernel_rfl) (by kernel_rfl) H21 (by kernel_rfl) (d := none) (by kernel_rfl) rfl (fun w23 H24 K25 => ?_)
      clear H21
      have K26 := K20.trans K25 (U := (fun i => i = b)) (fun i h1 h2 => h2) (fun i h1 h2 => by have h2 : i = b := h2; show i = b; omega)
      clear K20
      have F27 := RdO.keep F22 K25 (fun i _ _ hi hs => by have hs : i = b := hs; have := hne i _ _ hi; omega)
      clear F22
      clear K25
      refine Ops.done (by kernel_rfl) ?_
      refine q_seq (by kernel_rfl) ?_
      refine q_region (by kernel_rfl) ?_
      refine Ops.regs 1 [(0, (Value.pointer (some ⟨b, 0, none⟩))), (2, (Value.slice none 0 0)), (4, (Value.int IntKind.u64 ((r.uint.1 : Nat) : Int)))] (j := 1) (by kernel_rfl) (by kernel_rfl) ?_
      refine Ops.done (by kernel_rfl) ?_
      refine q_ret (by kernel_rfl) ?_
      refine ⟨(Value.slice none 0 0), retv_tmp rfl rfl, ?_⟩
      have e : r.bytes = ([], (⟨r.uint.2.bs, r.pos, 3⟩ : Rdr)) := by by_cases hr0 : r.why = 0; (unfold Rdr.bytes Rdr.sized; (repeat' split) <;> first | (exfalso; omega) | rfl | (simp only [Rdr.uint_bs]; done) | (simp only [Rdr.uint_bs]; simp only [Nat.add_sub_cancel_left]; done) | (exfalso; simp only at *; omega)); (have hr1 := hw0 hr0; rw [Rdr.bytes_err hr0]; first | (exfalso; omega) | (rw [Rdr.uint_bs, hr1.2.2]; done))
      exact ⟨(Value.slice none 0 0), rfl, K26, by rw [e]; exact (World.ownsRow_nil _ _ _ _), by rw [e]; exact H24⟩
    · rw [h11]
      have p28 : ¬ (((r.uint.1 : Nat) : Int) > 65536) := of_decide_eq_false h11
      refine q_skip (by kernel_rfl) ?_
      refine q_seq (by kernel_rfl) ?_
      refine q_seq (by kernel_rfl) ?_
      refine q_draw (fun wz => Keeps none_ w1 wz) 20 (by kernel_rfl) (by kernel_rfl) (by kernel_rfl) (fun w29 K30 _ _ => ⟨K30, ?_⟩)
      have K31 := K6.trans K30 (U := (fun i => i = b)) (fun i h1 h2 => h2) (fun i h1 h2 => by exact h2.elim)
      clear K6
      have H32 := H3.keep K30 (fun h => h)
      clear H3
      have F33 := RdO.keep0 F8 K30
      clear F8
      refine Dr.strong (S' := (fun wz => Keeps none_ w29 wz)) (Keeps.refl w29) (fun wz hx => K30.trans hx (fun i _ h => h) (fun _ _ h => h)) ?_
      clear K30
      refine Dr.takes (fuel' := 17) (is' := [2, 1, 0]) [0, 1, 2] [(0, (Value.pointer (some ⟨b, 0, none⟩))), (2, (Value.slice none 0 0)), (3, (i64 ((r.pos : Nat) : Int))), (4, (Value.int IntKind.u64 ((r.uint.1 : Nat) : Int))), (26, (Value.pointer (some ⟨b, 2, none⟩)))] (by kernel_rfl) rfl (by kernel_rfl) ?_
      refine Dr.take (i := 3) (v := (i64 r.uint.2.why)) (by kernel_rfl) (by kernel_rfl) (fun wz hS => Runs.load (t := 28) (a := ⟨b, 2, none⟩) (by kernel_rfl) ((H32.keep hS (fun h => h)).loads (by kernel_rfl))) (d := (some 27)) (by kernel_rfl) rfl ?_
      refine Dr.takes (fuel' := 14) (is' := [5, 4, 3, 2, 1, 0]) [4, 5] [(0, (Value.pointer (some ⟨b, 0, none⟩))), (2, (Value.slice none 0 0)), (3, (i64 ((r.pos : Nat) : Int))), (4, (Value.int IntKind.u64 ((r.uint.1 : Nat) : Int))), (29, (Value.bool (r.uint.2.why == 0)))] (by kernel_rfl) rfl (by kernel_rfl) ?_
      rw [h9]
      refine Dr.takes (fuel' := 11) (is' := [8, 7, 6, 5, 4, 3, 2, 1, 0]) [6, 7, 8] [(0, (Value.pointer (some ⟨b, 0, none⟩))), (2, (Value.slice none 0 0)), (3, (i64 ((r.pos : Nat) : Int))), (4, (Value.int IntKind.u64 ((r.uint.1 : Nat) : Int))), (29, (Value.bool true)), (32, (Value.pointer (some ⟨b, 0, none⟩)))] (by kernel_rfl) rfl (by kernel_rfl) ?_
      refine Dr.take (i := 9) (v := (Value.slice A r.uint.2.bs.length c)) (by kernel_rfl) (by kernel_rfl) (fun wz hS => Runs.load (t := 23) (a := ⟨b, 0, none⟩) (by kernel_rfl) ((H32.keep hS (fun h => h)).loads (by kernel_rfl))) (d := (some 33)) (by kernel_rfl) rfl ?_
      refine Dr.takes (fuel' := 6) (is' := [13, 12, 11, 10, 9, 8, 7, 6, 5, 4, 3, 2, 1, 0]) [10, 11, 12, 13] [(0, (Value.pointer (some ⟨b, 0, none⟩))), (2, (Value.slice none 0 0)), (3, (i64 ((r.pos : Nat) : Int))), (4, (Value.int IntKind.u64 ((r.uint.1 : Nat) : Int))), (29, (Value.bool true)), (34, (i64 ((r.uint.2.bs.length : Nat) : Int))), (37, (Value.pointer (some ⟨b, 1, none⟩)))] (by kernel_rfl) rfl (by kernel_rfl) ?_
      refine Dr.take (i := 14) (v := (i64 ((r.uint.2.pos : Nat) : Int))) (by kernel_rfl) (by kernel_rfl) (fun wz hS => Runs.load (t := 3) (a := ⟨b, 1, none⟩) (by kernel_rfl) ((H32.keep hS (fun h => h)).loads (by kernel_rfl))) (d := (some 38)) (by kernel_rfl) rfl ?_
      refine Dr.takes (fuel' := 4) (is' := [15, 14, 13, 12, 11, 10, 9, 8, 7, 6, 5, 4, 3, 2, 1, 0]) [15] [(0, (Value.pointer (some ⟨b, 0, none⟩))), (2, (Value.slice none 0 0)), (3, (i64 ((r.pos : Nat) : Int))), (4, (Value.int IntKind.u64 ((r.uint.1 : Nat) : Int))), (29, (Value.bool true)), (39, (i64 (IntKind.i64.wrap (((r.uint.2.bs.length : Nat) : Int) - ((r.uint.2.pos : Nat) : Int)))))] (by kernel_rfl) rfl (by kernel_rfl) ?_
      have e34 : IntKind.i64.wrap (((r.uint.2.bs.length : Nat) : Int) - ((r.uint.2.pos : Nat) : Int)) = ((r.uint.2.bs.length : Nat) : Int) - ((r.uint.2.pos : Nat) : Int) := wrap_i64 (by omega) (by omega)
      rw [e34]
      refine Dr.takes (fuel' := 3) (is' := [16, 15, 14, 13, 12, 11, 10, 9, 8, 7, 6, 5, 4, 3, 2, 1, 0]) [16] [(0, (Value.pointer (some ⟨b, 0, none⟩))), (2, (Value.slice none 0 0)), (3, (i64 ((r.pos : Nat) : Int))), (4, (Value.int IntKind.u64 ((r.uint.1 : Nat) : Int))), (29, (Value.bool true)), (40, (Value.int IntKind.u64 (IntKind.u64.wrap (((r.uint.2.bs.length : Nat) : Int) - ((r.uint.2.pos : Nat) : Int)))))] (by kernel_rfl) rfl (by kernel_rfl) ?_
      have e35 : IntKind.u64.wrap (((r.uint.2.bs.length : Nat) : Int) - ((r.uint.2.pos : Nat) : Int)) = ((r.uint.2.bs.length : Nat) : Int) - ((r.uint.2.pos : Nat) : Int) := wrap_u64 (by omega) (by omega)
      rw [e35]
      refine Dr.takes (fuel' := 0) (is' := [19, 18, 17, 16, 15, 14, 13, 12, 11, 10, 9, 8, 7, 6, 5, 4, 3, 2, 1, 0]) [17, 18, 19] [(0, (Value.pointer (some ⟨b, 0, none⟩))), (2, (Value.slice none 0 0)), (3, (i64 ((r.pos : Nat) : Int))), (4, (Value.int IntKind.u64 ((r.uint.1 : Nat) : Int))), (43, (Value.bool (decide (((r.uint.2.bs.length : Nat) : Int) - ((r.uint.2.pos : Nat) : Int) < ((r.uint.1 : Nat) : Int)))))] (by kernel_rfl) rfl (by kernel_rfl) ?_
      refine Dr.done (by kernel_rfl) ?_
      refine q_cond (o := .tmp 43) (b := (decide (((r.uint.2.bs.length : Nat) : Int) - ((r.uint.2.pos : Nat) : Int) < ((r.uint.1 : Nat) : Int)))) (by kernel_rfl) rfl (fun h36 => ?_) (fun h36 => ?_)
      · rw [h36]
        have p37 : ((r.uint.2.bs.length : Nat) : Int) - ((r.uint.2.pos : Nat) : Int) < ((r.uint.1 : Nat) : Int) := of_decide_eq_true h36
        refine q_region (by kernel_rfl) ?_
        refine Ops.regs 3 [(0, (Value.pointer (some ⟨b, 0, none⟩))), (2, (Value.slice none 0 0)), (3, (i64 ((r.pos : Nat) : Int))), (4, (Value.int IntKind.u64 ((r.uint.1 : Nat) : Int))), (46, (Value.pointer (some ⟨b, 2, none⟩)))] (j := 3) (by kernel_rfl) (by kernel_rfl) ?_
        refine Ops.put (t := 28) (b := b) (off := 2) (v := (i64 10)) (ys := [(Value.slice A r.uint.2.bs.length c), (i64 ((r.uint.2.pos : Nat) : Int)), (i64 10)]) (by kernel_rfl) (by kernel_rfl) H32 (by kernel_rfl) (d := none) (by kernel_rfl) rfl (fun w38 H39 K40 => ?_)
        clear H32
        have K41 := K31.trans K40 (U := (fun i => i = b)) (fun i h1 h2 => h2) (fun i h1 h2 => by have h2 : i = b := h2; show i = b; omega)
        clear K31
        have F42 := RdO.keep F33 K40 (fun i _ _ hi hs => by have hs : i = b := hs; have := hne i _ _ hi; omega)
        clear F33
        clear K40
        refine Ops.done (by kernel_rfl) ?_
        refine q_seq (by kernel_rfl) ?_
        refine q_seq (by kernel_rfl) ?_
        refine q_region (by kernel_rfl) ?_
        refine Ops.regs 3 [(0, (Value.pointer (some ⟨b, 0, none⟩))), (2, (Value.slice none 0 0)), (3, (i64 ((r.pos : Nat) : Int))), (4, (Value.int IntKind.u64 ((r.uint.1 : Nat) : Int))), (49, (Value.pointer (some ⟨b, 2, none⟩)))] (j := 3) (by kernel_rfl) (by kernel_rfl) ?_
        refine Ops.go (v := (i64 10)) (by kernel_rfl) (Runs.load (t := 28) (a := ⟨b, 2, none⟩) (by kernel_rfl) (H39.loads (by kernel_rfl))) (d := (some 50)) (by kernel_rfl) rfl ?_
        refine Ops.regs 1 [(0, (Value.pointer (some ⟨b, 0, none⟩))), (2, (Value.slice none 0 0)), (3, (i64 ((r.pos : Nat) : Int))), (4, (Value.int IntKind.u64 ((r.uint.1 : Nat) : Int))), (51, (Value.bool true))] (j := 5) (by kernel_rfl) (by kernel_rfl) ?_
        refine Ops.done (by kernel_rfl) ?_
        refine q_then (o := .tmp 51) (by kernel_rfl) rfl ?_
        refine q_seq (by kernel_rfl) ?_
        refine q_region (by kernel_rfl) ?_
        refine Ops.regs 4 [(0, (Value.pointer (some ⟨b, 0, none⟩))), (2, (Value.slice none 0 0)), (4, (Value.int IntKind.u64 ((r.uint.1 : Nat) : Int))), (53, (i64 ((r.pos : Nat) : Int))), (55, (Value.pointer (some ⟨b, 1, none⟩)))] (j := 4) (by kernel_rfl) (by kernel_rfl) ?_
        refine Ops.put (t := 3) (b := b) (off := 1) (v := (i64 ((r.pos : Nat) : Int))) (ys := [(Value.slice A r.uint.2.bs.length c), (i64 ((r.pos : Nat) : Int)), (i64 10)]) (by kernel_rfl) (by kernel_rfl) H39 (by kernel_rfl) (d := none) (by kernel_rfl) rfl (fun w43 H44 K45 => ?_)
        clear H39
        have K46 := K41.trans K45 (U := (fun i => i = b)) (fun i h1 h2 => h2) (fun i h1 h2 => by have h2 : i = b := h2; show i = b; omega)
        clear K41
        have F47 := RdO.keep F42 K45 (fun i _ _ hi hs => by have hs : i = b := hs; have := hne i _ _ hi; omega)
        clear F42
        clear K45
        refine Ops.done (by kernel_rfl) ?_
        refine q_seq (by kernel_rfl) ?_
        refine q_region (by kernel_rfl) ?_
        refine Ops.regs 1 [(0, (Value.pointer (some ⟨b, 0, none⟩))), (2, (Value.slice none 0 0)), (4, (Value.int IntKind.u64 ((r.uint.1 : Nat) : Int)))] (j := 1) (by kernel_rfl) (by kernel_rfl) ?_
        refine Ops.done (by kernel_rfl) ?_
        refine q_ret (by kernel_rfl) ?_
        refine ⟨(Value.slice none 0 0), retv_tmp rfl rfl, ?_⟩
        have e : r.bytes = ([], (⟨r.uint.2.bs, r.pos, 10⟩ : Rdr)) := by by_cases hr0 : r.why = 0; (unfold Rdr.bytes Rdr.sized; (repeat' split) <;> first | (exfalso; omega) | rfl | (simp only [Rdr.uint_bs]; done) | (simp only [Rdr.uint_bs]; simp only [Nat.add_sub_cancel_left]; done) | (exfalso; simp only at *; omega)); (have hr1 := hw0 hr0; rw [Rdr.bytes_err hr0]; first | (exfalso; omega) | (rw [Rdr.uint_bs, hr1.2.2]; done))
        exact ⟨(Value.slice none 0 0), rfl, K46, by rw [e]; exact (World.ownsRow_nil _ _ _ _), by rw [e]; exact H44⟩
      · rw [h36]
        have p48 : ¬ (((r.uint.2.bs.length : Nat) : Int) - ((r.uint.2.pos : Nat) : Int) < ((r.uint.1 : Nat) : Int)) := of_decide_eq_false h36
        refine q_skip (by kernel_rfl) ?_
        refine q_seq (by kernel_rfl) ?_
        refine q_seq (by kernel_rfl) ?_
        refine q_region (by kernel_rfl) ?_
        refine Ops.regs 3 [(0, (Value.pointer (some ⟨b, 0, none⟩))), (2, (Value.slice none 0 0)), (3, (i64 ((r.pos : Nat) : Int))), (4, (Value.int IntKind.u64 ((r.uint.1 : Nat) : Int))), (49, (Value.pointer (some ⟨b, 2, none⟩)))] (j := 3) (by kernel_rfl) (by kernel_rfl) ?_
        refine Ops.go (v := (i64 r.uint.2.why)) (by kernel_rfl) (Runs.load (t := 28) (a := ⟨b, 2, none⟩) (by kernel_rfl) (H32.loads (by kernel_rfl))) (d := (some 50)) (by kernel_rfl) rfl ?_
        refine Ops.regs 1 [(0, (Value.pointer (some ⟨b, 0, none⟩))), (2, (Value.slice none 0 0)), (3, (i64 ((r.pos : Nat) : Int))), (4, (Value.int IntKind.u64 ((r.uint.1 : Nat) : Int))), (51, (Value.bool (r.uint.2.why != 0)))] (j := 5) (by kernel_rfl) (by kernel_rfl) ?_
        refine Ops.done (by kernel_rfl) ?_
        refine q_cond (o := .tmp 51) (b := (r.uint.2.why != 0)) (by kernel_rfl) rfl (fun h49 => ?_) (fun h49 => ?_)
        · rw [h49]
          have p50 : ¬ (r.uint.2.why = 0) := of_bne_t h49
          refine q_seq (by kernel_rfl) ?_
          refine q_region (by kernel_rfl) ?_
          refine Ops.regs 4 [(0, (Value.pointer (some ⟨b, 0, none⟩))), (2, (Value.slice none 0 0)), (4, (Value.int IntKind.u64 ((r.uint.1 : Nat) : Int))), (53, (i64 ((r.pos : Nat) : Int))), (55, (Value.pointer (some ⟨b, 1, none⟩)))] (j := 4) (by kernel_rfl) (by kernel_rfl) ?_
          refine Ops.put (t := 3) (b := b) (off := 1) (v := (i64 ((r.pos : Nat) : Int))) (ys := [(Value.slice A r.uint.2.bs.length c), (i64 ((r.pos : Nat) : Int)), (i64 r.uint.2.why)]) (by kernel_rfl) (by kernel_rfl) H32 (by kernel_rfl) (d := none) (by kernel_rfl) rfl (fun w51 H52 K53 => ?_)
          clear H32
          have K54 := K31.trans K53 (U := (fun i => i = b)) (fun i h1 h2 => h2) (fun i h1 h2 => by have h2 : i = b := h2; show i = b; omega)
          clear K31
          have F55 := RdO.keep F33 K53 (fun i _ _ hi hs => by have hs : i = b := hs; have := hne i _ _ hi; omega)
          clear F33
          clear K53
          refine Ops.done (by kernel_rfl) ?_
          refine q_seq (by kernel_rfl) ?_
          refine q_region (by kernel_rfl) ?_
          refine Ops.regs 1 [(0, (Value.pointer (some ⟨b, 0, none⟩))), (2, (Value.slice none 0 0)), (4, (Value.int IntKind.u64 ((r.uint.1 : Nat) : Int)))] (j := 1) (by kernel_rfl) (by kernel_rfl) ?_
          refine Ops.done (by kernel_rfl) ?_
          refine q_ret (by kernel_rfl) ?_
          refine ⟨(Value.slice none 0 0), retv_tmp rfl rfl, ?_⟩
          have e : r.bytes = ([], (⟨r.uint.2.bs, r.pos, r.uint.2.why⟩ : Rdr)) := by by_cases hr0 : r.why = 0; (unfold Rdr.bytes Rdr.sized; (repeat' split) <;> first | (exfalso; omega) | rfl | (simp only [Rdr.uint_bs]; done) | (simp only [Rdr.uint_bs]; simp only [Nat.add_sub_cancel_left]; done) | (exfalso; simp only at *; omega)); (have hr1 := hw0 hr0; rw [Rdr.bytes_err hr0]; first | (exfalso; omega) | (rw [Rdr.uint_bs, hr1.2.2]; done))
          exact ⟨(Value.slice none 0 0), rfl, K54, by rw [e]; exact (World.ownsRow_nil _ _ _ _), by rw [e]; exact H52⟩
        · rw [h49]
          have p56 : r.uint.2.why = 0 := of_bne_f h49
          refine q_skip (by kernel_rfl) ?_
          refine q_seq (by kernel_rfl) ?_
          refine q_region (by kernel_rfl) ?_
          refine Ops.regs 1 [(0, (Value.pointer (some ⟨b, 0, none⟩))), (2, (Value.slice none 0 0)), (4, (Value.int IntKind.u64 ((r.uint.1 : Nat) : Int))), (5, (Value.slice none 0 0))] (j := 1) (by kernel_rfl) (by kernel_rfl) ?_
          refine Ops.done (by kernel_rfl) ?_
          refine q_seq (by kernel_rfl) ?_
          refine q_draw (fun wz => Keeps none_ w29 wz) 19 (by kernel_rfl) (by kernel_rfl) (by kernel_rfl) (fun w57 K58 _ _ => ⟨K58, ?_⟩)
          have K59 := K31.trans K58 (U := (fun i => i = b)) (fun i h1 h2 => h2) (fun i h1 h2 => by exact h2.elim)
          clear K31
          have H60 := H32.keep K58 (fun h => h)
          clear H32
          have F61 := RdO.keep0 F33 K58
          clear F33
          refine Dr.strong (S' := (fun wz => Keeps none_ w57 wz)) (Keeps.refl w57) (fun wz hx => K58.trans hx (fun i _ h => h) (fun _ _ h => h)) ?_
          clear K58
          refine Dr.takes (fuel' := 15) (is' := [3, 2, 1, 0]) [0, 1, 2, 3] [(0, (Value.pointer (some ⟨b, 0, none⟩))), (2, (Value.slice none 0 0)), (4, (Value.int IntKind.u64 ((r.uint.1 : Nat) : Int))), (5, (Value.slice none 0 0)), (56, (Value.slice none 0 0)), (59, (Value.pointer (some ⟨b, 0, none⟩)))] (by kernel_rfl) rfl (by kernel_rfl) ?_
          refine Dr.take (i := 4) (v := (Value.slice A r.uint.2.bs.length c)) (by kernel_rfl) (by kernel_rfl) (fun wz hS => Runs.load (t := 23) (a := ⟨b, 0, none⟩) (by kernel_rfl) ((H60.keep hS (fun h => h)).loads (by kernel_rfl))) (d := (some 60)) (by kernel_rfl) rfl ?_
          refine Dr.takes (fuel' := 11) (is' := [7, 6, 5, 4, 3, 2, 1, 0]) [5, 6, 7] [(0, (Value.pointer (some ⟨b, 0, none⟩))), (2, (Value.slice none 0 0)), (4, (Value.int IntKind.u64 ((r.uint.1 : Nat) : Int))), (5, (Value.slice none 0 0)), (56, (Value.slice none 0 0)), (60, (Value.slice A r.uint.2.bs.length c)), (63, (Value.pointer (some ⟨b, 1, none⟩)))] (by kernel_rfl) rfl (by kernel_rfl) ?_
          refine Dr.take (i := 8) (v := (i64 ((r.uint.2.pos : Nat) : Int))) (by kernel_rfl) (by kernel_rfl) (fun wz hS => Runs.load (t := 3) (a := ⟨b, 1, none⟩) (by kernel_rfl) ((H60.keep hS (fun h => h)).loads (by kernel_rfl))) (d := (some 64)) (by kernel_rfl) rfl ?_
          refine Dr.takes (fuel' := 7) (is' := [11, 10, 9, 8, 7, 6, 5, 4, 3, 2, 1, 0]) [9, 10, 11] [(0, (Value.pointer (some ⟨b, 0, none⟩))), (2, (Value.slice none 0 0)), (4, (Value.int IntKind.u64 ((r.uint.1 : Nat) : Int))), (5, (Value.slice none 0 0)), (56, (Value.slice none 0 0)), (60, (Value.slice A r.uint.2.bs.length c)), (64, (i64 ((r.uint.2.pos : Nat) : Int))), (67, (Value.pointer (some ⟨b, 1, none⟩)))] (by kernel_rfl) rfl (by kernel_rfl) ?_
          refine Dr.take (i := 12) (v := (i64 ((r.uint.2.pos : Nat) : Int))) (by kernel_rfl) (by kernel_rfl) (fun wz hS => Runs.load (t := 3) (a := ⟨b, 1, none⟩) (by kernel_rfl) ((H60.keep hS (fun h => h)).loads (by kernel_rfl))) (d := (some 68)) (by kernel_rfl) rfl ?_
          refine Dr.takes (fuel' := 4) (is' := [14, 13, 12, 11, 10, 9, 8, 7, 6, 5, 4, 3, 2, 1, 0]) [13, 14] [(0, (Value.pointer (some ⟨b, 0, none⟩))), (2, (Value.slice none 0 0)), (4, (Value.int IntKind.u64 ((r.uint.1 : Nat) : Int))), (5, (Value.slice none 0 0)), (56, (Value.slice none 0 0)), (60, (Value.slice A r.uint.2.bs.length c)), (64, (i64 ((r.uint.2.pos : Nat) : Int))), (68, (i64 ((r.uint.2.pos : Nat) : Int))), (70, (i64 (IntKind.i64.wrap (((r.uint.1 : Nat) : Int)))))] (by kernel_rfl) rfl (by kernel_rfl) ?_
          have e62 : IntKind.i64.wrap (((r.uint.1 : Nat) : Int)) = ((r.uint.1 : Nat) : Int) := wrap_i64 (by omega) (by omega)
          rw [e62]
          refine Dr.takes (fuel' := 3) (is' := [15, 14, 13, 12, 11, 10, 9, 8, 7, 6, 5, 4, 3, 2, 1, 0]) [15] [(0, (Value.pointer (some ⟨b, 0, none⟩))), (2, (Value.slice none 0 0)), (4, (Value.int IntKind.u64 ((r.uint.1 : Nat) : Int))), (5, (Value.slice none 0 0)), (56, (Value.slice none 0 0)), (60, (Value.slice A r.uint.2.bs.length c)), (64, (i64 ((r.uint.2.pos : Nat) : Int))), (71, (i64 (IntKind.i64.wrap (((r.uint.2.pos : Nat) : Int) + ((r.uint.1 : Nat) : Int)))))] (by kernel_rfl) rfl (by kernel_rfl) ?_
          have e63 : IntKind.i64.wrap (((r.uint.2.pos : Nat) : Int) + ((r.uint.1 : Nat) : Int)) = ((r.uint.2.pos + r.uint.1 : Nat) : Int) := by rw [wrap_i64 (by omega) (by omega)]; omega
          rw [e63]
          clear e63
          have hslF64 := RdB.slice F61.1
          have F64 := RdB.cutlh F61.1 r.uint.2.pos (r.uint.2.pos + r.uint.1) (by omega) (by omega)
          have hlF64 : ((r.uint.2.bs.drop r.uint.2.pos).take ((r.uint.2.pos + r.uint.1) - r.uint.2.pos)).length = (r.uint.2.pos + r.uint.1) - r.uint.2.pos := by rw [List.length_take, List.length_drop]; omega
          refine Dr.take (i := 16) (v := (Value.slice (if c = r.uint.2.pos then A else Option.map (fun q => Addr.add q (r.uint.2.pos * 1)) A) ((r.uint.2.pos + r.uint.1) - r.uint.2.pos) (c - r.uint.2.pos))) (by kernel_rfl) (by kernel_rfl) (fun wz hS => Runs.slice (by kernel_rfl) (run_cut (sz := 1) (t := 23) (A := A) (n := r.uint.2.bs.length) (c := c) r.uint.2.pos (r.uint.2.pos + r.uint.1) c (lo := some (i64 ((r.uint.2.pos : Nat) : Int))) (hi := some (i64 ((r.uint.2.pos + r.uint.1 : Nat) : Int))) (mx := none) tyB.slice (by kernel_rfl) (.inr ⟨_, rfl⟩) (.inr ⟨_, rfl⟩) (.inl ⟨rfl, rfl⟩) (by omega) (by omega) (by omega))) (d := (some 72)) (by kernel_rfl) rfl ?_
          obtain ⟨v65, w66, hr67, hO68, hK69⟩ := OwnB.app (ty := 23) (base := w57.heap.size) tyB (show OwnB w57 w57.heap.size 5 (.slice none 0 0) [] from World.ownsRow_nil _ _ _ _) F64 (by simp only [List.length_nil]; omega) (Nat.le_refl _)
          have hO70 : OwnB w66 _ 5 v65 ((r.uint.2.bs.drop r.uint.2.pos).take ((r.uint.2.pos + r.uint.1) - r.uint.2.pos)) := hO68
          have ob73 : ∀ i, (v65).ownBlock = some i → i ≠ b := fun i hi => by have := (World.ownsRow.lt hO70 i hi).1; have := H60.lt; omega
          have oo74 : ∀ i o s, A = some ⟨i, o, s⟩ → (v65).ownBlock = some i → False := fun i o s hi hs => by have := (World.ownsRow.lt hO70 i hs).1; have := F61.2 i o s hi; omega
          have K72 := Keeps.new hK69
          have O71 := own_base hO70 K59.size
          have K76 := K59.trans K72 (U := (fun i => i = b)) (fun i h1 h2 => h2) (fun i h1 h2 => by exact h2.elim)
          clear K59
          have H77 := H60.keep K72 (fun h => h)
          clear H60
          have F78 := RdO.keep0 F61 K72
          clear F61
          have F79 := (Rd.keep0 (by omega) F64 K72)
          clear F64
          refine Dr.go (i := 17) (v := v65) (by kernel_rfl) (by kernel_rfl) (Runs.append (ts := #[23, 23]) (ty := 23) (vs := [(Value.slice none 0 0), (Value.slice (if c = r.uint.2.pos then A else Option.map (fun q => Addr.add q (r.uint.2.pos * 1)) A) ((r.uint.2.pos + r.uint.1) - r.uint.2.pos) (c - r.uint.2.pos))]) (by kernel_rfl) hr67) (d := (some 73)) (by kernel_rfl) rfl K72 ?_
          refine Dr.strong (S' := (fun wz => Keeps none_ w66 wz)) (Keeps.refl w66) (fun wz hx => K72.trans hx (fun i _ h => h) (fun _ _ h => h)) ?_
          clear K72 hr67 hK69 hO68 hO70
          refine Dr.takes (fuel' := 0) (is' := [18, 17, 16, 15, 14, 13, 12, 11, 10, 9, 8, 7, 6, 5, 4, 3, 2, 1, 0]) [18] [(0, (Value.pointer (some ⟨b, 0, none⟩))), (2, (Value.slice none 0 0)), (4, (Value.int IntKind.u64 ((r.uint.1 : Nat) : Int))), (5, v65)] (by kernel_rfl) rfl (by kernel_rfl) ?_
          refine Dr.done (by kernel_rfl) ?_
          refine q_seq (by kernel_rfl) ?_
          refine q_region (by kernel_rfl) ?_
          refine Ops.regs 4 [(2, (Value.slice none 0 0)), (4, (Value.int IntKind.u64 ((r.uint.1 : Nat) : Int))), (5, v65), (74, (Value.pointer (some ⟨b, 0, none⟩))), (77, (Value.pointer (some ⟨b, 1, none⟩)))] (j := 4) (by kernel_rfl) (by kernel_rfl) ?_
          refine Ops.go (v := (i64 ((r.uint.2.pos : Nat) : Int))) (by kernel_rfl) (Runs.load (t := 3) (a := ⟨b, 1, none⟩) (by kernel_rfl) (H77.loads (by kernel_rfl))) (d := (some 78)) (by kernel_rfl) rfl ?_
          refine Ops.regs 2 [(2, (Value.slice none 0 0)), (5, v65), (74, (Value.pointer (some ⟨b, 0, none⟩))), (78, (i64 ((r.uint.2.pos : Nat) : Int))), (80, (i64 (IntKind.i64.wrap (((r.uint.1 : Nat) : Int)))))] (j := 7) (by kernel_rfl) (by kernel_rfl) ?_
          have e80 : IntKind.i64.wrap (((r.uint.1 : Nat) : Int)) = ((r.uint.1 : Nat) : Int) := wrap_i64 (by omega) (by omega)
          rw [e80]
          refine Ops.regs 1 [(2, (Value.slice none 0 0)), (5, v65), (74, (Value.pointer (some ⟨b, 0, none⟩))), (81, (i64 (IntKind.i64.wrap (((r.uint.2.pos : Nat) : Int) + ((r.uint.1 : Nat) : Int)))))] (j := 8) (by kernel_rfl) (by kernel_rfl) ?_
          have e81 : IntKind.i64.wrap (((r.uint.2.pos : Nat) : Int) + ((r.uint.1 : Nat) : Int)) = ((r.uint.2.pos + r.uint.1 : Nat) : Int) := by rw [wrap_i64 (by omega) (by omega)]; omega
          rw [e81]
          clear e81
          refine Ops.regs 2 [(2, (Value.slice none 0 0)), (5, v65), (81, (i64 ((r.uint.2.pos + r.uint.1 : Nat) : Int))), (83, (Value.pointer (some ⟨b, 1, none⟩)))] (j := 10) (by kernel_rfl) (by kernel_rfl) ?_
          refine Ops.put (t := 3) (b := b) (off := 1) (v := (i64 ((r.uint.2.pos + r.uint.1 : Nat) : Int))) (ys := [(Value.slice A r.uint.2.bs.length c), (i64 ((r.uint.2.pos + r.uint.1 : Nat) : Int)), (i64 r.uint.2.why)]) (by kernel_rfl) (by kernel_rfl) H77 (by kernel_rfl) (d := none) (by kernel_rfl) rfl (fun w82 H83 K84 => ?_)
          clear H77
          have K85 := K76.trans K84 (U := (fun i => i = b)) (fun i h1 h2 => h2) (fun i h1 h2 => by have h2 : i = b := h2; show i = b; omega)
          clear K76
          have F86 := RdO.keep F78 K84 (fun i _ _ hi hs => by have hs : i = b := hs; have := hne i _ _ hi; omega)
          clear F78
          clear F79
          have F87 := own_keep O71 K84 (fun i hi hs => by have hs : i = b := hs; have := ob73 i hi; omega)
          clear O71
          clear K84
          refine Ops.done (by kernel_rfl) ?_
          refine q_seq (by kernel_rfl) ?_
          refine q_region (by kernel_rfl) ?_
          refine Ops.regs 2 [(2, v65)] (j := 2) (by kernel_rfl) (by kernel_rfl) ?_
          refine Ops.done (by kernel_rfl) ?_
          refine q_ret (by kernel_rfl) ?_
          refine ⟨v65, retv_tmp rfl rfl, ?_⟩
          have e : r.bytes = ((r.uint.2.bs.drop r.uint.2.pos).take ((r.uint.2.pos + r.uint.1) - r.uint.2.pos), (⟨r.uint.2.bs, r.uint.2.pos + r.uint.1, r.uint.2.why⟩ : Rdr)) := by by_cases hr0 : r.why = 0; (unfold Rdr.bytes Rdr.sized; (repeat' split) <;> first | (exfalso; omega) | rfl | (simp only [Rdr.uint_bs]; done) | (simp only [Rdr.uint_bs]; simp only [Nat.add_sub_cancel_left]; done) | (exfalso; simp only at *; omega)); (have hr1 := hw0 hr0; rw [Rdr.bytes_err hr0]; first | (exfalso; omega) | (rw [Rdr.uint_bs, hr1.2.2]; done))
          exact ⟨v65, rfl, K85, by rw [e]; exact F87, by rw [e]; exact H83⟩
  · rw [h9]
    have p88 : ¬ (r.uint.2.why = 0) := of_beq_f h9
    refine Ops.regs 3 [(0, (Value.pointer (some ⟨b, 0, none⟩))), (2, (Value.slice none 0 0)), (3, (i64 ((r.pos : Nat) : Int))), (4, (Value.int IntKind.u64 ((r.uint.1 : Nat) : Int))), (20, (Value.bool false))] (j := 9) (by kernel_rfl) (by kernel_rfl) ?_
    refine Ops.done (by kernel_rfl) ?_
    refine q_else (o := .tmp 20) (by kernel_rfl) rfl ?_
    refine q_skip (by kernel_rfl) ?_
    refine q_seq (by kernel_rfl) ?_
    refine q_seq (by kernel_rfl) ?_
    refine q_draw (fun wz => Keeps none_ w1 wz) 20 (by kernel_rfl) (by kernel_rfl) (by kernel_rfl) (fun w89 K90 _ _ => ⟨K90, ?_⟩)
    have K91 := K6.trans K90 (U := (fun i => i = b)) (fun i h1 h2 => h2) (fun i h1 h2 => by exact h2.elim)
    clear K6
    have H92 := H3.keep K90 (fun h => h)
    clear H3
    have F93 := RdO.keep0 F8 K90
    clear F8
    refine Dr.strong (S' := (fun wz => Keeps none_ w89 wz)) (Keeps.refl w89) (fun wz hx => K90.trans hx (fun i _ h => h) (fun _ _ h => h)) ?_
    clear K90
    refine Dr.takes (fuel' := 17) (is' := [2, 1, 0]) [0, 1, 2] [(0, (Value.pointer (some ⟨b, 0, none⟩))), (2, (Value.slice none 0 0)), (3, (i64 ((r.pos : Nat) : Int))), (4, (Value.int IntKind.u64 ((r.uint.1 : Nat) : Int))), (26, (Value.pointer (some ⟨b, 2, none⟩)))] (by kernel_rfl) rfl (by kernel_rfl) ?_
    refine Dr.take (i := 3) (v := (i64 r.uint.2.why)) (by kernel_rfl) (by kernel_rfl) (fun wz hS => Runs.load (t := 28) (a := ⟨b, 2, none⟩) (by kernel_rfl) ((H92.keep hS (fun h => h)).loads (by kernel_rfl))) (d := (some 27)) (by kernel_rfl) rfl ?_
    refine Dr.takes (fuel' := 14) (is' := [5, 4, 3, 2, 1, 0]) [4, 5] [(0, (Value.pointer (some ⟨b, 0, none⟩))), (2, (Value.slice none 0 0)), (3, (i64 ((r.pos : Nat) : Int))), (4, (Value.int IntKind.u64 ((r.uint.1 : Nat) : Int))), (29, (Value.bool (r.uint.2.why == 0)))] (by kernel_rfl) rfl (by kernel_rfl) ?_
    rw [h9]
    refine Dr.takes (fuel' := 0) (is' := [19, 18, 17, 16, 15, 14, 13, 12, 11, 10, 9, 8, 7, 6, 5, 4, 3, 2, 1, 0]) [6, 7, 8, 9, 10, 11, 12, 13, 14, 15, 16, 17, 18, 19] [(0, (Value.pointer (some ⟨b, 0, none⟩))), (2, (Value.slice none 0 0)), (3, (i64 ((r.pos : Nat) : Int))), (4, (Value.int IntKind.u64 ((r.uint.1 : Nat) : Int))), (43, (Value.bool false))] (by kernel_rfl) rfl (by kernel_rfl) ?_
    refine Dr.done (by kernel_rfl) ?_
    refine q_else (o := .tmp 43) (by kernel_rfl) rfl ?_
    refine q_skip (by kernel_rfl) ?_
    refine q_seq (by kernel_rfl) ?_
    refine q_seq (by kernel_rfl) ?_
    refine q_region (by kernel_rfl) ?_
    refine Ops.regs 3 [(0, (Value.pointer (some ⟨b, 0, none⟩))), (2, (Value.slice none 0 0)), (3, (i64 ((r.pos : Nat) : Int))), (4, (Value.int IntKind.u64 ((r.uint.1 : Nat) : Int))), (49, (Value.pointer (some ⟨b, 2, none⟩)))] (j := 3) (by kernel_rfl) (by kernel_rfl) ?_
    refine Ops.go (v := (i64 r.uint.2.why)) (by kernel_rfl) (Runs.load (t := 28) (a := ⟨b, 2, none⟩) (by kernel_rfl) (H92.loads (by kernel_rfl))) (d := (some 50)) (by kernel_rfl) rfl ?_
    refine Ops.regs 1 [(0, (Value.pointer (some ⟨b, 0, none⟩))), (2, (Value.slice none 0 0)), (3, (i64 ((r.pos : Nat) : Int))), (4, (Value.int IntKind.u64 ((r.uint.1 : Nat) : Int))), (51, (Value.bool (r.uint.2.why != 0)))] (j := 5) (by kernel_rfl) (by kernel_rfl) ?_
    refine Ops.done (by kernel_rfl) ?_
    refine q_cond (o := .tmp 51) (b := (r.uint.2.why != 0)) (by kernel_rfl) rfl (fun h94 => ?_) (fun h94 => ?_)
    · rw [h94]
      have p95 : ¬ (r.uint.2.why = 0) := of_bne_t h94
      refine q_seq (by kernel_rfl) ?_
      refine q_region (by kernel_rfl) ?_
      refine Ops.regs 4 [(0, (Value.pointer (some ⟨b, 0, none⟩))), (2, (Value.slice none 0 0)), (4, (Value.int IntKind.u64 ((r.uint.1 : Nat) : Int))), (53, (i64 ((r.pos : Nat) : Int))), (55, (Value.pointer (some ⟨b, 1, none⟩)))] (j := 4) (by kernel_rfl) (by kernel_rfl) ?_
      refine Ops.put (t := 3) (b := b) (off := 1) (v := (i64 ((r.pos : Nat) : Int))) (ys := [(Value.slice A r.uint.2.bs.length c), (i64 ((r.pos : Nat) : Int)), (i64 r.uint.2.why)]) (by kernel_rfl) (by kernel_rfl) H92 (by kernel_rfl) (d := none) (by kernel_rfl) rfl (fun w96 H97 K98 => ?_)
      clear H92
      have K99 := K91.trans K98 (U := (fun i => i = b)) (fun i h1 h2 => h2) (fun i h1 h2 => by have h2 : i = b := h2; show i = b; omega)
      clear K91
      have F100 := RdO.keep F93 K98 (fun i _ _ hi hs => by have hs : i = b := hs; have := hne i _ _ hi; omega)
      clear F93
      clear K98
      refine Ops.done (by kernel_rfl) ?_
      refine q_seq (by kernel_rfl) ?_
      refine q_region (by kernel_rfl) ?_
      refine Ops.regs 1 [(0, (Value.pointer (some ⟨b, 0, none⟩))), (2, (Value.slice none 0 0)), (4, (Value.int IntKind.u64 ((r.uint.1 : Nat) : Int)))] (j := 1) (by kernel_rfl) (by kernel_rfl) ?_
      refine Ops.done (by kernel_rfl) ?_
      refine q_ret (by kernel_rfl) ?_
      refine ⟨(Value.slice none 0 0), retv_tmp rfl rfl, ?_⟩
      have e : r.bytes = ([], (⟨r.uint.2.bs, r.pos, r.uint.2.why⟩ : Rdr)) := by by_cases hr0 : r.why = 0; (unfold Rdr.bytes Rdr.sized; (repeat' split) <;> first | (exfalso; omega) | rfl | (simp only [Rdr.uint_bs]; done) | (simp only [Rdr.uint_bs]; simp only [Nat.add_sub_cancel_left]; done) | (exfalso; simp only at *; omega)); (have hr1 := hw0 hr0; rw [Rdr.bytes_err hr0]; first | (exfalso; omega) | (rw [Rdr.uint_bs, hr1.2.2]; done))
      exact ⟨(Value.slice none 0 0), rfl, K99, by rw [e]; exact (World.ownsRow_nil _ _ _ _), by rw [e]; exact H97⟩
    · rw [h94]
      have p101 : r.uint.2.why = 0 := of_bne_f h94
      refine q_skip (by kernel_rfl) ?_
      refine q_seq (by kernel_rfl) ?_
      refine q_region (by kernel_rfl) ?_
      refine Ops.regs 1 [(0, (Value.pointer (some ⟨b, 0, none⟩))), (2, (Value.slice none 0 0)), (4, (Value.int IntKind.u64 ((r.uint.1 : Nat) : Int))), (5, (Value.slice none 0 0))] (j := 1) (by kernel_rfl) (by kernel_rfl) ?_
      refine Ops.done (by kernel_rfl) ?_
      refine q_seq (by kernel_rfl) ?_
      refine q_draw (fun wz => Keeps none_ w89 wz) 19 (by kernel_rfl) (by kernel_rfl) (by kernel_rfl) (fun w102 K103 _ _ => ⟨K103, ?_⟩)
      have K104 := K91.trans K103 (U := (fun i => i = b)) (fun i h1 h2 => h2) (fun i h1 h2 => by exact h2.elim)
      clear K91
      have H105 := H92.keep K103 (fun h => h)
      clear H92
      have F106 := RdO.keep0 F93 K103
      clear F93
      refine Dr.strong (S' := (fun wz => Keeps none_ w102 wz)) (Keeps.refl w102) (fun wz hx => K103.trans hx (fun i _ h => h) (fun _ _ h => h)) ?_
      clear K103
      refine Dr.takes (fuel' := 15) (is' := [3, 2, 1, 0]) [0, 1, 2, 3] [(0, (Value.pointer (some ⟨b, 0, none⟩))), (2, (Value.slice none 0 0)), (4, (Value.int IntKind.u64 ((r.uint.1 : Nat) : Int))), (5, (Value.slice none 0 0)), (56, (Value.slice none 0 0)), (59, (Value.pointer (some ⟨b, 0, none⟩)))] (by kernel_rfl) rfl (by kernel_rfl) ?_
      refine Dr.take (i := 4) (v := (Value.slice A r.uint.2.bs.length c)) (by kernel_rfl) (by kernel_rfl) (fun wz hS => Runs.load (t := 23) (a := ⟨b, 0, none⟩) (by kernel_rfl) ((H105.keep hS (fun h => h)).loads (by kernel_rfl))) (d := (some 60)) (by kernel_rfl) rfl ?_
      refine Dr.takes (fuel' := 11) (is' := [7, 6, 5, 4, 3, 2, 1, 0]) [5, 6, 7] [(0, (Value.pointer (some ⟨b, 0, none⟩))), (2, (Value.slice none 0 0)), (4, (Value.int IntKind.u64 ((r.uint.1 : Nat) : Int))), (5, (Value.slice none 0 0)), (56, (Value.slice none 0 0)), (60, (Value.slice A r.uint.2.bs.length c)), (63, (Value.pointer (some ⟨b, 1, none⟩)))] (by kernel_rfl) rfl (by kernel_rfl) ?_
      refine Dr.take (i := 8) (v := (i64 ((r.uint.2.pos : Nat) : Int))) (by kernel_rfl) (by kernel_rfl) (fun wz hS => Runs.load (t := 3) (a := ⟨b, 1, none⟩) (by kernel_rfl) ((H105.keep hS (fun h => h)).loads (by kernel_rfl))) (d := (some 64)) (by kernel_rfl) rfl ?_
      refine Dr.takes (fuel' := 7) (is' := [11, 10, 9, 8, 7, 6, 5, 4, 3, 2, 1, 0]) [9, 10, 11] [(0, (Value.pointer (some ⟨b, 0, none⟩))), (2, (Value.slice none 0 0)), (4, (Value.int IntKind.u64 ((r.uint.1 : Nat) : Int))), (5, (Value.slice none 0 0)), (56, (Value.slice none 0 0)), (60, (Value.slice A r.uint.2.bs.length c)), (64, (i64 ((r.uint.2.pos : Nat) : Int))), (67, (Value.pointer (some ⟨b, 1, none⟩)))] (by kernel_rfl) rfl (by kernel_rfl) ?_
      refine Dr.take (i := 12) (v := (i64 ((r.uint.2.pos : Nat) : Int))) (by kernel_rfl) (by kernel_rfl) (fun wz hS => Runs.load (t := 3) (a := ⟨b, 1, none⟩) (by kernel_rfl) ((H105.keep hS (fun h => h)).loads (by kernel_rfl))) (d := (some 68)) (by kernel_rfl) rfl ?_
      refine Dr.takes (fuel' := 4) (is' := [14, 13, 12, 11, 10, 9, 8, 7, 6, 5, 4, 3, 2, 1, 0]) [13, 14] [(0, (Value.pointer (some ⟨b, 0, none⟩))), (2, (Value.slice none 0 0)), (4, (Value.int IntKind.u64 ((r.uint.1 : Nat) : Int))), (5, (Value.slice none 0 0)), (56, (Value.slice none 0 0)), (60, (Value.slice A r.uint.2.bs.length c)), (64, (i64 ((r.uint.2.pos : Nat) : Int))), (68, (i64 ((r.uint.2.pos : Nat) : Int))), (70, (i64 (IntKind.i64.wrap (((r.uint.1 : Nat) : Int)))))] (by kernel_rfl) rfl (by kernel_rfl) ?_
      have e107 : IntKind.i64.wrap (((r.uint.1 : Nat) : Int)) = ((r.uint.1 : Nat) : Int) := wrap_i64 (by omega) (by omega)
      rw [e107]
      refine Dr.takes (fuel' := 3) (is' := [15, 14, 13, 12, 11, 10, 9, 8, 7, 6, 5, 4, 3, 2, 1, 0]) [15] [(0, (Value.pointer (some ⟨b, 0, none⟩))), (2, (Value.slice none 0 0)), (4, (Value.int IntKind.u64 ((r.uint.1 : Nat) : Int))), (5, (Value.slice none 0 0)), (56, (Value.slice none 0 0)), (60, (Value.slice A r.uint.2.bs.length c)), (64, (i64 ((r.uint.2.pos : Nat) : Int))), (71, (i64 (IntKind.i64.wrap (((r.uint.2.pos : Nat) : Int) + ((r.uint.1 : Nat) : Int)))))] (by kernel_rfl) rfl (by kernel_rfl) ?_
      have e108 : IntKind.i64.wrap (((r.uint.2.pos : Nat) : Int) + ((r.uint.1 : Nat) : Int)) = ((r.uint.2.pos + r.uint.1 : Nat) : Int) := by rw [wrap_i64 (by omega) (by omega)]; omega
      rw [e108]
      clear e108
      have hslF109 := RdB.slice F106.1
      have F109 := RdB.cutlh F106.1 r.uint.2.pos (r.uint.2.pos + r.uint.1) (by omega) (by omega)
      have hlF109 : ((r.uint.2.bs.drop r.uint.2.pos).take ((r.uint.2.pos + r.uint.1) - r.uint.2.pos)).length = (r.uint.2.pos + r.uint.1) - r.uint.2.pos := by rw [List.length_take, List.length_drop]; omega
      refine Dr.take (i := 16) (v := (Value.slice (if c = r.uint.2.pos then A else Option.map (fun q => Addr.add q (r.uint.2.pos * 1)) A) ((r.uint.2.pos + r.uint.1) - r.uint.2.pos) (c - r.uint.2.pos))) (by kernel_rfl) (by kernel_rfl) (fun wz hS => Runs.slice (by kernel_rfl) (run_cut (sz := 1) (t := 23) (A := A) (n := r.uint.2.bs.length) (c := c) r.uint.2.pos (r.uint.2.pos + r.uint.1) c (lo := some (i64 ((r.uint.2.pos : Nat) : Int))) (hi := some (i64 ((r.uint.2.pos + r.uint.1 : Nat) : Int))) (mx := none) tyB.slice (by kernel_rfl) (.inr ⟨_, rfl⟩) (.inr ⟨_, rfl⟩) (.inl ⟨rfl, rfl⟩) (by omega) (by omega) (by omega))) (d := (some 72)) (by kernel_rfl) rfl ?_
      obtain ⟨v110, w111, hr112, hO113, hK114⟩ := OwnB.app (ty := 23) (base := w102.heap.size) tyB (show OwnB w102 w102.heap.size 5 (.slice none 0 0) [] from World.ownsRow_nil _ _ _ _) F109 (by simp only [List.length_nil]; omega) (Nat.le_refl _)
      have hO115 : OwnB w111 _ 5 v110 ((r.uint.2.bs.drop r.uint.2.pos).take ((r.uint.2.pos + r.uint.1) - r.uint.2.pos)) := hO113
      have ob118 : ∀ i, (v110).ownBlock = some i → i ≠ b := fun i hi => by have := (World.ownsRow.lt hO115 i hi).1; have := H105.lt; omega
      have oo119 : ∀ i o s, A = some ⟨i, o, s⟩ → (v110).ownBlock = some i → False := fun i o s hi hs => by have := (World.ownsRow.lt hO115 i hs).1; have := F106.2 i o s hi; omega
      have K117 := Keeps.new hK114
      have O116 := own_base hO115 K104.size
      have K121 := K104.trans K117 (U := (fun i => i = b)) (fun i h1 h2 => h2) (fun i h1 h2 => by exact h2.elim)
      clear K104
      have H122 := H105.keep K117 (fun h => h)
      clear H105
      have F123 := RdO.keep0 F106 K117
      clear F106
      have F124 := (Rd.keep0 (by omega) F109 K117)
      clear F109
      refine Dr.go (i := 17) (v := v110) (by kernel_rfl) (by kernel_rfl) (Runs.append (ts := #[23, 23]) (ty := 23) (vs := [(Value.slice none 0 0), (Value.slice (if c = r.uint.2.pos then A else Option.map (fun q => Addr.add q (r.uint.2.pos * 1)) A) ((r.uint.2.pos + r.uint.1) - r.uint.2.pos) (c - r.uint.2.pos))]) (by kernel_rfl) hr112) (d := (some 73)) (by kernel_rfl) rfl K117 ?_
      refine Dr.strong (S' := (fun wz => Keeps none_ w111 wz)) (Keeps.refl w111) (fun wz hx => K117.trans hx (fun i _ h => h) (fun _ _ h => h)) ?_
      clear K117 hr112 hK114 hO113 hO115
      refine Dr.takes (fuel' := 0) (is' := [18, 17, 16, 15, 14, 13, 12, 11, 10, 9, 8, 7, 6, 5, 4, 3, 2, 1, 0]) [18] [(0, (Value.pointer (some ⟨b, 0, none⟩))), (2, (Value.slice none 0 0)), (4, (Value.int IntKind.u64 ((r.uint.1 : Nat) : Int))), (5, v110)] (by kernel_rfl) rfl (by kernel_rfl) ?_
      refine Dr.done (by kernel_rfl) ?_
      refine q_seq (by kernel_rfl) ?_
      refine q_region (by kernel_rfl) ?_
      refine Ops.regs 4 [(2, (Value.slice none 0 0)), (4, (Value.int IntKind.u64 ((r.uint.1 : Nat) : Int))), (5, v110), (74, (Value.pointer (some ⟨b, 0, none⟩))), (77, (Value.pointer (some ⟨b, 1, none⟩)))] (j := 4) (by kernel_rfl) (by kernel_rfl) ?_
      refine Ops.go (v := (i64 ((r.uint.2.pos : Nat) : Int))) (by kernel_rfl) (Runs.load (t := 3) (a := ⟨b, 1, none⟩) (by kernel_rfl) (H122.loads (by kernel_rfl))) (d := (some 78)) (by kernel_rfl) rfl ?_
      refine Ops.regs 2 [(2, (Value.slice none 0 0)), (5, v110), (74, (Value.pointer (some ⟨b, 0, none⟩))), (78, (i64 ((r.uint.2.pos : Nat) : Int))), (80, (i64 (IntKind.i64.wrap (((r.uint.1 : Nat) : Int)))))] (j := 7) (by kernel_rfl) (by kernel_rfl) ?_
      have e125 : IntKind.i64.wrap (((r.uint.1 : Nat) : Int)) = ((r.uint.1 : Nat) : Int) := wrap_i64 (by omega) (by omega)
      rw [e125]
      refine Ops.regs 1 [(2, (Value.slice none 0 0)), (5, v110), (74, (Value.pointer (some ⟨b, 0, none⟩))), (81, (i64 (IntKind.i64.wrap (((r.uint.2.pos : Nat) : Int) + ((r.uint.1 : Nat) : Int)))))] (j := 8) (by kernel_rfl) (by kernel_rfl) ?_
      have e126 : IntKind.i64.wrap (((r.uint.2.pos : Nat) : Int) + ((r.uint.1 : Nat) : Int)) = ((r.uint.2.pos + r.uint.1 : Nat) : Int) := by rw [wrap_i64 (by omega) (by omega)]; omega
      rw [e126]
      clear e126
      refine Ops.regs 2 [(2, (Value.slice none 0 0)), (5, v110), (81, (i64 ((r.uint.2.pos + r.uint.1 : Nat) : Int))), (83, (Value.pointer (some ⟨b, 1, none⟩)))] (j := 10) (by kernel_rfl) (by kernel_rfl) ?_
      refine Ops.put (t := 3) (b := b) (off := 1) (v := (i64 ((r.uint.2.pos + r.uint.1 : Nat) : Int))) (ys := [(Value.slice A r.uint.2.bs.length c), (i64 ((r.uint.2.pos + r.uint.1 : Nat) : Int)), (i64 r.uint.2.why)]) (by kernel_rfl) (by kernel_rfl) H122 (by kernel_rfl) (d := none) (by kernel_rfl) rfl (fun w127 H128 K129 => ?_)
      clear H122
      have K130 := K121.trans K129 (U := (fun i => i = b)) (fun i h1 h2 => h2) (fun i h1 h2 => by have h2 : i = b := h2; show i = b; omega)
      clear K121
      have F131 := RdO.keep F123 K129 (fun i _ _ hi hs => by have hs : i = b := hs; have := hne i _ _ hi; omega)
      clear F123
      clear F124
      have F132 := own_keep O116 K129 (fun i hi hs => by have hs : i = b := hs; have := ob118 i hi; omega)
      clear O116
      clear K129
      refine Ops.done (by kernel_rfl) ?_
      refine q_seq (by kernel_rfl) ?_
      refine q_region (by kernel_rfl) ?_
      refine Ops.regs 2 [(2, v110)] (j := 2) (by kernel_rfl) (by kernel_rfl) ?_
      refine Ops.done (by kernel_rfl) ?_
      refine q_ret (by kernel_rfl) ?_
      refine ⟨v110, retv_tmp rfl rfl, ?_⟩
      have e : r.bytes = ((r.uint.2.bs.drop r.uint.2.pos).take ((r.uint.2.pos + r.uint.1) - r.uint.2.pos), (⟨r.uint.2.bs, r.uint.2.pos + r.uint.1, r.uint.2.why⟩ : Rdr)) := by by_cases hr0 : r.why = 0; (unfold Rdr.bytes Rdr.sized; (repeat' split) <;> first | (exfalso; omega) | rfl | (simp only [Rdr.uint_bs]; done) | (simp only [Rdr.uint_bs]; simp only [Nat.add_sub_cancel_left]; done) | (exfalso; simp only at *; omega)); (have hr1 := hw0 hr0; rw [Rdr.bytes_err hr0]; first | (exfalso; omega) | (rw [Rdr.uint_bs, hr1.2.2]; done))
      exact ⟨v110, rfl, K130, by rw [e]; exact F132, by rw [e]; exact H128⟩

theorem RRText_calls (w : World) (b : Nat) (A : Option Addr) (c : Nat) (r : Rdr) (hok : r.Ok) (H0 : Has w b (rowL (rdrL A c r) 72)) (hR : RdO w A c r.bs) (hne : ∀ g o s, A = some ⟨g, o, s⟩ → g ≠ b) : Calls Try.prog 71 ⟨[(Value.pointer (some ⟨b, 0, none⟩))]⟩ w (fun e w' => e = .returned (.string (str r.bytes.1)) ∧ Keeps (fun i => i = b) w w' ∧ Has w' b (rowL (rdrL A c (r.bytes).2) 72)) := by
  have hpos := hok.pos
  have hlen := hok.len
  have hsc := r.scan_le
  have hdl : (r.bs.drop r.pos).length = r.bs.length - r.pos := List.length_drop
  have hcap := hR.1.slice
  have Hb := H0.lt
  have K0 : Keeps (fun i => i = b) w w := (Keeps.refl w).mono (fun _ _ h => h.elim)
  refine q_calls Try.func71 (by kernel_rfl) (by kernel_rfl) ?_
  refine q_seq (by kernel_rfl) ?_
  refine q_region (by kernel_rfl) ?_
  refine Ops.regs 1 [(0, (Value.pointer (some ⟨b, 0, none⟩))), (2, (Value.string (str ([] : List UInt8))))] (j := 1) (by kernel_rfl) (by kernel_rfl) ?_
  refine Ops.done (by kernel_rfl) ?_
  refine q_seq (by kernel_rfl) ?_
  refine q_region (by kernel_rfl) ?_
  refine Ops.regs 1 [(2, (Value.string (str ([] : List UInt8)))), (3, (Value.pointer (some ⟨b, 0, none⟩)))] (j := 1) (by kernel_rfl) (by kernel_rfl) ?_
  refine Ops.call (by kernel_rfl) (d := (some 4)) (by kernel_rfl) (RRBytes_calls _ b A c r hok H0 hR hne ) ?_
  rintro _ w1 ⟨v6, rfl, K2, hO7, H3⟩
  have hok4 : (r.bytes).2.Ok := Rdr.Ok.bytes hok
  have hu5 := Rdr.bytes_le hok
  have ob9 : ∀ i, (v6).ownBlock = some i → i ≠ b := fun i hi => by have := (World.ownsRow.lt hO7 i hi).1; have := H0.lt; omega
  have oo10 : ∀ i o s, A = some ⟨i, o, s⟩ → (v6).ownBlock = some i → False := fun i o s hi hs => by have := (World.ownsRow.lt hO7 i hs).1; have := hR.2 i o s hi; omega
  have O8 := own_base hO7 K0.size
  clear hO7
  refine ⟨_, _, rfl, rfl, ?_⟩
  have K12 := K0.trans K2 (U := (fun i => i = b)) (fun i h1 h2 => h2) (fun i h1 h2 => by have h2 : i = b := h2; show i = b; omega)
  clear K0
  have F13 := RdO.keep hR K2 (fun i _ _ hi hs => by have hs : i = b := hs; have := hne i _ _ hi; omega)
  clear hR
  clear K2
  have F14 : RdO w1 A c (r.bytes).2.bs := by rw [Rdr.bytes_bs]; exact F13
  clear F13
  refine Ops.go (v := (Value.string (str ((r.bytes).1)))) (by kernel_rfl) (Runs.b2s (s := 23) (d := 9) (e := 5) (by kernel_rfl) (by kernel_rfl) (by kernel_rfl) (OwnB.rd O8)) (d := (some 5)) (by kernel_rfl) rfl ?_
  refine Ops.regs 1 [(2, (Value.string (str ((r.bytes).1))))] (j := 4) (by kernel_rfl) (by kernel_rfl) ?_
  refine Ops.done (by kernel_rfl) ?_
  refine q_ret (by kernel_rfl) ?_
  refine ⟨(Value.string (str ((r.bytes).1))), retv_tmp rfl rfl, ?_⟩
  exact ⟨rfl, K12, H3⟩

theorem RRBool_calls (w : World) (b : Nat) (A : Option Addr) (c : Nat) (r : Rdr) (hok : r.Ok) (H0 : Has w b (rowL (rdrL A c r) 72)) (hR : RdO w A c r.bs) (hne : ∀ g o s, A = some ⟨g, o, s⟩ → g ≠ b) : Calls Try.prog 72 ⟨[(Value.pointer (some ⟨b, 0, none⟩))]⟩ w (fun e w' => e = .returned (.bool r.bool_.1) ∧ Keeps (fun i => i = b) w w' ∧ Has w' b (rowL (rdrL A c (r.bool_).2) 72)) := by
  have hR0 := hR
  have hpos := hok.pos
  have hlen := hok.len
  have hsc := r.scan_le
  have hdl : (r.bs.drop r.pos).length = r.bs.length - r.pos := List.length_drop
  have hcap := hR.1.slice
  have Hb := H0.lt
  have K0 : Keeps (fun i => i = b) w w := (Keeps.refl w).mono (fun _ _ h => h.elim)
  refine q_calls Try.func72 (by kernel_rfl) (by kernel_rfl) ?_
  refine q_seq (by kernel_rfl) ?_
  refine q_region (by kernel_rfl) ?_
  refine Ops.regs 1 [(0, (Value.pointer (some ⟨b, 0, none⟩))), (2, (Value.bool false))] (j := 1) (by kernel_rfl) (by kernel_rfl) ?_
  refine Ops.done (by kernel_rfl) ?_
  refine q_seq (by kernel_rfl) ?_
  refine q_seq (by kernel_rfl) ?_
  refine q_region (by kernel_rfl) ?_
  refine Ops.regs 3 [(0, (Value.pointer (some ⟨b, 0, none⟩))), (2, (Value.bool false)), (6, (Value.pointer (some ⟨b, 2, none⟩)))] (j := 3) (by kernel_rfl) (by kernel_rfl) ?_
  refine Ops.go (v := (i64 r.why)) (by kernel_rfl) (Runs.load (t := 28) (a := ⟨b, 2, none⟩) (by kernel_rfl) (H0.loads (by kernel_rfl))) (d := (some 7)) (by kernel_rfl) rfl ?_
  refine Ops.regs 1 [(0, (Value.pointer (some ⟨b, 0, none⟩))), (2, (Value.bool false)), (8, (Value.bool (r.why != 0)))] (j := 5) (by kernel_rfl) (by kernel_rfl) ?_
  refine Ops.done (by kernel_rfl) ?_
  refine q_cond (o := .tmp 8) (b := (r.why != 0)) (by kernel_rfl) rfl (fun h1 => ?_) (fun h1 => ?_)
  · rw [h1]
    have p2 : ¬ (r.why = 0) := of_bne_t h1
    refine q_seq (by kernel_rfl) ?_
    refine q_region (by kernel_rfl) ?_
    refine Ops.regs 1 [(0, (Value.pointer (some ⟨b, 0, none⟩))), (2, (Value.bool false))] (j := 1) (by kernel_rfl) (by kernel_rfl) ?_
    refine Ops.done (by kernel_rfl) ?_
    refine q_ret (by kernel_rfl) ?_
    refine ⟨(Value.bool false), retv_tmp rfl rfl, ?_⟩
    have e : r.bool_ = (false, r) := by unfold Rdr.bool_; first | (rw [if_pos (by omega)]; done) | (rw [if_neg (by omega)]; first | (rw [hx]; simp only; first | (rw [if_pos (by omega)]; done) | (rw [if_neg (by omega)]; done)) | (rw [show r.bs.drop r.pos = [] from List.eq_nil_of_length_eq_zero (by omega)]; done))
    exact ⟨by rw [e], K0, by rw [e]; exact H0⟩
  · rw [h1]
    have p3 : r.why = 0 := of_bne_f h1
    refine q_skip (by kernel_rfl) ?_
    refine q_seq (by kernel_rfl) ?_
    refine q_seq (by kernel_rfl) ?_
    refine q_draw (fun wz => Keeps none_ w wz) 10 (by kernel_rfl) (by kernel_rfl) (by kernel_rfl) (fun w4 K5 _ _ => ⟨K5, ?_⟩)
    have K6 := K0.trans K5 (U := (fun i => i = b)) (fun i h1 h2 => h2) (fun i h1 h2 => by exact h2.elim)
    clear K0
    have H7 := H0.keep K5 (fun h => h)
    clear H0
    have F8 := RdO.keep0 hR K5
    clear hR
    refine Dr.strong (S' := (fun wz => Keeps none_ w4 wz)) (Keeps.refl w4) (fun wz hx => K5.trans hx (fun i _ h => h) (fun _ _ h => h)) ?_
    clear K5
    refine Dr.takes (fuel' := 7) (is' := [2, 1, 0]) [0, 1, 2] [(0, (Value.pointer (some ⟨b, 0, none⟩))), (2, (Value.bool false)), (11, (Value.pointer (some ⟨b, 1, none⟩)))] (by kernel_rfl) rfl (by kernel_rfl) ?_
    refine Dr.take (i := 3) (v := (i64 ((r.pos : Nat) : Int))) (by kernel_rfl) (by kernel_rfl) (fun wz hS => Runs.load (t := 3) (a := ⟨b, 1, none⟩) (by kernel_rfl) ((H7.keep hS (fun h => h)).loads (by kernel_rfl))) (d := (some 12)) (by kernel_rfl) rfl ?_
    refine Dr.takes (fuel' := 3) (is' := [6, 5, 4, 3, 2, 1, 0]) [4, 5, 6] [(0, (Value.pointer (some ⟨b, 0, none⟩))), (2, (Value.bool false)), (12, (i64 ((r.pos : Nat) : Int))), (15, (Value.pointer (some ⟨b, 0, none⟩)))] (by kernel_rfl) rfl (by kernel_rfl) ?_
    refine Dr.take (i := 7) (v := (Value.slice A r.bs.length c)) (by kernel_rfl) (by kernel_rfl) (fun wz hS => Runs.load (t := 23) (a := ⟨b, 0, none⟩) (by kernel_rfl) ((H7.keep hS (fun h => h)).loads (by kernel_rfl))) (d := (some 16)) (by kernel_rfl) rfl ?_
    refine Dr.takes (fuel' := 0) (is' := [9, 8, 7, 6, 5, 4, 3, 2, 1, 0]) [8, 9] [(0, (Value.pointer (some ⟨b, 0, none⟩))), (2, (Value.bool false)), (18, (Value.bool (decide (((r.pos : Nat) : Int) ≥ ((r.bs.length : Nat) : Int)))))] (by kernel_rfl) rfl (by kernel_rfl) ?_
    refine Dr.done (by kernel_rfl) ?_
    refine q_cond (o := .tmp 18) (b := (decide (((r.pos : Nat) : Int) ≥ ((r.bs.length : Nat) : Int)))) (by kernel_rfl) rfl (fun h9 => ?_) (fun h9 => ?_)
    · rw [h9]
      have p10 : ((r.pos : Nat) : Int) ≥ ((r.bs.length : Nat) : Int) := of_decide_eq_true h9
      refine q_seq (by kernel_rfl) ?_
      refine q_region (by kernel_rfl) ?_
      refine Ops.regs 3 [(0, (Value.pointer (some ⟨b, 0, none⟩))), (2, (Value.bool false)), (21, (Value.pointer (some ⟨b, 2, none⟩)))] (j := 3) (by kernel_rfl) (by kernel_rfl) ?_
      refine Ops.put (t := 28) (b := b) (off := 2) (v := (i64 10)) (ys := [(Value.slice A r.bs.length c), (i64 ((r.pos : Nat) : Int)), (i64 10)]) (by kernel_rfl) (by kernel_rfl) H7 (by kernel_rfl) (d := none) (by kernel_rfl) rfl (fun w11 H12 K13 => ?_)
      clear H7
      have K14 := K6.trans K13 (U := (fun i => i = b)) (fun i h1 h2 => h2) (fun i h1 h2 => by have h2 : i = b := h2; show i = b; omega)
      clear K6
      have F15 := RdO.keep F8 K13 (fun i _ _ hi hs => by have hs : i = b := hs; have := hne i _ _ hi; omega)
      clear F8
      clear K13
      refine Ops.done (by kernel_rfl) ?_
      refine q_seq (by kernel_rfl) ?_
      refine q_region (by kernel_rfl) ?_
      refine Ops.regs 1 [(0, (Value.pointer (some ⟨b, 0, none⟩))), (2, (Value.bool false))] (j := 1) (by kernel_rfl) (by kernel_rfl) ?_
      refine Ops.done (by kernel_rfl) ?_
      refine q_ret (by kernel_rfl) ?_
      refine ⟨(Value.bool false), retv_tmp rfl rfl, ?_⟩
      have e : r.bool_ = (false, (⟨r.bs, r.pos, 10⟩ : Rdr)) := by unfold Rdr.bool_; first | (rw [if_pos (by omega)]; done) | (rw [if_neg (by omega)]; first | (rw [hx]; simp only; first | (rw [if_pos (by omega)]; done) | (rw [if_neg (by omega)]; done)) | (rw [show r.bs.drop r.pos = [] from List.eq_nil_of_length_eq_zero (by omega)]; done))
      exact ⟨by rw [e], K14, by rw [e]; exact H12⟩
    · rw [h9]
      have p16 : ¬ (((r.pos : Nat) : Int) ≥ ((r.bs.length : Nat) : Int)) := of_decide_eq_false h9
      obtain ⟨x, lb, lo, hx, hA, hLd⟩ := RdB.at (P := Try.prog) (t := 5) hR0.1 (k := r.pos) (by kernel_rfl) (by omega)
      have hx256 : x.toNat < 256 := x.toNat_lt
      have hlb : lb ≠ b := hne _ _ _ hA
      refine q_skip (by kernel_rfl) ?_
      refine q_seq (by kernel_rfl) ?_
      refine q_draw (fun wz => Keeps none_ w4 wz) 11 (by kernel_rfl) (by kernel_rfl) (by kernel_rfl) (fun w17 K18 _ _ => ⟨K18, ?_⟩)
      have K19 := K6.trans K18 (U := (fun i => i = b)) (fun i h1 h2 => h2) (fun i h1 h2 => by exact h2.elim)
      clear K6
      have H20 := H7.keep K18 (fun h => h)
      clear H7
      have F21 := RdO.keep0 F8 K18
      clear F8
      refine Dr.strong (S' := (fun wz => Keeps none_ w17 wz)) (Keeps.refl w17) (fun wz hx => K18.trans hx (fun i _ h => h) (fun _ _ h => h)) ?_
      clear K18
      refine Dr.takes (fuel' := 8) (is' := [2, 1, 0]) [0, 1, 2] [(0, (Value.pointer (some ⟨b, 0, none⟩))), (2, (Value.bool false)), (24, (Value.pointer (some ⟨b, 0, none⟩)))] (by kernel_rfl) rfl (by kernel_rfl) ?_
      refine Dr.take (i := 3) (v := (Value.slice A r.bs.length c)) (by kernel_rfl) (by kernel_rfl) (fun wz hS => Runs.load (t := 23) (a := ⟨b, 0, none⟩) (by kernel_rfl) ((H20.keep hS (fun h => h)).loads (by kernel_rfl))) (d := (some 25)) (by kernel_rfl) rfl ?_
      refine Dr.takes (fuel' := 4) (is' := [6, 5, 4, 3, 2, 1, 0]) [4, 5, 6] [(0, (Value.pointer (some ⟨b, 0, none⟩))), (2, (Value.bool false)), (25, (Value.slice A r.bs.length c)), (28, (Value.pointer (some ⟨b, 1, none⟩)))] (by kernel_rfl) rfl (by kernel_rfl) ?_
      refine Dr.take (i := 7) (v := (i64 ((r.pos : Nat) : Int))) (by kernel_rfl) (by kernel_rfl) (fun wz hS => Runs.load (t := 3) (a := ⟨b, 1, none⟩) (by kernel_rfl) ((H20.keep hS (fun h => h)).loads (by kernel_rfl))) (d := (some 29)) (by kernel_rfl) rfl ?_
      refine Dr.take (i := 8) (v := (Value.pointer (some ⟨lb, lo + r.pos, none⟩))) (by kernel_rfl) (by kernel_rfl) (fun wz hS => Runs.ixSliceE (k := IntKind.i64) (t := 23) (len := r.bs.length) (cap := c) (s := 1) (off' := lo + r.pos) (i := ((r.pos : Nat) : Int)) hA (by kernel_rfl) (by kernel_rfl) (by omega) (by omega) (by omega)) (d := (some 30)) (by kernel_rfl) rfl ?_
      refine Dr.take (i := 9) (v := (Value.int IntKind.u8 ((x.toNat : Nat) : Int))) (by kernel_rfl) (by kernel_rfl) (fun wz hS => Runs.load (t := 5) (a := ⟨lb, lo + r.pos, none⟩) (by kernel_rfl) (hLd _ _ (K19.trans hS (fun _ _ h => h) (fun i h1 h2 => h2.elim)) (fun h => by have h : lb = b := h; omega))) (d := (some 31)) (by kernel_rfl) rfl ?_
      refine Dr.takes (fuel' := 0) (is' := [10, 9, 8, 7, 6, 5, 4, 3, 2, 1, 0]) [10] [(0, (Value.pointer (some ⟨b, 0, none⟩))), (2, (Value.bool false)), (3, (Value.int IntKind.u8 ((x.toNat : Nat) : Int)))] (by kernel_rfl) rfl (by kernel_rfl) ?_
      refine Dr.done (by kernel_rfl) ?_
      refine q_seq (by kernel_rfl) ?_
      refine q_seq (by kernel_rfl) ?_
      refine q_region (by kernel_rfl) ?_
      refine Ops.regs 2 [(0, (Value.pointer (some ⟨b, 0, none⟩))), (2, (Value.bool false)), (3, (Value.int IntKind.u8 ((x.toNat : Nat) : Int))), (33, (Value.bool (decide (((x.toNat : Nat) : Int) > 1))))] (j := 2) (by kernel_rfl) (by kernel_rfl) ?_
      refine Ops.done (by kernel_rfl) ?_
      refine q_cond (o := .tmp 33) (b := (decide (((x.toNat : Nat) : Int) > 1))) (by kernel_rfl) rfl (fun h22 => ?_) (fun h22 => ?_)
      · rw [h22]
        have p23 : ((x.toNat : Nat) : Int) > 1 := of_decide_eq_true h22
        refine q_seq (by kernel_rfl) ?_
        refine q_region (by kernel_rfl) ?_
        refine Ops.regs 3 [(0, (Value.pointer (some ⟨b, 0, none⟩))), (2, (Value.bool false)), (3, (Value.int IntKind.u8 ((x.toNat : Nat) : Int))), (36, (Value.pointer (some ⟨b, 2, none⟩)))] (j := 3) (by kernel_rfl) (by kernel_rfl) ?_
        refine Ops.put (t := 28) (b := b) (off := 2) (v := (i64 11)) (ys := [(Value.slice A r.bs.length c), (i64 ((r.pos : Nat) : Int)), (i64 11)]) (by kernel_rfl) (by kernel_rfl) H20 (by kernel_rfl) (d := none) (by kernel_rfl) rfl (fun w24 H25 K26 => ?_)
        clear H20
        have K27 := K19.trans K26 (U := (fun i => i = b)) (fun i h1 h2 => h2) (fun i h1 h2 => by have h2 : i = b := h2; show i = b; omega)
        clear K19
        have F28 := RdO.keep F21 K26 (fun i _ _ hi hs => by have hs : i = b := hs; have := hne i _ _ hi; omega)
        clear F21
        clear K26
        refine Ops.done (by kernel_rfl) ?_
        refine q_seq (by kernel_rfl) ?_
        refine q_region (by kernel_rfl) ?_
        refine Ops.regs 1 [(0, (Value.pointer (some ⟨b, 0, none⟩))), (2, (Value.bool false)), (3, (Value.int IntKind.u8 ((x.toNat : Nat) : Int)))] (j := 1) (by kernel_rfl) (by kernel_rfl) ?_
        refine Ops.done (by kernel_rfl) ?_
        refine q_ret (by kernel_rfl) ?_
        refine ⟨(Value.bool false), retv_tmp rfl rfl, ?_⟩
        have e : r.bool_ = (false, (⟨r.bs, r.pos, 11⟩ : Rdr)) := by unfold Rdr.bool_; first | (rw [if_pos (by omega)]; done) | (rw [if_neg (by omega)]; first | (rw [hx]; simp only; first | (rw [if_pos (by omega)]; done) | (rw [if_neg (by omega)]; done)) | (rw [show r.bs.drop r.pos = [] from List.eq_nil_of_length_eq_zero (by omega)]; done))
        exact ⟨by rw [e], K27, by rw [e]; exact H25⟩
      · rw [h22]
        have p29 : ¬ (((x.toNat : Nat) : Int) > 1) := of_decide_eq_false h22
        refine q_skip (by kernel_rfl) ?_
        refine q_seq (by kernel_rfl) ?_
        refine q_region (by kernel_rfl) ?_
        refine Ops.regs 3 [(2, (Value.bool false)), (3, (Value.int IntKind.u8 ((x.toNat : Nat) : Int))), (37, (Value.pointer (some ⟨b, 0, none⟩))), (39, (Value.pointer (some ⟨b, 1, none⟩)))] (j := 3) (by kernel_rfl) (by kernel_rfl) ?_
        refine Ops.go (v := (i64 ((r.pos : Nat) : Int))) (by kernel_rfl) (Runs.load (t := 3) (a := ⟨b, 1, none⟩) (by kernel_rfl) (H20.loads (by kernel_rfl))) (d := (some 40)) (by kernel_rfl) rfl ?_
        refine Ops.regs 1 [(2, (Value.bool false)), (3, (Value.int IntKind.u8 ((x.toNat : Nat) : Int))), (37, (Value.pointer (some ⟨b, 0, none⟩))), (41, (i64 (IntKind.i64.wrap (((r.pos : Nat) : Int) + 1))))] (j := 5) (by kernel_rfl) (by kernel_rfl) ?_
        have e30 : IntKind.i64.wrap (((r.pos : Nat) : Int) + 1) = ((r.pos + 1 : Nat) : Int) := by rw [wrap_i64 (by omega) (by omega)]; omega
        rw [e30]
        clear e30
        refine Ops.regs 2 [(2, (Value.bool false)), (3, (Value.int IntKind.u8 ((x.toNat : Nat) : Int))), (41, (i64 ((r.pos + 1 : Nat) : Int))), (43, (Value.pointer (some ⟨b, 1, none⟩)))] (j := 7) (by kernel_rfl) (by kernel_rfl) ?_
        refine Ops.put (t := 3) (b := b) (off := 1) (v := (i64 ((r.pos + 1 : Nat) : Int))) (ys := [(Value.slice A r.bs.length c), (i64 ((r.pos + 1 : Nat) : Int)), (i64 r.why)]) (by kernel_rfl) (by kernel_rfl) H20 (by kernel_rfl) (d := none) (by kernel_rfl) rfl (fun w31 H32 K33 => ?_)
        clear H20
        have K34 := K19.trans K33 (U := (fun i => i = b)) (fun i h1 h2 => h2) (fun i h1 h2 => by have h2 : i = b := h2; show i = b; omega)
        clear K19
        have F35 := RdO.keep F21 K33 (fun i _ _ hi hs => by have hs : i = b := hs; have := hne i _ _ hi; omega)
        clear F21
        clear K33
        refine Ops.done (by kernel_rfl) ?_
        refine q_seq (by kernel_rfl) ?_
        refine q_region (by kernel_rfl) ?_
        refine Ops.regs 3 [(2, (Value.bool (((x.toNat : Nat) : Int) == 1)))] (j := 3) (by kernel_rfl) (by kernel_rfl) ?_
        refine Ops.done (by kernel_rfl) ?_
        refine q_ret (by kernel_rfl) ?_
        refine ⟨(Value.bool (((x.toNat : Nat) : Int) == 1)), retv_tmp rfl rfl, ?_⟩
        have e : r.bool_ = (x.toNat == 1, (⟨r.bs, r.pos + 1, r.why⟩ : Rdr)) := by unfold Rdr.bool_; first | (rw [if_pos (by omega)]; done) | (rw [if_neg (by omega)]; first | (rw [hx]; simp only; first | (rw [if_pos (by omega)]; done) | (rw [if_neg (by omega)]; done)) | (rw [show r.bs.drop r.pos = [] from List.eq_nil_of_length_eq_zero (by omega)]; done))
        have e1 : (((x.toNat : Nat) : Int) == 1) = (x.toNat == 1) := by rw [Bool.eq_iff_iff]; simp only [beq_iff_eq]; omega
        exact ⟨by rw [e]; show _ = Ending.returned (Value.bool (x.toNat == 1)); rw [← e1], K34, by rw [e]; exact H32⟩

theorem GetOp_calls (w : World) (b : Nat) (A : Option Addr) (c : Nat) (r : Rdr) (hok : r.Ok) (H0 : Has w b (rowL (rdrL A c r) 88)) (hR : RdO w A c r.bs) (hne : ∀ g o s, A = some ⟨g, o, s⟩ → g ≠ b) : Calls Try.prog 43 ⟨[(Value.pointer (some ⟨b, 0, none⟩))]⟩ w (fun e w' => e = .returned (agg r.op.1.cells) ∧ Keeps (fun i => i = b) w w' ∧ Has w' b (rowL (rdrL A c (r.op).2) 88)) := by
  have hpos := hok.pos
  have hlen := hok.len
  have hsc := r.scan_le
  have hdl : (r.bs.drop r.pos).length = r.bs.length - r.pos := List.length_drop
  have hcap := hR.1.slice
  have Hb := H0.lt
  have K0 : Keeps (fun i => i = b) w w := (Keeps.refl w).mono (fun _ _ h => h.elim)
  refine q_calls Try.func43 (by kernel_rfl) (by kernel_rfl) ?_
  refine q_seq (by kernel_rfl) ?_
  refine q_region (by kernel_rfl) ?_
  refine Ops.new (o := rowL [(i64 0), (Value.string ByteArray.empty), (Value.string ByteArray.empty), (i64 0), (Value.string ByteArray.empty), (i64 0), (i64 0)] 43) (V := fun b => (Value.pointer (some ⟨b, 0, none⟩))) (by kernel_rfl) (d := (some 2)) (by kernel_rfl) (fun b => rfl) (fun b1 w2 hb3 H4 K5 hs6 => ?_)
  have lb1 : b < b1 := by have := H0.lt; omega
  have nb1 : w.heap.size ≤ b1 := by have := K0.size; omega
  have ob7 : ∀ i o s, A = some ⟨i, o, s⟩ → i ≠ b1 := fun i o s hi => by have := hR.2 i o s hi; omega
  have K8 := K0.trans K5 (U := (fun i => i = b)) (fun i h1 h2 => h2) (fun i h1 h2 => by exact h2.elim)
  clear K0
  have H9 := H0.keep K5 (fun h => h)
  clear H0
  have F10 := RdO.keep0 hR K5
  clear hR
  clear K5 hs6
  refine Ops.done (by kernel_rfl) ?_
  refine q_seq (by kernel_rfl) ?_
  refine q_region (by kernel_rfl) ?_
  refine Ops.regs 1 [(0, (Value.pointer (some ⟨b, 0, none⟩))), (2, (Value.pointer (some ⟨b1, 0, none⟩))), (4, (Value.pointer (some ⟨b, 0, none⟩)))] (j := 1) (by kernel_rfl) (by kernel_rfl) ?_
  refine Ops.call (by kernel_rfl) (d := (some 5)) (by kernel_rfl) (RdInt_calls _ b A c r hok H9 F10 hne ) ?_
  rintro _ w11 ⟨rfl, K12, H13⟩
  have hok14 : (r.int).2.Ok := Rdr.Ok.int hok
  have hu15 := Rdr.int_range r
  refine ⟨_, _, rfl, rfl, ?_⟩
  have K16 := K8.trans K12 (U := (fun i => i = b)) (fun i h1 h2 => h2) (fun i h1 h2 => by have h2 : i = b := h2; show i = b; omega)
  clear K8
  have H17 := H4.keep K12 (by intro h; change b1 = b at h; omega)
  clear H4
  have F18 := RdO.keep F10 K12 (fun i _ _ hi hs => by have hs : i = b := hs; have := hne i _ _ hi; omega)
  clear F10
  clear K12
  have F19 : RdO w11 A c (r.int).2.bs := by rw [Rdr.int_bs]; exact F18
  clear F18
  refine Ops.regs 1 [(0, (Value.pointer (some ⟨b, 0, none⟩))), (2, (Value.pointer (some ⟨b1, 0, none⟩))), (6, (agg [(i64 ((r.int).1)), (Value.string ByteArray.empty), (Value.string ByteArray.empty), (i64 0), (Value.string ByteArray.empty), (i64 0), (i64 0)]))] (j := 3) (by kernel_rfl) (by kernel_rfl) ?_
  refine Ops.new (o := rowL [(i64 0), (Value.string ByteArray.empty), (Value.string ByteArray.empty), (i64 0), (Value.string ByteArray.empty), (i64 0), (i64 0)] 43) (V := fun b => (Value.pointer (some ⟨b, 0, none⟩))) (by kernel_rfl) (d := (some 3)) (by kernel_rfl) (fun b => rfl) (fun b20 w21 hb22 H23 K24 hs25 => ?_)
  have lb20 : b1 < b20 := by have := H17.lt; omega
  have nb20 : w.heap.size ≤ b20 := by have := K16.size; omega
  have ob26 : ∀ i o s, A = some ⟨i, o, s⟩ → i ≠ b20 := fun i o s hi => by have := F19.2 i o s hi; omega
  have K27 := K16.trans K24 (U := (fun i => i = b)) (fun i h1 h2 => h2) (fun i h1 h2 => by exact h2.elim)
  clear K16
  have H28 := H13.keep K24 (fun h => h)
  clear H13
  have H29 := H17.keep K24 (fun h => h)
  clear H17
  have F30 := RdO.keep0 F19 K24
  clear F19
  clear K24 hs25
  refine Ops.put (t := 43) (b := b20) (off := 0) (v := (agg [(i64 ((r.int).1)), (Value.string ByteArray.empty), (Value.string ByteArray.empty), (i64 0), (Value.string ByteArray.empty), (i64 0), (i64 0)])) (ys := [(i64 ((r.int).1)), (Value.string ByteArray.empty), (Value.string ByteArray.empty), (i64 0), (Value.string ByteArray.empty), (i64 0), (i64 0)]) (by kernel_rfl) (by kernel_rfl) H23 (by kernel_rfl) (d := none) (by kernel_rfl) rfl (fun w31 H32 K33 => ?_)
  clear H23
  have K34 := K27.trans K33 (U := (fun i => i = b)) (fun i h1 h2 => h2) (fun i h1 h2 => by have h2 : i = b20 := h2; show i = b; omega)
  clear K27
  have H35 := H28.keep K33 (by intro h; change b = b20 at h; omega)
  clear H28
  have H36 := H29.keep K33 (by intro h; change b1 = b20 at h; omega)
  clear H29
  have F37 := RdO.keep F30 K33 (fun i _ _ hi hs => by have hs : i = b20 := hs; have := ob26 i _ _ hi; omega)
  clear F30
  clear K33
  refine Ops.done (by kernel_rfl) ?_
  refine q_seq (by kernel_rfl) ?_
  refine q_region (by kernel_rfl) ?_
  refine Ops.regs 1 [(0, (Value.pointer (some ⟨b, 0, none⟩))), (2, (Value.pointer (some ⟨b1, 0, none⟩))), (3, (Value.pointer (some ⟨b20, 0, none⟩))), (7, (Value.pointer (some ⟨b, 0, none⟩)))] (j := 1) (by kernel_rfl) (by kernel_rfl) ?_
  refine Ops.call (by kernel_rfl) (d := (some 8)) (by kernel_rfl) (RdText_calls _ b A c ((r.int).2) hok14 H35 F37 hne ) ?_
  rintro _ w38 ⟨rfl, K39, H40⟩
  have hok41 : (((r.int).2).bytes).2.Ok := Rdr.Ok.bytes hok14
  have hu42 := Rdr.bytes_le hok14
  refine ⟨_, _, rfl, rfl, ?_⟩
  have K43 := K34.trans K39 (U := (fun i => i = b)) (fun i h1 h2 => h2) (fun i h1 h2 => by have h2 : i = b := h2; show i = b; omega)
  clear K34
  have H44 := H36.keep K39 (by intro h; change b1 = b at h; omega)
  clear H36
  have H45 := H32.keep K39 (by intro h; change b20 = b at h; omega)
  clear H32
  have F46 := RdO.keep F37 K39 (fun i _ _ hi hs => by have hs : i = b := hs; have := hne i _ _ hi; omega)
  clear F37
  clear K39
  have F47 : RdO w38 A c (((r.int).2).bytes).2.bs := by rw [Rdr.bytes_bs]; exact F46
  clear F46
  refine Ops.regs 1 [(0, (Value.pointer (some ⟨b, 0, none⟩))), (2, (Value.pointer (some ⟨b1, 0, none⟩))), (3, (Value.pointer (some ⟨b20, 0, none⟩))), (8, (Value.string (str (((r.int).2).bytes).1))), (9, (Value.pointer (some ⟨b, 0, none⟩)))] (j := 3) (by kernel_rfl) (by kernel_rfl) ?_
  refine Ops.call (by kernel_rfl) (d := (some 10)) (by kernel_rfl) (RdText_calls _ b A c ((((r.int).2).bytes).2) hok41 H40 F47 hne ) ?_
  rintro _ w48 ⟨rfl, K49, H50⟩
  have hok51 : (((((r.int).2).bytes).2).bytes).2.Ok := Rdr.Ok.bytes hok41
  have hu52 := Rdr.bytes_le hok41
  refine ⟨_, _, rfl, rfl, ?_⟩
  have K53 := K43.trans K49 (U := (fun i => i = b)) (fun i h1 h2 => h2) (fun i h1 h2 => by have h2 : i = b := h2; show i = b; omega)
  clear K43
  have H54 := H44.keep K49 (by intro h; change b1 = b at h; omega)
  clear H44
  have H55 := H45.keep K49 (by intro h; change b20 = b at h; omega)
  clear H45
  have F56 := RdO.keep F47 K49 (fun i _ _ hi hs => by have hs : i = b := hs; have := hne i _ _ hi; omega)
  clear F47
  clear K49
  have F57 : RdO w48 A c (((((r.int).2).bytes).2).bytes).2.bs := by rw [Rdr.bytes_bs]; exact F56
  clear F56
  refine Ops.regs 1 [(0, (Value.pointer (some ⟨b, 0, none⟩))), (2, (Value.pointer (some ⟨b1, 0, none⟩))), (3, (Value.pointer (some ⟨b20, 0, none⟩))), (8, (Value.string (str (((r.int).2).bytes).1))), (10, (Value.string (str (((((r.int).2).bytes).2).bytes).1))), (11, (Value.pointer (some ⟨b20, 1, none⟩)))] (j := 5) (by kernel_rfl) (by kernel_rfl) ?_
  refine Ops.put (t := 9) (b := b20) (off := 1) (v := (Value.string (str (((r.int).2).bytes).1))) (ys := [(i64 ((r.int).1)), (Value.string (str (((r.int).2).bytes).1)), (Value.string ByteArray.empty), (i64 0), (Value.string ByteArray.empty), (i64 0), (i64 0)]) (by kernel_rfl) (by kernel_rfl) H55 (by kernel_rfl) (d := none) (by kernel_rfl) rfl (fun w58 H59 K60 => ?_)
  clear H55
  have K61 := K53.trans K60 (U := (fun i => i = b)) (fun i h1 h2 => h2) (fun i h1 h2 => by have h2 : i = b20 := h2; show i = b; omega)
  clear K53
  have H62 := H50.keep K60 (by intro h; change b = b20 at h; omega)
  clear H50
  have H63 := H54.keep K60 (by intro h; change b1 = b20 at h; omega)
  clear H54
  have F64 := RdO.keep F57 K60 (fun i _ _ hi hs => by have hs : i = b20 := hs; have := ob26 i _ _ hi; omega)
  clear F57
  clear K60
  refine Ops.regs 1 [(0, (Value.pointer (some ⟨b, 0, none⟩))), (2, (Value.pointer (some ⟨b1, 0, none⟩))), (3, (Value.pointer (some ⟨b20, 0, none⟩))), (10, (Value.string (str (((((r.int).2).bytes).2).bytes).1))), (12, (Value.pointer (some ⟨b20, 2, none⟩)))] (j := 7) (by kernel_rfl) (by kernel_rfl) ?_
  refine Ops.put (t := 9) (b := b20) (off := 2) (v := (Value.string (str (((((r.int).2).bytes).2).bytes).1))) (ys := [(i64 ((r.int).1)), (Value.string (str (((r.int).2).bytes).1)), (Value.string (str (((((r.int).2).bytes).2).bytes).1)), (i64 0), (Value.string ByteArray.empty), (i64 0), (i64 0)]) (by kernel_rfl) (by kernel_rfl) H59 (by kernel_rfl) (d := none) (by kernel_rfl) rfl (fun w65 H66 K67 => ?_)
  clear H59
  have K68 := K61.trans K67 (U := (fun i => i = b)) (fun i h1 h2 => h2) (fun i h1 h2 => by have h2 : i = b20 := h2; show i = b; omega)
  clear K61
  have H69 := H62.keep K67 (by intro h; change b = b20 at h; omega)
  clear H62
  have H70 := H63.keep K67 (by intro h; change b1 = b20 at h; omega)
  clear H63
  have F71 := RdO.keep F64 K67 (fun i _ _ hi hs => by have hs : i = b20 := hs; have := ob26 i _ _ hi; omega)
  clear F64
  clear K67
  refine Ops.done (by kernel_rfl) ?_
  refine q_seq (by kernel_rfl) ?_
  refine q_region (by kernel_rfl) ?_
  refine Ops.regs 1 [(0, (Value.pointer (some ⟨b, 0, none⟩))), (2, (Value.pointer (some ⟨b1, 0, none⟩))), (3, (Value.pointer (some ⟨b20, 0, none⟩))), (13, (Value.pointer (some ⟨b, 0, none⟩)))] (j := 1) (by kernel_rfl) (by kernel_rfl) ?_
  refine Ops.call (by kernel_rfl) (d := (some 14)) (by kernel_rfl) (RdInt_calls _ b A c ((((((r.int).2).bytes).2).bytes).2) hok51 H69 F71 hne ) ?_
  rintro _ w72 ⟨rfl, K73, H74⟩
  have hok75 : (((((((r.int).2).bytes).2).bytes).2).int).2.Ok := Rdr.Ok.int hok51
  have hu76 := Rdr.int_range ((((((r.int).2).bytes).2).bytes).2)
  refine ⟨_, _, rfl, rfl, ?_⟩
  have K77 := K68.trans K73 (U := (fun i => i = b)) (fun i h1 h2 => h2) (fun i h1 h2 => by have h2 : i = b := h2; show i = b; omega)
  clear K68
  have H78 := H70.keep K73 (by intro h; change b1 = b at h; omega)
  clear H70
  have H79 := H66.keep K73 (by intro h; change b20 = b at h; omega)
  clear H66
  have F80 := RdO.keep F71 K73 (fun i _ _ hi hs => by have hs : i = b := hs; have := hne i _ _ hi; omega)
  clear F71
  clear K73
  have F81 : RdO w72 A c (((((((r.int).2).bytes).2).bytes).2).int).2.bs := by rw [Rdr.int_bs]; exact F80
  clear F80
  refine Ops.regs 1 [(0, (Value.pointer (some ⟨b, 0, none⟩))), (2, (Value.pointer (some ⟨b1, 0, none⟩))), (3, (Value.pointer (some ⟨b20, 0, none⟩))), (14, (i64 ((((((((r.int).2).bytes).2).bytes).2).int).1))), (15, (Value.pointer (some ⟨b, 0, none⟩)))] (j := 3) (by kernel_rfl) (by kernel_rfl) ?_
  refine Ops.call (by kernel_rfl) (d := (some 16)) (by kernel_rfl) (RdText_calls _ b A c ((((((((r.int).2).bytes).2).bytes).2).int).2) hok75 H74 F81 hne ) ?_
  rintro _ w82 ⟨rfl, K83, H84⟩
  have hok85 : (((((((((r.int).2).bytes).2).bytes).2).int).2).bytes).2.Ok := Rdr.Ok.bytes hok75
  have hu86 := Rdr.bytes_le hok75
  refine ⟨_, _, rfl, rfl, ?_⟩
  have K87 := K77.trans K83 (U := (fun i => i = b)) (fun i h1 h2 => h2) (fun i h1 h2 => by have h2 : i = b := h2; show i = b; omega)
  clear K77
  have H88 := H78.keep K83 (by intro h; change b1 = b at h; omega)
  clear H78
  have H89 := H79.keep K83 (by intro h; change b20 = b at h; omega)
  clear H79
  have F90 := RdO.keep F81 K83 (fun i _ _ hi hs => by have hs : i = b := hs; have := hne i _ _ hi; omega)
  clear F81
  clear K83
  have F91 : RdO w82 A c (((((((((r.int).2).bytes).2).bytes).2).int).2).bytes).2.bs := by rw [Rdr.bytes_bs]; exact F90
  clear F90
  refine Ops.regs 1 [(0, (Value.pointer (some ⟨b, 0, none⟩))), (2, (Value.pointer (some ⟨b1, 0, none⟩))), (3, (Value.pointer (some ⟨b20, 0, none⟩))), (14, (i64 ((((((((r.int).2).bytes).2).bytes).2).int).1))), (16, (Value.string (str (((((((((r.int).2).bytes).2).bytes).2).int).2).bytes).1))), (17, (Value.pointer (some ⟨b20, 3, none⟩)))] (j := 5) (by kernel_rfl) (by kernel_rfl) ?_
  refine Ops.put (t := 2) (b := b20) (off := 3) (v := (i64 ((((((((r.int).2).bytes).2).bytes).2).int).1))) (ys := [(i64 ((r.int).1)), (Value.string (str (((r.int).2).bytes).1)), (Value.string (str (((((r.int).2).bytes).2).bytes).1)), (i64 ((((((((r.int).2).bytes).2).bytes).2).int).1)), (Value.string ByteArray.empty), (i64 0), (i64 0)]) (by kernel_rfl) (by kernel_rfl) H89 (by kernel_rfl) (d := none) (by kernel_rfl) rfl (fun w92 H93 K94 => ?_)
  clear H89
  have K95 := K87.trans K94 (U := (fun i => i = b)) (fun i h1 h2 => h2) (fun i h1 h2 => by have h2 : i = b20 := h2; show i = b; omega)
  clear K87
  have H96 := H84.keep K94 (by intro h; change b = b20 at h; omega)
  clear H84
  have H97 := H88.keep K94 (by intro h; change b1 = b20 at h; omega)
  clear H88
  have F98 := RdO.keep F91 K94 (fun i _ _ hi hs => by have hs : i = b20 := hs; have := ob26 i _ _ hi; omega)
  clear F91
  clear K94
  refine Ops.regs 1 [(0, (Value.pointer (some ⟨b, 0, none⟩))), (2, (Value.pointer (some ⟨b1, 0, none⟩))), (3, (Value.pointer (some ⟨b20, 0, none⟩))), (16, (Value.string (str (((((((((r.int).2).bytes).2).bytes).2).int).2).bytes).1))), (18, (Value.pointer (some ⟨b20, 4, none⟩)))] (j := 7) (by kernel_rfl) (by kernel_rfl) ?_
  refine Ops.put (t := 9) (b := b20) (off := 4) (v := (Value.string (str (((((((((r.int).2).bytes).2).bytes).2).int).2).bytes).1))) (ys := [(i64 ((r.int).1)), (Value.string (str (((r.int).2).bytes).1)), (Value.string (str (((((r.int).2).bytes).2).bytes).1)), (i64 ((((((((r.int).2).bytes).2).bytes).2).int).1)), (Value.string (str (((((((((r.int).2).bytes).2).bytes).2).int).2).bytes).1)), (i64 0), (i64 0)]) (by kernel_rfl) (by kernel_rfl) H93 (by kernel_rfl) (d := none) (by kernel_rfl) rfl (fun w99 H100 K101 => ?_)
  clear H93
  have K102 := K95.trans K101 (U := (fun i => i = b)) (fun i h1 h2 => h2) (fun i h1 h2 => by have h2 : i = b20 := h2; show i = b; omega)
  clear K95
  have H103 := H96.keep K101 (by intro h; change b = b20 at h; omega)
  clear H96
  have H104 := H97.keep K101 (by intro h; change b1 = b20 at h; omega)
  clear H97
  have F105 := RdO.keep F98 K101 (fun i _ _ hi hs => by have hs : i = b20 := hs; have := ob26 i _ _ hi; omega)
  clear F98
  clear K101
  refine Ops.done (by kernel_rfl) ?_
  refine q_seq (by kernel_rfl) ?_
  refine q_region (by kernel_rfl) ?_
  refine Ops.regs 1 [(0, (Value.pointer (some ⟨b, 0, none⟩))), (2, (Value.pointer (some ⟨b1, 0, none⟩))), (3, (Value.pointer (some ⟨b20, 0, none⟩))), (19, (Value.pointer (some ⟨b, 0, none⟩)))] (j := 1) (by kernel_rfl) (by kernel_rfl) ?_
  refine Ops.call (by kernel_rfl) (d := (some 20)) (by kernel_rfl) (RdInt_calls _ b A c ((((((((((r.int).2).bytes).2).bytes).2).int).2).bytes).2) hok85 H103 F105 hne ) ?_
  rintro _ w106 ⟨rfl, K107, H108⟩
  have hok109 : (((((((((((r.int).2).bytes).2).bytes).2).int).2).bytes).2).int).2.Ok := Rdr.Ok.int hok85
  have hu110 := Rdr.int_range ((((((((((r.int).2).bytes).2).bytes).2).int).2).bytes).2)
  refine ⟨_, _, rfl, rfl, ?_⟩
  have K111 := K102.trans K107 (U := (fun i => i = b)) (fun i h1 h2 => h2) (fun i h1 h2 => by have h2 : i = b := h2; show i = b; omega)
  clear K102
  have H112 := H104.keep K107 (by intro h; change b1 = b at h; omega)
  clear H104
  have H113 := H100.keep K107 (by intro h; change b20 = b at h; omega)
  clear H100
  have F114 := RdO.keep F105 K107 (fun i _ _ hi hs => by have hs : i = b := hs; have := hne i _ _ hi; omega)
  clear F105
  clear K107
  have F115 : RdO w106 A c (((((((((((r.int).2).bytes).2).bytes).2).int).2).bytes).2).int).2.bs := by rw [Rdr.int_bs]; exact F114
  clear F114
  refine Ops.regs 1 [(2, (Value.pointer (some ⟨b1, 0, none⟩))), (3, (Value.pointer (some ⟨b20, 0, none⟩))), (20, (i64 ((((((((((((r.int).2).bytes).2).bytes).2).int).2).bytes).2).int).1))), (21, (Value.pointer (some ⟨b, 0, none⟩)))] (j := 3) (by kernel_rfl) (by kernel_rfl) ?_
  refine Ops.call (by kernel_rfl) (d := (some 22)) (by kernel_rfl) (RdInt_calls _ b A c ((((((((((((r.int).2).bytes).2).bytes).2).int).2).bytes).2).int).2) hok109 H108 F115 hne ) ?_
  rintro _ w116 ⟨rfl, K117, H118⟩
  have hok119 : (((((((((((((r.int).2).bytes).2).bytes).2).int).2).bytes).2).int).2).int).2.Ok := Rdr.Ok.int hok109
  have hu120 := Rdr.int_range ((((((((((((r.int).2).bytes).2).bytes).2).int).2).bytes).2).int).2)
  refine ⟨_, _, rfl, rfl, ?_⟩
  have K121 := K111.trans K117 (U := (fun i => i = b)) (fun i h1 h2 => h2) (fun i h1 h2 => by have h2 : i = b := h2; show i = b; omega)
  clear K111
  have H122 := H112.keep K117 (by intro h; change b1 = b at h; omega)
  clear H112
  have H123 := H113.keep K117 (by intro h; change b20 = b at h; omega)
  clear H113
  have F124 := RdO.keep F115 K117 (fun i _ _ hi hs => by have hs : i = b := hs; have := hne i _ _ hi; omega)
  clear F115
  clear K117
  have F125 : RdO w116 A c (((((((((((((r.int).2).bytes).2).bytes).2).int).2).bytes).2).int).2).int).2.bs := by rw [Rdr.int_bs]; exact F124
  clear F124
  refine Ops.regs 1 [(2, (Value.pointer (some ⟨b1, 0, none⟩))), (3, (Value.pointer (some ⟨b20, 0, none⟩))), (20, (i64 ((((((((((((r.int).2).bytes).2).bytes).2).int).2).bytes).2).int).1))), (22, (i64 ((((((((((((((r.int).2).bytes).2).bytes).2).int).2).bytes).2).int).2).int).1))), (23, (Value.pointer (some ⟨b20, 5, none⟩)))] (j := 5) (by kernel_rfl) (by kernel_rfl) ?_
  refine Ops.put (t := 3) (b := b20) (off := 5) (v := (i64 ((((((((((((r.int).2).bytes).2).bytes).2).int).2).bytes).2).int).1))) (ys := [(i64 ((r.int).1)), (Value.string (str (((r.int).2).bytes).1)), (Value.string (str (((((r.int).2).bytes).2).bytes).1)), (i64 ((((((((r.int).2).bytes).2).bytes).2).int).1)), (Value.string (str (((((((((r.int).2).bytes).2).bytes).2).int).2).bytes).1)), (i64 ((((((((((((r.int).2).bytes).2).bytes).2).int).2).bytes).2).int).1)), (i64 0)]) (by kernel_rfl) (by kernel_rfl) H123 (by kernel_rfl) (d := none) (by kernel_rfl) rfl (fun w126 H127 K128 => ?_)
  clear H123
  have K129 := K121.trans K128 (U := (fun i => i = b)) (fun i h1 h2 => h2) (fun i h1 h2 => by have h2 : i = b20 := h2; show i = b; omega)
  clear K121
  have H130 := H118.keep K128 (by intro h; change b = b20 at h; omega)
  clear H118
  have H131 := H122.keep K128 (by intro h; change b1 = b20 at h; omega)
  clear H122
  have F132 := RdO.keep F125 K128 (fun i _ _ hi hs => by have hs : i = b20 := hs; have := ob26 i _ _ hi; omega)
  clear F125
  clear K128
  refine Ops.regs 1 [(2, (Value.pointer (some ⟨b1, 0, none⟩))), (3, (Value.pointer (some ⟨b20, 0, none⟩))), (22, (i64 ((((((((((((((r.int).2).bytes).2).bytes).2).int).2).bytes).2).int).2).int).1))), (24, (Value.pointer (some ⟨b20, 6, none⟩)))] (j := 7) (by kernel_rfl) (by kernel_rfl) ?_
  refine Ops.put (t := 3) (b := b20) (off := 6) (v := (i64 ((((((((((((((r.int).2).bytes).2).bytes).2).int).2).bytes).2).int).2).int).1))) (ys := [(i64 ((r.int).1)), (Value.string (str (((r.int).2).bytes).1)), (Value.string (str (((((r.int).2).bytes).2).bytes).1)), (i64 ((((((((r.int).2).bytes).2).bytes).2).int).1)), (Value.string (str (((((((((r.int).2).bytes).2).bytes).2).int).2).bytes).1)), (i64 ((((((((((((r.int).2).bytes).2).bytes).2).int).2).bytes).2).int).1)), (i64 ((((((((((((((r.int).2).bytes).2).bytes).2).int).2).bytes).2).int).2).int).1))]) (by kernel_rfl) (by kernel_rfl) H127 (by kernel_rfl) (d := none) (by kernel_rfl) rfl (fun w133 H134 K135 => ?_)
  clear H127
  have K136 := K129.trans K135 (U := (fun i => i = b)) (fun i h1 h2 => h2) (fun i h1 h2 => by have h2 : i = b20 := h2; show i = b; omega)
  clear K129
  have H137 := H130.keep K135 (by intro h; change b = b20 at h; omega)
  clear H130
  have H138 := H131.keep K135 (by intro h; change b1 = b20 at h; omega)
  clear H131
  have F139 := RdO.keep F132 K135 (fun i _ _ hi hs => by have hs : i = b20 := hs; have := ob26 i _ _ hi; omega)
  clear F132
  clear K135
  refine Ops.done (by kernel_rfl) ?_
  refine q_seq (by kernel_rfl) ?_
  refine q_region (by kernel_rfl) ?_
  refine Ops.go (v := (agg [(i64 ((r.int).1)), (Value.string (str (((r.int).2).bytes).1)), (Value.string (str (((((r.int).2).bytes).2).bytes).1)), (i64 ((((((((r.int).2).bytes).2).bytes).2).int).1)), (Value.string (str (((((((((r.int).2).bytes).2).bytes).2).int).2).bytes).1)), (i64 ((((((((((((r.int).2).bytes).2).bytes).2).int).2).bytes).2).int).1)), (i64 ((((((((((((((r.int).2).bytes).2).bytes).2).int).2).bytes).2).int).2).int).1))])) (by kernel_rfl) (Runs.load (t := 43) (a := ⟨b20, 0, none⟩) (by kernel_rfl) (H134.loads (by kernel_rfl))) (d := (some 25)) (by kernel_rfl) rfl ?_
  refine Ops.put (t := 43) (b := b1) (off := 0) (v := (agg [(i64 ((r.int).1)), (Value.string (str (((r.int).2).bytes).1)), (Value.string (str (((((r.int).2).bytes).2).bytes).1)), (i64 ((((((((r.int).2).bytes).2).bytes).2).int).1)), (Value.string (str (((((((((r.int).2).bytes).2).bytes).2).int).2).bytes).1)), (i64 ((((((((((((r.int).2).bytes).2).bytes).2).int).2).bytes).2).int).1)), (i64 ((((((((((((((r.int).2).bytes).2).bytes).2).int).2).bytes).2).int).2).int).1))])) (ys := [(i64 ((r.int).1)), (Value.string (str (((r.int).2).bytes).1)), (Value.string (str (((((r.int).2).bytes).2).bytes).1)), (i64 ((((((((r.int).2).bytes).2).bytes).2).int).1)), (Value.string (str (((((((((r.int).2).bytes).2).bytes).2).int).2).bytes).1)), (i64 ((((((((((((r.int).2).bytes).2).bytes).2).int).2).bytes).2).int).1)), (i64 ((((((((((((((r.int).2).bytes).2).bytes).2).int).2).bytes).2).int).2).int).1))]) (by kernel_rfl) (by kernel_rfl) H138 (by kernel_rfl) (d := none) (by kernel_rfl) rfl (fun w140 H141 K142 => ?_)
  clear H138
  have K143 := K136.trans K142 (U := (fun i => i = b)) (fun i h1 h2 => h2) (fun i h1 h2 => by have h2 : i = b1 := h2; show i = b; omega)
  clear K136
  have H144 := H137.keep K142 (by intro h; change b = b1 at h; omega)
  clear H137
  have H145 := H134.keep K142 (by intro h; change b20 = b1 at h; omega)
  clear H134
  have F146 := RdO.keep F139 K142 (fun i _ _ hi hs => by have hs : i = b1 := hs; have := ob7 i _ _ hi; omega)
  clear F139
  clear K142
  refine Ops.done (by kernel_rfl) ?_
  refine q_ret (by kernel_rfl) ?_
  refine ⟨(agg [(i64 ((r.int).1)), (Value.string (str (((r.int).2).bytes).1)), (Value.string (str (((((r.int).2).bytes).2).bytes).1)), (i64 ((((((((r.int).2).bytes).2).bytes).2).int).1)), (Value.string (str (((((((((r.int).2).bytes).2).bytes).2).int).2).bytes).1)), (i64 ((((((((((((r.int).2).bytes).2).bytes).2).int).2).bytes).2).int).1)), (i64 ((((((((((((((r.int).2).bytes).2).bytes).2).int).2).bytes).2).int).2).int).1))]), retv_cell rfl rfl (H141.loads (by kernel_rfl)), ?_⟩
  exact ⟨rfl, K143, H144⟩

theorem RGetOp_calls (w : World) (b : Nat) (A : Option Addr) (c : Nat) (r : Rdr) (hok : r.Ok) (H0 : Has w b (rowL (rdrL A c r) 72)) (hR : RdO w A c r.bs) (hne : ∀ g o s, A = some ⟨g, o, s⟩ → g ≠ b) : Calls Try.prog 74 ⟨[(Value.pointer (some ⟨b, 0, none⟩))]⟩ w (fun e w' => e = .returned (agg r.op.1.cells) ∧ Keeps (fun i => i = b) w w' ∧ Has w' b (rowL (rdrL A c (r.op).2) 72)) := by
  have hpos := hok.pos
  have hlen := hok.len
  have hsc := r.scan_le
  have hdl : (r.bs.drop r.pos).length = r.bs.length - r.pos := List.length_drop
  have hcap := hR.1.slice
  have Hb := H0.lt
  have K0 : Keeps (fun i => i = b) w w := (Keeps.refl w).mono (fun _ _ h => h.elim)
  refine q_calls Try.func74 (by kernel_rfl) (by kernel_rfl) ?_
  refine q_seq (by kernel_rfl) ?_
  refine q_region (by kernel_rfl) ?_
  refine Ops.new (o := rowL [(i64 0), (Value.string ByteArray.empty), (Value.string ByteArray.empty), (i64 0), (Value.string ByteArray.empty), (i64 0), (i64 0)] 43) (V := fun b => (Value.pointer (some ⟨b, 0, none⟩))) (by kernel_rfl) (d := (some 2)) (by kernel_rfl) (fun b => rfl) (fun b1 w2 hb3 H4 K5 hs6 => ?_)
  have lb1 : b < b1 := by have := H0.lt; omega
  have nb1 : w.heap.size ≤ b1 := by have := K0.size; omega
  have ob7 : ∀ i o s, A = some ⟨i, o, s⟩ → i ≠ b1 := fun i o s hi => by have := hR.2 i o s hi; omega
  have K8 := K0.trans K5 (U := (fun i => i = b)) (fun i h1 h2 => h2) (fun i h1 h2 => by exact h2.elim)
  clear K0
  have H9 := H0.keep K5 (fun h => h)
  clear H0
  have F10 := RdO.keep0 hR K5
  clear hR
  clear K5 hs6
  refine Ops.done (by kernel_rfl) ?_
  refine q_seq (by kernel_rfl) ?_
  refine q_region (by kernel_rfl) ?_
  refine Ops.new (o := rowL [(i64 0), (Value.string ByteArray.empty), (Value.string ByteArray.empty), (i64 0), (Value.string ByteArray.empty), (i64 0), (i64 0)] 43) (V := fun b => (Value.pointer (some ⟨b, 0, none⟩))) (by kernel_rfl) (d := (some 3)) (by kernel_rfl) (fun b => rfl) (fun b11 w12 hb13 H14 K15 hs16 => ?_)
  have lb11 : b1 < b11 := by have := H4.lt; omega
  have nb11 : w.heap.size ≤ b11 := by have := K8.size; omega
  have ob17 : ∀ i o s, A = some ⟨i, o, s⟩ → i ≠ b11 := fun i o s hi => by have := F10.2 i o s hi; omega
  have K18 := K8.trans K15 (U := (fun i => i = b)) (fun i h1 h2 => h2) (fun i h1 h2 => by exact h2.elim)
  clear K8
  have H19 := H9.keep K15 (fun h => h)
  clear H9
  have H20 := H4.keep K15 (fun h => h)
  clear H4
  have F21 := RdO.keep0 F10 K15
  clear F10
  clear K15 hs16
  refine Ops.done (by kernel_rfl) ?_
  refine q_seq (by kernel_rfl) ?_
  refine q_region (by kernel_rfl) ?_
  refine Ops.regs 1 [(0, (Value.pointer (some ⟨b, 0, none⟩))), (2, (Value.pointer (some ⟨b1, 0, none⟩))), (3, (Value.pointer (some ⟨b11, 0, none⟩))), (4, (Value.pointer (some ⟨b, 0, none⟩)))] (j := 1) (by kernel_rfl) (by kernel_rfl) ?_
  refine Ops.call (by kernel_rfl) (d := (some 5)) (by kernel_rfl) (RRInt_calls _ b A c r hok H19 F21 hne ) ?_
  rintro _ w22 ⟨rfl, K23, H24⟩
  have hok25 : (r.int).2.Ok := Rdr.Ok.int hok
  have hu26 := Rdr.int_range r
  refine ⟨_, _, rfl, rfl, ?_⟩
  have K27 := K18.trans K23 (U := (fun i => i = b)) (fun i h1 h2 => h2) (fun i h1 h2 => by have h2 : i = b := h2; show i = b; omega)
  clear K18
  have H28 := H20.keep K23 (by intro h; change b1 = b at h; omega)
  clear H20
  have H29 := H14.keep K23 (by intro h; change b11 = b at h; omega)
  clear H14
  have F30 := RdO.keep F21 K23 (fun i _ _ hi hs => by have hs : i = b := hs; have := hne i _ _ hi; omega)
  clear F21
  clear K23
  have F31 : RdO w22 A c (r.int).2.bs := by rw [Rdr.int_bs]; exact F30
  clear F30
  refine Ops.regs 1 [(0, (Value.pointer (some ⟨b, 0, none⟩))), (2, (Value.pointer (some ⟨b1, 0, none⟩))), (3, (Value.pointer (some ⟨b11, 0, none⟩))), (5, (i64 ((r.int).1))), (6, (Value.pointer (some ⟨b11, 0, none⟩)))] (j := 3) (by kernel_rfl) (by kernel_rfl) ?_
  refine Ops.put (t := 3) (b := b11) (off := 0) (v := (i64 ((r.int).1))) (ys := [(i64 ((r.int).1)), (Value.string ByteArray.empty), (Value.string ByteArray.empty), (i64 0), (Value.string ByteArray.empty), (i64 0), (i64 0)]) (by kernel_rfl) (by kernel_rfl) H29 (by kernel_rfl) (d := none) (by kernel_rfl) rfl (fun w32 H33 K34 => ?_)
  clear H29
  have K35 := K27.trans K34 (U := (fun i => i = b)) (fun i h1 h2 => h2) (fun i h1 h2 => by have h2 : i = b11 := h2; show i = b; omega)
  clear K27
  have H36 := H24.keep K34 (by intro h; change b = b11 at h; omega)
  clear H24
  have H37 := H28.keep K34 (by intro h; change b1 = b11 at h; omega)
  clear H28
  have F38 := RdO.keep F31 K34 (fun i _ _ hi hs => by have hs : i = b11 := hs; have := ob17 i _ _ hi; omega)
  clear F31
  clear K34
  refine Ops.done (by kernel_rfl) ?_
  refine q_seq (by kernel_rfl) ?_
  refine q_region (by kernel_rfl) ?_
  refine Ops.regs 1 [(0, (Value.pointer (some ⟨b, 0, none⟩))), (2, (Value.pointer (some ⟨b1, 0, none⟩))), (3, (Value.pointer (some ⟨b11, 0, none⟩))), (7, (Value.pointer (some ⟨b, 0, none⟩)))] (j := 1) (by kernel_rfl) (by kernel_rfl) ?_
  refine Ops.call (by kernel_rfl) (d := (some 8)) (by kernel_rfl) (RRText_calls _ b A c ((r.int).2) hok25 H36 F38 hne ) ?_
  rintro _ w39 ⟨rfl, K40, H41⟩
  have hok42 : (((r.int).2).bytes).2.Ok := Rdr.Ok.bytes hok25
  have hu43 := Rdr.bytes_le hok25
  refine ⟨_, _, rfl, rfl, ?_⟩
  have K44 := K35.trans K40 (U := (fun i => i = b)) (fun i h1 h2 => h2) (fun i h1 h2 => by have h2 : i = b := h2; show i = b; omega)
  clear K35
  have H45 := H37.keep K40 (by intro h; change b1 = b at h; omega)
  clear H37
  have H46 := H33.keep K40 (by intro h; change b11 = b at h; omega)
  clear H33
  have F47 := RdO.keep F38 K40 (fun i _ _ hi hs => by have hs : i = b := hs; have := hne i _ _ hi; omega)
  clear F38
  clear K40
  have F48 : RdO w39 A c (((r.int).2).bytes).2.bs := by rw [Rdr.bytes_bs]; exact F47
  clear F47
  refine Ops.regs 1 [(0, (Value.pointer (some ⟨b, 0, none⟩))), (2, (Value.pointer (some ⟨b1, 0, none⟩))), (3, (Value.pointer (some ⟨b11, 0, none⟩))), (8, (Value.string (str (((r.int).2).bytes).1))), (9, (Value.pointer (some ⟨b11, 1, none⟩)))] (j := 3) (by kernel_rfl) (by kernel_rfl) ?_
  refine Ops.put (t := 9) (b := b11) (off := 1) (v := (Value.string (str (((r.int).2).bytes).1))) (ys := [(i64 ((r.int).1)), (Value.string (str (((r.int).2).bytes).1)), (Value.string ByteArray.empty), (i64 0), (Value.string ByteArray.empty), (i64 0), (i64 0)]) (by kernel_rfl) (by kernel_rfl) H46 (by kernel_rfl) (d := none) (by kernel_rfl) rfl (fun w49 H50 K51 => ?_)
  clear H46
  have K52 := K44.trans K51 (U := (fun i => i = b)) (fun i h1 h2 => h2) (fun i h1 h2 => by have h2 : i = b11 := h2; show i = b; omega)
  clear K44
  have H53 := H41.keep K51 (by intro h; change b = b11 at h; omega)
  clear H41
  have H54 := H45.keep K51 (by intro h; change b1 = b11 at h; omega)
  clear H45
  have F55 := RdO.keep F48 K51 (fun i _ _ hi hs => by have hs : i = b11 := hs; have := ob17 i _ _ hi; omega)
  clear F48
  clear K51
  refine Ops.done (by kernel_rfl) ?_
  refine q_seq (by kernel_rfl) ?_
  refine q_region (by kernel_rfl) ?_
  refine Ops.regs 1 [(0, (Value.pointer (some ⟨b, 0, none⟩))), (2, (Value.pointer (some ⟨b1, 0, none⟩))), (3, (Value.pointer (some ⟨b11, 0, none⟩))), (10, (Value.pointer (some ⟨b, 0, none⟩)))] (j := 1) (by kernel_rfl) (by kernel_rfl) ?_
  refine Ops.call (by kernel_rfl) (d := (some 11)) (by kernel_rfl) (RRText_calls _ b A c ((((r.int).2).bytes).2) hok42 H53 F55 hne ) ?_
  rintro _ w56 ⟨rfl, K57, H58⟩
  have hok59 : (((((r.int).2).bytes).2).bytes).2.Ok := Rdr.Ok.bytes hok42
  have hu60 := Rdr.bytes_le hok42
  refine ⟨_, _, rfl, rfl, ?_⟩
  have K61 := K52.trans K57 (U := (fun i => i = b)) (fun i h1 h2 => h2) (fun i h1 h2 => by have h2 : i = b := h2; show i = b; omega)
  clear K52
  have H62 := H54.keep K57 (by intro h; change b1 = b at h; omega)
  clear H54
  have H63 := H50.keep K57 (by intro h; change b11 = b at h; omega)
  clear H50
  have F64 := RdO.keep F55 K57 (fun i _ _ hi hs => by have hs : i = b := hs; have := hne i _ _ hi; omega)
  clear F55
  clear K57
  have F65 : RdO w56 A c (((((r.int).2).bytes).2).bytes).2.bs := by rw [Rdr.bytes_bs]; exact F64
  clear F64
  refine Ops.regs 1 [(0, (Value.pointer (some ⟨b, 0, none⟩))), (2, (Value.pointer (some ⟨b1, 0, none⟩))), (3, (Value.pointer (some ⟨b11, 0, none⟩))), (11, (Value.string (str (((((r.int).2).bytes).2).bytes).1))), (12, (Value.pointer (some ⟨b11, 2, none⟩)))] (j := 3) (by kernel_rfl) (by kernel_rfl) ?_
  refine Ops.put (t := 9) (b := b11) (off := 2) (v := (Value.string (str (((((r.int).2).bytes).2).bytes).1))) (ys := [(i64 ((r.int).1)), (Value.string (str (((r.int).2).bytes).1)), (Value.string (str (((((r.int).2).bytes).2).bytes).1)), (i64 0), (Value.string ByteArray.empty), (i64 0), (i64 0)]) (by kernel_rfl) (by kernel_rfl) H63 (by kernel_rfl) (d := none) (by kernel_rfl) rfl (fun w66 H67 K68 => ?_)
  clear H63
  have K69 := K61.trans K68 (U := (fun i => i = b)) (fun i h1 h2 => h2) (fun i h1 h2 => by have h2 : i = b11 := h2; show i = b; omega)
  clear K61
  have H70 := H58.keep K68 (by intro h; change b = b11 at h; omega)
  clear H58
  have H71 := H62.keep K68 (by intro h; change b1 = b11 at h; omega)
  clear H62
  have F72 := RdO.keep F65 K68 (fun i _ _ hi hs => by have hs : i = b11 := hs; have := ob17 i _ _ hi; omega)
  clear F65
  clear K68
  refine Ops.done (by kernel_rfl) ?_
  refine q_seq (by kernel_rfl) ?_
  refine q_region (by kernel_rfl) ?_
  refine Ops.regs 1 [(0, (Value.pointer (some ⟨b, 0, none⟩))), (2, (Value.pointer (some ⟨b1, 0, none⟩))), (3, (Value.pointer (some ⟨b11, 0, none⟩))), (13, (Value.pointer (some ⟨b, 0, none⟩)))] (j := 1) (by kernel_rfl) (by kernel_rfl) ?_
  refine Ops.call (by kernel_rfl) (d := (some 14)) (by kernel_rfl) (RRInt_calls _ b A c ((((((r.int).2).bytes).2).bytes).2) hok59 H70 F72 hne ) ?_
  rintro _ w73 ⟨rfl, K74, H75⟩
  have hok76 : (((((((r.int).2).bytes).2).bytes).2).int).2.Ok := Rdr.Ok.int hok59
  have hu77 := Rdr.int_range ((((((r.int).2).bytes).2).bytes).2)
  refine ⟨_, _, rfl, rfl, ?_⟩
  have K78 := K69.trans K74 (U := (fun i => i = b)) (fun i h1 h2 => h2) (fun i h1 h2 => by have h2 : i = b := h2; show i = b; omega)
  clear K69
  have H79 := H71.keep K74 (by intro h; change b1 = b at h; omega)
  clear H71
  have H80 := H67.keep K74 (by intro h; change b11 = b at h; omega)
  clear H67
  have F81 := RdO.keep F72 K74 (fun i _ _ hi hs => by have hs : i = b := hs; have := hne i _ _ hi; omega)
  clear F72
  clear K74
  have F82 : RdO w73 A c (((((((r.int).2).bytes).2).bytes).2).int).2.bs := by rw [Rdr.int_bs]; exact F81
  clear F81
  refine Ops.regs 1 [(0, (Value.pointer (some ⟨b, 0, none⟩))), (2, (Value.pointer (some ⟨b1, 0, none⟩))), (3, (Value.pointer (some ⟨b11, 0, none⟩))), (14, (i64 ((((((((r.int).2).bytes).2).bytes).2).int).1))), (15, (Value.pointer (some ⟨b11, 3, none⟩)))] (j := 3) (by kernel_rfl) (by kernel_rfl) ?_
  refine Ops.put (t := 2) (b := b11) (off := 3) (v := (i64 ((((((((r.int).2).bytes).2).bytes).2).int).1))) (ys := [(i64 ((r.int).1)), (Value.string (str (((r.int).2).bytes).1)), (Value.string (str (((((r.int).2).bytes).2).bytes).1)), (i64 ((((((((r.int).2).bytes).2).bytes).2).int).1)), (Value.string ByteArray.empty), (i64 0), (i64 0)]) (by kernel_rfl) (by kernel_rfl) H80 (by kernel_rfl) (d := none) (by kernel_rfl) rfl (fun w83 H84 K85 => ?_)
  clear H80
  have K86 := K78.trans K85 (U := (fun i => i = b)) (fun i h1 h2 => h2) (fun i h1 h2 => by have h2 : i = b11 := h2; show i = b; omega)
  clear K78
  have H87 := H75.keep K85 (by intro h; change b = b11 at h; omega)
  clear H75
  have H88 := H79.keep K85 (by intro h; change b1 = b11 at h; omega)
  clear H79
  have F89 := RdO.keep F82 K85 (fun i _ _ hi hs => by have hs : i = b11 := hs; have := ob17 i _ _ hi; omega)
  clear F82
  clear K85
  refine Ops.done (by kernel_rfl) ?_
  refine q_seq (by kernel_rfl) ?_
  refine q_region (by kernel_rfl) ?_
  refine Ops.regs 1 [(0, (Value.pointer (some ⟨b, 0, none⟩))), (2, (Value.pointer (some ⟨b1, 0, none⟩))), (3, (Value.pointer (some ⟨b11, 0, none⟩))), (16, (Value.pointer (some ⟨b, 0, none⟩)))] (j := 1) (by kernel_rfl) (by kernel_rfl) ?_
  refine Ops.call (by kernel_rfl) (d := (some 17)) (by kernel_rfl) (RRText_calls _ b A c ((((((((r.int).2).bytes).2).bytes).2).int).2) hok76 H87 F89 hne ) ?_
  rintro _ w90 ⟨rfl, K91, H92⟩
  have hok93 : (((((((((r.int).2).bytes).2).bytes).2).int).2).bytes).2.Ok := Rdr.Ok.bytes hok76
  have hu94 := Rdr.bytes_le hok76
  refine ⟨_, _, rfl, rfl, ?_⟩
  have K95 := K86.trans K91 (U := (fun i => i = b)) (fun i h1 h2 => h2) (fun i h1 h2 => by have h2 : i = b := h2; show i = b; omega)
  clear K86
  have H96 := H88.keep K91 (by intro h; change b1 = b at h; omega)
  clear H88
  have H97 := H84.keep K91 (by intro h; change b11 = b at h; omega)
  clear H84
  have F98 := RdO.keep F89 K91 (fun i _ _ hi hs => by have hs : i = b := hs; have := hne i _ _ hi; omega)
  clear F89
  clear K91
  have F99 : RdO w90 A c (((((((((r.int).2).bytes).2).bytes).2).int).2).bytes).2.bs := by rw [Rdr.bytes_bs]; exact F98
  clear F98
  refine Ops.regs 1 [(0, (Value.pointer (some ⟨b, 0, none⟩))), (2, (Value.pointer (some ⟨b1, 0, none⟩))), (3, (Value.pointer (some ⟨b11, 0, none⟩))), (17, (Value.string (str (((((((((r.int).2).bytes).2).bytes).2).int).2).bytes).1))), (18, (Value.pointer (some ⟨b11, 4, none⟩)))] (j := 3) (by kernel_rfl) (by kernel_rfl) ?_
  refine Ops.put (t := 9) (b := b11) (off := 4) (v := (Value.string (str (((((((((r.int).2).bytes).2).bytes).2).int).2).bytes).1))) (ys := [(i64 ((r.int).1)), (Value.string (str (((r.int).2).bytes).1)), (Value.string (str (((((r.int).2).bytes).2).bytes).1)), (i64 ((((((((r.int).2).bytes).2).bytes).2).int).1)), (Value.string (str (((((((((r.int).2).bytes).2).bytes).2).int).2).bytes).1)), (i64 0), (i64 0)]) (by kernel_rfl) (by kernel_rfl) H97 (by kernel_rfl) (d := none) (by kernel_rfl) rfl (fun w100 H101 K102 => ?_)
  clear H97
  have K103 := K95.trans K102 (U := (fun i => i = b)) (fun i h1 h2 => h2) (fun i h1 h2 => by have h2 : i = b11 := h2; show i = b; omega)
  clear K95
  have H104 := H92.keep K102 (by intro h; change b = b11 at h; omega)
  clear H92
  have H105 := H96.keep K102 (by intro h; change b1 = b11 at h; omega)
  clear H96
  have F106 := RdO.keep F99 K102 (fun i _ _ hi hs => by have hs : i = b11 := hs; have := ob17 i _ _ hi; omega)
  clear F99
  clear K102
  refine Ops.done (by kernel_rfl) ?_
  refine q_seq (by kernel_rfl) ?_
  refine q_region (by kernel_rfl) ?_
  refine Ops.regs 1 [(0, (Value.pointer (some ⟨b, 0, none⟩))), (2, (Value.pointer (some ⟨b1, 0, none⟩))), (3, (Value.pointer (some ⟨b11, 0, none⟩))), (19, (Value.pointer (some ⟨b, 0, none⟩)))] (j := 1) (by kernel_rfl) (by kernel_rfl) ?_
  refine Ops.call (by kernel_rfl) (d := (some 20)) (by kernel_rfl) (RRInt_calls _ b A c ((((((((((r.int).2).bytes).2).bytes).2).int).2).bytes).2) hok93 H104 F106 hne ) ?_
  rintro _ w107 ⟨rfl, K108, H109⟩
  have hok110 : (((((((((((r.int).2).bytes).2).bytes).2).int).2).bytes).2).int).2.Ok := Rdr.Ok.int hok93
  have hu111 := Rdr.int_range ((((((((((r.int).2).bytes).2).bytes).2).int).2).bytes).2)
  refine ⟨_, _, rfl, rfl, ?_⟩
  have K112 := K103.trans K108 (U := (fun i => i = b)) (fun i h1 h2 => h2) (fun i h1 h2 => by have h2 : i = b := h2; show i = b; omega)
  clear K103
  have H113 := H105.keep K108 (by intro h; change b1 = b at h; omega)
  clear H105
  have H114 := H101.keep K108 (by intro h; change b11 = b at h; omega)
  clear H101
  have F115 := RdO.keep F106 K108 (fun i _ _ hi hs => by have hs : i = b := hs; have := hne i _ _ hi; omega)
  clear F106
  clear K108
  have F116 : RdO w107 A c (((((((((((r.int).2).bytes).2).bytes).2).int).2).bytes).2).int).2.bs := by rw [Rdr.int_bs]; exact F115
  clear F115
  refine Ops.regs 1 [(0, (Value.pointer (some ⟨b, 0, none⟩))), (2, (Value.pointer (some ⟨b1, 0, none⟩))), (3, (Value.pointer (some ⟨b11, 0, none⟩))), (20, (i64 ((((((((((((r.int).2).bytes).2).bytes).2).int).2).bytes).2).int).1))), (21, (Value.pointer (some ⟨b11, 5, none⟩)))] (j := 3) (by kernel_rfl) (by kernel_rfl) ?_
  refine Ops.put (t := 3) (b := b11) (off := 5) (v := (i64 ((((((((((((r.int).2).bytes).2).bytes).2).int).2).bytes).2).int).1))) (ys := [(i64 ((r.int).1)), (Value.string (str (((r.int).2).bytes).1)), (Value.string (str (((((r.int).2).bytes).2).bytes).1)), (i64 ((((((((r.int).2).bytes).2).bytes).2).int).1)), (Value.string (str (((((((((r.int).2).bytes).2).bytes).2).int).2).bytes).1)), (i64 ((((((((((((r.int).2).bytes).2).bytes).2).int).2).bytes).2).int).1)), (i64 0)]) (by kernel_rfl) (by kernel_rfl) H114 (by kernel_rfl) (d := none) (by kernel_rfl) rfl (fun w117 H118 K119 => ?_)
  clear H114
  have K120 := K112.trans K119 (U := (fun i => i = b)) (fun i h1 h2 => h2) (fun i h1 h2 => by have h2 : i = b11 := h2; show i = b; omega)
  clear K112
  have H121 := H109.keep K119 (by intro h; change b = b11 at h; omega)
  clear H109
  have H122 := H113.keep K119 (by intro h; change b1 = b11 at h; omega)
  clear H113
  have F123 := RdO.keep F116 K119 (fun i _ _ hi hs => by have hs : i = b11 := hs; have := ob17 i _ _ hi; omega)
  clear F116
  clear K119
  refine Ops.done (by kernel_rfl) ?_
  refine q_seq (by kernel_rfl) ?_
  refine q_region (by kernel_rfl) ?_
  refine Ops.regs 1 [(2, (Value.pointer (some ⟨b1, 0, none⟩))), (3, (Value.pointer (some ⟨b11, 0, none⟩))), (22, (Value.pointer (some ⟨b, 0, none⟩)))] (j := 1) (by kernel_rfl) (by kernel_rfl) ?_
  refine Ops.call (by kernel_rfl) (d := (some 23)) (by kernel_rfl) (RRInt_calls _ b A c ((((((((((((r.int).2).bytes).2).bytes).2).int).2).bytes).2).int).2) hok110 H121 F123 hne ) ?_
  rintro _ w124 ⟨rfl, K125, H126⟩
  have hok127 : (((((((((((((r.int).2).bytes).2).bytes).2).int).2).bytes).2).int).2).int).2.Ok := Rdr.Ok.int hok110
  have hu128 := Rdr.int_range ((((((((((((r.int).2).bytes).2).bytes).2).int).2).bytes).2).int).2)
  refine ⟨_, _, rfl, rfl, ?_⟩
  have K129 := K120.trans K125 (U := (fun i => i = b)) (fun i h1 h2 => h2) (fun i h1 h2 => by have h2 : i = b := h2; show i = b; omega)
  clear K120
  have H130 := H122.keep K125 (by intro h; change b1 = b at h; omega)
  clear H122
  have H131 := H118.keep K125 (by intro h; change b11 = b at h; omega)
  clear H118
  have F132 := RdO.keep F123 K125 (fun i _ _ hi hs => by have hs : i = b := hs; have := hne i _ _ hi; omega)
  clear F123
  clear K125
  have F133 : RdO w124 A c (((((((((((((r.int).2).bytes).2).bytes).2).int).2).bytes).2).int).2).int).2.bs := by rw [Rdr.int_bs]; exact F132
  clear F132
  refine Ops.regs 1 [(2, (Value.pointer (some ⟨b1, 0, none⟩))), (3, (Value.pointer (some ⟨b11, 0, none⟩))), (23, (i64 ((((((((((((((r.int).2).bytes).2).bytes).2).int).2).bytes).2).int).2).int).1))), (24, (Value.pointer (some ⟨b11, 6, none⟩)))] (j := 3) (by kernel_rfl) (by kernel_rfl) ?_
  refine Ops.put (t := 3) (b := b11) (off := 6) (v := (i64 ((((((((((((((r.int).2).bytes).2).bytes).2).int).2).bytes).2).int).2).int).1))) (ys := [(i64 ((r.int).1)), (Value.string (str (((r.int).2).bytes).1)), (Value.string (str (((((r.int).2).bytes).2).bytes).1)), (i64 ((((((((r.int).2).bytes).2).bytes).2).int).1)), (Value.string (str (((((((((r.int).2).bytes).2).bytes).2).int).2).bytes).1)), (i64 ((((((((((((r.int).2).bytes).2).bytes).2).int).2).bytes).2).int).1)), (i64 ((((((((((((((r.int).2).bytes).2).bytes).2).int).2).bytes).2).int).2).int).1))]) (by kernel_rfl) (by kernel_rfl) H131 (by kernel_rfl) (d := none) (by kernel_rfl) rfl (fun w134 H135 K136 => ?_)
  clear H131
  have K137 := K129.trans K136 (U := (fun i => i = b)) (fun i h1 h2 => h2) (fun i h1 h2 => by have h2 : i = b11 := h2; show i = b; omega)
  clear K129
  have H138 := H126.keep K136 (by intro h; change b = b11 at h; omega)
  clear H126
  have H139 := H130.keep K136 (by intro h; change b1 = b11 at h; omega)
  clear H130
  have F140 := RdO.keep F133 K136 (fun i _ _ hi hs => by have hs : i = b11 := hs; have := ob17 i _ _ hi; omega)
  clear F133
  clear K136
  refine Ops.done (by kernel_rfl) ?_
  refine q_seq (by kernel_rfl) ?_
  refine q_region (by kernel_rfl) ?_
  refine Ops.go (v := (agg [(i64 ((r.int).1)), (Value.string (str (((r.int).2).bytes).1)), (Value.string (str (((((r.int).2).bytes).2).bytes).1)), (i64 ((((((((r.int).2).bytes).2).bytes).2).int).1)), (Value.string (str (((((((((r.int).2).bytes).2).bytes).2).int).2).bytes).1)), (i64 ((((((((((((r.int).2).bytes).2).bytes).2).int).2).bytes).2).int).1)), (i64 ((((((((((((((r.int).2).bytes).2).bytes).2).int).2).bytes).2).int).2).int).1))])) (by kernel_rfl) (Runs.load (t := 43) (a := ⟨b11, 0, none⟩) (by kernel_rfl) (H135.loads (by kernel_rfl))) (d := (some 25)) (by kernel_rfl) rfl ?_
  refine Ops.put (t := 43) (b := b1) (off := 0) (v := (agg [(i64 ((r.int).1)), (Value.string (str (((r.int).2).bytes).1)), (Value.string (str (((((r.int).2).bytes).2).bytes).1)), (i64 ((((((((r.int).2).bytes).2).bytes).2).int).1)), (Value.string (str (((((((((r.int).2).bytes).2).bytes).2).int).2).bytes).1)), (i64 ((((((((((((r.int).2).bytes).2).bytes).2).int).2).bytes).2).int).1)), (i64 ((((((((((((((r.int).2).bytes).2).bytes).2).int).2).bytes).2).int).2).int).1))])) (ys := [(i64 ((r.int).1)), (Value.string (str (((r.int).2).bytes).1)), (Value.string (str (((((r.int).2).bytes).2).bytes).1)), (i64 ((((((((r.int).2).bytes).2).bytes).2).int).1)), (Value.string (str (((((((((r.int).2).bytes).2).bytes).2).int).2).bytes).1)), (i64 ((((((((((((r.int).2).bytes).2).bytes).2).int).2).bytes).2).int).1)), (i64 ((((((((((((((r.int).2).bytes).2).bytes).2).int).2).bytes).2).int).2).int).1))]) (by kernel_rfl) (by kernel_rfl) H139 (by kernel_rfl) (d := none) (by kernel_rfl) rfl (fun w141 H142 K143 => ?_)
  clear H139
  have K144 := K137.trans K143 (U := (fun i => i = b)) (fun i h1 h2 => h2) (fun i h1 h2 => by have h2 : i = b1 := h2; show i = b; omega)
  clear K137
  have H145 := H138.keep K143 (by intro h; change b = b1 at h; omega)
  clear H138
  have H146 := H135.keep K143 (by intro h; change b11 = b1 at h; omega)
  clear H135
  have F147 := RdO.keep F140 K143 (fun i _ _ hi hs => by have hs : i = b1 := hs; have := ob7 i _ _ hi; omega)
  clear F140
  clear K143
  refine Ops.done (by kernel_rfl) ?_
  refine q_ret (by kernel_rfl) ?_
  refine ⟨(agg [(i64 ((r.int).1)), (Value.string (str (((r.int).2).bytes).1)), (Value.string (str (((((r.int).2).bytes).2).bytes).1)), (i64 ((((((((r.int).2).bytes).2).bytes).2).int).1)), (Value.string (str (((((((((r.int).2).bytes).2).bytes).2).int).2).bytes).1)), (i64 ((((((((((((r.int).2).bytes).2).bytes).2).int).2).bytes).2).int).1)), (i64 ((((((((((((((r.int).2).bytes).2).bytes).2).int).2).bytes).2).int).2).int).1))]), retv_cell rfl rfl (H142.loads (by kernel_rfl)), ?_⟩
  exact ⟨rfl, K144, H145⟩
end Go.Proofs.Ytnepjfnkaigakaa
