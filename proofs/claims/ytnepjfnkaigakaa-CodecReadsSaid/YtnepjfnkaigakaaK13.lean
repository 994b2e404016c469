/- codec: the program's reader: how many, bytes, texts, truths -/
import Derived.Test.YtnepjfnkaigakaaProg
import Derived.Test.YtnepjfnkaigakaaLibOwn
import Derived.Test.YtnepjfnkaigakaaLibNum
import Derived.Test.YtnepjfnkaigakaaK11
import Derived.Test.YtnepjfnkaigakaaK8
set_option linter.unusedVariables false
namespace Go.Proofs.Ytnepjfnkaigakaa
open Go.Q Go.RowKit

theorem sized_calls (w : World) (b : Nat) (A : Option Addr) (c : Nat) (r : Rdr) (hok : r.Ok) (H0 : Has w b (rowL (rdrL A c r) 88)) (hR : RdO w A c r.bs) (hne : ∀ g o s, A = some ⟨g, o, s⟩ → g ≠ b) (most : Int) (hm : -9223372036854775808 ≤ most ∧ most ≤ 9223372036854775807) : Calls Try.prog 67 ⟨[(Value.pointer (some ⟨b, 0, none⟩)), (i64 most)]⟩ w (fun e w' => e = .returned (i64 (((r.sized most).1 : Nat) : Int)) ∧ Keeps (fun i => i = b) w w' ∧ Has w' b (rowL (rdrL A c (r.sized most).2) 88)) := by
  have hpos := hok.pos
  have hlen := hok.len
  have hsc := r.scan_le
  have hdl : (r.bs.drop r.pos).length = r.bs.length - r.pos := List.length_drop
  have hcap := hR.1.slice
  have Hb := H0.lt
  have K0 : Keeps (fun i => i = b) w w := (Keeps.refl w).mono (fun _ _ h => h.elim)
  have hub := r.uint_bs
  have hubl := congrArg List.length hub
  have hul := r.uint_lt
  refine q_calls Try.func67 (by kernel_rfl) (by kernel_rfl) ?_
  refine q_seq (by kernel_rfl) ?_
  refine q_region (by kernel_rfl) ?_
  refine Ops.regs 1 [(0, (Value.pointer (some ⟨b, 0, none⟩))), (1, (i64 most)), (4, (i64 0))] (j := 1) (by kernel_rfl) (by kernel_rfl) ?_
  refine Ops.done (by kernel_rfl) ?_
  refine q_seq (by kernel_rfl) ?_
  refine q_seq (by kernel_rfl) ?_
  refine q_region (by kernel_rfl) ?_
  refine Ops.regs 1 [(0, (Value.pointer (some ⟨b, 0, none⟩))), (1, (i64 most)), (4, (i64 0)), (7, (Value.pointer (some ⟨b, 0, none⟩)))] (j := 1) (by kernel_rfl) (by kernel_rfl) ?_
  refine Ops.call (by kernel_rfl) (d := (some 8)) (by kernel_rfl) (ok_calls _ b A c r hok H0 hR hne) ?_
  rintro _ w1 ⟨rfl, K2⟩
  refine ⟨_, _, rfl, rfl, ?_⟩
  have K3 := K0.trans K2 (U := (fun i => i = b)) (fun i h1 h2 => h2) (fun i h1 h2 => by exact h2.elim)
  clear K0
  have H4 := H0.keep K2 (fun h => h)
  clear H0
  have F5 := RdO.keep0 hR K2
  clear hR
  clear K2
  refine Ops.regs 1 [(0, (Value.pointer (some ⟨b, 0, none⟩))), (1, (i64 most)), (4, (i64 0)), (9, (Value.bool (!(r.why == 0))))] (j := 3) (by kernel_rfl) (by kernel_rfl) ?_
  refine Ops.done (by kernel_rfl) ?_
  refine q_cond (o := .tmp 9) (b := (!(r.why == 0))) (by kernel_rfl) rfl (fun h6 => ?_) (fun h6 => ?_)
  · rw [h6]
    have p7 : ¬ (r.why = 0) := of_beq_f (bnot_true h6)
    refine q_seq (by kernel_rfl) ?_
    refine q_region (by kernel_rfl) ?_
    refine Ops.regs 1 [(0, (Value.pointer (some ⟨b, 0, none⟩))), (1, (i64 most)), (4, (i64 0))] (j := 1) (by kernel_rfl) (by kernel_rfl) ?_
    refine Ops.done (by kernel_rfl) ?_
    refine q_ret (by kernel_rfl) ?_
    refine ⟨(i64 0), retv_tmp rfl rfl, ?_⟩
    have e : r.sized most = (0, r) := by unfold Rdr.sized; (repeat' split) <;> first | (exfalso; omega) | rfl | (simp only [Rdr.uint_bs]; done) | (rw [Rdr.uint_bs]; done)
    exact ⟨by first | (rw [e]; done) | (rw [e]; rfl), K3, by rw [e]; exact H4⟩
  · rw [h6]
    have p8 : r.why = 0 := of_beq_t (bnot_false h6)
    refine q_skip (by kernel_rfl) ?_
    refine q_seq (by kernel_rfl) ?_
    refine q_region (by kernel_rfl) ?_
    refine Ops.regs 3 [(0, (Value.pointer (some ⟨b, 0, none⟩))), (1, (i64 most)), (4, (i64 0)), (12, (Value.pointer (some ⟨b, 1, none⟩)))] (j := 3) (by kernel_rfl) (by kernel_rfl) ?_
    refine Ops.go (v := (i64 ((r.pos : Nat) : Int))) (by kernel_rfl) (Runs.load (t := 3) (a := ⟨b, 1, none⟩) (by kernel_rfl) (H4.loads (by kernel_rfl))) (d := (some 13)) (by kernel_rfl) rfl ?_
    refine Ops.regs 1 [(0, (Value.pointer (some ⟨b, 0, none⟩))), (1, (i64 most)), (4, (i64 0)), (5, (i64 ((r.pos : Nat) : Int)))] (j := 5) (by kernel_rfl) (by kernel_rfl) ?_
    refine Ops.done (by kernel_rfl) ?_
    refine q_seq (by kernel_rfl) ?_
    refine q_region (by kernel_rfl) ?_
    refine Ops.regs 1 [(0, (Value.pointer (some ⟨b, 0, none⟩))), (1, (i64 most)), (4, (i64 0)), (5, (i64 ((r.pos : Nat) : Int))), (14, (Value.pointer (some ⟨b, 0, none⟩)))] (j := 1) (by kernel_rfl) (by kernel_rfl) ?_
    refine Ops.call (by kernel_rfl) (d := (some 15)) (by kernel_rfl) (RdUint_calls _ b A c r hok H4 F5 hne) ?_
    rintro _ w9 ⟨rfl, K10, H11⟩
    have hok12 := Rdr.Ok.uint hok
    have hu13 := Rdr.uint_lt r
    refine ⟨_, _, rfl, rfl, ?_⟩
    have K14 := K3.trans K10 (U := (fun i => i = b)) (fun i h1 h2 => h2) (fun i h1 h2 => by have h2 : i = b := h2; show i = b; omega)
    clear K3
    have F15 := RdO.keep F5 K10 (fun i _ _ hi hs => by have hs : i = b := hs; have := hne i _ _ hi; omega)
    clear F5
    clear K10
    have F16 : RdO w9 A c (r.uint.2).bs := by rw [Rdr.uint_bs]; exact F15
    clear F15
    refine Ops.regs 1 [(0, (Value.pointer (some ⟨b, 0, none⟩))), (1, (i64 most)), (4, (i64 0)), (5, (i64 ((r.pos : Nat) : Int))), (6, (Value.int IntKind.u64 ((r.uint.1 : Nat) : Int)))] (j := 3) (by kernel_rfl) (by kernel_rfl) ?_
    refine Ops.done (by kernel_rfl) ?_
    refine q_seq (by kernel_rfl) ?_
    refine q_block (id := 0) (by kernel_rfl) ?_
    refine q_seq (by kernel_rfl) ?_
    refine q_region (by kernel_rfl) ?_
    refine Ops.regs 3 [(0, (Value.pointer (some ⟨b, 0, none⟩))), (1, (i64 most)), (4, (i64 0)), (5, (i64 ((r.pos : Nat) : Int))), (6, (Value.int IntKind.u64 ((r.uint.1 : Nat) : Int))), (21, (Value.pointer (some ⟨b, 2, none⟩)))] (j := 3) (by kernel_rfl) (by kernel_rfl) ?_
    refine Ops.go (v := (i64 r.uint.2.why)) (by kernel_rfl) (Runs.load (t := 28) (a := ⟨b, 2, none⟩) (by kernel_rfl) (H11.loads (by kernel_rfl))) (d := (some 22)) (by kernel_rfl) rfl ?_
    refine Ops.regs 2 [(0, (Value.pointer (some ⟨b, 0, none⟩))), (1, (i64 most)), (4, (i64 0)), (5, (i64 ((r.pos : Nat) : Int))), (6, (Value.int IntKind.u64 ((r.uint.1 : Nat) : Int))), (18, (Value.bool (r.uint.2.why != 0)))] (j := 6) (by kernel_rfl) (by kernel_rfl) ?_
    refine Ops.done (by kernel_rfl) ?_
    refine q_cond (o := .tmp 18) (b := (r.uint.2.why != 0)) (by kernel_rfl) rfl (fun h17 => ?_) (fun h17 => ?_)
    · rw [h17]
      have p18 : ¬ (r.uint.2.why = 0) := of_bne_t h17
      refine q_skip (by kernel_rfl) ?_
      refine q_seq (by kernel_rfl) ?_
      refine q_region (by kernel_rfl) ?_
      refine Ops.regs 4 [(4, (i64 0)), (47, (i64 ((r.pos : Nat) : Int))), (49, (Value.pointer (some ⟨b, 1, none⟩)))] (j := 4) (by kernel_rfl) (by kernel_rfl) ?_
      refine Ops.put (t := 3) (b := b) (off := 1) (v := (i64 ((r.pos : Nat) : Int))) (ys := [(Value.slice A r.uint.2.bs.length c), (i64 ((r.pos : Nat) : Int)), (i64 r.uint.2.why)]) (by kernel_rfl) (by kernel_rfl) H11 (by kernel_rfl) (d := none) (by kernel_rfl) rfl (fun w19 H20 K21 => ?_)
      clear H11
      have K22 := K14.trans K21 (U := (fun i => i = b)) (fun i h1 h2 => h2) (fun i h1 h2 => by have h2 : i = b := h2; show i = b; omega)
      clear K14
      have F23 := RdO.keep F16 K21 (fun i _ _ hi hs => by have hs : i = b := hs; have := hne i _ _ hi; omega)
      clear F16
      clear K21
      refine Ops.done (by kernel_rfl) ?_
      refine q_seq (by kernel_rfl) ?_
      refine q_region (by kernel_rfl) ?_
      refine Ops.regs 1 [(4, (i64 0))] (j := 1) (by kernel_rfl) (by kernel_rfl) ?_
      refine Ops.done (by kernel_rfl) ?_
      refine q_ret (by kernel_rfl) ?_
      refine ⟨(i64 0), retv_tmp rfl rfl, ?_⟩
      have e : r.sized most = (0, (⟨r.uint.2.bs, r.pos, r.uint.2.why⟩ : Rdr)) := by unfold Rdr.sized; (repeat' split) <;> first | (exfalso; omega) | rfl | (simp only [Rdr.uint_bs]; done) | (rw [Rdr.uint_bs]; done)
      exact ⟨by first | (rw [e]; done) | (rw [e]; rfl), K22, by rw [e]; exact H20⟩
    · rw [h17]
      have p24 : r.uint.2.why = 0 := of_bne_f h17
      refine q_seq (by kernel_rfl) ?_
      refine q_region (by kernel_rfl) ?_
      refine Ops.regs 3 [(0, (Value.pointer (some ⟨b, 0, none⟩))), (1, (i64 most)), (4, (i64 0)), (5, (i64 ((r.pos : Nat) : Int))), (6, (Value.int IntKind.u64 ((r.uint.1 : Nat) : Int))), (27, (Value.bool (decide (most < 0))))] (j := 3) (by kernel_rfl) (by kernel_rfl) ?_
      refine Ops.split (decide (most < 0)) (fun h25 => ?_) (fun h25 => ?_)
      · rw [h25]
        have p26 : most < 0 := of_decide_eq_true h25
        refine Ops.regs 6 [(0, (Value.pointer (some ⟨b, 0, none⟩))), (4, (i64 0)), (5, (i64 ((r.pos : Nat) : Int))), (6, (Value.int IntKind.u64 ((r.uint.1 : Nat) : Int))), (24, (Value.bool true))] (j := 9) (by kernel_rfl) (by kernel_rfl) ?_
        refine Ops.done (by kernel_rfl) ?_
        refine q_then (o := .tmp 24) (by kernel_rfl) rfl ?_
        refine q_region (by kernel_rfl) ?_
        refine Ops.regs 3 [(0, (Value.pointer (some ⟨b, 0, none⟩))), (4, (i64 0)), (5, (i64 ((r.pos : Nat) : Int))), (6, (Value.int IntKind.u64 ((r.uint.1 : Nat) : Int))), (35, (Value.pointer (some ⟨b, 2, none⟩)))] (j := 3) (by kernel_rfl) (by kernel_rfl) ?_
        refine Ops.put (t := 28) (b := b) (off := 2) (v := (i64 3)) (ys := [(Value.slice A r.uint.2.bs.length c), (i64 ((r.uint.2.pos : Nat) : Int)), (i64 3)]) (by kernel_rfl) (by kernel_rfl) H11 (by kernel_rfl) (d := none) (by kernel_rfl) rfl (fun w27 H28 K29 => ?_)
        clear H11
        have K30 := K14.trans K29 (U := (fun i => i = b)) (fun i h1 h2 => h2) (fun i h1 h2 => by have h2 : i = b := h2; show i = b; omega)
        clear K14
        have F31 := RdO.keep F16 K29 (fun i _ _ hi hs => by have hs : i = b := hs; have := hne i _ _ hi; omega)
        clear F16
        clear K29
        refine Ops.done (by kernel_rfl) ?_
        refine q_seq (by kernel_rfl) ?_
        refine q_region (by kernel_rfl) ?_
        refine Ops.regs 4 [(4, (i64 0)), (47, (i64 ((r.pos : Nat) : Int))), (49, (Value.pointer (some ⟨b, 1, none⟩)))] (j := 4) (by kernel_rfl) (by kernel_rfl) ?_
        refine Ops.put (t := 3) (b := b) (off := 1) (v := (i64 ((r.pos : Nat) : Int))) (ys := [(Value.slice A r.uint.2.bs.length c), (i64 ((r.pos : Nat) : Int)), (i64 3)]) (by kernel_rfl) (by kernel_rfl) H28 (by kernel_rfl) (d := none) (by kernel_rfl) rfl (fun w32 H33 K34 => ?_)
        clear H28
        have K35 := K30.trans K34 (U := (fun i => i = b)) (fun i h1 h2 => h2) (fun i h1 h2 => by have h2 : i = b := h2; show i = b; omega)
        clear K30
        have F36 := RdO.keep F31 K34 (fun i _ _ hi hs => by have hs : i = b := hs; have := hne i _ _ hi; omega)
        clear F31
        clear K34
        refine Ops.done (by kernel_rfl) ?_
        refine q_seq (by kernel_rfl) ?_
        refine q_region (by kernel_rfl) ?_
        refine Ops.regs 1 [(4, (i64 0))] (j := 1) (by kernel_rfl) (by kernel_rfl) ?_
        refine Ops.done (by kernel_rfl) ?_
        refine q_ret (by kernel_rfl) ?_
        refine ⟨(i64 0), retv_tmp rfl rfl, ?_⟩
        have e : r.sized most = (0, (⟨r.uint.2.bs, r.pos, 3⟩ : Rdr)) := by unfold Rdr.sized; (repeat' split) <;> first | (exfalso; omega) | rfl | (simp only [Rdr.uint_bs]; done) | (rw [Rdr.uint_bs]; done)
        exact ⟨by first | (rw [e]; done) | (rw [e]; rfl), K35, by rw [e]; exact H33⟩
      · rw [h25]
        have p37 : ¬ (most < 0) := of_decide_eq_false h25
        refine Ops.regs 3 [(0, (Value.pointer (some ⟨b, 0, none⟩))), (4, (i64 0)), (5, (i64 ((r.pos : Nat) : Int))), (6, (Value.int IntKind.u64 ((r.uint.1 : Nat) : Int))), (27, (Value.bool false)), (28, (Value.int IntKind.u64 ((r.uint.1 : Nat) : Int))), (30, (Value.int IntKind.u64 (IntKind.u64.wrap (most))))] (j := 6) (by kernel_rfl) (by kernel_rfl) ?_
        have e38 : IntKind.u64.wrap (most) = most := wrap_u64 (by omega) (by omega)
        rw [e38]
        refine Ops.regs 3 [(0, (Value.pointer (some ⟨b, 0, none⟩))), (4, (i64 0)), (5, (i64 ((r.pos : Nat) : Int))), (6, (Value.int IntKind.u64 ((r.uint.1 : Nat) : Int))), (24, (Value.bool (decide (((r.uint.1 : Nat) : Int) > most))))] (j := 9) (by kernel_rfl) (by kernel_rfl) ?_
        refine Ops.done (by kernel_rfl) ?_
        refine q_cond (o := .tmp 24) (b := (decide (((r.uint.1 : Nat) : Int) > most))) (by kernel_rfl) rfl (fun h39 => ?_) (fun h39 => ?_)
        · rw [h39]
          have p40 : ((r.uint.1 : Nat) : Int) > most := of_decide_eq_true h39
          refine q_region (by kernel_rfl) ?_
          refine Ops.regs 3 [(0, (Value.pointer (some ⟨b, 0, none⟩))), (4, (i64 0)), (5, (i64 ((r.pos : Nat) : Int))), (6, (Value.int IntKind.u64 ((r.uint.1 : Nat) : Int))), (35, (Value.pointer (some ⟨b, 2, none⟩)))] (j := 3) (by kernel_rfl) (by kernel_rfl) ?_
          refine Ops.put (t := 28) (b := b) (off := 2) (v := (i64 3)) (ys := [(Value.slice A r.uint.2.bs.length c), (i64 ((r.uint.2.pos : Nat) : Int)), (i64 3)]) (by kernel_rfl) (by kernel_rfl) H11 (by kernel_rfl) (d := none) (by kernel_rfl) rfl (fun w41 H42 K43 => ?_)
          clear H11
          have K44 := K14.trans K43 (U := (fun i => i = b)) (fun i h1 h2 => h2) (fun i h1 h2 => by have h2 : i = b := h2; show i = b; omega)
          clear K14
          have F45 := RdO.keep F16 K43 (fun i _ _ hi hs => by have hs : i = b := hs; have := hne i _ _ hi; omega)
          clear F16
          clear K43
          refine Ops.done (by kernel_rfl) ?_
          refine q_seq (by kernel_rfl) ?_
          refine q_region (by kernel_rfl) ?_
          refine Ops.regs 4 [(4, (i64 0)), (47, (i64 ((r.pos : Nat) : Int))), (49, (Value.pointer (some ⟨b, 1, none⟩)))] (j := 4) (by kernel_rfl) (by kernel_rfl) ?_
          refine Ops.put (t := 3) (b := b) (off := 1) (v := (i64 ((r.pos : Nat) : Int))) (ys := [(Value.slice A r.uint.2.bs.length c), (i64 ((r.pos : Nat) : Int)), (i64 3)]) (by kernel_rfl) (by kernel_rfl) H42 (by kernel_rfl) (d := none) (by kernel_rfl) rfl (fun w46 H47 K48 => ?_)
          clear H42
          have K49 := K44.trans K48 (U := (fun i => i = b)) (fun i h1 h2 => h2) (fun i h1 h2 => by have h2 : i = b := h2; show i = b; omega)
          clear K44
          have F50 := RdO.keep F45 K48 (fun i _ _ hi hs => by have hs : i = b := hs; have := hne i _ _ hi; omega)
          clear F45
          clear K48
          refine Ops.done (by kernel_rfl) ?_
          refine q_seq (by kernel_rfl) ?_
          refine q_region (by kernel_rfl) ?_
          refine Ops.regs 1 [(4, (i64 0))] (j := 1) (by kernel_rfl) (by kernel_rfl) ?_
          refine Ops.done (by kernel_rfl) ?_
          refine q_ret (by kernel_rfl) ?_
          refine ⟨(i64 0), retv_tmp rfl rfl, ?_⟩
          have e : r.sized most = (0, (⟨r.uint.2.bs, r.pos, 3⟩ : Rdr)) := by unfold Rdr.sized; (repeat' split) <;> first | (exfalso; omega) | rfl | (simp only [Rdr.uint_bs]; done) | (rw [Rdr.uint_bs]; done)
          exact ⟨by first | (rw [e]; done) | (rw [e]; rfl), K49, by rw [e]; exact H47⟩
        · rw [h39]
          have p51 : ¬ (((r.uint.1 : Nat) : Int) > most) := of_decide_eq_false h39
          refine q_seq (by kernel_rfl) ?_
          refine q_region (by kernel_rfl) ?_
          refine Ops.regs 2 [(0, (Value.pointer (some ⟨b, 0, none⟩))), (4, (i64 0)), (5, (i64 ((r.pos : Nat) : Int))), (6, (Value.int IntKind.u64 ((r.uint.1 : Nat) : Int))), (37, (Value.int IntKind.u64 ((r.uint.1 : Nat) : Int))), (38, (Value.pointer (some ⟨b, 0, none⟩)))] (j := 2) (by kernel_rfl) (by kernel_rfl) ?_
          refine Ops.call (by kernel_rfl) (d := (some 39)) (by kernel_rfl) (left_calls _ b A c r.uint.2 hok12 H11 F16 hne) ?_
          rintro _ w52 ⟨A54, c55, rfl, K53, h56, hlb57⟩
          have ob58 := left_ne (n := (r.uint.2.bs.drop r.uint.2.pos).length) (c := c55) hlb57 hne
          have hdlA54 : (r.uint.2.bs.drop r.uint.2.pos).length = r.uint.2.bs.length - r.uint.2.pos := List.length_drop
          have hslA54 := RdB.slice h56
          refine ⟨_, _, rfl, rfl, ?_⟩
          have K59 := K14.trans K53 (U := (fun i => i = b)) (fun i h1 h2 => h2) (fun i h1 h2 => by exact h2.elim)
          clear K14
          have H60 := H11.keep K53 (fun h => h)
          clear H11
          have F61 := RdO.keep0 F16 K53
          clear F16
          clear K53
          refine Ops.regs 2 [(0, (Value.pointer (some ⟨b, 0, none⟩))), (4, (i64 0)), (5, (i64 ((r.pos : Nat) : Int))), (6, (Value.int IntKind.u64 ((r.uint.1 : Nat) : Int))), (37, (Value.int IntKind.u64 ((r.uint.1 : Nat) : Int))), (41, (Value.int IntKind.u64 (IntKind.u64.wrap ((((r.uint.2.bs.drop r.uint.2.pos).length : Nat) : Int)))))] (j := 5) (by kernel_rfl) (by kernel_rfl) ?_
          have e62 : IntKind.u64.wrap ((((r.uint.2.bs.drop r.uint.2.pos).length : Nat) : Int)) = (((r.uint.2.bs.drop r.uint.2.pos).length : Nat) : Int) := wrap_u64 (by omega) (by omega)
          rw [e62]
          refine Ops.regs 2 [(0, (Value.pointer (some ⟨b, 0, none⟩))), (4, (i64 0)), (5, (i64 ((r.pos : Nat) : Int))), (6, (Value.int IntKind.u64 ((r.uint.1 : Nat) : Int))), (36, (Value.bool (decide (((r.uint.1 : Nat) : Int) > (((r.uint.2.bs.drop r.uint.2.pos).length : Nat) : Int)))))] (j := 7) (by kernel_rfl) (by kernel_rfl) ?_
          refine Ops.done (by kernel_rfl) ?_
          refine q_cond (o := .tmp 36) (b := (decide (((r.uint.1 : Nat) : Int) > (((r.uint.2.bs.drop r.uint.2.pos).length : Nat) : Int)))) (by kernel_rfl) rfl (fun h63 => ?_) (fun h63 => ?_)
          · rw [h63]
            have p64 : ((r.uint.1 : Nat) : Int) > (((r.uint.2.bs.drop r.uint.2.pos).length : Nat) : Int) := of_decide_eq_true h63
            refine q_region (by kernel_rfl) ?_
            refine Ops.regs 3 [(0, (Value.pointer (some ⟨b, 0, none⟩))), (4, (i64 0)), (5, (i64 ((r.pos : Nat) : Int))), (6, (Value.int IntKind.u64 ((r.uint.1 : Nat) : Int))), (45, (Value.pointer (some ⟨b, 2, none⟩)))] (j := 3) (by kernel_rfl) (by kernel_rfl) ?_
            refine Ops.put (t := 28) (b := b) (off := 2) (v := (i64 10)) (ys := [(Value.slice A r.uint.2.bs.length c), (i64 ((r.uint.2.pos : Nat) : Int)), (i64 10)]) (by kernel_rfl) (by kernel_rfl) H60 (by kernel_rfl) (d := none) (by kernel_rfl) rfl (fun w65 H66 K67 => ?_)
            clear H60
            have K68 := K59.trans K67 (U := (fun i => i = b)) (fun i h1 h2 => h2) (fun i h1 h2 => by have h2 : i = b := h2; show i = b; omega)
            clear K59
            have F69 := RdO.keep F61 K67 (fun i _ _ hi hs => by have hs : i = b := hs; have := hne i _ _ hi; omega)
            clear F61
            have F70 := Rd.keep (by omega) h56 K67 (fun i hi hs => by have hs : i = b := hs; have := ob58 i hi; omega)
            clear h56
            clear K67
            refine Ops.done (by kernel_rfl) ?_
            refine q_seq (by kernel_rfl) ?_
            refine q_region (by kernel_rfl) ?_
            refine Ops.regs 4 [(4, (i64 0)), (47, (i64 ((r.pos : Nat) : Int))), (49, (Value.pointer (some ⟨b, 1, none⟩)))] (j := 4) (by kernel_rfl) (by kernel_rfl) ?_
            refine Ops.put (t := 3) (b := b) (off := 1) (v := (i64 ((r.pos : Nat) : Int))) (ys := [(Value.slice A r.uint.2.bs.length c), (i64 ((r.pos : Nat) : Int)), (i64 10)]) (by kernel_rfl) (by kernel_rfl) H66 (by kernel_rfl) (d := none) (by kernel_rfl) rfl (fun w71 H72 K73 => ?_)
            clear H66
            have K74 := K68.trans K73 (U := (fun i => i = b)) (fun i h1 h2 => h2) (fun i h1 h2 => by have h2 : i = b := h2; show i = b; omega)
            clear K68
            have F75 := RdO.keep F69 K73 (fun i _ _ hi hs => by have hs : i = b := hs; have := hne i _ _ hi; omega)
            clear F69
            have F76 := Rd.keep (by omega) F70 K73 (fun i hi hs => by have hs : i = b := hs; have := ob58 i hi; omega)
            clear F70
            clear K73
            refine Ops.done (by kernel_rfl) ?_
            refine q_seq (by kernel_rfl) ?_
            refine q_region (by kernel_rfl) ?_
            refine Ops.regs 1 [(4, (i64 0))] (j := 1) (by kernel_rfl) (by kernel_rfl) ?_
            refine Ops.done (by kernel_rfl) ?_
            refine q_ret (by kernel_rfl) ?_
            refine ⟨(i64 0), retv_tmp rfl rfl, ?_⟩
            have e : r.sized most = (0, (⟨r.uint.2.bs, r.pos, 10⟩ : Rdr)) := by unfold Rdr.sized; (repeat' split) <;> first | (exfalso; omega) | rfl | (simp only [Rdr.uint_bs]; done) | (rw [Rdr.uint_bs]; done)
            exact ⟨by first | (rw [e]; done) | (rw [e]; rfl), K74, by rw [e]; exact H72⟩
          · rw [h63]
            have p77 : ¬ (((r.uint.1 : Nat) : Int) > (((r.uint.2.bs.drop r.uint.2.pos).length : Nat) : Int)) := of_decide_eq_false h63
            refine q_seq (by kernel_rfl) ?_
            refine q_region (by kernel_rfl) ?_
            refine Ops.regs 2 [(0, (Value.pointer (some ⟨b, 0, none⟩))), (4, (i64 0)), (5, (i64 ((r.pos : Nat) : Int))), (17, (i64 (IntKind.i64.wrap (((r.uint.1 : Nat) : Int)))))] (j := 2) (by kernel_rfl) (by kernel_rfl) ?_
            have e78 : IntKind.i64.wrap (((r.uint.1 : Nat) : Int)) = ((r.uint.1 : Nat) : Int) := wrap_i64 (by omega) (by omega)
            rw [e78]
            refine Ops.regs 1 [(0, (Value.pointer (some ⟨b, 0, none⟩))), (4, (i64 ((r.uint.1 : Nat) : Int))), (5, (i64 ((r.pos : Nat) : Int)))] (j := 3) (by kernel_rfl) (by kernel_rfl) ?_
            refine Ops.done (by kernel_rfl) ?_
            refine q_ret (by kernel_rfl) ?_
            refine ⟨(i64 ((r.uint.1 : Nat) : Int)), retv_tmp rfl rfl, ?_⟩
            have e : r.sized most = (r.uint.1, r.uint.2) := by unfold Rdr.sized; (repeat' split) <;> first | (exfalso; omega) | rfl | (simp only [Rdr.uint_bs]; done) | (rw [Rdr.uint_bs]; done)
            exact ⟨by first | (rw [e]; done) | (rw [e]; rfl), K59, by rw [e]; exact H60⟩

theorem Count_calls (w : World) (b : Nat) (A : Option Addr) (c : Nat) (r : Rdr) (hok : r.Ok) (H0 : Has w b (rowL (rdrL A c r) 88)) (hR : RdO w A c r.bs) (hne : ∀ g o s, A = some ⟨g, o, s⟩ → g ≠ b) (most : Int) (hm : -9223372036854775808 ≤ most ∧ most ≤ 9223372036854775807) : Calls Try.prog 42 ⟨[(Value.pointer (some ⟨b, 0, none⟩)), (i64 most)]⟩ w (fun e w' => e = .returned (i64 (((r.sized most).1 : Nat) : Int)) ∧ Keeps (fun i => i = b) w w' ∧ Has w' b (rowL (rdrL A c (r.sized most).2) 88)) := by
  have hpos := hok.pos
  have hlen := hok.len
  have hsc := r.scan_le
  have hdl : (r.bs.drop r.pos).length = r.bs.length - r.pos := List.length_drop
  have hcap := hR.1.slice
  have Hb := H0.lt
  have K0 : Keeps (fun i => i = b) w w := (Keeps.refl w).mono (fun _ _ h => h.elim)
  refine q_calls Try.func42 (by kernel_rfl) (by kernel_rfl) ?_
  refine q_seq (by kernel_rfl) ?_
  refine q_region (by kernel_rfl) ?_
  refine Ops.regs 1 [(0, (Value.pointer (some ⟨b, 0, none⟩))), (1, (i64 most)), (4, (i64 0))] (j := 1) (by kernel_rfl) (by kernel_rfl) ?_
  refine Ops.done (by kernel_rfl) ?_
  refine q_seq (by kernel_rfl) ?_
  refine q_region (by kernel_rfl) ?_
  refine Ops.regs 2 [(4, (i64 0)), (5, (Value.pointer (some ⟨b, 0, none⟩))), (6, (i64 most))] (j := 2) (by kernel_rfl) (by kernel_rfl) ?_
  refine Ops.call (by kernel_rfl) (d := (some 7)) (by kernel_rfl) (sized_calls _ b A c r hok H0 hR hne most (by omega)) ?_
  rintro _ w1 ⟨rfl, K2, H3⟩
  have hok4 : (r.sized most).2.Ok := Rdr.Ok.sized hok most
  have hu5 := Rdr.sized_le hok most
  have hu6 := Rdr.sized_lt r most
  refine ⟨_, _, rfl, rfl, ?_⟩
  have K7 := K0.trans K2 (U := (fun i => i = b)) (fun i h1 h2 => h2) (fun i h1 h2 => by have h2 : i = b := h2; show i = b; omega)
  clear K0
  have F8 := RdO.keep hR K2 (fun i _ _ hi hs => by have hs : i = b := hs; have := hne i _ _ hi; omega)
  clear hR
  clear K2
  have F9 : RdO w1 A c (r.sized most).2.bs := by rw [Rdr.sized_bs]; exact F8
  clear F8
  refine Ops.regs 1 [(4, (i64 (((r.sized most).1 : Nat) : Int)))] (j := 4) (by kernel_rfl) (by kernel_rfl) ?_
  refine Ops.done (by kernel_rfl) ?_
  refine q_ret (by kernel_rfl) ?_
  refine ⟨(i64 (((r.sized most).1 : Nat) : Int)), retv_tmp rfl rfl, ?_⟩
  have e : r.sized most = ((r.sized most).1, (r.sized most).2) := by rfl
  exact ⟨by first | (rw [e]; done) | (rw [e]; rfl), K7, by rw [e]; exact H3⟩

theorem RdBytes_calls (w : World) (b : Nat) (A : Option Addr) (c : Nat) (r : Rdr) (hok : r.Ok) (H0 : Has w b (rowL (rdrL A c r) 88)) (hR : RdO w A c r.bs) (hne : ∀ g o s, A = some ⟨g, o, s⟩ → g ≠ b) : Calls Try.prog 48 ⟨[(Value.pointer (some ⟨b, 0, none⟩))]⟩ w (fun e w' => ∃ v', e = .returned v' ∧ Keeps (fun i => i = b) w w' ∧ OwnB w' w.heap.size 5 v' (r.bytes.1) ∧ Has w' b (rowL (rdrL A c (r.bytes).2) 88)) := by
  have hpos := hok.pos
  have hlen := hok.len
  have hsc := r.scan_le
  have hdl : (r.bs.drop r.pos).length = r.bs.length - r.pos := List.length_drop
  have hcap := hR.1.slice
  have Hb := H0.lt
  have K0 : Keeps (fun i => i = b) w w := (Keeps.refl w).mono (fun _ _ h => h.elim)
  have hsb := r.sized_bs 65536
  have hsbl := congrArg List.length hsb
  refine q_calls Try.func48 (by kernel_rfl) (by kernel_rfl) ?_
  refine q_seq (by kernel_rfl) ?_
  refine q_region (by kernel_rfl) ?_
  refine Ops.regs 1 [(0, (Value.pointer (some ⟨b, 0, none⟩))), (2, (Value.slice none 0 0))] (j := 1) (by kernel_rfl) (by kernel_rfl) ?_
  refine Ops.done (by kernel_rfl) ?_
  refine q_seq (by kernel_rfl) ?_
  refine q_region (by kernel_rfl) ?_
  refine Ops.regs 1 [(0, (Value.pointer (some ⟨b, 0, none⟩))), (2, (Value.slice none 0 0)), (5, (Value.pointer (some ⟨b, 0, none⟩)))] (j := 1) (by kernel_rfl) (by kernel_rfl) ?_
  refine Ops.call (by kernel_rfl) (d := (some 6)) (by kernel_rfl) (sized_calls _ b A c r hok H0 hR hne 65536 (by omega)) ?_
  rintro _ w1 ⟨rfl, K2, H3⟩
  have hok4 : (r.sized 65536).2.Ok := Rdr.Ok.sized hok 65536
  have hu5 := Rdr.sized_le hok 65536
  have hu6 := Rdr.sized_lt r 65536
  refine ⟨_, _, rfl, rfl, ?_⟩
  have K7 := K0.trans K2 (U := (fun i => i = b)) (fun i h1 h2 => h2) (fun i h1 h2 => by have h2 : i = b := h2; show i = b; omega)
  clear K0
  have F8 := RdO.keep hR K2 (fun i _ _ hi hs => by have hs : i = b := hs; have := hne i _ _ hi; omega)
  clear hR
  clear K2
  have F9 : RdO w1 A c (r.sized 65536).2.bs := by rw [Rdr.sized_bs]; exact F8
  clear F8
  refine Ops.regs 1 [(0, (Value.pointer (some ⟨b, 0, none⟩))), (2, (Value.slice none 0 0)), (3, (i64 (((r.sized 65536).1 : Nat) : Int)))] (j := 3) (by kernel_rfl) (by kernel_rfl) ?_
  refine Ops.done (by kernel_rfl) ?_
  refine q_seq (by kernel_rfl) ?_
  refine q_seq (by kernel_rfl) ?_
  refine q_region (by kernel_rfl) ?_
  refine Ops.regs 1 [(0, (Value.pointer (some ⟨b, 0, none⟩))), (2, (Value.slice none 0 0)), (3, (i64 (((r.sized 65536).1 : Nat) : Int))), (7, (Value.pointer (some ⟨b, 0, none⟩)))] (j := 1) (by kernel_rfl) (by kernel_rfl) ?_
  refine Ops.call (by kernel_rfl) (d := (some 8)) (by kernel_rfl) (ok_calls _ b A c ((r.sized 65536).2) hok4 H3 F9 hne) ?_
  rintro _ w10 ⟨rfl, K11⟩
  refine ⟨_, _, rfl, rfl, ?_⟩
  have K12 := K7.trans K11 (U := (fun i => i = b)) (fun i h1 h2 => h2) (fun i h1 h2 => by exact h2.elim)
  clear K7
  have H13 := H3.keep K11 (fun h => h)
  clear H3
  have F14 := RdO.keep0 F9 K11
  clear F9
  clear K11
  refine Ops.regs 1 [(0, (Value.pointer (some ⟨b, 0, none⟩))), (2, (Value.slice none 0 0)), (3, (i64 (((r.sized 65536).1 : Nat) : Int))), (9, (Value.bool (!((((r.sized 65536).2).why) == 0))))] (j := 3) (by kernel_rfl) (by kernel_rfl) ?_
  refine Ops.done (by kernel_rfl) ?_
  refine q_cond (o := .tmp 9) (b := (!((((r.sized 65536).2).why) == 0))) (by kernel_rfl) rfl (fun h15 => ?_) (fun h15 => ?_)
  · rw [h15]
    have p16 : ¬ (((r.sized 65536).2).why = 0) := of_beq_f (bnot_true h15)
    refine q_seq (by kernel_rfl) ?_
    refine q_region (by kernel_rfl) ?_
    refine Ops.regs 1 [(0, (Value.pointer (some ⟨b, 0, none⟩))), (2, (Value.slice none 0 0)), (3, (i64 (((r.sized 65536).1 : Nat) : Int)))] (j := 1) (by kernel_rfl) (by kernel_rfl) ?_
    refine Ops.done (by kernel_rfl) ?_
    refine q_ret (by kernel_rfl) ?_
    refine ⟨(Value.slice none 0 0), retv_tmp rfl rfl, ?_⟩
    have e : r.bytes = ([], (r.sized 65536).2) := by unfold Rdr.bytes; split <;> first | (exfalso; omega) | rfl | (simp only [Rdr.sized_bs]; done)
    exact ⟨(Value.slice none 0 0), rfl, K12, by rw [e]; exact (World.ownsRow_nil _ _ _ _), by rw [e]; exact H13⟩
  · rw [h15]
    have p17 : ((r.sized 65536).2).why = 0 := of_beq_t (bnot_false h15)
    refine q_skip (by kernel_rfl) ?_
    refine q_seq (by kernel_rfl) ?_
    refine q_region (by kernel_rfl) ?_
    refine Ops.regs 1 [(0, (Value.pointer (some ⟨b, 0, none⟩))), (2, (Value.slice none 0 0)), (3, (i64 (((r.sized 65536).1 : Nat) : Int))), (10, (Value.pointer (some ⟨b, 0, none⟩)))] (j := 1) (by kernel_rfl) (by kernel_rfl) ?_
    refine Ops.call (by kernel_rfl) (d := (some 11)) (by kernel_rfl) (left_calls _ b A c ((r.sized 65536).2) hok4 H13 F14 hne) ?_
    rintro _ w18 ⟨A20, c21, rfl, K19, h22, hlb23⟩
    have ob24 := left_ne (n := (((r.sized 65536).2).bs.drop ((r.sized 65536).2).pos).length) (c := c21) hlb23 hne
    have hdlA20 : (((r.sized 65536).2).bs.drop ((r.sized 65536).2).pos).length = ((r.sized 65536).2).bs.length - ((r.sized 65536).2).pos := List.length_drop
    have hslA20 := RdB.slice h22
    refine ⟨_, _, rfl, rfl, ?_⟩
    have K25 := K12.trans K19 (U := (fun i => i = b)) (fun i h1 h2 => h2) (fun i h1 h2 => by exact h2.elim)
    clear K12
    have H26 := H13.keep K19 (fun h => h)
    clear H13
    have F27 := RdO.keep0 F14 K19
    clear F14
    clear K19
    refine Ops.regs 1 [(0, (Value.pointer (some ⟨b, 0, none⟩))), (2, (Value.slice none 0 0)), (3, (i64 (((r.sized 65536).1 : Nat) : Int))), (11, (Value.slice A20 ((((r.sized 65536).2).bs.drop ((r.sized 65536).2).pos).length) c21)), (12, (i64 (((r.sized 65536).1 : Nat) : Int)))] (j := 3) (by kernel_rfl) (by kernel_rfl) ?_
    have hcut := run_cut (sz := 1) (P := Try.prog) (w := w18) (t := 23) (A := A20) (n := ((((r.sized 65536).2).bs.drop ((r.sized 65536).2).pos).length)) (c := c21) 0 ((r.sized 65536).1) c21 (lo := none) (hi := some (i64 (((r.sized 65536).1 : Nat) : Int))) (mx := none) tyB.slice (by kernel_rfl) (.inl ⟨rfl, rfl⟩) (.inr ⟨_, rfl⟩) (.inl ⟨rfl, rfl⟩) (by omega) (by omega) (by omega)
    have hA0 : (if c21 = 0 then A20 else Option.map (fun q => Addr.add q (0 * 1)) A20) = A20 := by cases A20 <;> simp [Addr.add]
    rw [hA0, Nat.sub_zero, Nat.sub_zero] at hcut
    have F28 := RdB.take h22 (k := (r.sized 65536).1) (by omega)
    have htl : ((((r.sized 65536).2).bs.drop ((r.sized 65536).2).pos).take ((r.sized 65536).1)).length = (r.sized 65536).1 := by rw [List.length_take]; omega
    refine Ops.go (v := (Value.slice A20 ((r.sized 65536).1) c21)) (by kernel_rfl) (Runs.slice (by kernel_rfl) hcut) (d := (some 13)) (by kernel_rfl) rfl ?_
    clear hcut hA0
    refine Ops.call (by kernel_rfl) (d := (some 14)) (by kernel_rfl) (Clone_calls _ (Value.slice A20 ((r.sized 65536).1) c21) ((((r.sized 65536).2).bs.drop ((r.sized 65536).2).pos).take ((r.sized 65536).1)) F28 (by omega)) ?_
    rintro _ w30 ⟨v29, rfl, K31, hO32⟩
    have ob34 : ∀ i, (v29).ownBlock = some i → i ≠ b := fun i hi => by have := (World.ownsRow.lt hO32 i hi).1; have := H26.lt; omega
    have oo35 : ∀ i o s, A = some ⟨i, o, s⟩ → (v29).ownBlock = some i → False := fun i o s hi hs => by have := (World.ownsRow.lt hO32 i hs).1; have := F27.2 i o s hi; omega
    have O33 := own_base hO32 K25.size
    clear hO32
    refine ⟨_, _, rfl, rfl, ?_⟩
    have K37 := K25.trans K31 (U := (fun i => i = b)) (fun i h1 h2 => h2) (fun i h1 h2 => by exact h2.elim)
    clear K25
    have H38 := H26.keep K31 (fun h => h)
    clear H26
    have F39 := RdO.keep0 F27 K31
    clear F27
    have F40 := (Rd.keep0 (by omega) h22 K31)
    clear h22
    have F41 := (Rd.keep0 (by omega) F28 K31)
    clear F28
    clear K31
    refine Ops.regs 1 [(0, (Value.pointer (some ⟨b, 0, none⟩))), (2, (Value.slice none 0 0)), (3, (i64 (((r.sized 65536).1 : Nat) : Int))), (4, v29)] (j := 6) (by kernel_rfl) (by kernel_rfl) ?_
    refine Ops.done (by kernel_rfl) ?_
    refine q_seq (by kernel_rfl) ?_
    refine q_region (by kernel_rfl) ?_
    refine Ops.regs 3 [(2, (Value.slice none 0 0)), (3, (i64 (((r.sized 65536).1 : Nat) : Int))), (4, v29), (15, (Value.pointer (some ⟨b, 0, none⟩))), (17, (Value.pointer (some ⟨b, 1, none⟩)))] (j := 3) (by kernel_rfl) (by kernel_rfl) ?_
    refine Ops.go (v := (i64 ((((r.sized 65536).2).pos : Nat) : Int))) (by kernel_rfl) (Runs.load (t := 3) (a := ⟨b, 1, none⟩) (by kernel_rfl) (H38.loads (by kernel_rfl))) (d := (some 18)) (by kernel_rfl) rfl ?_
    refine Ops.regs 2 [(2, (Value.slice none 0 0)), (4, v29), (15, (Value.pointer (some ⟨b, 0, none⟩))), (20, (i64 (IntKind.i64.wrap (((((r.sized 65536).2).pos : Nat) : Int) + (((r.sized 65536).1 : Nat) : Int)))))] (j := 6) (by kernel_rfl) (by kernel_rfl) ?_
    have e42 : IntKind.i64.wrap (((((r.sized 65536).2).pos : Nat) : Int) + (((r.sized 65536).1 : Nat) : Int)) = (((((r.sized 65536).2).pos) + ((r.sized 65536).1) : Nat) : Int) := by rw [wrap_i64 (by omega) (by omega)]; omega
    rw [e42]
    clear e42
    refine Ops.regs 2 [(2, (Value.slice none 0 0)), (4, v29), (20, (i64 (((((r.sized 65536).2).pos) + ((r.sized 65536).1) : Nat) : Int))), (22, (Value.pointer (some ⟨b, 1, none⟩)))] (j := 8) (by kernel_rfl) (by kernel_rfl) ?_
    refine Ops.put (t := 3) (b := b) (off := 1) (v := (i64 (((((r.sized 65536).2).pos) + ((r.sized 65536).1) : Nat) : Int))) (ys := [(Value.slice A (((r.sized 65536).2).bs.length) c), (i64 (((((r.sized 65536).2).pos) + ((r.sized 65536).1) : Nat) : Int)), (i64 (((r.sized 65536).2).why))]) (by kernel_rfl) (by kernel_rfl) H38 (by kernel_rfl) (d := none) (by kernel_rfl) rfl (fun w43 H44 K45 => ?_)
    clear H38
    have K46 := K37.trans K45 (U := (fun i => i = b)) (fun i h1 h2 => h2) (fun i h1 h2 => by have h2 : i = b := h2; show i = b; omega)
    clear K37
    have F47 := RdO.keep F39 K45 (fun i _ _ hi hs => by have hs : i = b := hs; have := hne i _ _ hi; omega)
    clear F39
    have F48 := Rd.keep (by omega) F40 K45 (fun i hi hs => by have hs : i = b := hs; have := ob24 i hi; omega)
    clear F40
    clear F41
    have F49 := own_keep O33 K45 (fun i hi hs => by have hs : i = b := hs; have := ob34 i hi; omega)
    clear O33
    clear K45
    refine Ops.done (by kernel_rfl) ?_
    refine q_seq (by kernel_rfl) ?_
    refine q_region (by kernel_rfl) ?_
    refine Ops.regs 2 [(2, v29)] (j := 2) (by kernel_rfl) (by kernel_rfl) ?_
    refine Ops.done (by kernel_rfl) ?_
    refine q_ret (by kernel_rfl) ?_
    refine ⟨v29, retv_tmp rfl rfl, ?_⟩
    have e : r.bytes = ((((r.sized 65536).2).bs.drop ((r.sized 65536).2).pos).take ((r.sized 65536).1), (⟨((r.sized 65536).2).bs, (((r.sized 65536).2).pos) + ((r.sized 65536).1), ((r.sized 65536).2).why⟩ : Rdr)) := by unfold Rdr.bytes; split <;> first | (exfalso; omega) | rfl | (simp only [Rdr.sized_bs]; done)
    exact ⟨v29, rfl, K46, by rw [e]; exact F49, by rw [e]; exact H44⟩

theorem RdText_calls (w : World) (b : Nat) (A : Option Addr) (c : Nat) (r : Rdr) (hok : r.Ok) (H0 : Has w b (rowL (rdrL A c r) 88)) (hR : RdO w A c r.bs) (hne : ∀ g o s, A = some ⟨g, o, s⟩ → g ≠ b) : Calls Try.prog 41 ⟨[(Value.pointer (some ⟨b, 0, none⟩))]⟩ w (fun e w' => e = .returned (.string (str r.bytes.1)) ∧ Keeps (fun i => i = b) w w' ∧ Has w' b (rowL (rdrL A c (r.bytes).2) 88)) := by
  have hpos := hok.pos
  have hlen := hok.len
  have hsc := r.scan_le
  have hdl : (r.bs.drop r.pos).length = r.bs.length - r.pos := List.length_drop
  have hcap := hR.1.slice
  have Hb := H0.lt
  have K0 : Keeps (fun i => i = b) w w := (Keeps.refl w).mono (fun _ _ h => h.elim)
  refine q_calls Try.func41 (by kernel_rfl) (by kernel_rfl) ?_
  refine q_seq (by kernel_rfl) ?_
  refine q_region (by kernel_rfl) ?_
  refine Ops.regs 1 [(0, (Value.pointer (some ⟨b, 0, none⟩))), (2, (Value.string (str ([] : List UInt8))))] (j := 1) (by kernel_rfl) (by kernel_rfl) ?_
  refine Ops.done (by kernel_rfl) ?_
  refine q_seq (by kernel_rfl) ?_
  refine q_region (by kernel_rfl) ?_
  refine Ops.regs 1 [(2, (Value.string (str ([] : List UInt8)))), (3, (Value.pointer (some ⟨b, 0, none⟩)))] (j := 1) (by kernel_rfl) (by kernel_rfl) ?_
  refine Ops.call (by kernel_rfl) (d := (some 4)) (by kernel_rfl) (RdBytes_calls _ b A c r hok H0 hR hne ) ?_
  rintro _ w1 ⟨v6, rfl, K2, hO7, H3⟩
  have hok4 : (r.bytes).2.Ok := Rdr.Ok.bytes hok
  have hu5 := Rdr.bytes_le hok
  have ob9 : ∀ i, (v6).ownBlock = some i → i ≠ b := fun i hi => by have := (World.ownsRow.lt hO7 i hi).1; have := H0.lt; omega
  have oo10 : ∀ i o s, A = some ⟨i, o, s⟩ → (v6).ownBlock = some i → False := fun i o s hi hs => by have := (World.ownsRow.lt hO7 i hs).1; have := hR.2 i o s hi; omega
  have O8 := own_base hO7 K0.size
  clear hO7
  refine ⟨_, _, rfl, rfl, ?_⟩
  have K12 := K0.trans K2 (U := (fun i => i = b)) (fun i h1 h2 => h2) (fun i h1 h2 => by have h2 : i = b := h2; show i = b; omega)
  clear K0
  have F13 := RdO.keep hR K2 (fun i _ _ hi hs => by have hs : i = b := hs; have := hne i _ _ hi; omega)
  clear hR
  clear K2
  have F14 : RdO w1 A c (r.bytes).2.bs := by rw [Rdr.bytes_bs]; exact F13
  clear F13
  refine Ops.go (v := (Value.string (str ((r.bytes).1)))) (by kernel_rfl) (Runs.b2s (s := 23) (d := 9) (e := 5) (by kernel_rfl) (by kernel_rfl) (by kernel_rfl) (OwnB.rd O8)) (d := (some 5)) (by kernel_rfl) rfl ?_
  refine Ops.regs 1 [(2, (Value.string (str ((r.bytes).1))))] (j := 4) (by kernel_rfl) (by kernel_rfl) ?_
  refine Ops.done (by kernel_rfl) ?_
  refine q_ret (by kernel_rfl) ?_
  refine ⟨(Value.string (str ((r.bytes).1))), retv_tmp rfl rfl, ?_⟩
  exact ⟨rfl, K12, H3⟩

theorem RdBool_calls (w : World) (b : Nat) (A : Option Addr) (c : Nat) (r : Rdr) (hok : r.Ok) (H0 : Has w b (rowL (rdrL A c r) 88)) (hR : RdO w A c r.bs) (hne : ∀ g o s, A = some ⟨g, o, s⟩ → g ≠ b) : Calls Try.prog 40 ⟨[(Value.pointer (some ⟨b, 0, none⟩))]⟩ w (fun e w' => e = .returned (.bool r.bool_.1) ∧ Keeps (fun i => i = b) w w' ∧ Has w' b (rowL (rdrL A c (r.bool_).2) 88)) := by
  have hpos := hok.pos
  have hlen := hok.len
  have hsc := r.scan_le
  have hdl : (r.bs.drop r.pos).length = r.bs.length - r.pos := List.length_drop
  have hcap := hR.1.slice
  have Hb := H0.lt
  have K0 : Keeps (fun i => i = b) w w := (Keeps.refl w).mono (fun _ _ h => h.elim)
  refine q_calls Try.func40 (by kernel_rfl) (by kernel_rfl) ?_
  refine q_seq (by kernel_rfl) ?_
  refine q_region (by kernel_rfl) ?_
  refine Ops.regs 1 [(0, (Value.pointer (some ⟨b, 0, none⟩))), (2, (Value.bool false))] (j := 1) (by kernel_rfl) (by kernel_rfl) ?_
  refine Ops.done (by kernel_rfl) ?_
  refine q_seq (by kernel_rfl) ?_
  refine q_seq (by kernel_rfl) ?_
  refine q_region (by kernel_rfl) ?_
  refine Ops.regs 1 [(0, (Value.pointer (some ⟨b, 0, none⟩))), (2, (Value.bool false)), (4, (Value.pointer (some ⟨b, 0, none⟩)))] (j := 1) (by kernel_rfl) (by kernel_rfl) ?_
  refine Ops.call (by kernel_rfl) (d := (some 5)) (by kernel_rfl) (ok_calls _ b A c r hok H0 hR hne) ?_
  rintro _ w1 ⟨rfl, K2⟩
  refine ⟨_, _, rfl, rfl, ?_⟩
  have K3 := K0.trans K2 (U := (fun i => i = b)) (fun i h1 h2 => h2) (fun i h1 h2 => by exact h2.elim)
  clear K0
  have H4 := H0.keep K2 (fun h => h)
  clear H0
  have F5 := RdO.keep0 hR K2
  clear hR
  clear K2
  refine Ops.regs 1 [(0, (Value.pointer (some ⟨b, 0, none⟩))), (2, (Value.bool false)), (6, (Value.bool (!(r.why == 0))))] (j := 3) (by kernel_rfl) (by kernel_rfl) ?_
  refine Ops.done (by kernel_rfl) ?_
  refine q_cond (o := .tmp 6) (b := (!(r.why == 0))) (by kernel_rfl) rfl (fun h6 => ?_) (fun h6 => ?_)
  · rw [h6]
    have p7 : ¬ (r.why = 0) := of_beq_f (bnot_true h6)
    refine q_seq (by kernel_rfl) ?_
    refine q_region (by kernel_rfl) ?_
    refine Ops.regs 1 [(0, (Value.pointer (some ⟨b, 0, none⟩))), (2, (Value.bool false))] (j := 1) (by kernel_rfl) (by kernel_rfl) ?_
    refine Ops.done (by kernel_rfl) ?_
    refine q_ret (by kernel_rfl) ?_
    refine ⟨(Value.bool false), retv_tmp rfl rfl, ?_⟩
    have e : r.bool_ = (false, r) := by unfold Rdr.bool_; first | (rw [if_pos (by omega)]; done) | (rw [if_neg (by omega)]; first | (rw [hd0]; simp only; first | (rw [if_pos (by omega)]; done) | (rw [if_neg (by omega)]; done)) | (rw [show r.bs.drop r.pos = [] from List.eq_nil_of_length_eq_zero (by omega)]; done))
    exact ⟨by rw [e], K3, by rw [e]; exact H4⟩
  · rw [h6]
    have p8 : r.why = 0 := of_beq_t (bnot_false h6)
    refine q_skip (by kernel_rfl) ?_
    refine q_seq (by kernel_rfl) ?_
    refine q_region (by kernel_rfl) ?_
    refine Ops.regs 1 [(0, (Value.pointer (some ⟨b, 0, none⟩))), (2, (Value.bool false)), (7, (Value.pointer (some ⟨b, 0, none⟩)))] (j := 1) (by kernel_rfl) (by kernel_rfl) ?_
    refine Ops.call (by kernel_rfl) (d := (some 8)) (by kernel_rfl) (left_calls _ b A c r hok H4 F5 hne) ?_
    rintro _ w9 ⟨A11, c12, rfl, K10, h13, hlb14⟩
    have ob15 := left_ne (n := (r.bs.drop r.pos).length) (c := c12) hlb14 hne
    have hdlA11 : (r.bs.drop r.pos).length = r.bs.length - r.pos := List.length_drop
    have hslA11 := RdB.slice h13
    refine ⟨_, _, rfl, rfl, ?_⟩
    have K16 := K3.trans K10 (U := (fun i => i = b)) (fun i h1 h2 => h2) (fun i h1 h2 => by exact h2.elim)
    clear K3
    have H17 := H4.keep K10 (fun h => h)
    clear H4
    have F18 := RdO.keep0 F5 K10
    clear F5
    clear K10
    refine Ops.regs 1 [(0, (Value.pointer (some ⟨b, 0, none⟩))), (2, (Value.bool false)), (3, (Value.slice A11 ((r.bs.drop r.pos).length) c12))] (j := 3) (by kernel_rfl) (by kernel_rfl) ?_
    refine Ops.done (by kernel_rfl) ?_
    refine q_seq (by kernel_rfl) ?_
    refine q_block (id := 0) (by kernel_rfl) ?_
    refine q_seq (by kernel_rfl) ?_
    refine q_region (by kernel_rfl) ?_
    refine Ops.regs 4 [(0, (Value.pointer (some ⟨b, 0, none⟩))), (2, (Value.bool false)), (3, (Value.slice A11 ((r.bs.drop r.pos).length) c12)), (20, (Value.bool ((((r.bs.drop r.pos).length : Nat) : Int) == 0)))] (j := 4) (by kernel_rfl) (by kernel_rfl) ?_
    refine Ops.done (by kernel_rfl) ?_
    refine q_cond (o := .tmp 20) (b := ((((r.bs.drop r.pos).length : Nat) : Int) == 0)) (by kernel_rfl) rfl (fun h19 => ?_) (fun h19 => ?_)
    · rw [h19]
      have p20 : (((r.bs.drop r.pos).length : Nat) : Int) = 0 := of_beq_t h19
      refine q_region (by kernel_rfl) ?_
      refine Ops.regs 3 [(0, (Value.pointer (some ⟨b, 0, none⟩))), (2, (Value.bool false)), (3, (Value.slice A11 ((r.bs.drop r.pos).length) c12)), (26, (Value.pointer (some ⟨b, 2, none⟩)))] (j := 3) (by kernel_rfl) (by kernel_rfl) ?_
      refine Ops.put (t := 28) (b := b) (off := 2) (v := (i64 10)) (ys := [(Value.slice A r.bs.length c), (i64 ((r.pos : Nat) : Int)), (i64 10)]) (by kernel_rfl) (by kernel_rfl) H17 (by kernel_rfl) (d := none) (by kernel_rfl) rfl (fun w21 H22 K23 => ?_)
      clear H17
      have K24 := K16.trans K23 (U := (fun i => i = b)) (fun i h1 h2 => h2) (fun i h1 h2 => by have h2 : i = b := h2; show i = b; omega)
      clear K16
      have F25 := RdO.keep F18 K23 (fun i _ _ hi hs => by have hs : i = b := hs; have := hne i _ _ hi; omega)
      clear F18
      have F26 := Rd.keep (by omega) h13 K23 (fun i hi hs => by have hs : i = b := hs; have := ob15 i hi; omega)
      clear h13
      clear K23
      refine Ops.done (by kernel_rfl) ?_
      refine q_seq (by kernel_rfl) ?_
      refine q_region (by kernel_rfl) ?_
      refine Ops.regs 1 [(2, (Value.bool false))] (j := 1) (by kernel_rfl) (by kernel_rfl) ?_
      refine Ops.done (by kernel_rfl) ?_
      refine q_ret (by kernel_rfl) ?_
      refine ⟨(Value.bool false), retv_tmp rfl rfl, ?_⟩
      have e : r.bool_ = (false, (⟨r.bs, r.pos, 10⟩ : Rdr)) := by unfold Rdr.bool_; first | (rw [if_pos (by omega)]; done) | (rw [if_neg (by omega)]; first | (rw [hd0]; simp only; first | (rw [if_pos (by omega)]; done) | (rw [if_neg (by omega)]; done)) | (rw [show r.bs.drop r.pos = [] from List.eq_nil_of_length_eq_zero (by omega)]; done))
      exact ⟨by rw [e], K24, by rw [e]; exact H22⟩
    · rw [h19]
      have p27 : ¬ ((((r.bs.drop r.pos).length : Nat) : Int) = 0) := of_beq_f h19
      obtain ⟨lb28, lo29, hA30⟩ := RdB.addr h13 (by omega)
      obtain ⟨x, hx31⟩ : ∃ y, (r.bs.drop r.pos)[0]? = some y := ⟨_, List.getElem?_eq_getElem (by omega)⟩
      have x256 : x.toNat < 256 := x.toNat_lt
      have hd0 : r.bs.drop r.pos = x :: (r.bs.drop r.pos).tail := by cases hq : r.bs.drop r.pos with | nil => rw [hq] at hx31; cases hx31 | cons y ys => rw [hq] at hx31; simp only [List.getElem?_cons_zero, Option.some.injEq] at hx31; rw [hx31]; rfl
      refine q_seq (by kernel_rfl) ?_
      refine q_region (by kernel_rfl) ?_
      refine Ops.regs 1 [(0, (Value.pointer (some ⟨b, 0, none⟩))), (2, (Value.bool false)), (3, (Value.slice A11 ((r.bs.drop r.pos).length) c12)), (28, (Value.slice A11 ((r.bs.drop r.pos).length) c12))] (j := 1) (by kernel_rfl) (by kernel_rfl) ?_
      refine Ops.go (by kernel_rfl) (Runs.ixSliceE (k := IntKind.i64) (t := 23) (len := ((r.bs.drop r.pos).length)) (cap := c12) (s := 1) (off' := lo29 + 0) (i := 0) hA30 (by kernel_rfl) (by kernel_rfl) (by omega) (by omega) (by omega)) (d := (some 29)) (by kernel_rfl) rfl ?_
      refine Ops.go (v := (Value.int IntKind.u8 ((x.toNat : Nat) : Int))) (by kernel_rfl) (Runs.load (t := 5) (a := ⟨lb28, lo29 + 0, none⟩) (by kernel_rfl) (RdB.ld h13 (by kernel_rfl) hA30 hx31)) (d := (some 30)) (by kernel_rfl) rfl ?_
      refine Ops.regs 2 [(0, (Value.pointer (some ⟨b, 0, none⟩))), (2, (Value.bool false)), (3, (Value.slice A11 ((r.bs.drop r.pos).length) c12)), (27, (Value.bool (decide (((x.toNat : Nat) : Int) > 1))))] (j := 5) (by kernel_rfl) (by kernel_rfl) ?_
      refine Ops.done (by kernel_rfl) ?_
      refine q_cond (o := .tmp 27) (b := (decide (((x.toNat : Nat) : Int) > 1))) (by kernel_rfl) rfl (fun h32 => ?_) (fun h32 => ?_)
      · rw [h32]
        have p33 : ((x.toNat : Nat) : Int) > 1 := of_decide_eq_true h32
        refine q_region (by kernel_rfl) ?_
        refine Ops.regs 3 [(0, (Value.pointer (some ⟨b, 0, none⟩))), (2, (Value.bool false)), (3, (Value.slice A11 ((r.bs.drop r.pos).length) c12)), (34, (Value.pointer (some ⟨b, 2, none⟩)))] (j := 3) (by kernel_rfl) (by kernel_rfl) ?_
        refine Ops.put (t := 28) (b := b) (off := 2) (v := (i64 11)) (ys := [(Value.slice A r.bs.length c), (i64 ((r.pos : Nat) : Int)), (i64 11)]) (by kernel_rfl) (by kernel_rfl) H17 (by kernel_rfl) (d := none) (by kernel_rfl) rfl (fun w34 H35 K36 => ?_)
        clear H17
        have K37 := K16.trans K36 (U := (fun i => i = b)) (fun i h1 h2 => h2) (fun i h1 h2 => by have h2 : i = b := h2; show i = b; omega)
        clear K16
        have F38 := RdO.keep F18 K36 (fun i _ _ hi hs => by have hs : i = b := hs; have := hne i _ _ hi; omega)
        clear F18
        have F39 := Rd.keep (by omega) h13 K36 (fun i hi hs => by have hs : i = b := hs; have := ob15 i hi; omega)
        clear h13
        clear K36
        refine Ops.done (by kernel_rfl) ?_
        refine q_seq (by kernel_rfl) ?_
        refine q_region (by kernel_rfl) ?_
        refine Ops.regs 1 [(2, (Value.bool false))] (j := 1) (by kernel_rfl) (by kernel_rfl) ?_
        refine Ops.done (by kernel_rfl) ?_
        refine q_ret (by kernel_rfl) ?_
        refine ⟨(Value.bool false), retv_tmp rfl rfl, ?_⟩
        have e : r.bool_ = (false, (⟨r.bs, r.pos, 11⟩ : Rdr)) := by unfold Rdr.bool_; first | (rw [if_pos (by omega)]; done) | (rw [if_neg (by omega)]; first | (rw [hd0]; simp only; first | (rw [if_pos (by omega)]; done) | (rw [if_neg (by omega)]; done)) | (rw [show r.bs.drop r.pos = [] from List.eq_nil_of_length_eq_zero (by omega)]; done))
        exact ⟨by rw [e], K37, by rw [e]; exact H35⟩
      · rw [h32]
        have p40 : ¬ (((x.toNat : Nat) : Int) > 1) := of_decide_eq_false h32
        refine q_seq (by kernel_rfl) ?_
        refine q_region (by kernel_rfl) ?_
        refine Ops.regs 3 [(2, (Value.bool false)), (3, (Value.slice A11 ((r.bs.drop r.pos).length) c12)), (9, (Value.pointer (some ⟨b, 0, none⟩))), (11, (Value.pointer (some ⟨b, 1, none⟩)))] (j := 3) (by kernel_rfl) (by kernel_rfl) ?_
        refine Ops.go (v := (i64 ((r.pos : Nat) : Int))) (by kernel_rfl) (Runs.load (t := 3) (a := ⟨b, 1, none⟩) (by kernel_rfl) (H17.loads (by kernel_rfl))) (d := (some 12)) (by kernel_rfl) rfl ?_
        refine Ops.regs 1 [(2, (Value.bool false)), (3, (Value.slice A11 ((r.bs.drop r.pos).length) c12)), (9, (Value.pointer (some ⟨b, 0, none⟩))), (13, (i64 (IntKind.i64.wrap (((r.pos : Nat) : Int) + 1))))] (j := 5) (by kernel_rfl) (by kernel_rfl) ?_
        have e41 : IntKind.i64.wrap (((r.pos : Nat) : Int) + 1) = ((r.pos + 1 : Nat) : Int) := by rw [wrap_i64 (by omega) (by omega)]; omega
        rw [e41]
        clear e41
        refine Ops.regs 2 [(2, (Value.bool false)), (3, (Value.slice A11 ((r.bs.drop r.pos).length) c12)), (13, (i64 ((r.pos + 1 : Nat) : Int))), (15, (Value.pointer (some ⟨b, 1, none⟩)))] (j := 7) (by kernel_rfl) (by kernel_rfl) ?_
        refine Ops.put (t := 3) (b := b) (off := 1) (v := (i64 ((r.pos + 1 : Nat) : Int))) (ys := [(Value.slice A r.bs.length c), (i64 ((r.pos + 1 : Nat) : Int)), (i64 r.why)]) (by kernel_rfl) (by kernel_rfl) H17 (by kernel_rfl) (d := none) (by kernel_rfl) rfl (fun w42 H43 K44 => ?_)
        clear H17
        have K45 := K16.trans K44 (U := (fun i => i = b)) (fun i h1 h2 => h2) (fun i h1 h2 => by have h2 : i = b := h2; show i = b; omega)
        clear K16
        have F46 := RdO.keep F18 K44 (fun i _ _ hi hs => by have hs : i = b := hs; have := hne i _ _ hi; omega)
        clear F18
        have F47 := Rd.keep (by omega) h13 K44 (fun i hi hs => by have hs : i = b := hs; have := ob15 i hi; omega)
        clear h13
        clear K44
        refine Ops.done (by kernel_rfl) ?_
        refine q_seq (by kernel_rfl) ?_
        refine q_region (by kernel_rfl) ?_
        refine Ops.regs 1 [(2, (Value.bool false)), (16, (Value.slice A11 ((r.bs.drop r.pos).length) c12))] (j := 1) (by kernel_rfl) (by kernel_rfl) ?_
        refine Ops.go (by kernel_rfl) (Runs.ixSliceE (k := IntKind.i64) (t := 23) (len := ((r.bs.drop r.pos).length)) (cap := c12) (s := 1) (off' := lo29 + 0) (i := 0) hA30 (by kernel_rfl) (by kernel_rfl) (by omega) (by omega) (by omega)) (d := (some 17)) (by kernel_rfl) rfl ?_
        refine Ops.go (v := (Value.int IntKind.u8 ((x.toNat : Nat) : Int))) (by kernel_rfl) (Runs.load (t := 5) (a := ⟨lb28, lo29 + 0, none⟩) (by kernel_rfl) (RdB.ld F47 (by kernel_rfl) hA30 hx31)) (d := (some 18)) (by kernel_rfl) rfl ?_
        refine Ops.regs 2 [(2, (Value.bool (((x.toNat : Nat) : Int) == 1)))] (j := 5) (by kernel_rfl) (by kernel_rfl) ?_
        refine Ops.done (by kernel_rfl) ?_
        refine q_ret (by kernel_rfl) ?_
        refine ⟨(Value.bool (((x.toNat : Nat) : Int) == 1)), retv_tmp rfl rfl, ?_⟩
        have e : r.bool_ = (x.toNat == 1, (⟨r.bs, r.pos + 1, r.why⟩ : Rdr)) := by unfold Rdr.bool_; first | (rw [if_pos (by omega)]; done) | (rw [if_neg (by omega)]; first | (rw [hd0]; simp only; first | (rw [if_pos (by omega)]; done) | (rw [if_neg (by omega)]; done)) | (rw [show r.bs.drop r.pos = [] from List.eq_nil_of_length_eq_zero (by omega)]; done))
        have e1 : (((x.toNat : Nat) : Int) == 1) = (x.toNat == 1) := by rw [Bool.eq_iff_iff]; simp only [beq_iff_eq]; omega
        exact ⟨by rw [e]; show _ = Ending.returned (Value.bool (x.toNat == 1)); rw [← e1], K45, by rw [e]; exact H43⟩
end Go.Proofs.Ytnepjfnkaigakaa
