/- codec: the reference's reader: how many, bytes, texts, truths -/
import Derived.Test.YtnepjfnkaigakaaProg
import Derived.Test.YtnepjfnkaigakaaLibOps
import Derived.Test.YtnepjfnkaigakaaK13
set_option linter.unusedVariables false
namespace Go.Proofs.Ytnepjfnkaigakaa
open Go.Q Go.RowKit

theorem RRCount_calls (w : World) (b : Nat) (A : Option Addr) (c : Nat) (r : Rdr) (hok : r.Ok) (H0 : Has w b (rowL (rdrL A c r) 72)) (hR : RdO w A c r.bs) (hne : ∀ g o s, A = some ⟨g, o, s⟩ → g ≠ b) (most : Int) (hm : -9223372036854775808 ≤ most ∧ most ≤ 9223372036854775807) : Calls Try.prog 73 ⟨[(Value.pointer (some ⟨b, 0, none⟩)), (i64 most)]⟩ w (fun e w' => e = .returned (i64 (((r.sized most).1 : Nat) : Int)) ∧ Keeps (fun i => i = b) w w' ∧ Has w' b (rowL (rdrL A c (r.sized most).2) 72)) := by
  have hpos := hok.pos
  have hlen := hok.len
  have hsc := r.scan_le
  have hdl : (r.bs.drop r.pos).length = r.bs.length - r.pos := List.length_drop
  have hcap := hR.1.slice
  have Hb := H0.lt
  have K0 : Keeps (fun i => i = b) w w := (Keeps.refl w).mono (fun _ _ h => h.elim)
  have hub := r.uint_bs
  have hubl := congrArg List.length hub
  have hul := r.uint_lt
  have hw0 : r.why ≠ 0 → r.uint.1 = 0 ∧ r.uint.2.pos = r.pos ∧ r.uint.2.why = r.why := fun h => by rw [Rdr.uint_err h]; exact ⟨rfl, rfl, rfl⟩
  have hup := hok.uint.pos
  refine q_calls Try.func73 (by kernel_rfl) (by kernel_rfl) ?_
  refine q_seq (by kernel_rfl) ?_
  refine q_region (by kernel_rfl) ?_
  refine Ops.regs 1 [(0, (Value.pointer (some ⟨b, 0, none⟩))), (1, (i64 most)), (4, (i64 0))] (j := 1) (by kernel_rfl) (by kernel_rfl) ?_
  refine Ops.done (by kernel_rfl) ?_
  refine q_seq (by kernel_rfl) ?_
  refine q_region (by kernel_rfl) ?_
  refine Ops.regs 3 [(0, (Value.pointer (some ⟨b, 0, none⟩))), (1, (i64 most)), (4, (i64 0)), (9, (Value.pointer (some ⟨b, 1, none⟩)))] (j := 3) (by kernel_rfl) (by kernel_rfl) ?_
  refine Ops.go (v := (i64 ((r.pos : Nat) : Int))) (by kernel_rfl) (Runs.load (t := 3) (a := ⟨b, 1, none⟩) (by kernel_rfl) (H0.loads (by kernel_rfl))) (d := (some 10)) (by kernel_rfl) rfl ?_
  refine Ops.regs 1 [(0, (Value.pointer (some ⟨b, 0, none⟩))), (1, (i64 most)), (4, (i64 0)), (5, (i64 ((r.pos : Nat) : Int)))] (j := 5) (by kernel_rfl) (by kernel_rfl) ?_
  refine Ops.done (by kernel_rfl) ?_
  refine q_seq (by kernel_rfl) ?_
  refine q_region (by kernel_rfl) ?_
  refine Ops.regs 1 [(0, (Value.pointer (some ⟨b, 0, none⟩))), (1, (i64 most)), (4, (i64 0)), (5, (i64 ((r.pos : Nat) : Int))), (11, (Value.pointer (some ⟨b, 0, none⟩)))] (j := 1) (by kernel_rfl) (by kernel_rfl) ?_
  refine Ops.call (by kernel_rfl) (d := (some 12)) (by kernel_rfl) (RRUint_calls _ b A c r hok H0 hR hne) ?_
  rintro _ w1 ⟨rfl, K2, H3⟩
  have hok4 := Rdr.Ok.uint hok
  have hu5 := Rdr.uint_lt r
  refine ⟨_, _, rfl, rfl, ?_⟩
  have K6 := K0.trans K2 (U := (fun i => i = b)) (fun i h1 h2 => h2) (fun i h1 h2 => by have h2 : i = b := h2; show i = b; omega)
  clear K0
  have F7 := RdO.keep hR K2 (fun i _ _ hi hs => by have hs : i = b := hs; have := hne i _ _ hi; omega)
  clear hR
  clear K2
  have F8 : RdO w1 A c (r.uint.2).bs := by rw [Rdr.uint_bs]; exact F7
  clear F7
  refine Ops.regs 1 [(0, (Value.pointer (some ⟨b, 0, none⟩))), (1, (i64 most)), (4, (i64 0)), (5, (i64 ((r.pos : Nat) : Int))), (6, (Value.int IntKind.u64 ((r.uint.1 : Nat) : Int)))] (j := 3) (by kernel_rfl) (by kernel_rfl) ?_
  refine Ops.done (by kernel_rfl) ?_
  refine q_seq (by kernel_rfl) ?_
  refine q_seq (by kernel_rfl) ?_
  refine q_region (by kernel_rfl) ?_
  refine Ops.regs 3 [(0, (Value.pointer (some ⟨b, 0, none⟩))), (1, (i64 most)), (4, (i64 0)), (5, (i64 ((r.pos : Nat) : Int))), (6, (Value.int IntKind.u64 ((r.uint.1 : Nat) : Int))), (15, (Value.pointer (some ⟨b, 2, none⟩)))] (j := 3) (by kernel_rfl) (by kernel_rfl) ?_
  refine Ops.go (v := (i64 r.uint.2.why)) (by kernel_rfl) (Runs.load (t := 28) (a := ⟨b, 2, none⟩) (by kernel_rfl) (H3.loads (by kernel_rfl))) (d := (some 16)) (by kernel_rfl) rfl ?_
  refine Ops.regs 2 [(0, (Value.pointer (some ⟨b, 0, none⟩))), (1, (i64 most)), (4, (i64 0)), (5, (i64 ((r.pos : Nat) : Int))), (6, (Value.int IntKind.u64 ((r.uint.1 : Nat) : Int))), (18, (Value.bool (r.uint.2.why == 0)))] (j := 6) (by kernel_rfl) (by kernel_rfl) ?_
  refine Ops.split (r.uint.2.why == 0) (fun h9 => ?_) (fun h9 => ?_)
  · rw [h9]
    have p10 : r.uint.2.why = 0 := of_beq_t h9
    refine Ops.regs 3 [(0, (Value.pointer (some ⟨b, 0, none⟩))), (1, (i64 most)), (4, (i64 0)), (5, (i64 ((r.pos : Nat) : Int))), (6, (Value.int IntKind.u64 ((r.uint.1 : Nat) : Int))), (18, (Value.bool true)), (21, (Value.bool (decide (most < 0))))] (j := 9) (by kernel_rfl) (by kernel_rfl) ?_
    refine Ops.split (decide (most < 0)) (fun h11 => ?_) (fun h11 => ?_)
    · rw [h11]
      have p12 : most < 0 := of_decide_eq_true h11
      refine Ops.regs 6 [(0, (Value.pointer (some ⟨b, 0, none⟩))), (4, (i64 0)), (5, (i64 ((r.pos : Nat) : Int))), (6, (Value.int IntKind.u64 ((r.uint.1 : Nat) : Int))), (27, (Value.bool true))] (j := 15) (by kernel_rfl) (by kernel_rfl) ?_
      refine Ops.done (by kernel_rfl) ?_
      refine q_then (o := .tmp 27) (by kernel_rfl) rfl ?_
      refine q_region (by kernel_rfl) ?_
      refine Ops.regs 3 [(0, (Value.pointer (some ⟨b, 0, none⟩))), (4, (i64 0)), (5, (i64 ((r.pos : Nat) : Int))), (6, (Value.int IntKind.u64 ((r.uint.1 : Nat) : Int))), (30, (Value.pointer (some ⟨b, 2, none⟩)))] (j := 3) (by kernel_rfl) (by kernel_rfl) ?_
      refine Ops.put (t := 28) (b := b) (off := 2) (v := (i64 3)) (ys := [(Value.slice A r.uint.2.bs.length c), (i64 ((r.uint.2.pos : Nat) : Int)), (i64 3)]) (by kernel_rfl) (by kernel_rfl) H3 (by kernel_rfl) (d := none) (by kernel_rfl) rfl (fun w13 H14 K15 => ?_)
      clear H3
      have K16 := K6.trans K15 (U := (fun i => i = b)) (fun i h1 h2 => h2) (fun i h1 h2 => by have h2 : i = b := h2; show i = b; omega)
      clear K6
      have F17 := RdO.keep F8 K15 (fun i _ _ hi hs => by have hs : i = b := hs; have := hne i _ _ hi; omega)
      clear F8
      clear K15
      refine Ops.done (by kernel_rfl) ?_
      refine q_seq (by kernel_rfl) ?_
      refine q_seq (by kernel_rfl) ?_
      refine q_draw (fun wz => Keeps none_ w13 wz) 20 (by kernel_rfl) (by kernel_rfl) (by kernel_rfl) (fun w18 K19 _ _ => ⟨K19, ?_⟩)
      have K20 := K16.trans K19 (U := (fun i => i = b)) (fun i h1 h2 => h2) (fun i h1 h2 => by exact h2.elim)
      clear K16
      have H21 := H14.keep K19 (fun h => h)
      clear H14
      have F22 := RdO.keep0 F17 K19
      clear F17
      refine Dr.strong (S' := (fun wz => Keeps none_ w18 wz)) (Keeps.refl w18) (fun wz hx => K19.trans hx (fun i _ h => h) (fun _ _ h => h)) ?_
      clear K19
      refine Dr.takes (fuel' := 17) (is' := [2, 1, 0]) [0, 1, 2] [(0, (Value.pointer (some ⟨b, 0, none⟩))), (4, (i64 0)), (5, (i64 ((r.pos : Nat) : Int))), (6, (Value.int IntKind.u64 ((r.uint.1 : Nat) : Int))), (33, (Value.pointer (some ⟨b, 2, none⟩)))] (by kernel_rfl) rfl (by kernel_rfl) ?_
      refine Dr.take (i := 3) (v := (i64 3)) (by kernel_rfl) (by kernel_rfl) (fun wz hS => Runs.load (t := 28) (a := ⟨b, 2, none⟩) (by kernel_rfl) ((H21.keep hS (fun h => h)).loads (by kernel_rfl))) (d := (some 34)) (by kernel_rfl) rfl ?_
      refine Dr.takes (fuel' := 0) (is' := [19, 18, 17, 16, 15, 14, 13, 12, 11, 10, 9, 8, 7, 6, 5, 4, 3, 2, 1, 0]) [4, 5, 6, 7, 8, 9, 10, 11, 12, 13, 14, 15, 16, 17, 18, 19] [(0, (Value.pointer (some ⟨b, 0, none⟩))), (4, (i64 0)), (5, (i64 ((r.pos : Nat) : Int))), (6, (Value.int IntKind.u64 ((r.uint.1 : Nat) : Int))), (50, (Value.bool false))] (by kernel_rfl) rfl (by kernel_rfl) ?_
      refine Dr.done (by kernel_rfl) ?_
      refine q_else (o := .tmp 50) (by kernel_rfl) rfl ?_
      refine q_skip (by kernel_rfl) ?_
      refine q_seq (by kernel_rfl) ?_
      refine q_seq (by kernel_rfl) ?_
      refine q_region (by kernel_rfl) ?_
      refine Ops.regs 3 [(0, (Value.pointer (some ⟨b, 0, none⟩))), (4, (i64 0)), (5, (i64 ((r.pos : Nat) : Int))), (6, (Value.int IntKind.u64 ((r.uint.1 : Nat) : Int))), (56, (Value.pointer (some ⟨b, 2, none⟩)))] (j := 3) (by kernel_rfl) (by kernel_rfl) ?_
      refine Ops.go (v := (i64 3)) (by kernel_rfl) (Runs.load (t := 28) (a := ⟨b, 2, none⟩) (by kernel_rfl) (H21.loads (by kernel_rfl))) (d := (some 57)) (by kernel_rfl) rfl ?_
      refine Ops.regs 1 [(0, (Value.pointer (some ⟨b, 0, none⟩))), (4, (i64 0)), (5, (i64 ((r.pos : Nat) : Int))), (6, (Value.int IntKind.u64 ((r.uint.1 : Nat) : Int))), (58, (Value.bool true))] (j := 5) (by kernel_rfl) (by kernel_rfl) ?_
      refine Ops.done (by kernel_rfl) ?_
      refine q_then (o := .tmp 58) (by kernel_rfl) rfl ?_
      refine q_seq (by kernel_rfl) ?_
      refine q_region (by kernel_rfl) ?_
      refine Ops.regs 4 [(4, (i64 0)), (6, (Value.int IntKind.u64 ((r.uint.1 : Nat) : Int))), (60, (i64 ((r.pos : Nat) : Int))), (62, (Value.pointer (some ⟨b, 1, none⟩)))] (j := 4) (by kernel_rfl) (by kernel_rfl) ?_
      refine Ops.put (t := 3) (b := b) (off := 1) (v := (i64 ((r.pos : Nat) : Int))) (ys := [(Value.slice A r.uint.2.bs.length c), (i64 ((r.pos : Nat) : Int)), (i64 3)]) (by kernel_rfl) (by kernel_rfl) H21 (by kernel_rfl) (d := none) (by kernel_rfl) rfl (fun w23 H24 K25 => ?_)
      clear H21
      have K26 := K20.trans K25 (U := (fun i => i = b)) (fun i h1 h2 => h2) (fun i h1 h2 => by have h2 : i = b := h2; show i = b; omega)
      clear K20
      have F27 := RdO.keep F22 K25 (fun i _ _ hi hs => by have hs : i = b := hs; have := hne i _ _ hi; omega)
      clear F22
      clear K25
      refine Ops.done (by kernel_rfl) ?_
      refine q_seq (by kernel_rfl) ?_
      refine q_region (by kernel_rfl) ?_
      refine Ops.regs 1 [(4, (i64 0)), (6, (Value.int IntKind.u64 ((r.uint.1 : Nat) : Int)))] (j := 1) (by kernel_rfl) (by kernel_rfl) ?_
      refine Ops.done (by kernel_rfl) ?_
      refine q_ret (by kernel_rfl) ?_
      refine ⟨(i64 0), retv_tmp rfl rfl, ?_⟩
      have e : r.sized most = (0, (⟨r.uint.2.bs, r.pos, 3⟩ : Rdr)) := by by_cases hr0 : r.why = 0; (unfold Rdr.sized; (repeat' split) <;> first | (exfalso; omega) | rfl | (simp only [Rdr.uint_bs]; done) | (rw [Rdr.uint_bs]; done)); (have hr1 := hw0 hr0; rw [Rdr.sized_err hr0]; first | (exfalso; omega) | (rw [Rdr.uint_bs, hr1.2.2]; done))
      exact ⟨by first | (rw [e]; done) | (rw [e]; rfl), K26, by rw [e]; exact H24⟩
    · rw [h11]
      have p28 : ¬ (most < 0) := of_decide_eq_false h11
      refine Ops.regs 3 [(0, (Value.pointer (some ⟨b, 0, none⟩))), (4, (i64 0)), (5, (i64 ((r.pos : Nat) : Int))), (6, (Value.int IntKind.u64 ((r.uint.1 : Nat) : Int))), (18, (Value.bool true)), (21, (Value.bool false)), (22, (Value.int IntKind.u64 ((r.uint.1 : Nat) : Int))), (24, (Value.int IntKind.u64 (IntKind.u64.wrap (most))))] (j := 12) (by kernel_rfl) (by kernel_rfl) ?_
      have e29 : IntKind.u64.wrap (most) = most := wrap_u64 (by omega) (by omega)
      rw [e29]
      refine Ops.regs 3 [(0, (Value.pointer (some ⟨b, 0, none⟩))), (4, (i64 0)), (5, (i64 ((r.pos : Nat) : Int))), (6, (Value.int IntKind.u64 ((r.uint.1 : Nat) : Int))), (27, (Value.bool (decide (((r.uint.1 : Nat) : Int) > most))))] (j := 15) (by kernel_rfl) (by kernel_rfl) ?_
      refine Ops.done (by kernel_rfl) ?_
      refine q_cond (o := .tmp 27) (b := (decide (((r.uint.1 : Nat) : Int) > most))) (by kernel_rfl) rfl (fun h30 => ?_) (fun h30 => ?_)
      · rw [h30]
        have p31 : ((r.uint.1 : Nat) : Int) > most := of_decide_eq_true h30
        refine q_region (by kernel_rfl) ?_
        refine Ops.regs 3 [(0, (Value.pointer (some ⟨b, 0, none⟩))), (4, (i64 0)), (5, (i64 ((r.pos : Nat) : Int))), (6, (Value.int IntKind.u64 ((r.uint.1 : Nat) : Int))), (30, (Value.pointer (some ⟨b, 2, none⟩)))] (j := 3) (by kernel_rfl) (by kernel_rfl) ?_
        refine Ops.put (t := 28) (b := b) (off := 2) (v := (i64 3)) (ys := [(Value.slice A r.uint.2.bs.length c), (i64 ((r.uint.2.pos : Nat) : Int)), (i64 3)]) (by kernel_rfl) (by kernel_rfl) H3 (by kernel_rfl) (d := none) (by kernel_rfl) rfl (fun w32 H33 K34 => ?_)
        clear H3
        have K35 := K6.trans K34 (U := (fun i => i = b)) (fun i h1 h2 => h2) (fun i h1 h2 => by have h2 : i = b := h2; show i = b; omega)
        clear K6
        have F36 := RdO.keep F8 K34 (fun i _ _ hi hs => by have hs : i = b := hs; have := hne i _ _ hi; omega)
        clear F8
        clear K34
        refine Ops.done (by kernel_rfl) ?_
        refine q_seq (by kernel_rfl) ?_
        refine q_seq (by kernel_rfl) ?_
        refine q_draw (fun wz => Keeps none_ w32 wz) 20 (by kernel_rfl) (by kernel_rfl) (by kernel_rfl) (fun w37 K38 _ _ => ⟨K38, ?_⟩)
        have K39 := K35.trans K38 (U := (fun i => i = b)) (fun i h1 h2 => h2) (fun i h1 h2 => by exact h2.elim)
        clear K35
        have H40 := H33.keep K38 (fun h => h)
        clear H33
        have F41 := RdO.keep0 F36 K38
        clear F36
        refine Dr.strong (S' := (fun wz => Keeps none_ w37 wz)) (Keeps.refl w37) (fun wz hx => K38.trans hx (fun i _ h => h) (fun _ _ h => h)) ?_
        clear K38
        refine Dr.takes (fuel' := 17) (is' := [2, 1, 0]) [0, 1, 2] [(0, (Value.pointer (some ⟨b, 0, none⟩))), (4, (i64 0)), (5, (i64 ((r.pos : Nat) : Int))), (6, (Value.int IntKind.u64 ((r.uint.1 : Nat) : Int))), (33, (Value.pointer (some ⟨b, 2, none⟩)))] (by kernel_rfl) rfl (by kernel_rfl) ?_
        refine Dr.take (i := 3) (v := (i64 3)) (by kernel_rfl) (by kernel_rfl) (fun wz hS => Runs.load (t := 28) (a := ⟨b, 2, none⟩) (by kernel_rfl) ((H40.keep hS (fun h => h)).loads (by kernel_rfl))) (d := (some 34)) (by kernel_rfl) rfl ?_
        refine Dr.takes (fuel' := 0) (is' := [19, 18, 17, 16, 15, 14, 13, 12, 11, 10, 9, 8, 7, 6, 5, 4, 3, 2, 1, 0]) [4, 5, 6, 7, 8, 9, 10, 11, 12, 13, 14, 15, 16, 17, 18, 19] [(0, (Value.pointer (some ⟨b, 0, none⟩))), (4, (i64 0)), (5, (i64 ((r.pos : Nat) : Int))), (6, (Value.int IntKind.u64 ((r.uint.1 : Nat) : Int))), (50, (Value.bool false))] (by kernel_rfl) rfl (by kernel_rfl) ?_
        refine Dr.done (by kernel_rfl) ?_
        refine q_else (o := .tmp 50) (by kernel_rfl) rfl ?_
        refine q_skip (by kernel_rfl) ?_
        refine q_seq (by kernel_rfl) ?_
        refine q_seq (by kernel_rfl) ?_
        refine q_region (by kernel_rfl) ?_
        refine Ops.regs 3 [(0, (Value.pointer (some ⟨b, 0, none⟩))), (4, (i64 0)), (5, (i64 ((r.pos : Nat) : Int))), (6, (Value.int IntKind.u64 ((r.uint.1 : Nat) : Int))), (56, (Value.pointer (some ⟨b, 2, none⟩)))] (j := 3) (by kernel_rfl) (by kernel_rfl) ?_
        refine Ops.go (v := (i64 3)) (by kernel_rfl) (Runs.load (t := 28) (a := ⟨b, 2, none⟩) (by kernel_rfl) (H40.loads (by kernel_rfl))) (d := (some 57)) (by kernel_rfl) rfl ?_
        refine Ops.regs 1 [(0, (Value.pointer (some ⟨b, 0, none⟩))), (4, (i64 0)), (5, (i64 ((r.pos : Nat) : Int))), (6, (Value.int IntKind.u64 ((r.uint.1 : Nat) : Int))), (58, (Value.bool true))] (j := 5) (by kernel_rfl) (by kernel_rfl) ?_
        refine Ops.done (by kernel_rfl) ?_
        refine q_then (o := .tmp 58) (by kernel_rfl) rfl ?_
        refine q_seq (by kernel_rfl) ?_
        refine q_region (by kernel_rfl) ?_
        refine Ops.regs 4 [(4, (i64 0)), (6, (Value.int IntKind.u64 ((r.uint.1 : Nat) : Int))), (60, (i64 ((r.pos : Nat) : Int))), (62, (Value.pointer (some ⟨b, 1, none⟩)))] (j := 4) (by kernel_rfl) (by kernel_rfl) ?_
        refine Ops.put (t := 3) (b := b) (off := 1) (v := (i64 ((r.pos : Nat) : Int))) (ys := [(Value.slice A r.uint.2.bs.length c), (i64 ((r.pos : Nat) : Int)), (i64 3)]) (by kernel_rfl) (by kernel_rfl) H40 (by kernel_rfl) (d := none) (by kernel_rfl) rfl (fun w42 H43 K44 => ?_)
        clear H40
        have K45 := K39.trans K44 (U := (fun i => i = b)) (fun i h1 h2 => h2) (fun i h1 h2 => by have h2 : i = b := h2; show i = b; omega)
        clear K39
        have F46 := RdO.keep F41 K44 (fun i _ _ hi hs => by have hs : i = b := hs; have := hne i _ _ hi; omega)
        clear F41
        clear K44
        refine Ops.done (by kernel_rfl) ?_
        refine q_seq (by kernel_rfl) ?_
        refine q_region (by kernel_rfl) ?_
        refine Ops.regs 1 [(4, (i64 0)), (6, (Value.int IntKind.u64 ((r.uint.1 : Nat) : Int)))] (j := 1) (by kernel_rfl) (by kernel_rfl) ?_
        refine Ops.done (by kernel_rfl) ?_
        refine q_ret (by kernel_rfl) ?_
        refine ⟨(i64 0), retv_tmp rfl rfl, ?_⟩
        have e : r.sized most = (0, (⟨r.uint.2.bs, r.pos, 3⟩ : Rdr)) := by by_cases hr0 : r.why = 0; (unfold Rdr.sized; (repeat' split) <;> first | (exfalso; omega) | rfl | (simp only [Rdr.uint_bs]; done) | (rw [Rdr.uint_bs]; done)); (have hr1 := hw0 hr0; rw [Rdr.sized_err hr0]; first | (exfalso; omega) | (rw [Rdr.uint_bs, hr1.2.2]; done))
        exact ⟨by first | (rw [e]; done) | (rw [e]; rfl), K45, by rw [e]; exact H43⟩
      · rw [h30]
        have p47 : ¬ (((r.uint.1 : Nat) : Int) > most) := of_decide_eq_false h30
        refine q_skip (by kernel_rfl) ?_
        refine q_seq (by kernel_rfl) ?_
        refine q_seq (by kernel_rfl) ?_
        refine q_draw (fun wz => Keeps none_ w1 wz) 20 (by kernel_rfl) (by kernel_rfl) (by kernel_rfl) (fun w48 K49 _ _ => ⟨K49, ?_⟩)
        have K50 := K6.trans K49 (U := (fun i => i = b)) (fun i h1 h2 => h2) (fun i h1 h2 => by exact h2.elim)
        clear K6
        have H51 := H3.keep K49 (fun h => h)
        clear H3
        have F52 := RdO.keep0 F8 K49
        clear F8
        refine Dr.strong (S' := (fun wz => Keeps none_ w48 wz)) (Keeps.refl w48) (fun wz hx => K49.trans hx (fun i _ h => h) (fun _ _ h => h)) ?_
        clear K49
        refine Dr.takes (fuel' := 17) (is' := [2, 1, 0]) [0, 1, 2] [(0, (Value.pointer (some ⟨b, 0, none⟩))), (4, (i64 0)), (5, (i64 ((r.pos : Nat) : Int))), (6, (Value.int IntKind.u64 ((r.uint.1 : Nat) : Int))), (33, (Value.pointer (some ⟨b, 2, none⟩)))] (by kernel_rfl) rfl (by kernel_rfl) ?_
        refine Dr.take (i := 3) (v := (i64 r.uint.2.why)) (by kernel_rfl) (by kernel_rfl) (fun wz hS => Runs.load (t := 28) (a := ⟨b, 2, none⟩) (by kernel_rfl) ((H51.keep hS (fun h => h)).loads (by kernel_rfl))) (d := (some 34)) (by kernel_rfl) rfl ?_
        refine Dr.takes (fuel' := 14) (is' := [5, 4, 3, 2, 1, 0]) [4, 5] [(0, (Value.pointer (some ⟨b, 0, none⟩))), (4, (i64 0)), (5, (i64 ((r.pos : Nat) : Int))), (6, (Value.int IntKind.u64 ((r.uint.1 : Nat) : Int))), (36, (Value.bool (r.uint.2.why == 0)))] (by kernel_rfl) rfl (by kernel_rfl) ?_
        rw [h9]
        refine Dr.takes (fuel' := 10) (is' := [9, 8, 7, 6, 5, 4, 3, 2, 1, 0]) [6, 7, 8, 9] [(0, (Value.pointer (some ⟨b, 0, none⟩))), (4, (i64 0)), (5, (i64 ((r.pos : Nat) : Int))), (6, (Value.int IntKind.u64 ((r.uint.1 : Nat) : Int))), (36, (Value.bool true)), (37, (Value.int IntKind.u64 ((r.uint.1 : Nat) : Int))), (40, (Value.pointer (some ⟨b, 0, none⟩)))] (by kernel_rfl) rfl (by kernel_rfl) ?_
        refine Dr.take (i := 10) (v := (Value.slice A r.uint.2.bs.length c)) (by kernel_rfl) (by kernel_rfl) (fun wz hS => Runs.load (t := 23) (a := ⟨b, 0, none⟩) (by kernel_rfl) ((H51.keep hS (fun h => h)).loads (by kernel_rfl))) (d := (some 41)) (by kernel_rfl) rfl ?_
        refine Dr.takes (fuel' := 5) (is' := [14, 13, 12, 11, 10, 9, 8, 7, 6, 5, 4, 3, 2, 1, 0]) [11, 12, 13, 14] [(0, (Value.pointer (some ⟨b, 0, none⟩))), (4, (i64 0)), (5, (i64 ((r.pos : Nat) : Int))), (6, (Value.int IntKind.u64 ((r.uint.1 : Nat) : Int))), (36, (Value.bool true)), (37, (Value.int IntKind.u64 ((r.uint.1 : Nat) : Int))), (42, (i64 ((r.uint.2.bs.length : Nat) : Int))), (45, (Value.pointer (some ⟨b, 1, none⟩)))] (by kernel_rfl) rfl (by kernel_rfl) ?_
        refine Dr.take (i := 15) (v := (i64 ((r.uint.2.pos : Nat) : Int))) (by kernel_rfl) (by kernel_rfl) (fun wz hS => Runs.load (t := 3) (a := ⟨b, 1, none⟩) (by kernel_rfl) ((H51.keep hS (fun h => h)).loads (by kernel_rfl))) (d := (some 46)) (by kernel_rfl) rfl ?_
        refine Dr.takes (fuel' := 3) (is' := [16, 15, 14, 13, 12, 11, 10, 9, 8, 7, 6, 5, 4, 3, 2, 1, 0]) [16] [(0, (Value.pointer (some ⟨b, 0, none⟩))), (4, (i64 0)), (5, (i64 ((r.pos : Nat) : Int))), (6, (Value.int IntKind.u64 ((r.uint.1 : Nat) : Int))), (36, (Value.bool true)), (37, (Value.int IntKind.u64 ((r.uint.1 : Nat) : Int))), (47, (i64 (IntKind.i64.wrap (((r.uint.2.bs.length : Nat) : Int) - ((r.uint.2.pos : Nat) : Int)))))] (by kernel_rfl) rfl (by kernel_rfl) ?_
        have e53 : IntKind.i64.wrap (((r.uint.2.bs.length : Nat) : Int) - ((r.uint.2.pos : Nat) : Int)) = ((r.uint.2.bs.length : Nat) : Int) - ((r.uint.2.pos : Nat) : Int) := wrap_i64 (by omega) (by omega)
        rw [e53]
        refine Dr.takes (fuel' := 2) (is' := [17, 16, 15, 14, 13, 12, 11, 10, 9, 8, 7, 6, 5, 4, 3, 2, 1, 0]) [17] [(0, (Value.pointer (some ⟨b, 0, none⟩))), (4, (i64 0)), (5, (i64 ((r.pos : Nat) : Int))), (6, (Value.int IntKind.u64 ((r.uint.1 : Nat) : Int))), (36, (Value.bool true)), (37, (Value.int IntKind.u64 ((r.uint.1 : Nat) : Int))), (48, (Value.int IntKind.u64 (IntKind.u64.wrap (((r.uint.2.bs.length : Nat) : Int) - ((r.uint.2.pos : Nat) : Int)))))] (by kernel_rfl) rfl (by kernel_rfl) ?_
        have e54 : IntKind.u64.wrap (((r.uint.2.bs.length : Nat) : Int) - ((r.uint.2.pos : Nat) : Int)) = ((r.uint.2.bs.length : Nat) : Int) - ((r.uint.2.pos : Nat) : Int) := wrap_u64 (by omega) (by omega)
        rw [e54]
        refine Dr.takes (fuel' := 0) (is' := [19, 18, 17, 16, 15, 14, 13, 12, 11, 10, 9, 8, 7, 6, 5, 4, 3, 2, 1, 0]) [18, 19] [(0, (Value.pointer (some ⟨b, 0, none⟩))), (4, (i64 0)), (5, (i64 ((r.pos : Nat) : Int))), (6, (Value.int IntKind.u64 ((r.uint.1 : Nat) : Int))), (50, (Value.bool (decide (((r.uint.1 : Nat) : Int) > ((r.uint.2.bs.length : Nat) : Int) - ((r.uint.2.pos : Nat) : Int)))))] (by kernel_rfl) rfl (by kernel_rfl) ?_
        refine Dr.done (by kernel_rfl) ?_
        refine q_cond (o := .tmp 50) (b := (decide (((r.uint.1 : Nat) : Int) > ((r.uint.2.bs.length : Nat) : Int) - ((r.uint.2.pos : Nat) : Int)))) (by kernel_rfl) rfl (fun h55 => ?_) (fun h55 => ?_)
        · rw [h55]
          have p56 : ((r.uint.1 : Nat) : Int) > ((r.uint.2.bs.length : Nat) : Int) - ((r.uint.2.pos : Nat) : Int) := of_decide_eq_true h55
          refine q_region (by kernel_rfl) ?_
          refine Ops.regs 3 [(0, (Value.pointer (some ⟨b, 0, none⟩))), (4, (i64 0)), (5, (i64 ((r.pos : Nat) : Int))), (6, (Value.int IntKind.u64 ((r.uint.1 : Nat) : Int))), (53, (Value.pointer (some ⟨b, 2, none⟩)))] (j := 3) (by kernel_rfl) (by kernel_rfl) ?_
          refine Ops.put (t := 28) (b := b) (off := 2) (v := (i64 10)) (ys := [(Value.slice A r.uint.2.bs.length c), (i64 ((r.uint.2.pos : Nat) : Int)), (i64 10)]) (by kernel_rfl) (by kernel_rfl) H51 (by kernel_rfl) (d := none) (by kernel_rfl) rfl (fun w57 H58 K59 => ?_)
          clear H51
          have K60 := K50.trans K59 (U := (fun i => i = b)) (fun i h1 h2 => h2) (fun i h1 h2 => by have h2 : i = b := h2; show i = b; omega)
          clear K50
          have F61 := RdO.keep F52 K59 (fun i _ _ hi hs => by have hs : i = b := hs; have := hne i _ _ hi; omega)
          clear F52
          clear K59
          refine Ops.done (by kernel_rfl) ?_
          refine q_seq (by kernel_rfl) ?_
          refine q_seq (by kernel_rfl) ?_
          refine q_region (by kernel_rfl) ?_
          refine Ops.regs 3 [(0, (Value.pointer (some ⟨b, 0, none⟩))), (4, (i64 0)), (5, (i64 ((r.pos : Nat) : Int))), (6, (Value.int IntKind.u64 ((r.uint.1 : Nat) : Int))), (56, (Value.pointer (some ⟨b, 2, none⟩)))] (j := 3) (by kernel_rfl) (by kernel_rfl) ?_
          refine Ops.go (v := (i64 10)) (by kernel_rfl) (Runs.load (t := 28) (a := ⟨b, 2, none⟩) (by kernel_rfl) (H58.loads (by kernel_rfl))) (d := (some 57)) (by kernel_rfl) rfl ?_
          refine Ops.regs 1 [(0, (Value.pointer (some ⟨b, 0, none⟩))), (4, (i64 0)), (5, (i64 ((r.pos : Nat) : Int))), (6, (Value.int IntKind.u64 ((r.uint.1 : Nat) : Int))), (58, (Value.bool true))] (j := 5) (by kernel_rfl) (by kernel_rfl) ?_
          refine Ops.done (by kernel_rfl) ?_
          refine q_then (o := .tmp 58) (by kernel_rfl) rfl ?_
          refine q_seq (by kernel_rfl) ?_
          refine q_region (by kernel_rfl) ?_
          refine Ops.regs 4 [(4, (i64 0)), (6, (Value.int IntKind.u64 ((r.uint.1 : Nat) : Int))), (60, (i64 ((r.pos : Nat) : Int))), (62, (Value.pointer (some ⟨b, 1, none⟩)))] (j := 4) (by kernel_rfl) (by kernel_rfl) ?_
          refine Ops.put (t := 3) (b := b) (off := 1) (v := (i64 ((r.pos : Nat) : Int))) (ys := [(Value.slice A r.uint.2.bs.length c), (i64 ((r.pos : Nat) : Int)), (i64 10)]) (by kernel_rfl) (by kernel_rfl) H58 (by kernel_rfl) (d := none) (by kernel_rfl) rfl (fun w62 H63 K64 => ?_)
          clear H58
          have K65 := K60.trans K64 (U := (fun i => i = b)) (fun i h1 h2 => h2) (fun i h1 h2 => by have h2 : i = b := h2; show i = b; omega)
          clear K60
          have F66 := RdO.keep F61 K64 (fun i _ _ hi hs => by have hs : i = b := hs; have := hne i _ _ hi; omega)
          clear F61
          clear K64
          refine Ops.done (by kernel_rfl) ?_
          refine q_seq (by kernel_rfl) ?_
          refine q_region (by kernel_rfl) ?_
          refine Ops.regs 1 [(4, (i64 0)), (6, (Value.int IntKind.u64 ((r.uint.1 : Nat) : Int)))] (j := 1) (by kernel_rfl) (by kernel_rfl) ?_
          refine Ops.done (by kernel_rfl) ?_
          refine q_ret (by kernel_rfl) ?_
          refine ⟨(i64 0), retv_tmp rfl rfl, ?_⟩
          have e : r.sized most = (0, (⟨r.uint.2.bs, r.pos, 10⟩ : Rdr)) := by by_cases hr0 : r.why = 0; (unfold Rdr.sized; (repeat' split) <;> first | (exfalso; omega) | rfl | (simp only [Rdr.uint_bs]; done) | (rw [Rdr.uint_bs]; done)); (have hr1 := hw0 hr0; rw [Rdr.sized_err hr0]; first | (exfalso; omega) | (rw [Rdr.uint_bs, hr1.2.2]; done))
          exact ⟨by first | (rw [e]; done) | (rw [e]; rfl), K65, by rw [e]; exact H63⟩
        · rw [h55]
          have p67 : ¬ (((r.uint.1 : Nat) : Int) > ((r.uint.2.bs.length : Nat) : Int) - ((r.uint.2.pos : Nat) : Int)) := of_decide_eq_false h55
          refine q_skip (by kernel_rfl) ?_
          refine q_seq (by kernel_rfl) ?_
          refine q_seq (by kernel_rfl) ?_
          refine q_region (by kernel_rfl) ?_
          refine Ops.regs 3 [(0, (Value.pointer (some ⟨b, 0, none⟩))), (4, (i64 0)), (5, (i64 ((r.pos : Nat) : Int))), (6, (Value.int IntKind.u64 ((r.uint.1 : Nat) : Int))), (56, (Value.pointer (some ⟨b, 2, none⟩)))] (j := 3) (by kernel_rfl) (by kernel_rfl) ?_
          refine Ops.go (v := (i64 r.uint.2.why)) (by kernel_rfl) (Runs.load (t := 28) (a := ⟨b, 2, none⟩) (by kernel_rfl) (H51.loads (by kernel_rfl))) (d := (some 57)) (by kernel_rfl) rfl ?_
          refine Ops.regs 1 [(0, (Value.pointer (some ⟨b, 0, none⟩))), (4, (i64 0)), (5, (i64 ((r.pos : Nat) : Int))), (6, (Value.int IntKind.u64 ((r.uint.1 : Nat) : Int))), (58, (Value.bool (r.uint.2.why != 0)))] (j := 5) (by kernel_rfl) (by kernel_rfl) ?_
          refine Ops.done (by kernel_rfl) ?_
          refine q_cond (o := .tmp 58) (b := (r.uint.2.why != 0)) (by kernel_rfl) rfl (fun h68 => ?_) (fun h68 => ?_)
          · rw [h68]
            have p69 : ¬ (r.uint.2.why = 0) := of_bne_t h68
            refine q_seq (by kernel_rfl) ?_
            refine q_region (by kernel_rfl) ?_
            refine Ops.regs 4 [(4, (i64 0)), (6, (Value.int IntKind.u64 ((r.uint.1 : Nat) : Int))), (60, (i64 ((r.pos : Nat) : Int))), (62, (Value.pointer (some ⟨b, 1, none⟩)))] (j := 4) (by kernel_rfl) (by kernel_rfl) ?_
            refine Ops.put (t := 3) (b := b) (off := 1) (v := (i64 ((r.pos : Nat) : Int))) (ys := [(Value.slice A r.uint.2.bs.length c), (i64 ((r.pos : Nat) : Int)), (i64 r.uint.2.why)]) (by kernel_rfl) (by kernel_rfl) H51 (by kernel_rfl) (d := none) (by kernel_rfl) rfl (fun w70 H71 K72 => ?_)
            clear H51
            have K73 := K50.trans K72 (U := (fun i => i = b)) (fun i h1 h2 => h2) (fun i h1 h2 => by have h2 : i = b := h2; show i = b; omega)
            clear K50
            have F74 := RdO.keep F52 K72 (fun i _ _ hi hs => by have hs : i = b := hs; have := hne i _ _ hi; omega)
            clear F52
            clear K72
            refine Ops.done (by kernel_rfl) ?_
            refine q_seq (by kernel_rfl) ?_
            refine q_region (by kernel_rfl) ?_
            refine Ops.regs 1 [(4, (i64 0)), (6, (Value.int IntKind.u64 ((r.uint.1 : Nat) : Int)))] (j := 1) (by kernel_rfl) (by kernel_rfl) ?_
            refine Ops.done (by kernel_rfl) ?_
            refine q_ret (by kernel_rfl) ?_
            refine ⟨(i64 0), retv_tmp rfl rfl, ?_⟩
            have e : r.sized most = (0, (⟨r.uint.2.bs, r.pos, r.uint.2.why⟩ : Rdr)) := by by_cases hr0 : r.why = 0; (unfold Rdr.sized; (repeat' split) <;> first | (exfalso; omega) | rfl | (simp only [Rdr.uint_bs]; done) | (rw [Rdr.uint_bs]; done)); (have hr1 := hw0 hr0; rw [Rdr.sized_err hr0]; first | (exfalso; omega) | (rw [Rdr.uint_bs, hr1.2.2]; done))
            exact ⟨by first | (rw [e]; done) | (rw [e]; rfl), K73, by rw [e]; exact H71⟩
          · rw [h68]
            have p75 : r.uint.2.why = 0 := of_bne_f h68
            refine q_skip (by kernel_rfl) ?_
            refine q_seq (by kernel_rfl) ?_
            refine q_region (by kernel_rfl) ?_
            refine Ops.regs 2 [(4, (i64 0)), (64, (i64 (IntKind.i64.wrap (((r.uint.1 : Nat) : Int)))))] (j := 2) (by kernel_rfl) (by kernel_rfl) ?_
            have e76 : IntKind.i64.wrap (((r.uint.1 : Nat) : Int)) = ((r.uint.1 : Nat) : Int) := wrap_i64 (by omega) (by omega)
            rw [e76]
            refine Ops.regs 1 [(4, (i64 ((r.uint.1 : Nat) : Int)))] (j := 3) (by kernel_rfl) (by kernel_rfl) ?_
            refine Ops.done (by kernel_rfl) ?_
            refine q_ret (by kernel_rfl) ?_
            refine ⟨(i64 ((r.uint.1 : Nat) : Int)), retv_tmp rfl rfl, ?_⟩
            have e : r.sized most = (r.uint.1, r.uint.2) := by by_cases hr0 : r.why = 0; (unfold Rdr.sized; (repeat' split) <;> first | (exfalso; omega) | rfl | (simp only [Rdr.uint_bs]; done) | (rw [Rdr.uint_bs]; done)); (have hr1 := hw0 hr0; rw [Rdr.sized_err hr0]; first | (exfalso; omega) | (rw [Rdr.uint_bs, hr1.2.2]; done))
            exact ⟨by first | (rw [e]; done) | (rw [e]; rfl), K50, by rw [e]; exact H51⟩
  · rw [h9]
    have p77 : ¬ (r.uint.2.why = 0) := of_beq_f h9
    refine Ops.regs 9 [(0, (Value.pointer (some ⟨b, 0, none⟩))), (4, (i64 0)), (5, (i64 ((r.pos : Nat) : Int))), (6, (Value.int IntKind.u64 ((r.uint.1 : Nat) : Int))), (27, (Value.bool false))] (j := 15) (by kernel_rfl) (by kernel_rfl) ?_
    refine Ops.done (by kernel_rfl) ?_
    refine q_else (o := .tmp 27) (by kernel_rfl) rfl ?_
    refine q_skip (by kernel_rfl) ?_
    refine q_seq (by kernel_rfl) ?_
    refine q_seq (by kernel_rfl) ?_
    refine q_draw (fun wz => Keeps none_ w1 wz) 20 (by kernel_rfl) (by kernel_rfl) (by kernel_rfl) (fun w78 K79 _ _ => ⟨K79, ?_⟩)
    have K80 := K6.trans K79 (U := (fun i => i = b)) (fun i h1 h2 => h2) (fun i h1 h2 => by exact h2.elim)
    clear K6
    have H81 := H3.keep K79 (fun h => h)
    clear H3
    have F82 := RdO.keep0 F8 K79
    clear F8
    refine Dr.strong (S' := (fun wz => Keeps none_ w78 wz)) (Keeps.refl w78) (fun wz hx => K79.trans hx (fun i _ h => h) (fun _ _ h => h)) ?_
    clear K79
    refine Dr.takes (fuel' := 17) (is' := [2, 1, 0]) [0, 1, 2] [(0, (Value.pointer (some ⟨b, 0, none⟩))), (4, (i64 0)), (5, (i64 ((r.pos : Nat) : Int))), (6, (Value.int IntKind.u64 ((r.uint.1 : Nat) : Int))), (33, (Value.pointer (some ⟨b, 2, none⟩)))] (by kernel_rfl) rfl (by kernel_rfl) ?_
    refine Dr.take (i := 3) (v := (i64 r.uint.2.why)) (by kernel_rfl) (by kernel_rfl) (fun wz hS => Runs.load (t := 28) (a := ⟨b, 2, none⟩) (by kernel_rfl) ((H81.keep hS (fun h => h)).loads (by kernel_rfl))) (d := (some 34)) (by kernel_rfl) rfl ?_
    refine Dr.takes (fuel' := 14) (is' := [5, 4, 3, 2, 1, 0]) [4, 5] [(0, (Value.pointer (some ⟨b, 0, none⟩))), (4, (i64 0)), (5, (i64 ((r.pos : Nat) : Int))), (6, (Value.int IntKind.u64 ((r.uint.1 : Nat) : Int))), (36, (Value.bool (r.uint.2.why == 0)))] (by kernel_rfl) rfl (by kernel_rfl) ?_
    rw [h9]
    refine Dr.takes (fuel' := 0) (is' := [19, 18, 17, 16, 15, 14, 13, 12, 11, 10, 9, 8, 7, 6, 5, 4, 3, 2, 1, 0]) [6, 7, 8, 9, 10, 11, 12, 13, 14, 15, 16, 17, 18, 19] [(0, (Value.pointer (some ⟨b, 0, none⟩))), (4, (i64 0)), (5, (i64 ((r.pos : Nat) : Int))), (6, (Value.int IntKind.u64 ((r.uint.1 : Nat) : Int))), (50, (Value.bool false))] (by kernel_rfl) rfl (by kernel_rfl) ?_
    refine Dr.done (by kernel_rfl) ?_
    refine q_else (o := .tmp 50) (by kernel_rfl) rfl ?_
    refine q_skip (by kernel_rfl) ?_
    refine q_seq (by kernel_rfl) ?_
    refine q_seq (by kernel_rfl) ?_
    refine q_region (by kernel_rfl) ?_
    refine Ops.regs 3 [(0, (Value.pointer (some ⟨b, 0, none⟩))), (4, (i64 0)), (5, (i64 ((r.pos : Nat) : Int))), (6, (Value.int IntKind.u64 ((r.uint.1 : Nat) : Int))), (56, (Value.pointer (some ⟨b, 2, none⟩)))] (j := 3) (by kernel_rfl) (by kernel_rfl) ?_
    refine Ops.go (v := (i64 r.uint.2.why)) (by kernel_rfl) (Runs.load (t := 28) (a := ⟨b, 2, none⟩) (by kernel_rfl) (H81.loads (by kernel_rfl))) (d := (some 57)) (by kernel_rfl) rfl ?_
    refine Ops.regs 1 [(0, (Value.pointer (some ⟨b, 0, none⟩))), (4, (i64 0)), (5, (i64 ((r.pos : Nat) : Int))), (6, (Value.int IntKind.u64 ((r.uint.1 : Nat) : Int))), (58, (Value.bool (r.uint.2.why != 0)))] (j := 5) (by kernel_rfl) (by kernel_rfl) ?_
    refine Ops.done (by kernel_rfl) ?_
    refine q_cond (o := .tmp 58) (b := (r.uint.2.why != 0)) (by kernel_rfl) rfl (fun h83 => ?_) (fun h83 => ?_)
    · rw [h83]
      have p84 : ¬ (r.uint.2.why = 0) := of_bne_t h83
      refine q_seq (by kernel_rfl) ?_
      refine q_region (by kernel_rfl) ?_
      refine Ops.regs 4 [(4, (i64 0)), (6, (Value.int IntKind.u64 ((r.uint.1 : Nat) : Int))), (60, (i64 ((r.pos : Nat) : Int))), (62, (Value.pointer (some ⟨b, 1, none⟩)))] (j := 4) (by kernel_rfl) (by kernel_rfl) ?_
      refine Ops.put (t := 3) (b := b) (off := 1) (v := (i64 ((r.pos : Nat) : Int))) (ys := [(Value.slice A r.uint.2.bs.length c), (i64 ((r.pos : Nat) : Int)), (i64 r.uint.2.why)]) (by kernel_rfl) (by kernel_rfl) H81 (by kernel_rfl) (d := none) (by kernel_rfl) rfl (fun w85 H86 K87 => ?_)
      clear H81
      have K88 := K80.trans K87 (U := (fun i => i = b)) (fun i h1 h2 => h2) (fun i h1 h2 => by have h2 : i = b := h2; show i = b; omega)
      clear K80
      have F89 := RdO.keep F82 K87 (fun i _ _ hi hs => by have hs : i = b := hs; have := hne i _ _ hi; omega)
      clear F82
      clear K87
      refine Ops.done (by kernel_rfl) ?_
      refine q_seq (by kernel_rfl) ?_
      refine q_region (by kernel_rfl) ?_
      refine Ops.regs 1 [(4, (i64 0)), (6, (Value.int IntKind.u64 ((r.uint.1 : Nat) : Int)))] (j := 1) (by kernel_rfl) (by kernel_rfl) ?_
      refine Ops.done (by kernel_rfl) ?_
      refine q_ret (by kernel_rfl) ?_
      refine ⟨(i64 0), retv_tmp rfl rfl, ?_⟩
      have e : r.sized most = (0, (⟨r.uint.2.bs, r.pos, r.uint.2.why⟩ : Rdr)) := by by_cases hr0 : r.why = 0; (unfold Rdr.sized; (repeat' split) <;> first | (exfalso; omega) | rfl | (simp only [Rdr.uint_bs]; done) | (rw [Rdr.uint_bs]; done)); (have hr1 := hw0 hr0; rw [Rdr.sized_err hr0]; first | (exfalso; omega) | (rw [Rdr.uint_bs, hr1.2.2]; done))
      exact ⟨by first | (rw [e]; done) | (rw [e]; rfl), K88, by rw [e]; exact H86⟩
    · rw [h83]
      have p90 : r.uint.2.why = 0 := of_bne_f h83
      refine q_skip (by kernel_rfl) ?_
      refine q_seq (by kernel_rfl) ?_
      refine q_region (by kernel_rfl) ?_
      refine Ops.regs 2 [(4, (i64 0)), (64, (i64 (IntKind.i64.wrap (((r.uint.1 : Nat) : Int)))))] (j := 2) (by kernel_rfl) (by kernel_rfl) ?_
      have e91 : IntKind.i64.wrap (((r.uint.1 : Nat) : Int)) = ((r.uint.1 : Nat) : Int) := wrap_i64 (by omega) (by omega)
      rw [e91]
      refine Ops.regs 1 [(4, (i64 ((r.uint.1 : Nat) : Int)))] (j := 3) (by kernel_rfl) (by kernel_rfl) ?_
      refine Ops.done (by kernel_rfl) ?_
      refine q_ret (by kernel_rfl) ?_
      refine ⟨(i64 ((r.uint.1 : Nat) : Int)), retv_tmp rfl rfl, ?_⟩
      have e : r.sized most = (r.uint.1, r.uint.2) := by by_cases hr0 : r.why = 0; (unfold Rdr.sized; (repeat' split) <;> first | (exfalso; omega) | rfl | (simp only [Rdr.uint_bs]; done) | (rw [Rdr.uint_bs]; done)); (have hr1 := hw0 hr0; rw [Rdr.sized_err hr0]; first | (exfalso; omega) | (rw [Rdr.uint_bs, hr1.2.2]; done))
      exact ⟨by first | (rw [e]; done) | (rw [e]; rfl), K80, by rw [e]; exact H81⟩

theorem RRBytes_calls (w : World) (b : Nat) (A : Option Addr) (c : Nat) (r : Rdr) (hok : r.Ok) (H0 : Has w b (rowL (rdrL A c r) 72)) (hR : RdO w A c r.bs) (hne : ∀ g o s, A = some ⟨g, o, s⟩ → g ≠ b) : Calls Try.prog 70 ⟨[(Value.pointer (some ⟨b, 0, none⟩))]⟩ w (fun e w' => ∃ v', e = .returned v' ∧ Keeps (fun i => i = b) w w' ∧ OwnB w' w.heap.size 5 v' (r.bytes.1) ∧ Has w' b (rowL (rdrL A c (r.bytes).2) 72)) := by
  have hpos := hok.pos
  have hlen := hok.len
  have hsc := r.scan_le
  have hdl : (r.bs.drop r.pos).length = r.bs.length - r.pos := List.length_drop
  have hcap := hR.1.slice
  have Hb := H0.lt
  have K0 : Keeps (fun i => i = b) w w := (Keeps.refl w).mono (fun _ _ h => h.elim)
  have hub := r.uint_bs
  have hubl := congrArg List.length hub
  have hul := r.uint_lt
  have hw0 : r.why ≠ 0 → r.uint.1 = 0 ∧ r.uint.2.pos = r.pos ∧ r.uint.2.why = r.why := fun h => by rw [Rdr.uint_err h]; exact ⟨rfl, rfl, rfl⟩
  have hup := hok.uint.pos
  refine q_calls Try.func70 (by kernel_rfl) (by kernel_rfl) ?_
  refine q_seq (by kernel_rfl) ?_
  refine q_region (by kernel_rfl) ?_
  refine Ops.regs 1 [(0, (Value.pointer (some ⟨b, 0, none⟩))), (2, (Value.slice none 0 0))] (j := 1) (by kernel_rfl) (by kernel_rfl) ?_
  refine Ops.done (by kernel_rfl) ?_
  refine q_seq (by kernel_rfl) ?_
  refine q_region (by kernel_rfl) ?_
  refine Ops.regs 3 [(0, (Value.pointer (some ⟨b, 0, none⟩))), (2, (Value.slice none 0 0)), (8, (Value.pointer (some ⟨b, 1, none⟩)))] (j := 3) (by kernel_rfl) (by kernel_rfl) ?_
  refine Ops.go (v := (i64 ((r.pos : Nat) : Int))) (by kernel_rfl) (Runs.load (t := 3) (a := ⟨b, 1, none⟩) (by kernel_rfl) (H0.loads (by kernel_rfl))) (d := (some 9)) (by kernel_rfl) rfl ?_
  refine Ops.regs 1 [(0, (Value.pointer (some ⟨b, 0, none⟩))), (2, (Value.slice none 0 0)), (3, (i64 ((r.pos : Nat) : Int)))] (j := 5) (by kernel_rfl) (by kernel_rfl) ?_
  refine Ops.done (by kernel_rfl) ?_
  refine q_seq (by kernel_rfl) ?_
  refine q_region (by kernel_rfl) ?_
  refine Ops.regs 1 [(0, (Value.pointer (some ⟨b, 0, none⟩))), (2, (Value.slice none 0 0)), (3, (i64 ((r.pos : Nat) : Int))), (10, (Value.pointer (some ⟨b, 0, none⟩)))] (j := 1) (by kernel_rfl) (by kernel_rfl) ?_
  refine Ops.call (by kernel_rfl) (d := (some 11)) (by kernel_rfl) (RRUint_calls _ b A c r hok H0 hR hne) ?_
  rintro _ w1 ⟨rfl, K2, H3⟩
  have hok4 := Rdr.Ok.uint hok
  have hu5 := Rdr.uint_lt r
  refine ⟨_, _, rfl, rfl, ?_⟩
  have K6 := K0.trans K2 (U := (fun i => i = b)) (fun i h1 h2 => h2) (fun i h1 h2 => by have h2 : i = b := h2; show i = b; omega)
  clear K0
  have F7 := RdO.keep hR K2 (fun i _ _ hi hs => by have hs : i = b := hs; have := hne i _ _ hi; omega)
  clear hR
  clear K2
  have F8 : RdO w1 A c (r.uint.2).bs := by rw [Rdr.uint_bs]; exact F7
  clear F7
  refine Ops.regs 1 [(0, (Value.pointer (some ⟨b, 0, none⟩))), (2, (Value.slice none 0 0)), (3, (i64 ((r.pos : Nat) : Int))), (4, (Value.int IntKind.u64 ((r.uint.1 : Nat) : Int)))] (j := 3) (by kernel_rfl) (by kernel_rfl) ?_
  refine Ops.done (by kernel_rfl) ?_
  refine q_seq (by kernel_rfl) ?_
  refine q_seq (by kernel_rfl) ?_
  refine q_region (by kernel_rfl) ?_
  refine Ops.regs 3 [(0, (Value.pointer (some ⟨b, 0, none⟩))), (2, (Value.slice none 0 0)), (3, (i64 ((r.pos : Nat) : Int))), (4, (Value.int IntKind.u64 ((r.uint.1 : Nat) : Int))), (14, (Value.pointer (some ⟨b, 2, none⟩)))] (j := 3) (by kernel_rfl) (by kernel_rfl) ?_
  refine Ops.go (v := (i64 r.uint.2.why)) (by kernel_rfl) (Runs.load (t := 28) (a := ⟨b, 2, none⟩) (by kernel_rfl) (H3.loads (by kernel_rfl))) (d := (some 15)) (by kernel_rfl) rfl ?_
  refine Ops.regs 2 [(0, (Value.pointer (some ⟨b, 0, none⟩))), (2, (Value.slice none 0 0)), (3, (i64 ((r.pos : Nat) : Int))), (4, (Value.int IntKind.u64 ((r.uint.1 : Nat) : Int))), (17, (Value.bool (r.uint.2.why == 0)))] (j := 6) (by kernel_rfl) (by kernel_rfl) ?_
  refine Ops.split (r.uint.2.why == 0) (fun h9 => ?_) (fun h9 => ?_)
  · rw [h9]
    have p10 : r.uint.2.why = 0 := of_beq_t h9
    refine Ops.regs 3 [(0, (Value.pointer (some ⟨b, 0, none⟩))), (2, (Value.slice none 0 0)), (3, (i64 ((r.pos : Nat) : Int))), (4, (Value.int IntKind.u64 ((r.uint.1 : Nat) : Int))), (20, (Value.bool (decide (((r.uint.1 : Nat) : Int) > 65536))))] (j := 9) (by kernel_rfl) (by kernel_rfl) ?_
    refine Ops.done (by kernel_rfl) ?_
    refine q_cond (o := .tmp 20) (b := (decide (((r.uint.1 : Nat) : Int) > 65536))) (by kernel_rfl) rfl (fun h11 => ?_) (fun h11 => ?_)
    · rw [h11]
      have p12 : ((r.uint.1 : Nat) : Int) > 65536 := of_decide_eq_true h11
      refine q_region (by kernel_rfl) ?_
      refine Ops.regs 3 [(0, (Value.pointer (some ⟨b, 0, none⟩))), (2, (Value.slice none 0 0)), (3, (i64 ((r.pos : Nat) : Int))), (4, (Value.int IntKind.u64 ((r.uint.1 : Nat) : Int))), (23, (Value.pointer (some ⟨b, 2, none⟩)))] (j := 3) (by kernel_rfl) (by kernel_rfl) ?_
      refine Ops.put (t := 28) (b := b) (off := 2) (v := (i64 3)) (ys := [(Value.slice A r.uint.2.bs.length c), (i64 ((r.uint.2.pos : Nat) : Int)), (i64 3)]) (by kernel_rfl) (by kernel_rfl) H3 (by kernel_rfl) (d := none) (by kernel_rfl) rfl (fun w13 H14 K15 => ?_)
      clear H3
      have K16 := K6.trans K15 (U := (fun i => i = b)) (fun i h1 h2 => h2) (fun i h1 h2 => by have h2 : i = b := h2; show i = b; omega)
      clear K6
      have F17 := RdO.keep F8 K15 (fun i _ _ hi hs => by have hs : i = b := hs; have := hne i _ _ hi; omega)
      clear F8
      clear K15
      refine Ops.done (by kernel_rfl) ?_
      refine q_seq (by kernel_rfl) ?_
      refine q_seq (by kernel_rfl) ?_
      refine q_draw (fun wz => Keeps none_ w13 wz) 20 (by kernel_rfl) (by kernel_rfl) (by kernel_rfl) (fun w18 K19 _ _ => ⟨K19, ?_⟩)
      have K20 := K16.trans K19 (U := (fun i => i = b)) (fun i h1 h2 => h2) (fun i h1 h2 => by exact h2.elim)
      clear K16
      have H21 := H14.keep K19 (fun h => h)
      clear H14
      have F22 := RdO.keep0 F17 K19
      clear F17
      refine Dr.strong (S' := (fun wz => Keeps none_ w18 wz)) (Keeps.refl w18) (fun wz hx => K19.trans hx (fun i _ h => h) (fun _ _ h => h)) ?_
      clear K19
      refine Dr.takes (fuel' := 17) (is' := [2, 1, 0]) [0, 1, 2] [(0, (Value.pointer (some ⟨b, 0, none⟩))), (2, (Value.slice none 0 0)), (3, (i64 ((r.pos : Nat) : Int))), (4, (Value.int IntKind.u64 ((r.uint.1 : Nat) : Int))), (26, (Value.pointer (some ⟨b, 2, none⟩)))] (by kernel_rfl) rfl (by kernel_rfl) ?_
      refine Dr.take (i := 3) (v := (i64 3)) (by kernel_rfl) (by kernel_rfl) (fun wz hS => Runs.load (t := 28) (a := ⟨b, 2, none⟩) (by kernel_rfl) ((H21.keep hS (fun h => h)).loads (by kernel_rfl))) (d := (some 27)) (by kernel_rfl) rfl ?_
      refine Dr.takes (fuel' := 0) (is' := [19, 18, 17, 16, 15, 14, 13, 12, 11, 10, 9, 8, 7, 6, 5, 4, 3, 2, 1, 0]) [4, 5, 6, 7, 8, 9, 10, 11, 12, 13, 14, 15, 16, 17, 18, 19] [(0, (Value.pointer (some ⟨b, 0, none⟩))), (2, (Value.slice none 0 0)), (3, (i64 ((r.pos : Nat) : Int))), (4, (Value.int IntKind.u64 ((r.uint.1 : Nat) : Int))), (43, (Value.bool false))] (by kernel_rfl) rfl (by kernel_rfl) ?_
      refine Dr.done (by kernel_rfl) ?_
      refine q_else (o := .tmp 43) (by kernel_rfl) rfl ?_
      refine q_skip (by kernel_rfl) ?_
      refine q_seq (by kernel_rfl) ?_
      refine q_seq (by kernel_rfl) ?_
      refine q_region (by kernel_rfl) ?_
      refine Ops.regs 3 [(0, (Value.pointer (some ⟨b, 0, none⟩))), (2, (Value.slice none 0 0)), (3, (i64 ((r.pos : Nat) : Int))), (4, (Value.int IntKind.u64 ((r.uint.1 : Nat) : Int))), (49, (Value.pointer (some ⟨b, 2, none⟩)))] (j := 3) (by kernel_rfl) (by kernel_rfl) ?_
      refine Ops.go (v := (i64 3)) (by kernel_rfl) (Runs.load (t := 28) (a := ⟨b, 2, none⟩) (by kernel_rfl) (H21.loads (by kernel_rfl))) (d := (some 50)) (by kernel_rfl) rfl ?_
      refine Ops.regs 1 [(0, (Value.pointer (some ⟨b, 0, none⟩))), (2, (Value.slice none 0 0)), (3, (i64 ((r.pos : Nat) : Int))), (4, (Value.int IntKind.u64 ((r.uint.1 : Nat) : Int))), (51, (Value.bool true))] (j := 5) (by kernel_rfl) (by kernel_rfl) ?_
      refine Ops.done (by kernel_rfl) ?_
      refine q_then (o := .tmp 51) (by kernel_rfl) rfl ?_
      refine q_seq (by kernel_rfl) ?_
      refine q_region (by kernel_rfl) ?_
      refine Ops.regs 4 [(0, (Value.pointer (some ⟨b, 0, none⟩))), (2, (Value.slice none 0 0)), (4, (Value.int IntKind.u64 ((r.uint.1 : Nat) : Int))), (53, (i64 ((r.pos : Nat) : Int))), (55, (Value.pointer (some ⟨b, 1, none⟩)))] (j := 4) (by kernel_rfl) (by kernel_rfl) ?_
      refine Ops.put (t := 3) (b := b) (off := 1) (v := (i64 ((r.pos : Nat) : Int))) (ys := [(Value.slice A r.uint.2.bs.length c), (i64 ((r.pos : Nat) : Int)), (i64 3)]) (by kernel_rfl) (by kernel_rfl) H21 (by kernel_rfl) (d := none) (by kernel_rfl) rfl (fun w23 H24 K25 => ?_)
      clear H21
      have K26 := K20.trans K25 (U := (fun i => i = b)) (fun i h1 h2 => h2) (fun i h1 h2 => by have h2 : i = b := h2; show i = b; omega)
      clear K20
      have F27 := RdO.keep F22 K25 (fun i _ _ hi hs => by have hs : i = b := hs; have := hne i _ _ hi; omega)
      clear F22
      clear K25
      refine Ops.done (by kernel_rfl) ?_
      refine q_seq (by kernel_rfl) ?_
      refine q_region (by kernel_rfl) ?_
      refine Ops.regs 1 [(0, (Value.pointer (some ⟨b, 0, none⟩))), (2, (Value.slice none 0 0)), (4, (Value.int IntKind.u64 ((r.uint.1 : Nat) : Int)))] (j := 1) (by kernel_rfl) (by kernel_rfl) ?_
      refine Ops.done (by kernel_rfl) ?_
      refine q_ret (by kernel_rfl) ?_
      refine ⟨(Value.slice none 0 0), retv_tmp rfl rfl, ?_⟩
      have e : r.bytes = ([], (⟨r.uint.2.bs, r.pos, 3⟩ : Rdr)) := by by_cases hr0 : r.why = 0; (unfold Rdr.bytes Rdr.sized; (repeat' split) <;> first | (exfalso; omega) | rfl | (simp only [Rdr.uint_bs]; done) | (simp only [Rdr.uint_bs]; simp only [Nat.add_sub_cancel_left]; done) | (exfalso; simp only at *; omega)); (have hr1 := hw0 hr0; rw [Rdr.bytes_err hr0]; first | (exfalso; omega) | (rw [Rdr.uint_bs, hr1.2.2]; done))
      exact ⟨(Value.slice none 0 0), rfl, K26, by rw [e]; exact (World.ownsRow_nil _ _ _ _), by rw [e]; exact H24⟩
    · rw [h11]
      have p28 : ¬ (((r.uint.1 : Nat) : Int) > 65536) := of_decide_eq_false h11
      refine q_skip (by kernel_rfl) ?_
      refine q_seq (by kernel_rfl) ?_
      refine q_seq (by kernel_rfl) ?_
      refine q_draw (fun wz => Keeps none_ w1 wz) 20 (by kernel_rfl) (by kernel_rfl) (by kernel_rfl) (fun w29 K30 _ _ => ⟨K30, ?_⟩)
      have K31 := K6.trans K30 (U := (fun i => i = b)) (fun i h1 h2 => h2) (fun i h1 h2 => by exact h2.elim)
      clear K6
      have H32 := H3.keep K30 (fun h => h)
      clear H3
      have F33 := RdO.keep0 F8 K30
      clear F8
      refine Dr.strong (S' := (fun wz => Keeps none_ w29 wz)) (Keeps.refl w29) (fun wz hx => K30.trans hx (fun i _ h => h) (fun _ _ h => h)) ?_
      clear K30
      refine Dr.takes (fuel' := 17) (is' := [2, 1, 0]) [0, 1, 2] [(0, (Value.pointer (some ⟨b, 0, none⟩))), (2, (Value.slice none 0 0)), (3, (i64 ((r.pos : Nat) : Int))), (4, (Value.int IntKind.u64 ((r.uint.1 : Nat) : Int))), (26, (Value.pointer (some ⟨b, 2, none⟩)))] (by kernel_rfl) rfl (by kernel_rfl) ?_
      refine Dr.take (i := 3) (v := (i64 r.uint.2.why)) (by kernel_rfl) (by kernel_rfl) (fun wz hS => Runs.load (t := 28) (a := ⟨b, 2, none⟩) (by kernel_rfl) ((H32.keep hS (fun h => h)).loads (by kernel_rfl))) (d := (some 27)) (by kernel_rfl) rfl ?_
      refine Dr.takes (fuel' := 14) (is' := [5, 4, 3, 2, 1, 0]) [4, 5] [(0, (Value.pointer (some ⟨b, 0, none⟩))), (2, (Value.slice none 0 0)), (3, (i64 ((r.pos : Nat) : Int))), (4, (Value.int IntKind.u64 ((r.uint.1 : Nat) : Int))), (29, (Value.bool (r.uint.2.why == 0)))] (by kernel_rfl) rfl (by kernel_rfl) ?_
      rw [h9]
      refine Dr.takes (fuel' := 11) (is' := [8, 7, 6, 5, 4, 3, 2, 1, 0]) [6, 7, 8] [(0, (Value.pointer (some ⟨b, 0, none⟩))), (2, (Value.slice none 0 0)), (3, (i64 ((r.pos : Nat) : Int))), (4, (Value.int IntKind.u64 ((r.uint.1 : Nat) : Int))), (29, (Value.bool true)), (32, (Value.pointer (some ⟨b, 0, none⟩)))] (by kernel_rfl) rfl (by kernel_rfl) ?_
      refine Dr.take (i := 9) (v := (Value.slice A r.uint.2.bs.length c)) (by kernel_rfl) (by kernel_rfl) (fun wz hS => Runs.load (t := 23) (a := ⟨b, 0, none⟩) (by kernel_rfl) ((H32.keep hS (fun h => h)).loads (by kernel_rfl))) (d := (some 33)) (by kernel_rfl) rfl ?_
      refine Dr.takes (fuel' := 6) (is' := [13, 12, 11, 10, 9, 8, 7, 6, 5, 4, 3, 2, 1, 0]) [10, 11, 12, 13] [(0, (Value.pointer (some ⟨b, 0, none⟩))), (2, (Value.slice none 0 0)), (3, (i64 ((r.pos : Nat) : Int))), (4, (Value.int IntKind.u64 ((r.uint.1 : Nat) : Int))), (29, (Value.bool true)), (34, (i64 ((r.uint.2.bs.length : Nat) : Int))), (37, (Value.pointer (some ⟨b, 1, none⟩)))] (by kernel_rfl) rfl (by kernel_rfl) ?_
      refine Dr.take (i := 14) (v := (i64 ((r.uint.2.pos : Nat) : Int))) (by kernel_rfl) (by kernel_rfl) (fun wz hS => Runs.load (t := 3) (a := ⟨b, 1, none⟩) (by kernel_rfl) ((H32.keep hS (fun h => h)).loads (by kernel_rfl))) (d := (some 38)) (by kernel_rfl) rfl ?_
      refine Dr.takes (fuel' := 4) (is' := [15, 14, 13, 12, 11, 10, 9, 8, 7, 6, 5, 4, 3, 2, 1, 0]) [15] [(0, (Value.pointer (some ⟨b, 0, none⟩))), (2, (Value.slice none 0 0)), (3, (i64 ((r.pos : Nat) : Int))), (4, (Value.int IntKind.u64 ((r.uint.1 : Nat) : Int))), (29, (Value.bool true)), (39, (i64 (IntKind.i64.wrap (((r.uint.2.bs.length : Nat) : Int) - ((r.uint.2.pos : Nat) : Int)))))] (by kernel_rfl) rfl (by kernel_rfl) ?_
      have e34 : IntKind.i64.wrap (((r.uint.2.bs.length : Nat) : Int) - ((r.uint.2.pos : Nat) : Int)) = ((r.uint.2.bs.length : Nat) : Int) - ((r.uint.2.pos : Nat) : Int) := wrap_i64 (by omega) (by omega)
      rw [e34]
      refine Dr.takes (fuel' := 3) (is' := [16, 15, 14, 13, 12, 11, 10, 9, 8, 7, 6, 5, 4, 3, 2, 1, 0]) [16] [(0, (Value.pointer (some ⟨b, 0, none⟩))), (2, (Value.slice none 0 0)), (3, (i64 ((r.pos : Nat) : Int))), (4, (Value.int IntKind.u64 ((r.uint.1 : Nat) : Int))), (29, (Value.bool true)), (40, (Value.int IntKind.u64 (IntKind.u64.wrap (((r.uint.2.bs.length : Nat) : Int) - ((r.uint.2.pos : Nat) : Int)))))] (by kernel_rfl) rfl (by kernel_rfl) ?_
      have e35 : IntKind.u64.wrap (((r.uint.2.bs.length : Nat) : Int) - ((r.uint.2.pos : Nat) : Int)) = ((r.uint.2.bs.length : Nat) : Int) - ((r.uint.2.pos : Nat) : Int) := wrap_u64 (by omega) (by omega)
      rw [e35]
      refine Dr.takes (fuel' := 0) (is' := [19, 18, 17, 16, 15, 14, 13, 12, 11, 10, 9, 8, 7, 6, 5, 4, 3, 2, 1, 0]) [17, 18, 19] [(0, (Value.pointer (some ⟨b, 0, none⟩))), (2, (Value.slice none 0 0)), (3, (i64 ((r.pos : Nat) : Int))), (4, (Value.int IntKind.u64 ((r.uint.1 : Nat) : Int))), (43, (Value.bool (decide (((r.uint.2.bs.length : Nat) : Int) - ((r.uint.2.pos : Nat) : Int) < ((r.uint.1 : Nat) : Int)))))] (by kernel_rfl) rfl (by kernel_rfl) ?_
      refine Dr.done (by kernel_rfl) ?_
      refine q_cond (o := .tmp 43) (b := (decide (((r.uint.2.bs.length : Nat) : Int) - ((r.uint.2.pos : Nat) : Int) < ((r.uint.1 : Nat) : Int)))) (by kernel_rfl) rfl (fun h36 => ?_) (fun h36 => ?_)
      · rw [h36]
        have p37 : ((r.uint.2.bs.length : Nat) : Int) - ((r.uint.2.pos : Nat) : Int) < ((r.uint.1 : Nat) : Int) := of_decide_eq_true h36
        refine q_region (by kernel_rfl) ?_
        refine Ops.regs 3 [(0, (Value.pointer (some ⟨b, 0, none⟩))), (2, (Value.slice none 0 0)), (3, (i64 ((r.pos : Nat) : Int))), (4, (Value.int IntKind.u64 ((r.uint.1 : Nat) : Int))), (46, (Value.pointer (some ⟨b, 2, none⟩)))] (j := 3) (by kernel_rfl) (by kernel_rfl) ?_
        refine Ops.put (t := 28) (b := b) (off := 2) (v := (i64 10)) (ys := [(Value.slice A r.uint.2.bs.length c), (i64 ((r.uint.2.pos : Nat) : Int)), (i64 10)]) (by kernel_rfl) (by kernel_rfl) H32 (by kernel_rfl) (d := none) (by kernel_rfl) rfl (fun w38 H39 K40 => ?_)
        clear H32
        have K41 := K31.trans K40 (U := (fun i => i = b)) (fun i h1 h2 => h2) (fun i h1 h2 => by have h2 : i = b := h2; show i = b; omega)
        clear K31
        have F42 := RdO.keep F33 K40 (fun i _ _ hi hs => by have hs : i = b := hs; have := hne i _ _ hi; omega)
        clear F33
        clear K40
        refine Ops.done (by kernel_rfl) ?_
        refine q_seq (by kernel_rfl) ?_
        refine q_seq (by kernel_rfl) ?_
        refine q_region (by kernel_rfl) ?_
        refine Ops.regs 3 [(0, (Value.pointer (some ⟨b, 0, none⟩))), (2, (Value.slice none 0 0)), (3, (i64 ((r.pos : Nat) : Int))), (4, (Value.int IntKind.u64 ((r.uint.1 : Nat) : Int))), (49, (Value.pointer (some ⟨b, 2, none⟩)))] (j := 3) (by kernel_rfl) (by kernel_rfl) ?_
        refine Ops.go (v := (i64 10)) (by kernel_rfl) (Runs.load (t := 28) (a := ⟨b, 2, none⟩) (by kernel_rfl) (H39.loads (by kernel_rfl))) (d := (some 50)) (by kernel_rfl) rfl ?_
        refine Ops.regs 1 [(0, (Value.pointer (some ⟨b, 0, none⟩))), (2, (Value.slice none 0 0)), (3, (i64 ((r.pos : Nat) : Int))), (4, (Value.int IntKind.u64 ((r.uint.1 : Nat) : Int))), (51, (Value.bool true))] (j := 5) (by kernel_rfl) (by kernel_rfl) ?_
        refine Ops.done (by kernel_rfl) ?_
        refine q_then (o := .tmp 51) (by kernel_rfl) rfl ?_
        refine q_seq (by kernel_rfl) ?_
        refine q_region (by kernel_rfl) ?_
        refine Ops.regs 4 [(0, (Value.pointer (some ⟨b, 0, none⟩))), (2, (Value.slice none 0 0)), (4, (Value.int IntKind.u64 ((r.uint.1 : Nat) : Int))), (53, (i64 ((r.pos : Nat) : Int))), (55, (Value.pointer (some ⟨b, 1, none⟩)))] (j := 4) (by kernel_rfl) (by kernel_rfl) ?_
        refine Ops.put (t := 3) (b := b) (off := 1) (v := (i64 ((r.pos : Nat) : Int))) (ys := [(Value.slice A r.uint.2.bs.length c), (i64 ((r.pos : Nat) : Int)), (i64 10)]) (by kernel_rfl) (by kernel_rfl) H39 (by kernel_rfl) (d := none) (by kernel_rfl) rfl (fun w43 H44 K45 => ?_)
        clear H39
        have K46 := K41.trans K45 (U := (fun i => i = b)) (fun i h1 h2 => h2) (fun i h1 h2 => by have h2 : i = b := h2; show i = b; omega)
        clear K41
        have F47 := RdO.keep F42 K45 (fun i _ _ hi hs => by have hs : i = b := hs; have := hne i _ _ hi; omega)
        clear F42
        clear K45
        refine Ops.done (by kernel_rfl) ?_
        refine q_seq (by kernel_rfl) ?_
        refine q_region (by kernel_rfl) ?_
        refine Ops.regs 1 [(0, (Value.pointer (some ⟨b, 0, none⟩))), (2, (Value.slice none 0 0)), (4, (Value.int IntKind.u64 ((r.uint.1 : Nat) : Int)))] (j := 1) (by kernel_rfl) (by kernel_rfl) ?_
        refine Ops.done (by kernel_rfl) ?_
        refine q_ret (by kernel_rfl) ?_
        refine ⟨(Value.slice none 0 0), retv_tmp rfl rfl, ?_⟩
        have e : r.bytes = ([], (⟨r.uint.2.bs, r.pos, 10⟩ : Rdr)) := by by_cases hr0 : r.why = 0; (unfold Rdr.bytes Rdr.sized; (repeat' split) <;> first | (exfalso; omega) | rfl | (simp only [Rdr.uint_bs]; done) | (simp only [Rdr.uint_bs]; simp only [Nat.add_sub_cancel_left]; done) | (exfalso; simp only at *; omega)); (have hr1 := hw0 hr0; rw [Rdr.bytes_err hr0]; first | (exfalso; omega) | (rw [Rdr.uint_bs, hr1.2.2]; done))
        exact ⟨(Value.slice none 0 0), rfl, K46, by rw [e]; exact (World.ownsRow_nil _ _ _ _), by rw [e]; exact H44⟩
      · rw [h36]
        have p48 : ¬ (((r.uint.2.bs.length : Nat) : Int) - ((r.uint.2.pos : Nat) : Int) < ((r.uint.1 : Nat) : Int)) := of_decide_eq_false h36
        refine q_skip (by kernel_rfl) ?_
        refine q_seq (by kernel_rfl) ?_
        refine q_seq (by kernel_rfl) ?_
        refine q_region (by kernel_rfl) ?_
        refine Ops.regs 3 [(0, (Value.pointer (some ⟨b, 0, none⟩))), (2, (Value.slice none 0 0)), (3, (i64 ((r.pos : Nat) : Int))), (4, (Value.int IntKind.u64 ((r.uint.1 : Nat) : Int))), (49, (Value.pointer (some ⟨b, 2, none⟩)))] (j := 3) (by kernel_rfl) (by kernel_rfl) ?_
        refine Ops.go (v := (i64 r.uint.2.why)) (by kernel_rfl) (Runs.load (t := 28) (a := ⟨b, 2, none⟩) (by kernel_rfl) (H32.loads (by kernel_rfl))) (d := (some 50)) (by kernel_rfl) rfl ?_
        refine Ops.regs 1 [(0, (Value.pointer (some ⟨b, 0, none⟩))), (2, (Value.slice none 0 0)), (3, (i64 ((r.pos : Nat) : Int))), (4, (Value.int IntKind.u64 ((r.uint.1 : Nat) : Int))), (51, (Value.bool (r.uint.2.why != 0)))] (j := 5) (by kernel_rfl) (by kernel_rfl) ?_
        refine Ops.done (by kernel_rfl) ?_
        refine q_cond (o := .tmp 51) (b := (r.uint.2.why != 0)) (by kernel_rfl) rfl (fun h49 => ?_) (fun h49 => ?_)
        · rw [h49]
          have p50 : ¬ (r.uint.2.why = 0) := of_bne_t h49
          refine q_seq (by kernel_rfl) ?_
          refine q_region (by kernel_rfl) ?_
          refine Ops.regs 4 [(0, (Value.pointer (some ⟨b, 0, none⟩))), (2, (Value.slice none 0 0)), (4, (Value.int IntKind.u64 ((r.uint.1 : Nat) : Int))), (53, (i64 ((r.pos : Nat) : Int))), (55, (Value.pointer (some ⟨b, 1, none⟩)))] (j := 4) (by kernel_rfl) (by kernel_rfl) ?_
          refine Ops.put (t := 3) (b := b) (off := 1) (v := (i64 ((r.pos : Nat) : Int))) (ys := [(Value.slice A r.uint.2.bs.length c), (i64 ((r.pos : Nat) : Int)), (i64 r.uint.2.why)]) (by kernel_rfl) (by kernel_rfl) H32 (by kernel_rfl) (d := none) (by kernel_rfl) rfl (fun w51 H52 K53 => ?_)
          clear H32
          have K54 := K31.trans K53 (U := (fun i => i = b)) (fun i h1 h2 => h2) (fun i h1 h2 => by have h2 : i = b := h2; show i = b; omega)
          clear K31
          have F55 := RdO.keep F33 K53 (fun i _ _ hi hs => by have hs : i = b := hs; have := hne i _ _ hi; omega)
          clear F33
          clear K53
          refine Ops.done (by kernel_rfl) ?_
          refine q_seq (by kernel_rfl) ?_
          refine q_region (by kernel_rfl) ?_
          refine Ops.regs 1 [(0, (Value.pointer (some ⟨b, 0, none⟩))), (2, (Value.slice none 0 0)), (4, (Value.int IntKind.u64 ((r.uint.1 : Nat) : Int)))] (j := 1) (by kernel_rfl) (by kernel_rfl) ?_
          refine Ops.done (by kernel_rfl) ?_
          refine q_ret (by kernel_rfl) ?_
          refine ⟨(Value.slice none 0 0), retv_tmp rfl rfl, ?_⟩
          have e : r.bytes = ([], (⟨r.uint.2.bs, r.pos, r.uint.2.why⟩ : Rdr)) := by by_cases hr0 : r.why = 0; (unfold Rdr.bytes Rdr.sized; (repeat' split) <;> first | (exfalso; omega) | rfl | (simp only [Rdr.uint_bs]; done) | (simp only [Rdr.uint_bs]; simp only [Nat.add_sub_cancel_left]; done) | (exfalso; simp only at *; omega)); (have hr1 := hw0 hr0; rw [Rdr.bytes_err hr0]; first | (exfalso; omega) | (rw [Rdr.uint_bs, hr1.2.2]; done))
          exact ⟨(Value.slice none 0 0), rfl, K54, by rw [e]; exact (World.ownsRow_nil _ _ _ _), by rw [e]; exact H52⟩
        · rw [h49]
          have p56 : r.uint.2.why = 0 := of_bne_f h49
          refine q_skip (by kernel_rfl) ?_
          refine q_seq (by kernel_rfl) ?_
          refine q_region (by kernel_rfl) ?_
          refine Ops.regs 1 [(0, (Value.pointer (some ⟨b, 0, none⟩))), (2, (Value.slice none 0 0)), (4, (Value.int IntKind.u64 ((r.uint.1 : Nat) : Int))), (5, (Value.slice none 0 0))] (j := 1) (by kernel_rfl) (by kernel_rfl) ?_
          refine Ops.done (by kernel_rfl) ?_
          refine q_seq (by kernel_rfl) ?_
          refine q_draw (fun wz => Keeps none_ w29 wz) 19 (by kernel_rfl) (by kernel_rfl) (by kernel_rfl) (fun w57 K58 _ _ => ⟨K58, ?_⟩)
          have K59 := K31.trans K58 (U := (fun i => i = b)) (fun i h1 h2 => h2) (fun i h1 h2 => by exact h2.elim)
          clear K31
          have H60 := H32.keep K58 (fun h => h)
          clear H32
          have F61 := RdO.keep0 F33 K58
          clear F33
          refine Dr.strong (S' := (fun wz => Keeps none_ w57 wz)) (Keeps.refl w57) (fun wz hx => K58.trans hx (fun i _ h => h) (fun _ _ h => h)) ?_
          clear K58
          refine Dr.takes (fuel' := 15) (is' := [3, 2, 1, 0]) [0, 1, 2, 3] [(0, (Value.pointer (some ⟨b, 0, none⟩))), (2, (Value.slice none 0 0)), (4, (Value.int IntKind.u64 ((r.uint.1 : Nat) : Int))), (5, (Value.slice none 0 0)), (56, (Value.slice none 0 0)), (59, (Value.pointer (some ⟨b, 0, none⟩)))] (by kernel_rfl) rfl (by kernel_rfl) ?_
          refine Dr.take (i := 4) (v := (Value.slice A r.uint.2.bs.length c)) (by kernel_rfl) (by kernel_rfl) (fun wz hS => Runs.load (t := 23) (a := ⟨b, 0, none⟩) (by kernel_rfl) ((H60.keep hS (fun h => h)).loads (by kernel_rfl))) (d := (some 60)) (by kernel_rfl) rfl ?_
          refine Dr.takes (fuel' := 11) (is' := [7, 6, 5, 4, 3, 2, 1, 0]) [5, 6, 7] [(0, (Value.pointer (some ⟨b, 0, none⟩))), (2, (Value.slice none 0 0)), (4, (Value.int IntKind.u64 ((r.uint.1 : Nat) : Int))), (5, (Value.slice none 0 0)), (56, (Value.slice none 0 0)), (60, (Value.slice A r.uint.2.bs.length c)), (63, (Value.pointer (some ⟨b, 1, none⟩)))] (by kernel_rfl) rfl (by kernel_rfl) ?_
          refine Dr.take (i := 8) (v := (i64 ((r.uint.2.pos : Nat) : Int))) (by kernel_rfl) (by kernel_rfl) (fun wz hS => Runs.load (t := 3) (a := ⟨b, 1, none⟩) (by kernel_rfl) ((H60.keep hS (fun h => h)).loads (by kernel_rfl))) (d := (some 64)) (by kernel_rfl) rfl ?_
          refine Dr.takes (fuel' := 7) (is' := [11, 10, 9, 8, 7, 6, 5, 4, 3, 2, 1, 0]) [9, 10, 11] [(0, (Value.pointer (some ⟨b, 0, none⟩))), (2, (Value.slice none 0 0)), (4, (Value.int IntKind.u64 ((r.uint.1 : Nat) : Int))), (5, (Value.slice none 0 0)), (56, (Value.slice none 0 0)), (60, (Value.slice A r.uint.2.bs.length c)), (64, (i64 ((r.uint.2.pos : Nat) : Int))), (67, (Value.pointer (some ⟨b, 1, none⟩)))] (by kernel_rfl) rfl (by kernel_rfl) ?_
          refine Dr.take (i := 12) (v := (i64 ((r.uint.2.pos : Nat) : Int))) (by kernel_rfl) (by kernel_rfl) (fun wz hS => Runs.load (t := 3) (a := ⟨b, 1, none⟩) (by kernel_rfl) ((H60.keep hS (fun h => h)).loads (by kernel_rfl))) (d := (some 68)) (by kernel_rfl) rfl ?_
          refine Dr.takes (fuel' := 4) (is' := [14, 13, 12, 11, 10, 9, 8, 7, 6, 5, 4, 3, 2, 1, 0]) [13, 14] [(0, (Value.pointer (some ⟨b, 0, none⟩))), (2, (Value.slice none 0 0)), (4, (Value.int IntKind.u64 ((r.uint.1 : Nat) : Int))), (5, (Value.slice none 0 0)), (56, (Value.slice none 0 0)), (60, (Value.slice A r.uint.2.bs.length c)), (64, (i64 ((r.uint.2.pos : Nat) : Int))), (68, (i64 ((r.uint.2.pos : Nat) : Int))), (70, (i64 (IntKind.i64.wrap (((r.uint.1 : Nat) : Int)))))] (by kernel_rfl) rfl (by kernel_rfl) ?_
          have e62 : IntKind.i64.wrap (((r.uint.1 : Nat) : Int)) = ((r.uint.1 : Nat) : Int) := wrap_i64 (by omega) (by omega)
          rw [e62]
          refine Dr.takes (fuel' := 3) (is' := [15, 14, 13, 12, 11, 10, 9, 8, 7, 6, 5, 4, 3, 2, 1, 0]) [15] [(0, (Value.pointer (some ⟨b, 0, none⟩))), (2, (Value.slice none 0 0)), (4, (Value.int IntKind.u64 ((r.uint.1 : Nat) : Int))), (5, (Value.slice none 0 0)), (56, (Value.slice none 0 0)), (60, (Value.slice A r.uint.2.bs.length c)), (64, (i64 ((r.uint.2.pos : Nat) : Int))), (71, (i64 (IntKind.i64.wrap (((r.uint.2.pos : Nat) : Int) + ((r.uint.1 : Nat) : Int)))))] (by kernel_rfl) rfl (by kernel_rfl) ?_
          have e63 : IntKind.i64.wrap (((r.uint.2.pos : Nat) : Int) + ((r.uint.1 : Nat) : Int)) = ((r.uint.2.pos + r.uint.1 : Nat) : Int) := by rw [wrap_i64 (by omega) (by omega)]; omega
          rw [e63]
          clear e63
          have hslF64 := RdB.slice F61.1
          have F64 := RdB.cutlh F61.1 r.uint.2.pos (r.uint.2.pos + r.uint.1) (by omega) (by omega)
          have hlF64 : ((r.uint.2.bs.drop r.uint.2.pos).take ((r.uint.2.pos + r.uint.1) - r.uint.2.pos)).length = (r.uint.2.pos + r.uint.1) - r.uint.2.pos := by rw [List.length_take, List.length_drop]; omega
          refine Dr.take (i := 16) (v := (Value.slice (if c = r.uint.2.pos then A else Option.map (fun q => Addr.add q (r.uint.2.pos * 1)) A) ((r.uint.2.pos + r.uint.1) - r.uint.2.pos) (c - r.uint.2.pos))) (by kernel_rfl) (by kernel_rfl) (fun wz hS => Runs.slice (by kernel_rfl) (run_cut (sz := 1) (t := 23) (A := A) (n := r.uint.2.bs.length) (c := c) r.uint.2.pos (r.uint.2.pos + r.uint.1) c (lo := some (i64 ((r.uint.2.pos : Nat) : Int))) (hi := some (i64 ((r.uint.2.pos + r.uint.1 : Nat) : Int))) (mx := none) tyB.slice (by kernel_rfl) (.inr ⟨_, rfl⟩) (.inr ⟨_, rfl⟩) (.inl ⟨rfl, rfl⟩) (by omega) (by omega) (by omega))) (d := (some 72)) (by kernel_rfl) rfl ?_
          obtain ⟨v65, w66, hr67, hO68, hK69⟩ := OwnB.app (ty := 23) (base := w57.heap.size) tyB (show OwnB w57 w57.heap.size 5 (.slice none 0 0) [] from World.ownsRow_nil _ _ _ _) F64 (by simp only [List.length_nil]; omega) (Nat.le_refl _)
          have hO70 : OwnB w66 _ 5 v65 ((r.uint.2.bs.drop r.uint.2.pos).take ((r.uint.2.pos + r.uint.1) - r.uint.2.pos)) := hO68
          have ob73 : ∀ i, (v65).ownBlock = some i → i ≠ b := fun i hi => by have := (World.ownsRow.lt hO70 i hi).1; have := H60.lt; omega
          have oo74 : ∀ i o s, A = some ⟨i, o, s⟩ → (v65).ownBlock = some i → False := fun i o s hi hs => by have := (World.ownsRow.lt hO70 i hs).1; have := F61.2 i o s hi; omega
          have K72 := Keeps.new hK69
          have O71 := own_base hO70 K59.size
          have K76 := K59.trans K72 (U := (fun i => i = b)) (fun i h1 h2 => h2) (fun i h1 h2 => by exact h2.elim)
          clear K59
          have H77 := H60.keep K72 (fun h => h)
          clear H60
          have F78 := RdO.keep0 F61 K72
          clear F61
          have F79 := (Rd.keep0 (by omega) F64 K72)
          clear F64
          refine Dr.go (i := 17) (v := v65) (by kernel_rfl) (by kernel_rfl) (Runs.append (ts := #[23, 23]) (ty := 23) (vs := [(Value.slice none 0 0), (Value.slice (if c = r.uint.2.pos then A else Option.map (fun q => Addr.add q (r.uint.2.pos * 1)) A) ((r.uint.2.pos + r.uint.1) - r.uint.2.pos) (c - r.uint.2.pos))]) (by kernel_rfl) hr67) (d := (some 73)) (by kernel_rfl) rfl K72 ?_
          refine Dr.strong (S' := (fun wz => Keeps none_ w66 wz)) (Keeps.refl w66) (fun wz hx => K72.trans hx (fun i _ h => h) (fun _ _ h => h)) ?_
          clear K72 hr67 hK69 hO68 hO70
          refine Dr.takes (fuel' := 0) (is' := [18, 17, 16, 15, 14, 13, 12, 11, 10, 9, 8, 7, 6, 5, 4, 3, 2, 1, 0]) [18] [(0, (Value.pointer (some ⟨b, 0, none⟩))), (2, (Value.slice none 0 0)), (4, (Value.int IntKind.u64 ((r.uint.1 : Nat) : Int))), (5, v65)] (by kernel_rfl) rfl (by kernel_rfl) ?_
          refine Dr.done (by kernel_rfl) ?_
          refine q_seq (by kernel_rfl) ?_
          refine q_region (by kernel_rfl) ?_
          refine Ops.regs 4 [(2, (Value.slice none 0 0)), (4, (Value.int IntKind.u64 ((r.uint.1 : Nat) : Int))), (5, v65), (74, (Value.pointer (some ⟨b, 0, none⟩))), (77, (Value.pointer (some ⟨b, 1, none⟩)))] (j := 4) (by kernel_rfl) (by kernel_rfl) ?_
          refine Ops.go (v := (i64 ((r.uint.2.pos : Nat) : Int))) (by kernel_rfl) (Runs.load (t := 3) (a := ⟨b, 1, none⟩) (by kernel_rfl) (H77.loads (by kernel_rfl))) (d := (some 78)) (by kernel_rfl) rfl ?_
          refine Ops.regs 2 [(2, (Value.slice none 0 0)), (5, v65), (74, (Value.pointer (some ⟨b, 0, none⟩))), (78, (i64 ((r.uint.2.pos : Nat) : Int))), (80, (i64 (IntKind.i64.wrap (((r.uint.1 : Nat) : Int)))))] (j := 7) (by kernel_rfl) (by kernel_rfl) ?_
          have e80 : IntKind.i64.wrap (((r.uint.1 : Nat) : Int)) = ((r.uint.1 : Nat) : Int) := wrap_i64 (by omega) (by omega)
          rw [e80]
          refine Ops.regs 1 [(2, (Value.slice none 0 0)), (5, v65), (74, (Value.pointer (some ⟨b, 0, none⟩))), (81, (i64 (IntKind.i64.wrap (((r.uint.2.pos : Nat) : Int) + ((r.uint.1 : Nat) : Int)))))] (j := 8) (by kernel_rfl) (by kernel_rfl) ?_
          have e81 : IntKind.i64.wrap (((r.uint.2.pos : Nat) : Int) + ((r.uint.1 : Nat) : Int)) = ((r.uint.2.pos + r.uint.1 : Nat) : Int) := by rw [wrap_i64 (by omega) (by omega)]; omega
          rw [e81]
          clear e81
          refine Ops.regs 2 [(2, (Value.slice none 0 0)), (5, v65), (81, (i64 ((r.uint.2.pos + r.uint.1 : Nat) : Int))), (83, (Value.pointer (some ⟨b, 1, none⟩)))] (j := 10) (by kernel_rfl) (by kernel_rfl) ?_
          refine Ops.put (t := 3) (b := b) (off := 1) (v := (i64 ((r.uint.2.pos + r.uint.1 : Nat) : Int))) (ys := [(Value.slice A r.uint.2.bs.length c), (i64 ((r.uint.2.pos + r.uint.1 : Nat) : Int)), (i64 r.uint.2.why)]) (by kernel_rfl) (by kernel_rfl) H77 (by kernel_rfl) (d := none) (by kernel_rfl) rfl (fun w82 H83 K84 => ?_)
          clear H77
          have K85 := K76.trans K84 (U := (fun i => i = b)) (fun i h1 h2 => h2) (fun i h1 h2 => by have h2 : i = b := h2; show i = b; omega)
          clear K76
          have F86 := RdO.keep F78 K84 (fun i _ _ hi hs => by have hs : i = b := hs; have := hne i _ _ hi; omega)
          clear F78
          clear F79
          have F87 := own_keep O71 K84 (fun i hi hs => by have hs : i = b := hs; have := ob73 i hi; omega)
          clear O71
          clear K84
          refine Ops.done (by kernel_rfl) ?_
          refine q_seq (by kernel_rfl) ?_
          refine q_region (by kernel_rfl) ?_
          refine Ops.regs 2 [(2, v65)] (j := 2) (by kernel_rfl) (by kernel_rfl) ?_
          refine Ops.done (by kernel_rfl) ?_
          refine q_ret (by kernel_rfl) ?_
          refine ⟨v65, retv_tmp rfl rfl, ?_⟩
          have e : r.bytes = ((r.uint.2.bs.drop r.uint.2.pos).take ((r.uint.2.pos + r.uint.1) - r.uint.2.pos), (⟨r.uint.2.bs, r.uint.2.pos + r.uint.1, r.uint.2.why⟩ : Rdr)) := by by_cases hr0 : r.why = 0; (unfold Rdr.bytes Rdr.sized; (repeat' split) <;> first | (exfalso; omega) | rfl | (simp only [Rdr.uint_bs]; done) | (simp only [Rdr.uint_bs]; simp only [Nat.add_sub_cancel_left]; done) | (exfalso; simp only at *; omega)); (have hr1 := hw0 hr0; rw [Rdr.bytes_err hr0]; first | (exfalso; omega) | (rw [Rdr.uint_bs, hr1.2.2]; done))
          exact ⟨v65, rfl, K85, by rw [e]; exact F87, by rw [e]; exact H83⟩
  · rw [h9]
    have p88 : ¬ (r.uint.2.why = 0) := of_beq_f h9
    refine Ops.regs 3 [(0, (Value.pointer (some ⟨b, 0, none⟩))), (2, (Value.slice none 0 0)), (3, (i64 ((r.pos : Nat) : Int))), (4, (Value.int IntKind.u64 ((r.uint.1 : Nat) : Int))), (20, (Value.bool false))] (j := 9) (by kernel_rfl) (by kernel_rfl) ?_
    refine Ops.done (by kernel_rfl) ?_
    refine q_else (o := .tmp 20) (by kernel_rfl) rfl ?_
    refine q_skip (by kernel_rfl) ?_
    refine q_seq (by kernel_rfl) ?_
    refine q_seq (by kernel_rfl) ?_
    refine q_draw (fun wz => Keeps none_ w1 wz) 20 (by kernel_rfl) (by kernel_rfl) (by kernel_rfl) (fun w89 K90 _ _ => ⟨K90, ?_⟩)
    have K91 := K6.trans K90 (U := (fun i => i = b)) (fun i h1 h2 => h2) (fun i h1 h2 => by exact h2.elim)
    clear K6
    have H92 := H3.keep K90 (fun h => h)
    clear H3
    have F93 := RdO.keep0 F8 K90
    clear F8
    refine Dr.strong (S' := (fun wz => Keeps none_ w89 wz)) (Keeps.refl w89) (fun wz hx => K90.trans hx (fun i _ h => h) (fun _ _ h => h)) ?_
    clear K90
    refine Dr.takes (fuel' := 17) (is' := [2, 1, 0]) [0, 1, 2] [(0, (Value.pointer (some ⟨b, 0, none⟩))), (2, (Value.slice none 0 0)), (3, (i64 ((r.pos : Nat) : Int))), (4, (Value.int IntKind.u64 ((r.uint.1 : Nat) : Int))), (26, (Value.pointer (some ⟨b, 2, none⟩)))] (by kernel_rfl) rfl (by kernel_rfl) ?_
    refine Dr.take (i := 3) (v := (i64 r.uint.2.why)) (by kernel_rfl) (by kernel_rfl) (fun wz hS => Runs.load (t := 28) (a := ⟨b, 2, none⟩) (by kernel_rfl) ((H92.keep hS (fun h => h)).loads (by kernel_rfl))) (d := (some 27)) (by kernel_rfl) rfl ?_
    refine Dr.takes (fuel' := 14) (is' := [5, 4, 3, 2, 1, 0]) [4, 5] [(0, (Value.pointer (some ⟨b, 0, none⟩))), (2, (Value.slice none 0 0)), (3, (i64 ((r.pos : Nat) : Int))), (4, (Value.int IntKind.u64 ((r.uint.1 : Nat) : Int))), (29, (Value.bool (r.uint.2.why == 0)))] (by kernel_rfl) rfl (by kernel_rfl) ?_
    rw [h9]
    refine Dr.takes (fuel' := 0) (is' := [19, 18, 17, 16, 15, 14, 13, 12, 11, 10, 9, 8, 7, 6, 5, 4, 3, 2, 1, 0]) [6, 7, 8, 9, 10, 11, 12, 13, 14, 15, 16, 17, 18, 19] [(0, (Value.pointer (some ⟨b, 0, none⟩))), (2, (Value.slice none 0 0)), (3, (i64 ((r.pos : Nat) : Int))), (4, (Value.int IntKind.u64 ((r.uint.1 : Nat) : Int))), (43, (Value.bool false))] (by kernel_rfl) rfl (by kernel_rfl) ?_
    refine Dr.done (by kernel_rfl) ?_
    refine q_else (o := .tmp 43) (by kernel_rfl) rfl ?_
    refine q_skip (by kernel_rfl) ?_
    refine q_seq (by kernel_rfl) ?_
    refine q_seq (by kernel_rfl) ?_
    refine q_region (by kernel_rfl) ?_
    refine Ops.regs 3 [(0, (Value.pointer (some ⟨b, 0, none⟩))), (2, (Value.slice none 0 0)), (3, (i64 ((r.pos : Nat) : Int))), (4, (Value.int IntKind.u64 ((r.uint.1 : Nat) : Int))), (49, (Value.pointer (some ⟨b, 2, none⟩)))] (j := 3) (by kernel_rfl) (by kernel_rfl) ?_
    refine Ops.go (v := (i64 r.uint.2.why)) (by kernel_rfl) (Runs.load (t := 28) (a := ⟨b, 2, none⟩) (by kernel_rfl) (H92.loads (by kernel_rfl))) (d := (some 50)) (by kernel_rfl) rfl ?_
    refine Ops.regs 1 [(0, (Value.pointer (some ⟨b, 0, none⟩))), (2, (Value.slice none 0 0)), (3, (i64 ((r.pos : Nat) : Int))), (4, (Value.int IntKind.u64 ((r.uint.1 : Nat) : Int))), (51, (Value.bool (r.uint.2.why != 0)))] (j := 5) (by kernel_rfl) (by kernel_rfl) ?_
    refine Ops.done (by kernel_rfl) ?_
    refine q_cond (o := .tmp 51) (b := (r.uint.2.why != 0)) (by kernel_rfl) rfl (fun h94 => ?_) (fun h94 => ?_)
    · rw [h94]
      have p95 : ¬ (r.uint.2.why = 0) := of_bne_t h94
      refine q_seq (by kernel_rfl) ?_
      refine q_region (by kernel_rfl) ?_
      refine Ops.regs 4 [(0, (Value.pointer (some ⟨b, 0, none⟩))), (2, (Value.slice none 0 0)), (4, (Value.int IntKind.u64 ((r.uint.1 : Nat) : Int))), (53, (i64 ((r.pos : Nat) : Int))), (55, (Value.pointer (some ⟨b, 1, none⟩)))] (j := 4) (by kernel_rfl) (by kernel_rfl) ?_
      refine Ops.put (t := 3) (b := b) (off := 1) (v := (i64 ((r.pos : Nat) : Int))) (ys := [(Value.slice A r.uint.2.bs.length c), (i64 ((r.pos : Nat) : Int)), (i64 r.uint.2.why)]) (by kernel_rfl) (by kernel_rfl) H92 (by kernel_rfl) (d := none) (by kernel_rfl) rfl (fun w96 H97 K98 => ?_)
      clear H92
      have K99 := K91.trans K98 (U := (fun i => i = b)) (fun i h1 h2 => h2) (fun i h1 h2 => by have h2 : i = b := h2; show i = b; omega)
      clear K91
      have F100 := RdO.keep F93 K98 (fun i _ _ hi hs => by have hs : i = b := hs; have := hne i _ _ hi; omega)
      clear F93
      clear K98
      refine Ops.done (by kernel_rfl) ?_
      refine q_seq (by kernel_rfl) ?_
      refine q_region (by kernel_rfl) ?_
      refine Ops.regs 1 [(0, (Value.pointer (some ⟨b, 0, none⟩))), (2, (Value.slice none 0 0)), (4, (Value.int IntKind.u64 ((r.uint.1 : Nat) : Int)))] (j := 1) (by kernel_rfl) (by kernel_rfl) ?_
      refine Ops.done (by kernel_rfl) ?_
      refine q_ret (by kernel_rfl) ?_
      refine ⟨(Value.slice none 0 0), retv_tmp rfl rfl, ?_⟩
      have e : r.bytes = ([], (⟨r.uint.2.bs, r.pos, r.uint.2.why⟩ : Rdr)) := by by_cases hr0 : r.why = 0; (unfold Rdr.bytes Rdr.sized; (repeat' split) <;> first | (exfalso; omega) | rfl | (simp only [Rdr.uint_bs]; done) | (simp only [Rdr.uint_bs]; simp only [Nat.add_sub_cancel_left]; done) | (exfalso; simp only at *; omega)); (have hr1 := hw0 hr0; rw [Rdr.bytes_err hr0]; first | (exfalso; omega) | (rw [Rdr.uint_bs, hr1.2.2]; done))
      exact ⟨(Value.slice none 0 0), rfl, K99, by rw [e]; exact (World.ownsRow_nil _ _ _ _), by rw [e]; exact H97⟩
    · rw [h94]
      have p101 : r.uint.2.why = 0 := of_bne_f h94
      refine q_skip (by kernel_rfl) ?_
      refine q_seq (by kernel_rfl) ?_
      refine q_region (by kernel_rfl) ?_
      refine Ops.regs 1 [(0, (Value.pointer (some ⟨b, 0, none⟩))), (2, (Value.slice none 0 0)), (4, (Value.int IntKind.u64 ((r.uint.1 : Nat) : Int))), (5, (Value.slice none 0 0))] (j := 1) (by kernel_rfl) (by kernel_rfl) ?_
      refine Ops.done (by kernel_rfl) ?_
      refine q_seq (by kernel_rfl) ?_
      refine q_draw (fun wz => Keeps none_ w89 wz) 19 (by kernel_rfl) (by kernel_rfl) (by kernel_rfl) (fun w102 K103 _ _ => ⟨K103, ?_⟩)
      have K104 := K91.trans K103 (U := (fun i => i = b)) (fun i h1 h2 => h2) (fun i h1 h2 => by exact h2.elim)
      clear K91
      have H105 := H92.keep K103 (fun h => h)
      clear H92
      have F106 := RdO.keep0 F93 K103
      clear F93
      refine Dr.strong (S' := (fun wz => Keeps none_ w102 wz)) (Keeps.refl w102) (fun wz hx => K103.trans hx (fun i _ h => h) (fun _ _ h => h)) ?_
      clear K103
      refine Dr.takes (fuel' := 15) (is' := [3, 2, 1, 0]) [0, 1, 2, 3] [(0, (Value.pointer (some ⟨b, 0, none⟩))), (2, (Value.slice none 0 0)), (4, (Value.int IntKind.u64 ((r.uint.1 : Nat) : Int))), (5, (Value.slice none 0 0)), (56, (Value.slice none 0 0)), (59, (Value.pointer (some ⟨b, 0, none⟩)))] (by kernel_rfl) rfl (by kernel_rfl) ?_
      refine Dr.take (i := 4) (v := (Value.slice A r.uint.2.bs.length c)) (by kernel_rfl) (by kernel_rfl) (fun wz hS => Runs.load (t := 23) (a := ⟨b, 0, none⟩) (by kernel_rfl) ((H105.keep hS (fun h => h)).loads (by kernel_rfl))) (d := (some 60)) (by kernel_rfl) rfl ?_
      refine Dr.takes (fuel' := 11) (is' := [7, 6, 5, 4, 3, 2, 1, 0]) [5, 6, 7] [(0, (Value.pointer (some ⟨b, 0, none⟩))), (2, (Value.slice none 0 0)), (4, (Value.int IntKind.u64 ((r.uint.1 : Nat) : Int))), (5, (Value.slice none 0 0)), (56, (Value.slice none 0 0)), (60, (Value.slice A r.uint.2.bs.length c)), (63, (Value.pointer (some ⟨b, 1, none⟩)))] (by kernel_rfl) rfl (by kernel_rfl) ?_
      refine Dr.take (i := 8) (v := (i64 ((r.uint.2.pos : Nat) : Int))) (by kernel_rfl) (by kernel_rfl) (fun wz hS => Runs.load (t := 3) (a := ⟨b, 1, none⟩) (by kernel_rfl) ((H105.keep hS (fun h => h)).loads (by kernel_rfl))) (d := (some 64)) (by kernel_rfl) rfl ?_
      refine Dr.takes (fuel' := 7) (is' := [11, 10, 9, 8, 7, 6, 5, 4, 3, 2, 1, 0]) [9, 10, 11] [(0, (Value.pointer (some ⟨b, 0, none⟩))), (2, (Value.slice none 0 0)), (4, (Value.int IntKind.u64 ((r.uint.1 : Nat) : Int))), (5, (Value.slice none 0 0)), (56, (Value.slice none 0 0)), (60, (Value.slice A r.uint.2.bs.length c)), (64, (i64 ((r.uint.2.pos : Nat) : Int))), (67, (Value.pointer (some ⟨b, 1, none⟩)))] (by kernel_rfl) rfl (by kernel_rfl) ?_
      refine Dr.take (i := 12) (v := (i64 ((r.uint.2.pos : Nat) : Int))) (by kernel_rfl) (by kernel_rfl) (fun wz hS => Runs.load (t := 3) (a := ⟨b, 1, none⟩) (by kernel_rfl) ((H105.keep hS (fun h => h)).loads (by kernel_rfl))) (d := (some 68)) (by kernel_rfl) rfl ?_
      refine Dr.takes (fuel' := 4) (is' := [14, 13, 12, 11, 10, 9, 8, 7, 6, 5, 4, 3, 2, 1, 0]) [13, 14] [(0, (Value.pointer (some ⟨b, 0, none⟩))), (2, (Value.slice none 0 0)), (4, (Value.int IntKind.u64 ((r.uint.1 : Nat) : Int))), (5, (Value.slice none 0 0)), (56, (Value.slice none 0 0)), (60, (Value.slice A r.uint.2.bs.length c)), (64, (i64 ((r.uint.2.pos : Nat) : Int))), (68, (i64 ((r.uint.2.pos : Nat) : Int))), (70, (i64 (IntKind.i64.wrap (((r.uint.1 : Nat) : Int)))))] (by kernel_rfl) rfl (by kernel_rfl) ?_
      have e107 : IntKind.i64.wrap (((r.uint.1 : Nat) : Int)) = ((r.uint.1 : Nat) : Int) := wrap_i64 (by omega) (by omega)
      rw [e107]
      refine Dr.takes (fuel' := 3) (is' := [15, 14, 13, 12, 11, 10, 9, 8, 7, 6, 5, 4, 3, 2, 1, 0]) [15] [(0, (Value.pointer (some ⟨b, 0, none⟩))), (2, (Value.slice none 0 0)), (4, (Value.int IntKind.u64 ((r.uint.1 : Nat) : Int))), (5, (Value.slice none 0 0)), (56, (Value.slice none 0 0)), (60, (Value.slice A r.uint.2.bs.length c)), (64, (i64 ((r.uint.2.pos : Nat) : Int))), (71, (i64 (IntKind.i64.wrap (((r.uint.2.pos : Nat) : Int) + ((r.uint.1 : Nat) : Int)))))] (by kernel_rfl) rfl (by kernel_rfl) ?_
      have e108 : IntKind.i64.wrap (((r.uint.2.pos : Nat) : Int) + ((r.uint.1 : Nat) : Int)) = ((r.uint.2.pos + r.uint.1 : Nat) : Int) := by rw [wrap_i64 (by omega) (by omega)]; omega
      rw [e108]
      clear e108
      have hslF109 := RdB.slice F106.1
      have F109 := RdB.cutlh F106.1 r.uint.2.pos (r.uint.2.pos + r.uint.1) (by omega) (by omega)
      have hlF109 : ((r.uint.2.bs.drop r.uint.2.pos).take ((r.uint.2.pos + r.uint.1) - r.uint.2.pos)).length = (r.uint.2.pos + r.uint.1) - r.uint.2.pos := by rw [List.length_take, List.length_drop]; omega
      refine Dr.take (i := 16) (v := (Value.slice (if c = r.uint.2.pos then A else Option.map (fun q => Addr.add q (r.uint.2.pos * 1)) A) ((r.uint.2.pos + r.uint.1) - r.uint.2.pos) (c - r.uint.2.pos))) (by kernel_rfl) (by kernel_rfl) (fun wz hS => Runs.slice (by kernel_rfl) (run_cut (sz := 1) (t := 23) (A := A) (n := r.uint.2.bs.length) (c := c) r.uint.2.pos (r.uint.2.pos + r.uint.1) c (lo := some (i64 ((r.uint.2.pos : Nat) : Int))) (hi := some (i64 ((r.uint.2.pos + r.uint.1 : Nat) : Int))) (mx := none) tyB.slice (by kernel_rfl) (.inr ⟨_, rfl⟩) (.inr ⟨_, rfl⟩) (.inl ⟨rfl, rfl⟩) (by omega) (by omega) (by omega))) (d := (some 72)) (by kernel_rfl) rfl ?_
      obtain ⟨v110, w111, hr112, hO113, hK114⟩ := OwnB.app (ty := 23) (base := w102.heap.size) tyB (show OwnB w102 w102.heap.size 5 (.slice none 0 0) [] from World.ownsRow_nil _ _ _ _) F109 (by simp only [List.length_nil]; omega) (Nat.le_refl _)
      have hO115 : OwnB w111 _ 5 v110 ((r.uint.2.bs.drop r.uint.2.pos).take ((r.uint.2.pos + r.uint.1) - r.uint.2.pos)) := hO113
      have ob118 : ∀ i, (v110).ownBlock = some i → i ≠ b := fun i hi => by have := (World.ownsRow.lt hO115 i hi).1; have := H105.lt; omega
      have oo119 : ∀ i o s, A = some ⟨i, o, s⟩ → (v110).ownBlock = some i → False := fun i o s hi hs => by have := (World.ownsRow.lt hO115 i hs).1; have := F106.2 i o s hi; omega
      have K117 := Keeps.new hK114
      have O116 := own_base hO115 K104.size
      have K121 := K104.trans K117 (U := (fun i => i = b)) (fun i h1 h2 => h2) (fun i h1 h2 => by exact h2.elim)
      clear K104
      have H122 := H105.keep K117 (fun h => h)
      clear H105
      have F123 := RdO.keep0 F106 K117
      clear F106
      have F124 := (Rd.keep0 (by omega) F109 K117)
      clear F109
      refine Dr.go (i := 17) (v := v110) (by kernel_rfl) (by kernel_rfl) (Runs.append (ts := #[23, 23]) (ty := 23) (vs := [(Value.slice none 0 0), (Value.slice (if c = r.uint.2.pos then A else Option.map (fun q => Addr.add q (r.uint.2.pos * 1)) A) ((r.uint.2.pos + r.uint.1) - r.uint.2.pos) (c - r.uint.2.pos))]) (by kernel_rfl) hr112) (d := (some 73)) (by kernel_rfl) rfl K117 ?_
      refine Dr.strong (S' := (fun wz => Keeps none_ w111 wz)) (Keeps.refl w111) (fun wz hx => K117.trans hx (fun i _ h => h) (fun _ _ h => h)) ?_
      clear K117 hr112 hK114 hO113 hO115
      refine Dr.takes (fuel' := 0) (is' := [18, 17, 16, 15, 14, 13, 12, 11, 10, 9, 8, 7, 6, 5, 4, 3, 2, 1, 0]) [18] [(0, (Value.pointer (some ⟨b, 0, none⟩))), (2, (Value.slice none 0 0)), (4, (Value.int IntKind.u64 ((r.uint.1 : Nat) : Int))), (5, v110)] (by kernel_rfl) rfl (by kernel_rfl) ?_
      refine Dr.done (by kernel_rfl) ?_
      refine q_seq (by kernel_rfl) ?_
      refine q_region (by kernel_rfl) ?_
      refine Ops.regs 4 [(2, (Value.slice none 0 0)), (4, (Value.int IntKind.u64 ((r.uint.1 : Nat) : Int))), (5, v110), (74, (Value.pointer (some ⟨b, 0, none⟩))), (77, (Value.pointer (some ⟨b, 1, none⟩)))] (j := 4) (by kernel_rfl) (by kernel_rfl) ?_
      refine Ops.go (v := (i64 ((r.uint.2.pos : Nat) : Int))) (by kernel_rfl) (Runs.load (t := 3) (a := ⟨b, 1, none⟩) (by kernel_rfl) (H122.loads (by kernel_rfl))) (d := (some 78)) (by kernel_rfl) rfl ?_
      refine Ops.regs 2 [(2, (Value.slice none 0 0)), (5, v110), (74, (Value.pointer (some ⟨b, 0, none⟩))), (78, (i64 ((r.uint.2.pos : Nat) : Int))), (80, (i64 (IntKind.i64.wrap (((r.uint.1 : Nat) : Int)))))] (j := 7) (by kernel_rfl) (by kernel_rfl) ?_
      have e125 : IntKind.i64.wrap (((r.uint.1 : Nat) : Int)) = ((r.uint.1 : Nat) : Int) := wrap_i64 (by omega) (by omega)
      rw [e125]
      refine Ops.regs 1 [(2, (Value.slice none 0 0)), (5, v110), (74, (Value.pointer (some ⟨b, 0, none⟩))), (81, (i64 (IntKind.i64.wrap (((r.uint.2.pos : Nat) : Int) + ((r.uint.1 : Nat) : Int)))))] (j := 8) (by kernel_rfl) (by kernel_rfl) ?_
      have e126 : IntKind.i64.wrap (((r.uint.2.pos : Nat) : Int) + ((r.uint.1 : Nat) : Int)) = ((r.uint.2.pos + r.uint.1 : Nat) : Int) := by rw [wrap_i64 (by omega) (by omega)]; omega
      rw [e126]
      clear e126
      refine Ops.regs 2 [(2, (Value.slice none 0 0)), (5, v110), (81, (i64 ((r.uint.2.pos + r.uint.1 : Nat) : Int))), (83, (Value.pointer (some ⟨b, 1, none⟩)))] (j := 10) (by kernel_rfl) (by kernel_rfl) ?_
      refine Ops.put (t := 3) (b := b) (off := 1) (v := (i64 ((r.uint.2.pos + r.uint.1 : Nat) : Int))) (ys := [(Value.slice A r.uint.2.bs.length c), (i64 ((r.uint.2.pos + r.uint.1 : Nat) : Int)), (i64 r.uint.2.why)]) (by kernel_rfl) (by kernel_rfl) H122 (by kernel_rfl) (d := none) (by kernel_rfl) rfl (fun w127 H128 K129 => ?_)
      clear H122
      have K130 := K121.trans K129 (U := (fun i => i = b)) (fun i h1 h2 => h2) (fun i h1 h2 => by have h2 : i = b := h2; show i = b; omega)
      clear K121
      have F131 := RdO.keep F123 K129 (fun i _ _ hi hs => by have hs : i = b := hs; have := hne i _ _ hi; omega)
      clear F123
      clear F124
      have F132 := own_keep O116 K129 (fun i hi hs => by have hs : i = b := hs; have := ob118 i hi; omega)
      clear O116
      clear K129
      refine Ops.done (by kernel_rfl) ?_
      refine q_seq (by kernel_rfl) ?_
      refine q_region (by kernel_rfl) ?_
      refine Ops.regs 2 [(2, v110)] (j := 2) (by kernel_rfl) (by kernel_rfl) ?_
      refine Ops.done (by kernel_rfl) ?_
      refine q_ret (by kernel_rfl) ?_
      refine ⟨v110, retv_tmp rfl rfl, ?_⟩
      have e : r.bytes = ((r.uint.2.bs.drop r.uint.2.pos).take ((r.uint.2.pos + r.uint.1) - r.uint.2.pos), (⟨r.uint.2.bs, r.uint.2.pos + r.uint.1, r.uint.2.why⟩ : Rdr)) := by by_cases hr0 : r.why = 0; (unfold Rdr.bytes Rdr.sized; (repeat' split) <;> first | (exfalso; omega) | rfl | (simp only [Rdr.uint_bs]; done) | (simp only [Rdr.uint_bs]; simp only [Nat.add_sub_cancel_left]; done) | (exfalso; simp only at *; omega)); (have hr1 := hw0 hr0; rw [Rdr.bytes_err hr0]; first | (exfalso; omega) | (rw [Rdr.uint_bs, hr1.2.2]; done))
      exact ⟨v110, rfl, K130, by rw [e]; exact F132, by rw [e]; exact H128⟩

theorem RRText_calls (w : World) (b : Nat) (A : Option Addr) (c : Nat) (r : Rdr) (hok : r.Ok) (H0 : Has w b (rowL (rdrL A c r) 72)) (hR : RdO w A c r.bs) (hne : ∀ g o s, A = some ⟨g, o, s⟩ → g ≠ b) : Calls Try.prog 71 ⟨[(Value.pointer (some ⟨b, 0, none⟩))]⟩ w (fun e w' => e = .returned (.string (str r.bytes.1)) ∧ Keeps (fun i => i = b) w w' ∧ Has w' b (rowL (rdrL A c (r.bytes).2) 72)) := by
  have hpos := hok.pos
  have hlen := hok.len
  have hsc := r.scan_le
  have hdl : (r.bs.drop r.pos).length = r.bs.length - r.pos := List.length_drop
  have hcap := hR.1.slice
  have Hb := H0.lt
  have K0 : Keeps (fun i => i = b) w w := (Keeps.refl w).mono (fun _ _ h => h.elim)
  refine q_calls Try.func71 (by kernel_rfl) (by kernel_rfl) ?_
  refine q_seq (by kernel_rfl) ?_
  refine q_region (by kernel_rfl) ?_
  refine Ops.regs 1 [(0, (Value.pointer (some ⟨b, 0, none⟩))), (2, (Value.string (str ([] : List UInt8))))] (j := 1) (by kernel_rfl) (by kernel_rfl) ?_
  refine Ops.done (by kernel_rfl) ?_
  refine q_seq (by kernel_rfl) ?_
  refine q_region (by kernel_rfl) ?_
  refine Ops.regs 1 [(2, (Value.string (str ([] : List UInt8)))), (3, (Value.pointer (some ⟨b, 0, none⟩)))] (j := 1) (by kernel_rfl) (by kernel_rfl) ?_
  refine Ops.call (by kernel_rfl) (d := (some 4)) (by kernel_rfl) (RRBytes_calls _ b A c r hok H0 hR hne ) ?_
  rintro _ w1 ⟨v6, rfl, K2, hO7, H3⟩
  have hok4 : (r.bytes).2.Ok := Rdr.Ok.bytes hok
  have hu5 := Rdr.bytes_le hok
  have ob9 : ∀ i, (v6).ownBlock = some i → i ≠ b := fun i hi => by have := (World.ownsRow.lt hO7 i hi).1; have := H0.lt; omega
  have oo10 : ∀ i o s, A = some ⟨i, o, s⟩ → (v6).ownBlock = some i → False := fun i o s hi hs => by have := (World.ownsRow.lt hO7 i hs).1; have := hR.2 i o s hi; omega
  have O8 := own_base hO7 K0.size
  clear hO7
  refine ⟨_, _, rfl, rfl, ?_⟩
  have K12 := K0.trans K2 (U := (fun i => i = b)) (fun i h1 h2 => h2) (fun i h1 h2 => by have h2 : i = b := h2; show i = b; omega)
  clear K0
  have F13 := RdO.keep hR K2 (fun i _ _ hi hs => by have hs : i = b := hs; have := hne i _ _ hi; omega)
  clear hR
  clear K2
  have F14 : RdO w1 A c (r.bytes).2.bs := by rw [Rdr.bytes_bs]; exact F13
  clear F13
  refine Ops.go (v := (Value.string (str ((r.bytes).1)))) (by kernel_rfl) (Runs.b2s (s := 23) (d := 9) (e := 5) (by kernel_rfl) (by kernel_rfl) (by kernel_rfl) (OwnB.rd O8)) (d := (some 5)) (by kernel_rfl) rfl ?_
  refine Ops.regs 1 [(2, (Value.string (str ((r.bytes).1))))] (j := 4) (by kernel_rfl) (by kernel_rfl) ?_
  refine Ops.done (by kernel_rfl) ?_
  refine q_ret (by kernel_rfl) ?_
  refine ⟨(Value.string (str ((r.bytes).1))), retv_tmp rfl rfl, ?_⟩
  exact ⟨rfl, K12, H3⟩

theorem RRBool_calls (w : World) (b : Nat) (A : Option Addr) (c : Nat) (r : Rdr) (hok : r.Ok) (H0 : Has w b (rowL (rdrL A c r) 72)) (hR : RdO w A c r.bs) (hne : ∀ g o s, A = some ⟨g, o, s⟩ → g ≠ b) : Calls Try.prog 72 ⟨[(Value.pointer (some ⟨b, 0, none⟩))]⟩ w (fun e w' => e = .returned (.bool r.bool_.1) ∧ Keeps (fun i => i = b) w w' ∧ Has w' b (rowL (rdrL A c (r.bool_).2) 72)) := by
  have hR0 := hR
  have hpos := hok.pos
  have hlen := hok.len
  have hsc := r.scan_le
  have hdl : (r.bs.drop r.pos).length = r.bs.length - r.pos := List.length_drop
  have hcap := hR.1.slice
  have Hb := H0.lt
  have K0 : Keeps (fun i => i = b) w w := (Keeps.refl w).mono (fun _ _ h => h.elim)
  refine q_calls Try.func72 (by kernel_rfl) (by kernel_rfl) ?_
  refine q_seq (by kernel_rfl) ?_
  refine q_region (by kernel_rfl) ?_
  refine Ops.regs 1 [(0, (Value.pointer (some ⟨b, 0, none⟩))), (2, (Value.bool false))] (j := 1) (by kernel_rfl) (by kernel_rfl) ?_
  refine Ops.done (by kernel_rfl) ?_
  refine q_seq (by kernel_rfl) ?_
  refine q_seq (by kernel_rfl) ?_
  refine q_region (by kernel_rfl) ?_
  refine Ops.regs 3 [(0, (Value.pointer (some ⟨b, 0, none⟩))), (2, (Value.bool false)), (6, (Value.pointer (some ⟨b, 2, none⟩)))] (j := 3) (by kernel_rfl) (by kernel_rfl) ?_
  refine Ops.go (v := (i64 r.why)) (by kernel_rfl) (Runs.load (t := 28) (a := ⟨b, 2, none⟩) (by kernel_rfl) (H0.loads (by kernel_rfl))) (d := (some 7)) (by kernel_rfl) rfl ?_
  refine Ops.regs 1 [(0, (Value.pointer (some ⟨b, 0, none⟩))), (2, (Value.bool false)), (8, (Value.bool (r.why != 0)))] (j := 5) (by kernel_rfl) (by kernel_rfl) ?_
  refine Ops.done (by kernel_rfl) ?_
  refine q_cond (o := .tmp 8) (b := (r.why != 0)) (by kernel_rfl) rfl (fun h1 => ?_) (fun h1 => ?_)
  · rw [h1]
    have p2 : ¬ (r.why = 0) := of_bne_t h1
    refine q_seq (by kernel_rfl) ?_
    refine q_region (by kernel_rfl) ?_
    refine Ops.regs 1 [(0, (Value.pointer (some ⟨b, 0, none⟩))), (2, (Value.bool false))] (j := 1) (by kernel_rfl) (by kernel_rfl) ?_
    refine Ops.done (by kernel_rfl) ?_
    refine q_ret (by kernel_rfl) ?_
    refine ⟨(Value.bool false), retv_tmp rfl rfl, ?_⟩
    have e : r.bool_ = (false, r) := by unfold Rdr.bool_; first | (rw [if_pos (by omega)]; done) | (rw [if_neg (by omega)]; first | (rw [hx]; simp only; first | (rw [if_pos (by omega)]; done) | (rw [if_neg (by omega)]; done)) | (rw [show r.bs.drop r.pos = [] from List.eq_nil_of_length_eq_zero (by omega)]; done))
    exact ⟨by rw [e], K0, by rw [e]; exact H0⟩
  · rw [h1]
    have p3 : r.why = 0 := of_bne_f h1
    refine q_skip (by kernel_rfl) ?_
    refine q_seq (by kernel_rfl) ?_
    refine q_seq (by kernel_rfl) ?_
    refine q_draw (fun wz => Keeps none_ w wz) 10 (by kernel_rfl) (by kernel_rfl) (by kernel_rfl) (fun w4 K5 _ _ => ⟨K5, ?_⟩)
    have K6 := K0.trans K5 (U := (fun i => i = b)) (fun i h1 h2 => h2) (fun i h1 h2 => by exact h2.elim)
    clear K0
    have H7 := H0.keep K5 (fun h => h)
    clear H0
    have F8 := RdO.keep0 hR K5
    clear hR
    refine Dr.strong (S' := (fun wz => Keeps none_ w4 wz)) (Keeps.refl w4) (fun wz hx => K5.trans hx (fun i _ h => h) (fun _ _ h => h)) ?_
    clear K5
    refine Dr.takes (fuel' := 7) (is' := [2, 1, 0]) [0, 1, 2] [(0, (Value.pointer (some ⟨b, 0, none⟩))), (2, (Value.bool false)), (11, (Value.pointer (some ⟨b, 1, none⟩)))] (by kernel_rfl) rfl (by kernel_rfl) ?_
    refine Dr.take (i := 3) (v := (i64 ((r.pos : Nat) : Int))) (by kernel_rfl) (by kernel_rfl) (fun wz hS => Runs.load (t := 3) (a := ⟨b, 1, none⟩) (by kernel_rfl) ((H7.keep hS (fun h => h)).loads (by kernel_rfl))) (d := (some 12)) (by kernel_rfl) rfl ?_
    refine Dr.takes (fuel' := 3) (is' := [6, 5, 4, 3, 2, 1, 0]) [4, 5, 6] [(0, (Value.pointer (some ⟨b, 0, none⟩))), (2, (Value.bool false)), (12, (i64 ((r.pos : Nat) : Int))), (15, (Value.pointer (some ⟨b, 0, none⟩)))] (by kernel_rfl) rfl (by kernel_rfl) ?_
    refine Dr.take (i := 7) (v := (Value.slice A r.bs.length c)) (by kernel_rfl) (by kernel_rfl) (fun wz hS => Runs.load (t := 23) (a := ⟨b, 0, none⟩) (by kernel_rfl) ((H7.keep hS (fun h => h)).loads (by kernel_rfl))) (d := (some 16)) (by kernel_rfl) rfl ?_
    refine Dr.takes (fuel' := 0) (is' := [9, 8, 7, 6, 5, 4, 3, 2, 1, 0]) [8, 9] [(0, (Value.pointer (some ⟨b, 0, none⟩))), (2, (Value.bool false)), (18, (Value.bool (decide (((r.pos : Nat) : Int) ≥ ((r.bs.length : Nat) : Int)))))] (by kernel_rfl) rfl (by kernel_rfl) ?_
    refine Dr.done (by kernel_rfl) ?_
    refine q_cond (o := .tmp 18) (b := (decide (((r.pos : Nat) : Int) ≥ ((r.bs.length : Nat) : Int)))) (by kernel_rfl) rfl (fun h9 => ?_) (fun h9 => ?_)
    · rw [h9]
      have p10 : ((r.pos : Nat) : Int) ≥ ((r.bs.length : Nat) : Int) := of_decide_eq_true h9
      refine q_seq (by kernel_rfl) ?_
      refine q_region (by kernel_rfl) ?_
      refine Ops.regs 3 [(0, (Value.pointer (some ⟨b, 0, none⟩))), (2, (Value.bool false)), (21, (Value.pointer (some ⟨b, 2, none⟩)))] (j := 3) (by kernel_rfl) (by kernel_rfl) ?_
      refine Ops.put (t := 28) (b := b) (off := 2) (v := (i64 10)) (ys := [(Value.slice A r.bs.length c), (i64 ((r.pos : Nat) : Int)), (i64 10)]) (by kernel_rfl) (by kernel_rfl) H7 (by kernel_rfl) (d := none) (by kernel_rfl) rfl (fun w11 H12 K13 => ?_)
      clear H7
      have K14 := K6.trans K13 (U := (fun i => i = b)) (fun i h1 h2 => h2) (fun i h1 h2 => by have h2 : i = b := h2; show i = b; omega)
      clear K6
      have F15 := RdO.keep F8 K13 (fun i _ _ hi hs => by have hs : i = b := hs; have := hne i _ _ hi; omega)
      clear F8
      clear K13
      refine Ops.done (by kernel_rfl) ?_
      refine q_seq (by kernel_rfl) ?_
      refine q_region (by kernel_rfl) ?_
      refine Ops.regs 1 [(0, (Value.pointer (some ⟨b, 0, none⟩))), (2, (Value.bool false))] (j := 1) (by kernel_rfl) (by kernel_rfl) ?_
      refine Ops.done (by kernel_rfl) ?_
      refine q_ret (by kernel_rfl) ?_
      refine ⟨(Value.bool false), retv_tmp rfl rfl, ?_⟩
      have e : r.bool_ = (false, (⟨r.bs, r.pos, 10⟩ : Rdr)) := by unfold Rdr.bool_; first | (rw [if_pos (by omega)]; done) | (rw [if_neg (by omega)]; first | (rw [hx]; simp only; first | (rw [if_pos (by omega)]; done) | (rw [if_neg (by omega)]; done)) | (rw [show r.bs.drop r.pos = [] from List.eq_nil_of_length_eq_zero (by omega)]; done))
      exact ⟨by rw [e], K14, by rw [e]; exact H12⟩
    · rw [h9]
      have p16 : ¬ (((r.pos : Nat) : Int) ≥ ((r.bs.length : Nat) : Int)) := of_decide_eq_false h9
      obtain ⟨x, lb, lo, hx, hA, hLd⟩ := RdB.at (P := Try.prog) (t := 5) hR0.1 (k := r.pos) (by kernel_rfl) (by omega)
      have hx256 : x.toNat < 256 := x.toNat_lt
      have hlb : lb ≠ b := hne _ _ _ hA
      refine q_skip (by kernel_rfl) ?_
      refine q_seq (by kernel_rfl) ?_
      refine q_draw (fun wz => Keeps none_ w4 wz) 11 (by kernel_rfl) (by kernel_rfl) (by kernel_rfl) (fun w17 K18 _ _ => ⟨K18, ?_⟩)
      have K19 := K6.trans K18 (U := (fun i => i = b)) (fun i h1 h2 => h2) (fun i h1 h2 => by exact h2.elim)
      clear K6
      have H20 := H7.keep K18 (fun h => h)
      clear H7
      have F21 := RdO.keep0 F8 K18
      clear F8
      refine Dr.strong (S' := (fun wz => Keeps none_ w17 wz)) (Keeps.refl w17) (fun wz hx => K18.trans hx (fun i _ h => h) (fun _ _ h => h)) ?_
      clear K18
      refine Dr.takes (fuel' := 8) (is' := [2, 1, 0]) [0, 1, 2] [(0, (Value.pointer (some ⟨b, 0, none⟩))), (2, (Value.bool false)), (24, (Value.pointer (some ⟨b, 0, none⟩)))] (by kernel_rfl) rfl (by kernel_rfl) ?_
      refine Dr.take (i := 3) (v := (Value.slice A r.bs.length c)) (by kernel_rfl) (by kernel_rfl) (fun wz hS => Runs.load (t := 23) (a := ⟨b, 0, none⟩) (by kernel_rfl) ((H20.keep hS (fun h => h)).loads (by kernel_rfl))) (d := (some 25)) (by kernel_rfl) rfl ?_
      refine Dr.takes (fuel' := 4) (is' := [6, 5, 4, 3, 2, 1, 0]) [4, 5, 6] [(0, (Value.pointer (some ⟨b, 0, none⟩))), (2, (Value.bool false)), (25, (Value.slice A r.bs.length c)), (28, (Value.pointer (some ⟨b, 1, none⟩)))] (by kernel_rfl) rfl (by kernel_rfl) ?_
      refine Dr.take (i := 7) (v := (i64 ((r.pos : Nat) : Int))) (by kernel_rfl) (by kernel_rfl) (fun wz hS => Runs.load (t := 3) (a := ⟨b, 1, none⟩) (by kernel_rfl) ((H20.keep hS (fun h => h)).loads (by kernel_rfl))) (d := (some 29)) (by kernel_rfl) rfl ?_
      refine Dr.take (i := 8) (v := (Value.pointer (some ⟨lb, lo + r.pos, none⟩))) (by kernel_rfl) (by kernel_rfl) (fun wz hS => Runs.ixSliceE (k := IntKind.i64) (t := 23) (len := r.bs.length) (cap := c) (s := 1) (off' := lo + r.pos) (i := ((r.pos : Nat) : Int)) hA (by kernel_rfl) (by kernel_rfl) (by omega) (by omega) (by omega)) (d := (some 30)) (by kernel_rfl) rfl ?_
      refine Dr.take (i := 9) (v := (Value.int IntKind.u8 ((x.toNat : Nat) : Int))) (by kernel_rfl) (by kernel_rfl) (fun wz hS => Runs.load (t := 5) (a := ⟨lb, lo + r.pos, none⟩) (by kernel_rfl) (hLd _ _ (K19.trans hS (fun _ _ h => h) (fun i h1 h2 => h2.elim)) (fun h => by have h : lb = b := h; omega))) (d := (some 31)) (by kernel_rfl) rfl ?_
      refine Dr.takes (fuel' := 0) (is' := [10, 9, 8, 7, 6, 5, 4, 3, 2, 1, 0]) [10] [(0, (Value.pointer (some ⟨b, 0, none⟩))), (2, (Value.bool false)), (3, (Value.int IntKind.u8 ((x.toNat : Nat) : Int)))] (by kernel_rfl) rfl (by kernel_rfl) ?_
      refine Dr.done (by kernel_rfl) ?_
      refine q_seq (by kernel_rfl) ?_
      refine q_seq (by kernel_rfl) ?_
      refine q_region (by kernel_rfl) ?_
      refine Ops.regs 2 [(0, (Value.pointer (some ⟨b, 0, none⟩))), (2, (Value.bool false)), (3, (Value.int IntKind.u8 ((x.toNat : Nat) : Int))), (33, (Value.bool (decide (((x.toNat : Nat) : Int) > 1))))] (j := 2) (by kernel_rfl) (by kernel_rfl) ?_
      refine Ops.done (by kernel_rfl) ?_
      refine q_cond (o := .tmp 33) (b := (decide (((x.toNat : Nat) : Int) > 1))) (by kernel_rfl) rfl (fun h22 => ?_) (fun h22 => ?_)
      · rw [h22]
        have p23 : ((x.toNat : Nat) : Int) > 1 := of_decide_eq_true h22
        refine q_seq (by kernel_rfl) ?_
        refine q_region (by kernel_rfl) ?_
        refine Ops.regs 3 [(0, (Value.pointer (some ⟨b, 0, none⟩))), (2, (Value.bool false)), (3, (Value.int IntKind.u8 ((x.toNat : Nat) : Int))), (36, (Value.pointer (some ⟨b, 2, none⟩)))] (j := 3) (by kernel_rfl) (by kernel_rfl) ?_
        refine Ops.put (t := 28) (b := b) (off := 2) (v := (i64 11)) (ys := [(Value.slice A r.bs.length c), (i64 ((r.pos : Nat) : Int)), (i64 11)]) (by kernel_rfl) (by kernel_rfl) H20 (by kernel_rfl) (d := none) (by kernel_rfl) rfl (fun w24 H25 K26 => ?_)
        clear H20
        have K27 := K19.trans K26 (U := (fun i => i = b)) (fun i h1 h2 => h2) (fun i h1 h2 => by have h2 : i = b := h2; show i = b; omega)
        clear K19
        have F28 := RdO.keep F21 K26 (fun i _ _ hi hs => by have hs : i = b := hs; have := hne i _ _ hi; omega)
        clear F21
        clear K26
        refine Ops.done (by kernel_rfl) ?_
        refine q_seq (by kernel_rfl) ?_
        refine q_region (by kernel_rfl) ?_
        refine Ops.regs 1 [(0, (Value.pointer (some ⟨b, 0, none⟩))), (2, (Value.bool false)), (3, (Value.int IntKind.u8 ((x.toNat : Nat) : Int)))] (j := 1) (by kernel_rfl) (by kernel_rfl) ?_
        refine Ops.done (by kernel_rfl) ?_
        refine q_ret (by kernel_rfl) ?_
        refine ⟨(Value.bool false), retv_tmp rfl rfl, ?_⟩
        have e : r.bool_ = (false, (⟨r.bs, r.pos, 11⟩ : Rdr)) := by unfold Rdr.bool_; first | (rw [if_pos (by omega)]; done) | (rw [if_neg (by omega)]; first | (rw [hx]; simp only; first | (rw [if_pos (by omega)]; done) | (rw [if_neg (by omega)]; done)) | (rw [show r.bs.drop r.pos = [] from List.eq_nil_of_length_eq_zero (by omega)]; done))
        exact ⟨by rw [e], K27, by rw [e]; exact H25⟩
      · rw [h22]
        have p29 : ¬ (((x.toNat : Nat) : Int) > 1) := of_decide_eq_false h22
        refine q_skip (by kernel_rfl) ?_
        refine q_seq (by kernel_rfl) ?_
        refine q_region (by kernel_rfl) ?_
        refine Ops.regs 3 [(2, (Value.bool false)), (3, (Value.int IntKind.u8 ((x.toNat : Nat) : Int))), (37, (Value.pointer (some ⟨b, 0, none⟩))), (39, (Value.pointer (some ⟨b, 1, none⟩)))] (j := 3) (by kernel_rfl) (by kernel_rfl) ?_
        refine Ops.go (v := (i64 ((r.pos : Nat) : Int))) (by kernel_rfl) (Runs.load (t := 3) (a := ⟨b, 1, none⟩) (by kernel_rfl) (H20.loads (by kernel_rfl))) (d := (some 40)) (by kernel_rfl) rfl ?_
        refine Ops.regs 1 [(2, (Value.bool false)), (3, (Value.int IntKind.u8 ((x.toNat : Nat) : Int))), (37, (Value.pointer (some ⟨b, 0, none⟩))), (41, (i64 (IntKind.i64.wrap (((r.pos : Nat) : Int) + 1))))] (j := 5) (by kernel_rfl) (by kernel_rfl) ?_
        have e30 : IntKind.i64.wrap (((r.pos : Nat) : Int) + 1) = ((r.pos + 1 : Nat) : Int) := by rw [wrap_i64 (by omega) (by omega)]; omega
        rw [e30]
        clear e30
        refine Ops.regs 2 [(2, (Value.bool false)), (3, (Value.int IntKind.u8 ((x.toNat : Nat) : Int))), (41, (i64 ((r.pos + 1 : Nat) : Int))), (43, (Value.pointer (some ⟨b, 1, none⟩)))] (j := 7) (by kernel_rfl) (by kernel_rfl) ?_
        refine Ops.put (t := 3) (b := b) (off := 1) (v := (i64 ((r.pos + 1 : Nat) : Int))) (ys := [(Value.slice A r.bs.length c), (i64 ((r.pos + 1 : Nat) : Int)), (i64 r.why)]) (by kernel_rfl) (by kernel_rfl) H20 (by kernel_rfl) (d := none) (by kernel_rfl) rfl (fun w31 H32 K33 => ?_)
        clear H20
        have K34 := K19.trans K33 (U := (fun i => i = b)) (fun i h1 h2 => h2) (fun i h1 h2 => by have h2 : i = b := h2; show i = b; omega)
        clear K19
        have F35 := RdO.keep F21 K33 (fun i _ _ hi hs => by have hs : i = b := hs; have := hne i _ _ hi; omega)
        clear F21
        clear K33
        refine Ops.done (by kernel_rfl) ?_
        refine q_seq (by kernel_rfl) ?_
        refine q_region (by kernel_rfl) ?_
        refine Ops.regs 3 [(2, (Value.bool (((x.toNat : Nat) : Int) == 1)))] (j := 3) (by kernel_rfl) (by kernel_rfl) ?_
        refine Ops.done (by kernel_rfl) ?_
        refine q_ret (by kernel_rfl) ?_
        refine ⟨(Value.bool (((x.toNat : Nat) : Int) == 1)), retv_tmp rfl rfl, ?_⟩
        have e : r.bool_ = (x.toNat == 1, (⟨r.bs, r.pos + 1, r.why⟩ : Rdr)) := by unfold Rdr.bool_; first | (rw [if_pos (by omega)]; done) | (rw [if_neg (by omega)]; first | (rw [hx]; simp only; first | (rw [if_pos (by omega)]; done) | (rw [if_neg (by omega)]; done)) | (rw [show r.bs.drop r.pos = [] from List.eq_nil_of_length_eq_zero (by omega)]; done))
        have e1 : (((x.toNat : Nat) : Int) == 1) = (x.toNat == 1) := by rw [Bool.eq_iff_iff]; simp only [beq_iff_eq]; omega
        exact ⟨by rw [e]; show _ = Ending.returned (Value.bool (x.toNat == 1)); rw [← e1], K34, by rw [e]; exact H32⟩
end Go.Proofs.Ytnepjfnkaigakaa
