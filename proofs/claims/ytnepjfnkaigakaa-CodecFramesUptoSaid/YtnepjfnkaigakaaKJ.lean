/- the program's frames are read -/
import Derived.Test.YtnepjfnkaigakaaProg
import Derived.Test.YtnepjfnkaigakaaLJ
import Derived.Test.YtnepjfnkaigakaaKC
set_option linter.unusedVariables false
namespace Go.Proofs.Ytnepjfnkaigakaa
open Go.Q Go.RowKit

set_option maxHeartbeats 4000000 in
theorem cut_calls (w : World) (B : Option Addr) (bc : Nat) (bs : List UInt8) (hB : RdB w (.slice B bs.length bc) bs) (hbl : bs.length ≤ 140737488351232) : Calls Try.prog 63 ⟨[(Value.slice B bs.length bc)]⟩ w (fun e w' => ∃ v', e = .returned (.tuple #[v', i64 (((cutB bs).2.1 : Nat) : Int), i64 (cutB bs).2.2]) ∧ Keeps none_ w w' ∧ OwnB w' w.heap.size 5 v' (cutB bs).1) := by
  have hsb := scanB_le bs
  have hbc := hB.slice
  have K0 : Keeps none_ w w := Keeps.refl w
  refine q_calls Try.func63 (by kernel_rfl) (by kernel_rfl) ?_
  refine q_seq (by kernel_rfl) ?_
  refine q_region (by kernel_rfl) ?_
  refine Ops.regs 3 [(0, (Value.slice B bs.length bc)), (2, (Value.slice none 0 0)), (3, (i64 0)), (4, (i64 0))] (j := 3) (by kernel_rfl) (by kernel_rfl) ?_
  refine Ops.done (by kernel_rfl) ?_
  refine q_seq (by kernel_rfl) ?_
  refine q_region (by kernel_rfl) ?_
  refine Ops.regs 1 [(0, (Value.slice B bs.length bc)), (2, (Value.slice none 0 0)), (3, (i64 0)), (4, (i64 0)), (13, (Value.slice B bs.length bc))] (j := 1) (by kernel_rfl) (by kernel_rfl) ?_
  refine Ops.call (by kernel_rfl) (d := (some 14)) (by kernel_rfl) (scan_calls _ B bc bs (hB.keep0 (by omega) K0) (by omega)) ?_
  rintro _ w1 ⟨rfl, K2⟩
  refine ⟨_, _, rfl, rfl, ?_⟩
  replace K0 := K0.trans K2 (U := none_) (fun i h1 h2 => h2) (fun i h1 h2 => by exact h2)
  clear K2
  refine Ops.regs 7 [(0, (Value.slice B bs.length bc)), (2, (Value.slice none 0 0)), (3, (i64 0)), (4, (i64 0)), (5, (Value.int IntKind.u64 (((scanB (bs)).1 : Nat) : Int))), (6, (i64 (((scanB (bs)).2.1 : Nat) : Int))), (7, (i64 ((scanB (bs)).2.2)))] (j := 9) (by kernel_rfl) (by kernel_rfl) ?_
  refine Ops.done (by kernel_rfl) ?_
  refine q_seq (by kernel_rfl) ?_
  refine q_block (id := 0) (by kernel_rfl) ?_
  refine q_seq (by kernel_rfl) ?_
  refine q_region (by kernel_rfl) ?_
  refine Ops.regs 3 [(0, (Value.slice B bs.length bc)), (2, (Value.slice none 0 0)), (3, (i64 0)), (4, (i64 0)), (5, (Value.int IntKind.u64 (((scanB (bs)).1 : Nat) : Int))), (6, (i64 (((scanB (bs)).2.1 : Nat) : Int))), (7, (i64 ((scanB (bs)).2.2))), (18, (Value.bool (((scanB (bs)).2.2) != 0)))] (j := 3) (by kernel_rfl) (by kernel_rfl) ?_
  refine Ops.done (by kernel_rfl) ?_
  refine q_cond (o := .tmp 18) (b := (((scanB (bs)).2.2) != 0)) (by kernel_rfl) rfl (fun h3 => ?_) (fun h3 => ?_)
  · rw [h3]
    have p4 : ¬ ((scanB (bs)).2.2 = 0) := of_bne_t h3
    refine q_seq (by kernel_rfl) ?_
    refine q_region (by kernel_rfl) ?_
    refine Ops.regs 4 [(0, (Value.slice B bs.length bc)), (2, (Value.slice none 0 0)), (3, (i64 0)), (4, (i64 ((scanB (bs)).2.2))), (5, (Value.int IntKind.u64 (((scanB (bs)).1 : Nat) : Int))), (6, (i64 (((scanB (bs)).2.1 : Nat) : Int)))] (j := 4) (by kernel_rfl) (by kernel_rfl) ?_
    refine Ops.done (by kernel_rfl) ?_
    refine q_ret (by kernel_rfl) ?_
    refine ⟨(Value.tuple #[(Value.slice none 0 0), (i64 0), (i64 ((scanB (bs)).2.2))]), retv_tmp3 rfl rfl rfl rfl, ?_⟩
    have e : cutB bs = ([], 0, (scanB (bs)).2.2) := by unfold cutB; first | (rw [if_pos (by omega)]; done) | (rw [if_neg (by omega), if_pos (by omega)]; done) | (rw [if_neg (by omega), if_neg (by omega), if_pos (by omega)]; done)
    exact ⟨_, by (rw [e]; try rfl), K0, by rw [e]; exact (World.ownsRow_nil _ _ _ _)⟩
  · rw [h3]
    have p5 : (scanB (bs)).2.2 = 0 := of_bne_f h3
    refine q_seq (by kernel_rfl) ?_
    refine q_region (by kernel_rfl) ?_
    refine Ops.regs 3 [(0, (Value.slice B bs.length bc)), (2, (Value.slice none 0 0)), (3, (i64 0)), (4, (i64 0)), (5, (Value.int IntKind.u64 (((scanB (bs)).1 : Nat) : Int))), (6, (i64 (((scanB (bs)).2.1 : Nat) : Int))), (22, (Value.bool (decide ((((scanB (bs)).1 : Nat) : Int) > 65536))))] (j := 3) (by kernel_rfl) (by kernel_rfl) ?_
    refine Ops.done (by kernel_rfl) ?_
    refine q_cond (o := .tmp 22) (b := (decide ((((scanB (bs)).1 : Nat) : Int) > 65536))) (by kernel_rfl) rfl (fun h6 => ?_) (fun h6 => ?_)
    · rw [h6]
      have p7 : (((scanB (bs)).1 : Nat) : Int) > 65536 := of_decide_eq_true h6
      refine q_seq (by kernel_rfl) ?_
      refine q_region (by kernel_rfl) ?_
      refine Ops.regs 3 [(0, (Value.slice B bs.length bc)), (2, (Value.slice none 0 0)), (3, (i64 0)), (4, (i64 3)), (5, (Value.int IntKind.u64 (((scanB (bs)).1 : Nat) : Int))), (6, (i64 (((scanB (bs)).2.1 : Nat) : Int)))] (j := 3) (by kernel_rfl) (by kernel_rfl) ?_
      refine Ops.done (by kernel_rfl) ?_
      refine q_ret (by kernel_rfl) ?_
      refine ⟨(Value.tuple #[(Value.slice none 0 0), (i64 0), (i64 3)]), retv_tmp3 rfl rfl rfl rfl, ?_⟩
      have e : cutB bs = ([], 0, 3) := by unfold cutB; first | (rw [if_pos (by omega)]; done) | (rw [if_neg (by omega), if_pos (by omega)]; done) | (rw [if_neg (by omega), if_neg (by omega), if_pos (by omega)]; done)
      exact ⟨_, by (rw [e]; try rfl), K0, by rw [e]; exact (World.ownsRow_nil _ _ _ _)⟩
    · rw [h6]
      have p8 : ¬ ((((scanB (bs)).1 : Nat) : Int) > 65536) := of_decide_eq_false h6
      refine q_seq (by kernel_rfl) ?_
      refine q_region (by kernel_rfl) ?_
      refine Ops.regs 4 [(0, (Value.slice B bs.length bc)), (2, (Value.slice none 0 0)), (3, (i64 0)), (4, (i64 0)), (5, (Value.int IntKind.u64 (((scanB (bs)).1 : Nat) : Int))), (6, (i64 (((scanB (bs)).2.1 : Nat) : Int))), (29, (i64 (IntKind.i64.wrap (((bs.length : Nat) : Int) - (((scanB (bs)).2.1 : Nat) : Int)))))] (j := 4) (by kernel_rfl) (by kernel_rfl) ?_
      have e9 : IntKind.i64.wrap (((bs.length : Nat) : Int) - (((scanB (bs)).2.1 : Nat) : Int)) = ((bs.length : Nat) : Int) - (((scanB (bs)).2.1 : Nat) : Int) := wrap_i64 (by omega) (by omega)
      rw [e9]
      refine Ops.regs 1 [(0, (Value.slice B bs.length bc)), (2, (Value.slice none 0 0)), (3, (i64 0)), (4, (i64 0)), (5, (Value.int IntKind.u64 (((scanB (bs)).1 : Nat) : Int))), (6, (i64 (((scanB (bs)).2.1 : Nat) : Int))), (30, (i64 (IntKind.i64.wrap ((((bs.length : Nat) : Int) - (((scanB (bs)).2.1 : Nat) : Int)) - 4))))] (j := 5) (by kernel_rfl) (by kernel_rfl) ?_
      have e10 : IntKind.i64.wrap ((((bs.length : Nat) : Int) - (((scanB (bs)).2.1 : Nat) : Int)) - 4) = (((bs.length : Nat) : Int) - (((scanB (bs)).2.1 : Nat) : Int)) - 4 := wrap_i64 (by omega) (by omega)
      rw [e10]
      refine Ops.regs 2 [(0, (Value.slice B bs.length bc)), (2, (Value.slice none 0 0)), (3, (i64 0)), (4, (i64 0)), (5, (Value.int IntKind.u64 (((scanB (bs)).1 : Nat) : Int))), (6, (i64 (((scanB (bs)).2.1 : Nat) : Int))), (30, (i64 ((((bs.length : Nat) : Int) - (((scanB (bs)).2.1 : Nat) : Int)) - 4))), (32, (i64 (IntKind.i64.wrap ((((scanB (bs)).1 : Nat) : Int)))))] (j := 7) (by kernel_rfl) (by kernel_rfl) ?_
      have e11 : IntKind.i64.wrap ((((scanB (bs)).1 : Nat) : Int)) = (((scanB (bs)).1 : Nat) : Int) := wrap_i64 (by omega) (by omega)
      rw [e11]
      refine Ops.regs 2 [(0, (Value.slice B bs.length bc)), (2, (Value.slice none 0 0)), (3, (i64 0)), (4, (i64 0)), (5, (Value.int IntKind.u64 (((scanB (bs)).1 : Nat) : Int))), (6, (i64 (((scanB (bs)).2.1 : Nat) : Int))), (25, (Value.bool (decide ((((bs.length : Nat) : Int) - (((scanB (bs)).2.1 : Nat) : Int)) - 4 < (((scanB (bs)).1 : Nat) : Int)))))] (j := 9) (by kernel_rfl) (by kernel_rfl) ?_
      refine Ops.done (by kernel_rfl) ?_
      refine q_cond (o := .tmp 25) (b := (decide ((((bs.length : Nat) : Int) - (((scanB (bs)).2.1 : Nat) : Int)) - 4 < (((scanB (bs)).1 : Nat) : Int)))) (by kernel_rfl) rfl (fun h12 => ?_) (fun h12 => ?_)
      · rw [h12]
        have p13 : (((bs.length : Nat) : Int) - (((scanB (bs)).2.1 : Nat) : Int)) - 4 < (((scanB (bs)).1 : Nat) : Int) := of_decide_eq_true h12
        refine q_seq (by kernel_rfl) ?_
        refine q_region (by kernel_rfl) ?_
        refine Ops.regs 3 [(0, (Value.slice B bs.length bc)), (2, (Value.slice none 0 0)), (3, (i64 0)), (4, (i64 10)), (5, (Value.int IntKind.u64 (((scanB (bs)).1 : Nat) : Int))), (6, (i64 (((scanB (bs)).2.1 : Nat) : Int)))] (j := 3) (by kernel_rfl) (by kernel_rfl) ?_
        refine Ops.done (by kernel_rfl) ?_
        refine q_ret (by kernel_rfl) ?_
        refine ⟨(Value.tuple #[(Value.slice none 0 0), (i64 0), (i64 10)]), retv_tmp3 rfl rfl rfl rfl, ?_⟩
        have e : cutB bs = ([], 0, 10) := by unfold cutB; first | (rw [if_pos (by omega)]; done) | (rw [if_neg (by omega), if_pos (by omega)]; done) | (rw [if_neg (by omega), if_neg (by omega), if_pos (by omega)]; done)
        exact ⟨_, by (rw [e]; try rfl), K0, by rw [e]; exact (World.ownsRow_nil _ _ _ _)⟩
      · rw [h12]
        have p14 : ¬ ((((bs.length : Nat) : Int) - (((scanB (bs)).2.1 : Nat) : Int)) - 4 < (((scanB (bs)).1 : Nat) : Int)) := of_decide_eq_false h12
        refine q_skip (by kernel_rfl) ?_
        refine q_seq (by kernel_rfl) ?_
        refine q_region (by kernel_rfl) ?_
        refine Ops.regs 2 [(0, (Value.slice B bs.length bc)), (2, (Value.slice none 0 0)), (3, (i64 0)), (4, (i64 0)), (5, (Value.int IntKind.u64 (((scanB (bs)).1 : Nat) : Int))), (6, (i64 (((scanB (bs)).2.1 : Nat) : Int))), (35, (i64 (IntKind.i64.wrap ((((scanB (bs)).2.1 : Nat) : Int) + 4))))] (j := 2) (by kernel_rfl) (by kernel_rfl) ?_
        have e15 : IntKind.i64.wrap ((((scanB (bs)).2.1 : Nat) : Int) + 4) = ((((scanB (bs)).2.1) + 4 : Nat) : Int) := by rw [wrap_i64 (by omega) (by omega)]; omega
        rw [e15]
        clear e15
        refine Ops.regs 1 [(0, (Value.slice B bs.length bc)), (2, (Value.slice none 0 0)), (3, (i64 0)), (4, (i64 0)), (5, (Value.int IntKind.u64 (((scanB (bs)).1 : Nat) : Int))), (6, (i64 (((scanB (bs)).2.1 : Nat) : Int))), (8, (i64 ((((scanB (bs)).2.1) + 4 : Nat) : Int)))] (j := 3) (by kernel_rfl) (by kernel_rfl) ?_
        refine Ops.done (by kernel_rfl) ?_
        refine q_seq (by kernel_rfl) ?_
        refine q_region (by kernel_rfl) ?_
        refine Ops.regs 5 [(0, (Value.slice B bs.length bc)), (2, (Value.slice none 0 0)), (3, (i64 0)), (4, (i64 0)), (5, (Value.int IntKind.u64 (((scanB (bs)).1 : Nat) : Int))), (6, (i64 (((scanB (bs)).2.1 : Nat) : Int))), (8, (i64 ((((scanB (bs)).2.1) + 4 : Nat) : Int))), (36, (Value.slice B bs.length bc)), (37, (i64 ((((scanB (bs)).2.1) + 4 : Nat) : Int))), (38, (i64 ((((scanB (bs)).2.1) + 4 : Nat) : Int))), (40, (i64 (IntKind.i64.wrap ((((scanB (bs)).1 : Nat) : Int)))))] (j := 5) (by kernel_rfl) (by kernel_rfl) ?_
        have e16 : IntKind.i64.wrap ((((scanB (bs)).1 : Nat) : Int)) = (((scanB (bs)).1 : Nat) : Int) := wrap_i64 (by omega) (by omega)
        rw [e16]
        refine Ops.regs 1 [(0, (Value.slice B bs.length bc)), (2, (Value.slice none 0 0)), (3, (i64 0)), (4, (i64 0)), (5, (Value.int IntKind.u64 (((scanB (bs)).1 : Nat) : Int))), (6, (i64 (((scanB (bs)).2.1 : Nat) : Int))), (8, (i64 ((((scanB (bs)).2.1) + 4 : Nat) : Int))), (36, (Value.slice B bs.length bc)), (37, (i64 ((((scanB (bs)).2.1) + 4 : Nat) : Int))), (41, (i64 (IntKind.i64.wrap (((((scanB (bs)).2.1) + 4 : Nat) : Int) + (((scanB (bs)).1 : Nat) : Int)))))] (j := 6) (by kernel_rfl) (by kernel_rfl) ?_
        have e17 : IntKind.i64.wrap (((((scanB (bs)).2.1) + 4 : Nat) : Int) + (((scanB (bs)).1 : Nat) : Int)) = (((((scanB (bs)).2.1) + 4) + ((scanB (bs)).1) : Nat) : Int) := by rw [wrap_i64 (by omega) (by omega)]; omega
        rw [e17]
        clear e17
        have hslF18 := RdB.slice (hB.keep0 (by omega) K0)
        have F18 := RdB.cutlh (hB.keep0 (by omega) K0) (((scanB (bs)).2.1) + 4) ((((scanB (bs)).2.1) + 4) + ((scanB (bs)).1)) (by omega) (by omega)
        have hlF18 : ((bs.drop (((scanB (bs)).2.1) + 4)).take (((((scanB (bs)).2.1) + 4) + ((scanB (bs)).1)) - (((scanB (bs)).2.1) + 4))).length = ((((scanB (bs)).2.1) + 4) + ((scanB (bs)).1)) - (((scanB (bs)).2.1) + 4) := by rw [List.length_take, List.length_drop]; omega
        refine Ops.go (v := (Value.slice (if bc = ((scanB (bs)).2.1) + 4 then B else Option.map (fun q => Addr.add q ((((scanB (bs)).2.1) + 4) * 1)) B) (((((scanB (bs)).2.1) + 4) + ((scanB (bs)).1)) - (((scanB (bs)).2.1) + 4)) (bc - (((scanB (bs)).2.1) + 4)))) (by kernel_rfl) (Runs.slice (by kernel_rfl) (run_cut (sz := 1) (t := 23) (A := B) (n := bs.length) (c := bc) (((scanB (bs)).2.1) + 4) ((((scanB (bs)).2.1) + 4) + ((scanB (bs)).1)) bc (lo := some (i64 ((((scanB (bs)).2.1) + 4 : Nat) : Int))) (hi := some (i64 (((((scanB (bs)).2.1) + 4) + ((scanB (bs)).1) : Nat) : Int))) (mx := none) tyB.slice (by kernel_rfl) (.inr ⟨_, rfl⟩) (.inr ⟨_, rfl⟩) (.inl ⟨rfl, rfl⟩) (by omega) (by omega) (by omega))) (d := (some 42)) (by kernel_rfl) rfl ?_
        refine Ops.regs 1 [(0, (Value.slice B bs.length bc)), (2, (Value.slice none 0 0)), (3, (i64 0)), (4, (i64 0)), (5, (Value.int IntKind.u64 (((scanB (bs)).1 : Nat) : Int))), (6, (i64 (((scanB (bs)).2.1 : Nat) : Int))), (8, (i64 ((((scanB (bs)).2.1) + 4 : Nat) : Int))), (9, (Value.slice (if bc = ((scanB (bs)).2.1) + 4 then B else Option.map (fun q => Addr.add q ((((scanB (bs)).2.1) + 4) * 1)) B) (((((scanB (bs)).2.1) + 4) + ((scanB (bs)).1)) - (((scanB (bs)).2.1) + 4)) (bc - (((scanB (bs)).2.1) + 4))))] (j := 8) (by kernel_rfl) (by kernel_rfl) ?_
        refine Ops.done (by kernel_rfl) ?_
        refine q_seq (by kernel_rfl) ?_
        refine q_region (by kernel_rfl) ?_
        refine Ops.regs 1 [(0, (Value.slice B bs.length bc)), (2, (Value.slice none 0 0)), (3, (i64 0)), (4, (i64 0)), (5, (Value.int IntKind.u64 (((scanB (bs)).1 : Nat) : Int))), (6, (i64 (((scanB (bs)).2.1 : Nat) : Int))), (8, (i64 ((((scanB (bs)).2.1) + 4 : Nat) : Int))), (9, (Value.slice (if bc = ((scanB (bs)).2.1) + 4 then B else Option.map (fun q => Addr.add q ((((scanB (bs)).2.1) + 4) * 1)) B) (((((scanB (bs)).2.1) + 4) + ((scanB (bs)).1)) - (((scanB (bs)).2.1) + 4)) (bc - (((scanB (bs)).2.1) + 4)))), (10, (Value.int IntKind.u32 0))] (j := 1) (by kernel_rfl) (by kernel_rfl) ?_
        refine Ops.done (by kernel_rfl) ?_
        refine q_seq (by kernel_rfl) ?_
        refine q_seq (by kernel_rfl) ?_
        refine q_region (by kernel_rfl) ?_
        refine Ops.regs 1 [(0, (Value.slice B bs.length bc)), (2, (Value.slice none 0 0)), (3, (i64 0)), (4, (i64 0)), (5, (Value.int IntKind.u64 (((scanB (bs)).1 : Nat) : Int))), (6, (i64 (((scanB (bs)).2.1 : Nat) : Int))), (8, (i64 ((((scanB (bs)).2.1) + 4 : Nat) : Int))), (9, (Value.slice (if bc = ((scanB (bs)).2.1) + 4 then B else Option.map (fun q => Addr.add q ((((scanB (bs)).2.1) + 4) * 1)) B) (((((scanB (bs)).2.1) + 4) + ((scanB (bs)).1)) - (((scanB (bs)).2.1) + 4)) (bc - (((scanB (bs)).2.1) + 4)))), (10, (Value.int IntKind.u32 0)), (43, (i64 0))] (j := 1) (by kernel_rfl) (by kernel_rfl) ?_
        refine Ops.done (by kernel_rfl) ?_
        refine q_block (id := 1) (by kernel_rfl) ?_
        refine q_roll 5 (by kernel_rfl) ?_
        refine roll_step ?_
        refine q_seq (by kernel_rfl) ?_
        refine q_region (by kernel_rfl) ?_
        refine Ops.regs 1 [(0, (Value.slice B bs.length bc)), (2, (Value.slice none 0 0)), (3, (i64 0)), (4, (i64 0)), (5, (Value.int IntKind.u64 (((scanB (bs)).1 : Nat) : Int))), (6, (i64 (((scanB (bs)).2.1 : Nat) : Int))), (8, (i64 ((((scanB (bs)).2.1) + 4 : Nat) : Int))), (9, (Value.slice (if bc = ((scanB (bs)).2.1) + 4 then B else Option.map (fun q => Addr.add q ((((scanB (bs)).2.1) + 4) * 1)) B) (((((scanB (bs)).2.1) + 4) + ((scanB (bs)).1)) - (((scanB (bs)).2.1) + 4)) (bc - (((scanB (bs)).2.1) + 4)))), (10, (Value.int IntKind.u32 0)), (43, (i64 0)), (44, (Value.bool true))] (j := 1) (by kernel_rfl) (by kernel_rfl) ?_
        refine Ops.done (by kernel_rfl) ?_
        refine q_seq (by kernel_rfl) ?_
        refine q_then (o := .tmp 44) (by kernel_rfl) rfl ?_
        refine q_skip (by kernel_rfl) ?_
        refine q_seq (by kernel_rfl) ?_
        refine q_block (id := 2) (by kernel_rfl) ?_
        refine q_seq (by kernel_rfl) ?_
        refine q_region (by kernel_rfl) ?_
        refine Ops.regs 2 [(0, (Value.slice B bs.length bc)), (2, (Value.slice none 0 0)), (3, (i64 0)), (4, (i64 0)), (5, (Value.int IntKind.u64 (((scanB (bs)).1 : Nat) : Int))), (6, (i64 (((scanB (bs)).2.1 : Nat) : Int))), (8, (i64 ((((scanB (bs)).2.1) + 4 : Nat) : Int))), (9, (Value.slice (if bc = ((scanB (bs)).2.1) + 4 then B else Option.map (fun q => Addr.add q ((((scanB (bs)).2.1) + 4) * 1)) B) (((((scanB (bs)).2.1) + 4) + ((scanB (bs)).1)) - (((scanB (bs)).2.1) + 4)) (bc - (((scanB (bs)).2.1) + 4)))), (10, (Value.int IntKind.u32 0)), (11, (i64 0)), (43, (i64 0)), (44, (Value.bool true))] (j := 2) (by kernel_rfl) (by kernel_rfl) ?_
        refine Ops.done (by kernel_rfl) ?_
        refine q_region (by kernel_rfl) ?_
        refine Ops.regs 5 [(0, (Value.slice B bs.length bc)), (2, (Value.slice none 0 0)), (3, (i64 0)), (4, (i64 0)), (5, (Value.int IntKind.u64 (((scanB (bs)).1 : Nat) : Int))), (6, (i64 (((scanB (bs)).2.1 : Nat) : Int))), (8, (i64 ((((scanB (bs)).2.1) + 4 : Nat) : Int))), (9, (Value.slice (if bc = ((scanB (bs)).2.1) + 4 then B else Option.map (fun q => Addr.add q ((((scanB (bs)).2.1) + 4) * 1)) B) (((((scanB (bs)).2.1) + 4) + ((scanB (bs)).1)) - (((scanB (bs)).2.1) + 4)) (bc - (((scanB (bs)).2.1) + 4)))), (10, (Value.int IntKind.u32 0)), (11, (i64 0)), (43, (i64 0)), (44, (Value.bool true)), (46, (Value.int IntKind.u32 0)), (47, (Value.slice B bs.length bc)), (50, (i64 (IntKind.i64.wrap ((((scanB (bs)).2.1 : Nat) : Int) + 0))))] (j := 5) (by kernel_rfl) (by kernel_rfl) ?_
        have e19 : IntKind.i64.wrap ((((scanB (bs)).2.1 : Nat) : Int) + 0) = ((((scanB (bs)).2.1) + 0 : Nat) : Int) := by rw [wrap_i64 (by omega) (by omega)]; omega
        rw [e19]
        clear e19
        obtain ⟨lb, lo, hA⟩ := RdB.addr hB (by omega)
        obtain ⟨x0, hx0⟩ : ∃ y, bs[((scanB (bs)).2.1) + 0]? = some y := ⟨_, List.getElem?_eq_getElem (by omega)⟩
        have x0l : x0.toNat < 256 := x0.toNat_lt
        refine Ops.go (by kernel_rfl) (Runs.ixSliceE (k := IntKind.i64) (t := 23) (len := bs.length) (cap := bc) (s := 1) (off' := lo + (((scanB (bs)).2.1) + 0)) (i := ((((scanB (bs)).2.1) + 0 : Nat) : Int)) hA (by kernel_rfl) (by kernel_rfl) (by omega) (by omega) (by omega)) (d := (some 51)) (by kernel_rfl) rfl ?_
        refine Ops.go (v := (Value.int IntKind.u8 ((x0.toNat : Nat) : Int))) (by kernel_rfl) (Runs.load (t := 5) (a := ⟨lb, lo + (((scanB (bs)).2.1) + 0), none⟩) (by kernel_rfl) (RdB.ld (Rd.keep0 (by omega) hB K0) (by kernel_rfl) hA hx0)) (d := (some 52)) (by kernel_rfl) rfl ?_
        refine Ops.regs 1 [(0, (Value.slice B bs.length bc)), (2, (Value.slice none 0 0)), (3, (i64 0)), (4, (i64 0)), (5, (Value.int IntKind.u64 (((scanB (bs)).1 : Nat) : Int))), (6, (i64 (((scanB (bs)).2.1 : Nat) : Int))), (8, (i64 ((((scanB (bs)).2.1) + 4 : Nat) : Int))), (9, (Value.slice (if bc = ((scanB (bs)).2.1) + 4 then B else Option.map (fun q => Addr.add q ((((scanB (bs)).2.1) + 4) * 1)) B) (((((scanB (bs)).2.1) + 4) + ((scanB (bs)).1)) - (((scanB (bs)).2.1) + 4)) (bc - (((scanB (bs)).2.1) + 4)))), (10, (Value.int IntKind.u32 0)), (11, (i64 0)), (43, (i64 0)), (44, (Value.bool true)), (46, (Value.int IntKind.u32 0)), (53, (Value.int IntKind.u32 (IntKind.u32.wrap (((x0.toNat : Nat) : Int)))))] (j := 8) (by kernel_rfl) (by kernel_rfl) ?_
        have e20 : IntKind.u32.wrap (((x0.toNat : Nat) : Int)) = ((x0.toNat : Nat) : Int) := wrap_u32 (by omega) (by omega)
        rw [e20]
        refine Ops.regs 3 [(0, (Value.slice B bs.length bc)), (2, (Value.slice none 0 0)), (3, (i64 0)), (4, (i64 0)), (5, (Value.int IntKind.u64 (((scanB (bs)).1 : Nat) : Int))), (6, (i64 (((scanB (bs)).2.1 : Nat) : Int))), (8, (i64 ((((scanB (bs)).2.1) + 4 : Nat) : Int))), (9, (Value.slice (if bc = ((scanB (bs)).2.1) + 4 then B else Option.map (fun q => Addr.add q ((((scanB (bs)).2.1) + 4) * 1)) B) (((((scanB (bs)).2.1) + 4) + ((scanB (bs)).1)) - (((scanB (bs)).2.1) + 4)) (bc - (((scanB (bs)).2.1) + 4)))), (10, (Value.int IntKind.u32 0)), (11, (i64 0)), (43, (i64 0)), (44, (Value.bool true)), (46, (Value.int IntKind.u32 0)), (56, (Value.int IntKind.u32 (IntKind.u32.wrap (((x0.toNat : Nat) : Int) * 1))))] (j := 11) (by kernel_rfl) (by kernel_rfl) ?_
        have e21 : IntKind.u32.wrap (((x0.toNat : Nat) : Int) * 1) = ((x0.toNat * 1 : Nat) : Int) := by rw [wrap_u32 (by omega) (by omega)]; omega
        rw [e21]
        clear e21
        have hb22 : 0 ||| (x0.toNat * 1) < 4294967296 := or32_lt (by omega) (by omega)
        refine Ops.go (v := (Value.int IntKind.u32 ((0 ||| (x0.toNat * 1) : Nat) : Int))) (by kernel_rfl) (Runs.int (op := .or) (t := 91) (by kernel_rfl) (run_or32 (a := 0) (b := (x0.toNat * 1)) (by omega) (by omega))) (d := (some 57)) (by kernel_rfl) rfl ?_
        refine Ops.regs 1 [(0, (Value.slice B bs.length bc)), (2, (Value.slice none 0 0)), (3, (i64 0)), (4, (i64 0)), (5, (Value.int IntKind.u64 (((scanB (bs)).1 : Nat) : Int))), (6, (i64 (((scanB (bs)).2.1 : Nat) : Int))), (8, (i64 ((((scanB (bs)).2.1) + 4 : Nat) : Int))), (9, (Value.slice (if bc = ((scanB (bs)).2.1) + 4 then B else Option.map (fun q => Addr.add q ((((scanB (bs)).2.1) + 4) * 1)) B) (((((scanB (bs)).2.1) + 4) + ((scanB (bs)).1)) - (((scanB (bs)).2.1) + 4)) (bc - (((scanB (bs)).2.1) + 4)))), (10, (Value.int IntKind.u32 ((0 ||| (x0.toNat * 1) : Nat) : Int))), (11, (i64 0)), (43, (i64 0)), (44, (Value.bool true))] (j := 13) (by kernel_rfl) (by kernel_rfl) ?_
        refine Ops.done (by kernel_rfl) ?_
        refine q_region (by kernel_rfl) ?_
        refine Ops.regs 2 [(0, (Value.slice B bs.length bc)), (2, (Value.slice none 0 0)), (3, (i64 0)), (4, (i64 0)), (5, (Value.int IntKind.u64 (((scanB (bs)).1 : Nat) : Int))), (6, (i64 (((scanB (bs)).2.1 : Nat) : Int))), (8, (i64 ((((scanB (bs)).2.1) + 4 : Nat) : Int))), (9, (Value.slice (if bc = ((scanB (bs)).2.1) + 4 then B else Option.map (fun q => Addr.add q ((((scanB (bs)).2.1) + 4) * 1)) B) (((((scanB (bs)).2.1) + 4) + ((scanB (bs)).1)) - (((scanB (bs)).2.1) + 4)) (bc - (((scanB (bs)).2.1) + 4)))), (10, (Value.int IntKind.u32 ((0 ||| (x0.toNat * 1) : Nat) : Int))), (11, (i64 0)), (43, (i64 1)), (44, (Value.bool true))] (j := 2) (by kernel_rfl) (by kernel_rfl) ?_
        refine Ops.done (by kernel_rfl) ?_
        refine roll_step ?_
        refine q_seq (by kernel_rfl) ?_
        refine q_region (by kernel_rfl) ?_
        refine Ops.regs 1 [(0, (Value.slice B bs.length bc)), (2, (Value.slice none 0 0)), (3, (i64 0)), (4, (i64 0)), (5, (Value.int IntKind.u64 (((scanB (bs)).1 : Nat) : Int))), (6, (i64 (((scanB (bs)).2.1 : Nat) : Int))), (8, (i64 ((((scanB (bs)).2.1) + 4 : Nat) : Int))), (9, (Value.slice (if bc = ((scanB (bs)).2.1) + 4 then B else Option.map (fun q => Addr.add q ((((scanB (bs)).2.1) + 4) * 1)) B) (((((scanB (bs)).2.1) + 4) + ((scanB (bs)).1)) - (((scanB (bs)).2.1) + 4)) (bc - (((scanB (bs)).2.1) + 4)))), (10, (Value.int IntKind.u32 ((0 ||| (x0.toNat * 1) : Nat) : Int))), (11, (i64 0)), (43, (i64 1)), (44, (Value.bool true))] (j := 1) (by kernel_rfl) (by kernel_rfl) ?_
        refine Ops.done (by kernel_rfl) ?_
        refine q_seq (by kernel_rfl) ?_
        refine q_then (o := .tmp 44) (by kernel_rfl) rfl ?_
        refine q_skip (by kernel_rfl) ?_
        refine q_seq (by kernel_rfl) ?_
        refine q_block (id := 2) (by kernel_rfl) ?_
        refine q_seq (by kernel_rfl) ?_
        refine q_region (by kernel_rfl) ?_
        refine Ops.regs 2 [(0, (Value.slice B bs.length bc)), (2, (Value.slice none 0 0)), (3, (i64 0)), (4, (i64 0)), (5, (Value.int IntKind.u64 (((scanB (bs)).1 : Nat) : Int))), (6, (i64 (((scanB (bs)).2.1 : Nat) : Int))), (8, (i64 ((((scanB (bs)).2.1) + 4 : Nat) : Int))), (9, (Value.slice (if bc = ((scanB (bs)).2.1) + 4 then B else Option.map (fun q => Addr.add q ((((scanB (bs)).2.1) + 4) * 1)) B) (((((scanB (bs)).2.1) + 4) + ((scanB (bs)).1)) - (((scanB (bs)).2.1) + 4)) (bc - (((scanB (bs)).2.1) + 4)))), (10, (Value.int IntKind.u32 ((0 ||| (x0.toNat * 1) : Nat) : Int))), (11, (i64 1)), (43, (i64 1)), (44, (Value.bool true))] (j := 2) (by kernel_rfl) (by kernel_rfl) ?_
        refine Ops.done (by kernel_rfl) ?_
        refine q_region (by kernel_rfl) ?_
        refine Ops.regs 5 [(0, (Value.slice B bs.length bc)), (2, (Value.slice none 0 0)), (3, (i64 0)), (4, (i64 0)), (5, (Value.int IntKind.u64 (((scanB (bs)).1 : Nat) : Int))), (6, (i64 (((scanB (bs)).2.1 : Nat) : Int))), (8, (i64 ((((scanB (bs)).2.1) + 4 : Nat) : Int))), (9, (Value.slice (if bc = ((scanB (bs)).2.1) + 4 then B else Option.map (fun q => Addr.add q ((((scanB (bs)).2.1) + 4) * 1)) B) (((((scanB (bs)).2.1) + 4) + ((scanB (bs)).1)) - (((scanB (bs)).2.1) + 4)) (bc - (((scanB (bs)).2.1) + 4)))), (10, (Value.int IntKind.u32 ((0 ||| (x0.toNat * 1) : Nat) : Int))), (11, (i64 1)), (43, (i64 1)), (44, (Value.bool true)), (46, (Value.int IntKind.u32 ((0 ||| (x0.toNat * 1) : Nat) : Int))), (47, (Value.slice B bs.length bc)), (50, (i64 (IntKind.i64.wrap ((((scanB (bs)).2.1 : Nat) : Int) + 1))))] (j := 5) (by kernel_rfl) (by kernel_rfl) ?_
        have e23 : IntKind.i64.wrap ((((scanB (bs)).2.1 : Nat) : Int) + 1) = ((((scanB (bs)).2.1) + 1 : Nat) : Int) := by rw [wrap_i64 (by omega) (by omega)]; omega
        rw [e23]
        clear e23
        obtain ⟨x1, hx1⟩ : ∃ y, bs[((scanB (bs)).2.1) + 1]? = some y := ⟨_, List.getElem?_eq_getElem (by omega)⟩
        have x1l : x1.toNat < 256 := x1.toNat_lt
        refine Ops.go (by kernel_rfl) (Runs.ixSliceE (k := IntKind.i64) (t := 23) (len := bs.length) (cap := bc) (s := 1) (off' := lo + (((scanB (bs)).2.1) + 1)) (i := ((((scanB (bs)).2.1) + 1 : Nat) : Int)) hA (by kernel_rfl) (by kernel_rfl) (by omega) (by omega) (by omega)) (d := (some 51)) (by kernel_rfl) rfl ?_
        refine Ops.go (v := (Value.int IntKind.u8 ((x1.toNat : Nat) : Int))) (by kernel_rfl) (Runs.load (t := 5) (a := ⟨lb, lo + (((scanB (bs)).2.1) + 1), none⟩) (by kernel_rfl) (RdB.ld (Rd.keep0 (by omega) hB K0) (by kernel_rfl) hA hx1)) (d := (some 52)) (by kernel_rfl) rfl ?_
        refine Ops.regs 1 [(0, (Value.slice B bs.length bc)), (2, (Value.slice none 0 0)), (3, (i64 0)), (4, (i64 0)), (5, (Value.int IntKind.u64 (((scanB (bs)).1 : Nat) : Int))), (6, (i64 (((scanB (bs)).2.1 : Nat) : Int))), (8, (i64 ((((scanB (bs)).2.1) + 4 : Nat) : Int))), (9, (Value.slice (if bc = ((scanB (bs)).2.1) + 4 then B else Option.map (fun q => Addr.add q ((((scanB (bs)).2.1) + 4) * 1)) B) (((((scanB (bs)).2.1) + 4) + ((scanB (bs)).1)) - (((scanB (bs)).2.1) + 4)) (bc - (((scanB (bs)).2.1) + 4)))), (10, (Value.int IntKind.u32 ((0 ||| (x0.toNat * 1) : Nat) : Int))), (11, (i64 1)), (43, (i64 1)), (44, (Value.bool true)), (46, (Value.int IntKind.u32 ((0 ||| (x0.toNat * 1) : Nat) : Int))), (53, (Value.int IntKind.u32 (IntKind.u32.wrap (((x1.toNat : Nat) : Int)))))] (j := 8) (by kernel_rfl) (by kernel_rfl) ?_
        have e24 : IntKind.u32.wrap (((x1.toNat : Nat) : Int)) = ((x1.toNat : Nat) : Int) := wrap_u32 (by omega) (by omega)
        rw [e24]
        refine Ops.regs 3 [(0, (Value.slice B bs.length bc)), (2, (Value.slice none 0 0)), (3, (i64 0)), (4, (i64 0)), (5, (Value.int IntKind.u64 (((scanB (bs)).1 : Nat) : Int))), (6, (i64 (((scanB (bs)).2.1 : Nat) : Int))), (8, (i64 ((((scanB (bs)).2.1) + 4 : Nat) : Int))), (9, (Value.slice (if bc = ((scanB (bs)).2.1) + 4 then B else Option.map (fun q => Addr.add q ((((scanB (bs)).2.1) + 4) * 1)) B) (((((scanB (bs)).2.1) + 4) + ((scanB (bs)).1)) - (((scanB (bs)).2.1) + 4)) (bc - (((scanB (bs)).2.1) + 4)))), (10, (Value.int IntKind.u32 ((0 ||| (x0.toNat * 1) : Nat) : Int))), (11, (i64 1)), (43, (i64 1)), (44, (Value.bool true)), (46, (Value.int IntKind.u32 ((0 ||| (x0.toNat * 1) : Nat) : Int))), (56, (Value.int IntKind.u32 (IntKind.u32.wrap (((x1.toNat : Nat) : Int) * 256))))] (j := 11) (by kernel_rfl) (by kernel_rfl) ?_
        have e25 : IntKind.u32.wrap (((x1.toNat : Nat) : Int) * 256) = ((x1.toNat * 256 : Nat) : Int) := by rw [wrap_u32 (by omega) (by omega)]; omega
        rw [e25]
        clear e25
        have hb26 : (0 ||| (x0.toNat * 1)) ||| (x1.toNat * 256) < 4294967296 := or32_lt (by omega) (by omega)
        refine Ops.go (v := (Value.int IntKind.u32 (((0 ||| (x0.toNat * 1)) ||| (x1.toNat * 256) : Nat) : Int))) (by kernel_rfl) (Runs.int (op := .or) (t := 91) (by kernel_rfl) (run_or32 (a := (0 ||| (x0.toNat * 1))) (b := (x1.toNat * 256)) (by omega) (by omega))) (d := (some 57)) (by kernel_rfl) rfl ?_
        refine Ops.regs 1 [(0, (Value.slice B bs.length bc)), (2, (Value.slice none 0 0)), (3, (i64 0)), (4, (i64 0)), (5, (Value.int IntKind.u64 (((scanB (bs)).1 : Nat) : Int))), (6, (i64 (((scanB (bs)).2.1 : Nat) : Int))), (8, (i64 ((((scanB (bs)).2.1) + 4 : Nat) : Int))), (9, (Value.slice (if bc = ((scanB (bs)).2.1) + 4 then B else Option.map (fun q => Addr.add q ((((scanB (bs)).2.1) + 4) * 1)) B) (((((scanB (bs)).2.1) + 4) + ((scanB (bs)).1)) - (((scanB (bs)).2.1) + 4)) (bc - (((scanB (bs)).2.1) + 4)))), (10, (Value.int IntKind.u32 (((0 ||| (x0.toNat * 1)) ||| (x1.toNat * 256) : Nat) : Int))), (11, (i64 1)), (43, (i64 1)), (44, (Value.bool true))] (j := 13) (by kernel_rfl) (by kernel_rfl) ?_
        refine Ops.done (by kernel_rfl) ?_
        refine q_region (by kernel_rfl) ?_
        refine Ops.regs 2 [(0, (Value.slice B bs.length bc)), (2, (Value.slice none 0 0)), (3, (i64 0)), (4, (i64 0)), (5, (Value.int IntKind.u64 (((scanB (bs)).1 : Nat) : Int))), (6, (i64 (((scanB (bs)).2.1 : Nat) : Int))), (8, (i64 ((((scanB (bs)).2.1) + 4 : Nat) : Int))), (9, (Value.slice (if bc = ((scanB (bs)).2.1) + 4 then B else Option.map (fun q => Addr.add q ((((scanB (bs)).2.1) + 4) * 1)) B) (((((scanB (bs)).2.1) + 4) + ((scanB (bs)).1)) - (((scanB (bs)).2.1) + 4)) (bc - (((scanB (bs)).2.1) + 4)))), (10, (Value.int IntKind.u32 (((0 ||| (x0.toNat * 1)) ||| (x1.toNat * 256) : Nat) : Int))), (11, (i64 1)), (43, (i64 2)), (44, (Value.bool true))] (j := 2) (by kernel_rfl) (by kernel_rfl) ?_
        refine Ops.done (by kernel_rfl) ?_
        refine roll_step ?_
        refine q_seq (by kernel_rfl) ?_
        refine q_region (by kernel_rfl) ?_
        refine Ops.regs 1 [(0, (Value.slice B bs.length bc)), (2, (Value.slice none 0 0)), (3, (i64 0)), (4, (i64 0)), (5, (Value.int IntKind.u64 (((scanB (bs)).1 : Nat) : Int))), (6, (i64 (((scanB (bs)).2.1 : Nat) : Int))), (8, (i64 ((((scanB (bs)).2.1) + 4 : Nat) : Int))), (9, (Value.slice (if bc = ((scanB (bs)).2.1) + 4 then B else Option.map (fun q => Addr.add q ((((scanB (bs)).2.1) + 4) * 1)) B) (((((scanB (bs)).2.1) + 4) + ((scanB (bs)).1)) - (((scanB (bs)).2.1) + 4)) (bc - (((scanB (bs)).2.1) + 4)))), (10, (Value.int IntKind.u32 (((0 ||| (x0.toNat * 1)) ||| (x1.toNat * 256) : Nat) : Int))), (11, (i64 1)), (43, (i64 2)), (44, (Value.bool true))] (j := 1) (by kernel_rfl) (by kernel_rfl) ?_
        refine Ops.done (by kernel_rfl) ?_
        refine q_seq (by kernel_rfl) ?_
        refine q_then (o := .tmp 44) (by kernel_rfl) rfl ?_
        refine q_skip (by kernel_rfl) ?_
        refine q_seq (by kernel_rfl) ?_
        refine q_block (id := 2) (by kernel_rfl) ?_
        refine q_seq (by kernel_rfl) ?_
        refine q_region (by kernel_rfl) ?_
        refine Ops.regs 2 [(0, (Value.slice B bs.length bc)), (2, (Value.slice none 0 0)), (3, (i64 0)), (4, (i64 0)), (5, (Value.int IntKind.u64 (((scanB (bs)).1 : Nat) : Int))), (6, (i64 (((scanB (bs)).2.1 : Nat) : Int))), (8, (i64 ((((scanB (bs)).2.1) + 4 : Nat) : Int))), (9, (Value.slice (if bc = ((scanB (bs)).2.1) + 4 then B else Option.map (fun q => Addr.add q ((((scanB (bs)).2.1) + 4) * 1)) B) (((((scanB (bs)).2.1) + 4) + ((scanB (bs)).1)) - (((scanB (bs)).2.1) + 4)) (bc - (((scanB (bs)).2.1) + 4)))), (10, (Value.int IntKind.u32 (((0 ||| (x0.toNat * 1)) ||| (x1.toNat * 256) : Nat) : Int))), (11, (i64 2)), (43, (i64 2)), (44, (Value.bool true))] (j := 2) (by kernel_rfl) (by kernel_rfl) ?_
        refine Ops.done (by kernel_rfl) ?_
        refine q_region (by kernel_rfl) ?_
        refine Ops.regs 5 [(0, (Value.slice B bs.length bc)), (2, (Value.slice none 0 0)), (3, (i64 0)), (4, (i64 0)), (5, (Value.int IntKind.u64 (((scanB (bs)).1 : Nat) : Int))), (6, (i64 (((scanB (bs)).2.1 : Nat) : Int))), (8, (i64 ((((scanB (bs)).2.1) + 4 : Nat) : Int))), (9, (Value.slice (if bc = ((scanB (bs)).2.1) + 4 then B else Option.map (fun q => Addr.add q ((((scanB (bs)).2.1) + 4) * 1)) B) (((((scanB (bs)).2.1) + 4) + ((scanB (bs)).1)) - (((scanB (bs)).2.1) + 4)) (bc - (((scanB (bs)).2.1) + 4)))), (10, (Value.int IntKind.u32 (((0 ||| (x0.toNat * 1)) ||| (x1.toNat * 256) : Nat) : Int))), (11, (i64 2)), (43, (i64 2)), (44, (Value.bool true)), (46, (Value.int IntKind.u32 (((0 ||| (x0.toNat * 1)) ||| (x1.toNat * 256) : Nat) : Int))), (47, (Value.slice B bs.length bc)), (50, (i64 (IntKind.i64.wrap ((((scanB (bs)).2.1 : Nat) : Int) + 2))))] (j := 5) (by kernel_rfl) (by kernel_rfl) ?_
        have e27 : IntKind.i64.wrap ((((scanB (bs)).2.1 : Nat) : Int) + 2) = ((((scanB (bs)).2.1) + 2 : Nat) : Int) := by rw [wrap_i64 (by omega) (by omega)]; omega
        rw [e27]
        clear e27
        obtain ⟨x2, hx2⟩ : ∃ y, bs[((scanB (bs)).2.1) + 2]? = some y := ⟨_, List.getElem?_eq_getElem (by omega)⟩
        have x2l : x2.toNat < 256 := x2.toNat_lt
        refine Ops.go (by kernel_rfl) (Runs.ixSliceE (k := IntKind.i64) (t := 23) (len := bs.length) (cap := bc) (s := 1) (off' := lo + (((scanB (bs)).2.1) + 2)) (i := ((((scanB (bs)).2.1) + 2 : Nat) : Int)) hA (by kernel_rfl) (by kernel_rfl) (by omega) (by omega) (by omega)) (d := (some 51)) (by kernel_rfl) rfl ?_
        refine Ops.go (v := (Value.int IntKind.u8 ((x2.toNat : Nat) : Int))) (by kernel_rfl) (Runs.load (t := 5) (a := ⟨lb, lo + (((scanB (bs)).2.1) + 2), none⟩) (by kernel_rfl) (RdB.ld (Rd.keep0 (by omega) hB K0) (by kernel_rfl) hA hx2)) (d := (some 52)) (by kernel_rfl) rfl ?_
        refine Ops.regs 1 [(0, (Value.slice B bs.length bc)), (2, (Value.slice none 0 0)), (3, (i64 0)), (4, (i64 0)), (5, (Value.int IntKind.u64 (((scanB (bs)).1 : Nat) : Int))), (6, (i64 (((scanB (bs)).2.1 : Nat) : Int))), (8, (i64 ((((scanB (bs)).2.1) + 4 : Nat) : Int))), (9, (Value.slice (if bc = ((scanB (bs)).2.1) + 4 then B else Option.map (fun q => Addr.add q ((((scanB (bs)).2.1) + 4) * 1)) B) (((((scanB (bs)).2.1) + 4) + ((scanB (bs)).1)) - (((scanB (bs)).2.1) + 4)) (bc - (((scanB (bs)).2.1) + 4)))), (10, (Value.int IntKind.u32 (((0 ||| (x0.toNat * 1)) ||| (x1.toNat * 256) : Nat) : Int))), (11, (i64 2)), (43, (i64 2)), (44, (Value.bool true)), (46, (Value.int IntKind.u32 (((0 ||| (x0.toNat * 1)) ||| (x1.toNat * 256) : Nat) : Int))), (53, (Value.int IntKind.u32 (IntKind.u32.wrap (((x2.toNat : Nat) : Int)))))] (j := 8) (by kernel_rfl) (by kernel_rfl) ?_
        have e28 : IntKind.u32.wrap (((x2.toNat : Nat) : Int)) = ((x2.toNat : Nat) : Int) := wrap_u32 (by omega) (by omega)
        rw [e28]
        refine Ops.regs 3 [(0, (Value.slice B bs.length bc)), (2, (Value.slice none 0 0)), (3, (i64 0)), (4, (i64 0)), (5, (Value.int IntKind.u64 (((scanB (bs)).1 : Nat) : Int))), (6, (i64 (((scanB (bs)).2.1 : Nat) : Int))), (8, (i64 ((((scanB (bs)).2.1) + 4 : Nat) : Int))), (9, (Value.slice (if bc = ((scanB (bs)).2.1) + 4 then B else Option.map (fun q => Addr.add q ((((scanB (bs)).2.1) + 4) * 1)) B) (((((scanB (bs)).2.1) + 4) + ((scanB (bs)).1)) - (((scanB (bs)).2.1) + 4)) (bc - (((scanB (bs)).2.1) + 4)))), (10, (Value.int IntKind.u32 (((0 ||| (x0.toNat * 1)) ||| (x1.toNat * 256) : Nat) : Int))), (11, (i64 2)), (43, (i64 2)), (44, (Value.bool true)), (46, (Value.int IntKind.u32 (((0 ||| (x0.toNat * 1)) ||| (x1.toNat * 256) : Nat) : Int))), (56, (Value.int IntKind.u32 (IntKind.u32.wrap (((x2.toNat : Nat) : Int) * 65536))))] (j := 11) (by kernel_rfl) (by kernel_rfl) ?_
        have e29 : IntKind.u32.wrap (((x2.toNat : Nat) : Int) * 65536) = ((x2.toNat * 65536 : Nat) : Int) := by rw [wrap_u32 (by omega) (by omega)]; omega
        rw [e29]
        clear e29
        have hb30 : ((0 ||| (x0.toNat * 1)) ||| (x1.toNat * 256)) ||| (x2.toNat * 65536) < 4294967296 := or32_lt (by omega) (by omega)
        refine Ops.go (v := (Value.int IntKind.u32 ((((0 ||| (x0.toNat * 1)) ||| (x1.toNat * 256)) ||| (x2.toNat * 65536) : Nat) : Int))) (by kernel_rfl) (Runs.int (op := .or) (t := 91) (by kernel_rfl) (run_or32 (a := ((0 ||| (x0.toNat * 1)) ||| (x1.toNat * 256))) (b := (x2.toNat * 65536)) (by omega) (by omega))) (d := (some 57)) (by kernel_rfl) rfl ?_
        refine Ops.regs 1 [(0, (Value.slice B bs.length bc)), (2, (Value.slice none 0 0)), (3, (i64 0)), (4, (i64 0)), (5, (Value.int IntKind.u64 (((scanB (bs)).1 : Nat) : Int))), (6, (i64 (((scanB (bs)).2.1 : Nat) : Int))), (8, (i64 ((((scanB (bs)).2.1) + 4 : Nat) : Int))), (9, (Value.slice (if bc = ((scanB (bs)).2.1) + 4 then B else Option.map (fun q => Addr.add q ((((scanB (bs)).2.1) + 4) * 1)) B) (((((scanB (bs)).2.1) + 4) + ((scanB (bs)).1)) - (((scanB (bs)).2.1) + 4)) (bc - (((scanB (bs)).2.1) + 4)))), (10, (Value.int IntKind.u32 ((((0 ||| (x0.toNat * 1)) ||| (x1.toNat * 256)) ||| (x2.toNat * 65536) : Nat) : Int))), (11, (i64 2)), (43, (i64 2)), (44, (Value.bool true))] (j := 13) (by kernel_rfl) (by kernel_rfl) ?_
        refine Ops.done (by kernel_rfl) ?_
        refine q_region (by kernel_rfl) ?_
        refine Ops.regs 2 [(0, (Value.slice B bs.length bc)), (2, (Value.slice none 0 0)), (3, (i64 0)), (4, (i64 0)), (5, (Value.int IntKind.u64 (((scanB (bs)).1 : Nat) : Int))), (6, (i64 (((scanB (bs)).2.1 : Nat) : Int))), (8, (i64 ((((scanB (bs)).2.1) + 4 : Nat) : Int))), (9, (Value.slice (if bc = ((scanB (bs)).2.1) + 4 then B else Option.map (fun q => Addr.add q ((((scanB (bs)).2.1) + 4) * 1)) B) (((((scanB (bs)).2.1) + 4) + ((scanB (bs)).1)) - (((scanB (bs)).2.1) + 4)) (bc - (((scanB (bs)).2.1) + 4)))), (10, (Value.int IntKind.u32 ((((0 ||| (x0.toNat * 1)) ||| (x1.toNat * 256)) ||| (x2.toNat * 65536) : Nat) : Int))), (11, (i64 2)), (43, (i64 3)), (44, (Value.bool true))] (j := 2) (by kernel_rfl) (by kernel_rfl) ?_
        refine Ops.done (by kernel_rfl) ?_
        refine roll_step ?_
        refine q_seq (by kernel_rfl) ?_
        refine q_region (by kernel_rfl) ?_
        refine Ops.regs 1 [(0, (Value.slice B bs.length bc)), (2, (Value.slice none 0 0)), (3, (i64 0)), (4, (i64 0)), (5, (Value.int IntKind.u64 (((scanB (bs)).1 : Nat) : Int))), (6, (i64 (((scanB (bs)).2.1 : Nat) : Int))), (8, (i64 ((((scanB (bs)).2.1) + 4 : Nat) : Int))), (9, (Value.slice (if bc = ((scanB (bs)).2.1) + 4 then B else Option.map (fun q => Addr.add q ((((scanB (bs)).2.1) + 4) * 1)) B) (((((scanB (bs)).2.1) + 4) + ((scanB (bs)).1)) - (((scanB (bs)).2.1) + 4)) (bc - (((scanB (bs)).2.1) + 4)))), (10, (Value.int IntKind.u32 ((((0 ||| (x0.toNat * 1)) ||| (x1.toNat * 256)) ||| (x2.toNat * 65536) : Nat) : Int))), (11, (i64 2)), (43, (i64 3)), (44, (Value.bool true))] (j := 1) (by kernel_rfl) (by kernel_rfl) ?_
        refine Ops.done (by kernel_rfl) ?_
        refine q_seq (by kernel_rfl) ?_
        refine q_then (o := .tmp 44) (by kernel_rfl) rfl ?_
        refine q_skip (by kernel_rfl) ?_
        refine q_seq (by kernel_rfl) ?_
        refine q_block (id := 2) (by kernel_rfl) ?_
        refine q_seq (by kernel_rfl) ?_
        refine q_region (by kernel_rfl) ?_
        refine Ops.regs 2 [(0, (Value.slice B bs.length bc)), (2, (Value.slice none 0 0)), (3, (i64 0)), (4, (i64 0)), (5, (Value.int IntKind.u64 (((scanB (bs)).1 : Nat) : Int))), (6, (i64 (((scanB (bs)).2.1 : Nat) : Int))), (8, (i64 ((((scanB (bs)).2.1) + 4 : Nat) : Int))), (9, (Value.slice (if bc = ((scanB (bs)).2.1) + 4 then B else Option.map (fun q => Addr.add q ((((scanB (bs)).2.1) + 4) * 1)) B) (((((scanB (bs)).2.1) + 4) + ((scanB (bs)).1)) - (((scanB (bs)).2.1) + 4)) (bc - (((scanB (bs)).2.1) + 4)))), (10, (Value.int IntKind.u32 ((((0 ||| (x0.toNat * 1)) ||| (x1.toNat * 256)) ||| (x2.toNat * 65536) : Nat) : Int))), (11, (i64 3)), (43, (i64 3)), (44, (Value.bool true))] (j := 2) (by kernel_rfl) (by kernel_rfl) ?_
        refine Ops.done (by kernel_rfl) ?_
        refine q_region (by kernel_rfl) ?_
        refine Ops.regs 5 [(0, (Value.slice B bs.length bc)), (2, (Value.slice none 0 0)), (3, (i64 0)), (4, (i64 0)), (5, (Value.int IntKind.u64 (((scanB (bs)).1 : Nat) : Int))), (6, (i64 (((scanB (bs)).2.1 : Nat) : Int))), (8, (i64 ((((scanB (bs)).2.1) + 4 : Nat) : Int))), (9, (Value.slice (if bc = ((scanB (bs)).2.1) + 4 then B else Option.map (fun q => Addr.add q ((((scanB (bs)).2.1) + 4) * 1)) B) (((((scanB (bs)).2.1) + 4) + ((scanB (bs)).1)) - (((scanB (bs)).2.1) + 4)) (bc - (((scanB (bs)).2.1) + 4)))), (10, (Value.int IntKind.u32 ((((0 ||| (x0.toNat * 1)) ||| (x1.toNat * 256)) ||| (x2.toNat * 65536) : Nat) : Int))), (11, (i64 3)), (43, (i64 3)), (44, (Value.bool true)), (46, (Value.int IntKind.u32 ((((0 ||| (x0.toNat * 1)) ||| (x1.toNat * 256)) ||| (x2.toNat * 65536) : Nat) : Int))), (47, (Value.slice B bs.length bc)), (50, (i64 (IntKind.i64.wrap ((((scanB (bs)).2.1 : Nat) : Int) + 3))))] (j := 5) (by kernel_rfl) (by kernel_rfl) ?_
        have e31 : IntKind.i64.wrap ((((scanB (bs)).2.1 : Nat) : Int) + 3) = ((((scanB (bs)).2.1) + 3 : Nat) : Int) := by rw [wrap_i64 (by omega) (by omega)]; omega
        rw [e31]
        clear e31
        obtain ⟨x3, hx3⟩ : ∃ y, bs[((scanB (bs)).2.1) + 3]? = some y := ⟨_, List.getElem?_eq_getElem (by omega)⟩
        have x3l : x3.toNat < 256 := x3.toNat_lt
        refine Ops.go (by kernel_rfl) (Runs.ixSliceE (k := IntKind.i64) (t := 23) (len := bs.length) (cap := bc) (s := 1) (off' := lo + (((scanB (bs)).2.1) + 3)) (i := ((((scanB (bs)).2.1) + 3 : Nat) : Int)) hA (by kernel_rfl) (by kernel_rfl) (by omega) (by omega) (by omega)) (d := (some 51)) (by kernel_rfl) rfl ?_
        refine Ops.go (v := (Value.int IntKind.u8 ((x3.toNat : Nat) : Int))) (by kernel_rfl) (Runs.load (t := 5) (a := ⟨lb, lo + (((scanB (bs)).2.1) + 3), none⟩) (by kernel_rfl) (RdB.ld (Rd.keep0 (by omega) hB K0) (by kernel_rfl) hA hx3)) (d := (some 52)) (by kernel_rfl) rfl ?_
        refine Ops.regs 1 [(0, (Value.slice B bs.length bc)), (2, (Value.slice none 0 0)), (3, (i64 0)), (4, (i64 0)), (5, (Value.int IntKind.u64 (((scanB (bs)).1 : Nat) : Int))), (6, (i64 (((scanB (bs)).2.1 : Nat) : Int))), (8, (i64 ((((scanB (bs)).2.1) + 4 : Nat) : Int))), (9, (Value.slice (if bc = ((scanB (bs)).2.1) + 4 then B else Option.map (fun q => Addr.add q ((((scanB (bs)).2.1) + 4) * 1)) B) (((((scanB (bs)).2.1) + 4) + ((scanB (bs)).1)) - (((scanB (bs)).2.1) + 4)) (bc - (((scanB (bs)).2.1) + 4)))), (10, (Value.int IntKind.u32 ((((0 ||| (x0.toNat * 1)) ||| (x1.toNat * 256)) ||| (x2.toNat * 65536) : Nat) : Int))), (11, (i64 3)), (43, (i64 3)), (44, (Value.bool true)), (46, (Value.int IntKind.u32 ((((0 ||| (x0.toNat * 1)) ||| (x1.toNat * 256)) ||| (x2.toNat * 65536) : Nat) : Int))), (53, (Value.int IntKind.u32 (IntKind.u32.wrap (((x3.toNat : Nat) : Int)))))] (j := 8) (by kernel_rfl) (by kernel_rfl) ?_
        have e32 : IntKind.u32.wrap (((x3.toNat : Nat) : Int)) = ((x3.toNat : Nat) : Int) := wrap_u32 (by omega) (by omega)
        rw [e32]
        refine Ops.regs 3 [(0, (Value.slice B bs.length bc)), (2, (Value.slice none 0 0)), (3, (i64 0)), (4, (i64 0)), (5, (Value.int IntKind.u64 (((scanB (bs)).1 : Nat) : Int))), (6, (i64 (((scanB (bs)).2.1 : Nat) : Int))), (8, (i64 ((((scanB (bs)).2.1) + 4 : Nat) : Int))), (9, (Value.slice (if bc = ((scanB (bs)).2.1) + 4 then B else Option.map (fun q => Addr.add q ((((scanB (bs)).2.1) + 4) * 1)) B) (((((scanB (bs)).2.1) + 4) + ((scanB (bs)).1)) - (((scanB (bs)).2.1) + 4)) (bc - (((scanB (bs)).2.1) + 4)))), (10, (Value.int IntKind.u32 ((((0 ||| (x0.toNat * 1)) ||| (x1.toNat * 256)) ||| (x2.toNat * 65536) : Nat) : Int))), (11, (i64 3)), (43, (i64 3)), (44, (Value.bool true)), (46, (Value.int IntKind.u32 ((((0 ||| (x0.toNat * 1)) ||| (x1.toNat * 256)) ||| (x2.toNat * 65536) : Nat) : Int))), (56, (Value.int IntKind.u32 (IntKind.u32.wrap (((x3.toNat : Nat) : Int) * 16777216))))] (j := 11) (by kernel_rfl) (by kernel_rfl) ?_
        have e33 : IntKind.u32.wrap (((x3.toNat : Nat) : Int) * 16777216) = ((x3.toNat * 16777216 : Nat) : Int) := by rw [wrap_u32 (by omega) (by omega)]; omega
        rw [e33]
        clear e33
        have hb34 : (((0 ||| (x0.toNat * 1)) ||| (x1.toNat * 256)) ||| (x2.toNat * 65536)) ||| (x3.toNat * 16777216) < 4294967296 := or32_lt (by omega) (by omega)
        refine Ops.go (v := (Value.int IntKind.u32 (((((0 ||| (x0.toNat * 1)) ||| (x1.toNat * 256)) ||| (x2.toNat * 65536)) ||| (x3.toNat * 16777216) : Nat) : Int))) (by kernel_rfl) (Runs.int (op := .or) (t := 91) (by kernel_rfl) (run_or32 (a := (((0 ||| (x0.toNat * 1)) ||| (x1.toNat * 256)) ||| (x2.toNat * 65536))) (b := (x3.toNat * 16777216)) (by omega) (by omega))) (d := (some 57)) (by kernel_rfl) rfl ?_
        refine Ops.regs 1 [(0, (Value.slice B bs.length bc)), (2, (Value.slice none 0 0)), (3, (i64 0)), (4, (i64 0)), (5, (Value.int IntKind.u64 (((scanB (bs)).1 : Nat) : Int))), (6, (i64 (((scanB (bs)).2.1 : Nat) : Int))), (8, (i64 ((((scanB (bs)).2.1) + 4 : Nat) : Int))), (9, (Value.slice (if bc = ((scanB (bs)).2.1) + 4 then B else Option.map (fun q => Addr.add q ((((scanB (bs)).2.1) + 4) * 1)) B) (((((scanB (bs)).2.1) + 4) + ((scanB (bs)).1)) - (((scanB (bs)).2.1) + 4)) (bc - (((scanB (bs)).2.1) + 4)))), (10, (Value.int IntKind.u32 (((((0 ||| (x0.toNat * 1)) ||| (x1.toNat * 256)) ||| (x2.toNat * 65536)) ||| (x3.toNat * 16777216) : Nat) : Int))), (11, (i64 3)), (43, (i64 3)), (44, (Value.bool true))] (j := 13) (by kernel_rfl) (by kernel_rfl) ?_
        refine Ops.done (by kernel_rfl) ?_
        refine q_region (by kernel_rfl) ?_
        refine Ops.regs 2 [(0, (Value.slice B bs.length bc)), (2, (Value.slice none 0 0)), (3, (i64 0)), (4, (i64 0)), (5, (Value.int IntKind.u64 (((scanB (bs)).1 : Nat) : Int))), (6, (i64 (((scanB (bs)).2.1 : Nat) : Int))), (8, (i64 ((((scanB (bs)).2.1) + 4 : Nat) : Int))), (9, (Value.slice (if bc = ((scanB (bs)).2.1) + 4 then B else Option.map (fun q => Addr.add q ((((scanB (bs)).2.1) + 4) * 1)) B) (((((scanB (bs)).2.1) + 4) + ((scanB (bs)).1)) - (((scanB (bs)).2.1) + 4)) (bc - (((scanB (bs)).2.1) + 4)))), (10, (Value.int IntKind.u32 (((((0 ||| (x0.toNat * 1)) ||| (x1.toNat * 256)) ||| (x2.toNat * 65536)) ||| (x3.toNat * 16777216) : Nat) : Int))), (11, (i64 3)), (43, (i64 4)), (44, (Value.bool true))] (j := 2) (by kernel_rfl) (by kernel_rfl) ?_
        refine Ops.done (by kernel_rfl) ?_
        refine roll_step ?_
        refine q_seq (by kernel_rfl) ?_
        refine q_region (by kernel_rfl) ?_
        refine Ops.regs 1 [(0, (Value.slice B bs.length bc)), (2, (Value.slice none 0 0)), (3, (i64 0)), (4, (i64 0)), (5, (Value.int IntKind.u64 (((scanB (bs)).1 : Nat) : Int))), (6, (i64 (((scanB (bs)).2.1 : Nat) : Int))), (8, (i64 ((((scanB (bs)).2.1) + 4 : Nat) : Int))), (9, (Value.slice (if bc = ((scanB (bs)).2.1) + 4 then B else Option.map (fun q => Addr.add q ((((scanB (bs)).2.1) + 4) * 1)) B) (((((scanB (bs)).2.1) + 4) + ((scanB (bs)).1)) - (((scanB (bs)).2.1) + 4)) (bc - (((scanB (bs)).2.1) + 4)))), (10, (Value.int IntKind.u32 (((((0 ||| (x0.toNat * 1)) ||| (x1.toNat * 256)) ||| (x2.toNat * 65536)) ||| (x3.toNat * 16777216) : Nat) : Int))), (11, (i64 3)), (43, (i64 4)), (44, (Value.bool false))] (j := 1) (by kernel_rfl) (by kernel_rfl) ?_
        refine Ops.done (by kernel_rfl) ?_
        refine q_seq (by kernel_rfl) ?_
        refine q_else (o := .tmp 44) (by kernel_rfl) rfl ?_
        refine q_exit (id := 1) (by kernel_rfl) ?_
        refine q_seq (by kernel_rfl) ?_
        refine q_seq (by kernel_rfl) ?_
        refine q_region (by kernel_rfl) ?_
        refine Ops.regs 2 [(2, (Value.slice none 0 0)), (3, (i64 0)), (4, (i64 0)), (5, (Value.int IntKind.u64 (((scanB (bs)).1 : Nat) : Int))), (8, (i64 ((((scanB (bs)).2.1) + 4 : Nat) : Int))), (9, (Value.slice (if bc = ((scanB (bs)).2.1) + 4 then B else Option.map (fun q => Addr.add q ((((scanB (bs)).2.1) + 4) * 1)) B) (((((scanB (bs)).2.1) + 4) + ((scanB (bs)).1)) - (((scanB (bs)).2.1) + 4)) (bc - (((scanB (bs)).2.1) + 4)))), (59, (Value.int IntKind.u32 (((((0 ||| (x0.toNat * 1)) ||| (x1.toNat * 256)) ||| (x2.toNat * 65536)) ||| (x3.toNat * 16777216) : Nat) : Int))), (60, (Value.slice (if bc = ((scanB (bs)).2.1) + 4 then B else Option.map (fun q => Addr.add q ((((scanB (bs)).2.1) + 4) * 1)) B) (((((scanB (bs)).2.1) + 4) + ((scanB (bs)).1)) - (((scanB (bs)).2.1) + 4)) (bc - (((scanB (bs)).2.1) + 4))))] (j := 2) (by kernel_rfl) (by kernel_rfl) ?_
        refine Ops.call (by kernel_rfl) (d := (some 61)) (by kernel_rfl) (Sum_calls _ (Value.slice (if bc = ((scanB (bs)).2.1) + 4 then B else Option.map (fun q => Addr.add q ((((scanB (bs)).2.1) + 4) * 1)) B) (((((scanB (bs)).2.1) + 4) + ((scanB (bs)).1)) - (((scanB (bs)).2.1) + 4)) (bc - (((scanB (bs)).2.1) + 4))) ((bs.drop (((scanB (bs)).2.1) + 4)).take (((((scanB (bs)).2.1) + 4) + ((scanB (bs)).1)) - (((scanB (bs)).2.1) + 4))) F18 (by omega)) ?_
        rintro _ w35 ⟨rfl, K36⟩
        have hb37 := crcMore_lt ((bs.drop (((scanB (bs)).2.1) + 4)).take (((((scanB (bs)).2.1) + 4) + ((scanB (bs)).1)) - (((scanB (bs)).2.1) + 4))) (s := 0) (by omega)
        refine ⟨_, _, rfl, rfl, ?_⟩
        replace K0 := K0.trans K36 (U := none_) (fun i h1 h2 => h2) (fun i h1 h2 => by exact h2)
        replace F18 := (Rd.keep0 (by omega) F18 K36)
        clear K36
        refine Ops.regs 1 [(2, (Value.slice none 0 0)), (3, (i64 0)), (4, (i64 0)), (5, (Value.int IntKind.u64 (((scanB (bs)).1 : Nat) : Int))), (8, (i64 ((((scanB (bs)).2.1) + 4 : Nat) : Int))), (9, (Value.slice (if bc = ((scanB (bs)).2.1) + 4 then B else Option.map (fun q => Addr.add q ((((scanB (bs)).2.1) + 4) * 1)) B) (((((scanB (bs)).2.1) + 4) + ((scanB (bs)).1)) - (((scanB (bs)).2.1) + 4)) (bc - (((scanB (bs)).2.1) + 4)))), (62, (Value.bool ((((((0 ||| (x0.toNat * 1)) ||| (x1.toNat * 256)) ||| (x2.toNat * 65536)) ||| (x3.toNat * 16777216) : Nat) : Int) != ((crcMore 0 ((bs.drop (((scanB (bs)).2.1) + 4)).take (((((scanB (bs)).2.1) + 4) + ((scanB (bs)).1)) - (((scanB (bs)).2.1) + 4))) : Nat) : Int))))] (j := 4) (by kernel_rfl) (by kernel_rfl) ?_
        refine Ops.done (by kernel_rfl) ?_
        refine q_cond (o := .tmp 62) (b := ((((((0 ||| (x0.toNat * 1)) ||| (x1.toNat * 256)) ||| (x2.toNat * 65536)) ||| (x3.toNat * 16777216) : Nat) : Int) != ((crcMore 0 ((bs.drop (((scanB (bs)).2.1) + 4)).take (((((scanB (bs)).2.1) + 4) + ((scanB (bs)).1)) - (((scanB (bs)).2.1) + 4))) : Nat) : Int))) (by kernel_rfl) rfl (fun h38 => ?_) (fun h38 => ?_)
        · rw [h38]
          have p39 : ¬ ((((((0 ||| (x0.toNat * 1)) ||| (x1.toNat * 256)) ||| (x2.toNat * 65536)) ||| (x3.toNat * 16777216) : Nat) : Int) = ((crcMore 0 ((bs.drop (((scanB (bs)).2.1) + 4)).take (((((scanB (bs)).2.1) + 4) + ((scanB (bs)).1)) - (((scanB (bs)).2.1) + 4))) : Nat) : Int)) := of_bne_t h38
          refine q_seq (by kernel_rfl) ?_
          refine q_region (by kernel_rfl) ?_
          refine Ops.regs 3 [(2, (Value.slice none 0 0)), (3, (i64 0)), (4, (i64 0)), (5, (Value.int IntKind.u64 (((scanB (bs)).1 : Nat) : Int))), (8, (i64 ((((scanB (bs)).2.1) + 4 : Nat) : Int))), (9, (Value.slice (if bc = ((scanB (bs)).2.1) + 4 then B else Option.map (fun q => Addr.add q ((((scanB (bs)).2.1) + 4) * 1)) B) (((((scanB (bs)).2.1) + 4) + ((scanB (bs)).1)) - (((scanB (bs)).2.1) + 4)) (bc - (((scanB (bs)).2.1) + 4)))), (63, (i64 ((((scanB (bs)).2.1) + 4 : Nat) : Int))), (65, (i64 (IntKind.i64.wrap ((((scanB (bs)).1 : Nat) : Int)))))] (j := 3) (by kernel_rfl) (by kernel_rfl) ?_
          have e40 : IntKind.i64.wrap ((((scanB (bs)).1 : Nat) : Int)) = (((scanB (bs)).1 : Nat) : Int) := wrap_i64 (by omega) (by omega)
          rw [e40]
          refine Ops.regs 1 [(2, (Value.slice none 0 0)), (3, (i64 0)), (4, (i64 0)), (5, (Value.int IntKind.u64 (((scanB (bs)).1 : Nat) : Int))), (8, (i64 ((((scanB (bs)).2.1) + 4 : Nat) : Int))), (9, (Value.slice (if bc = ((scanB (bs)).2.1) + 4 then B else Option.map (fun q => Addr.add q ((((scanB (bs)).2.1) + 4) * 1)) B) (((((scanB (bs)).2.1) + 4) + ((scanB (bs)).1)) - (((scanB (bs)).2.1) + 4)) (bc - (((scanB (bs)).2.1) + 4)))), (66, (i64 (IntKind.i64.wrap (((((scanB (bs)).2.1) + 4 : Nat) : Int) + (((scanB (bs)).1 : Nat) : Int)))))] (j := 4) (by kernel_rfl) (by kernel_rfl) ?_
          have e41 : IntKind.i64.wrap (((((scanB (bs)).2.1) + 4 : Nat) : Int) + (((scanB (bs)).1 : Nat) : Int)) = (((((scanB (bs)).2.1) + 4) + ((scanB (bs)).1) : Nat) : Int) := by rw [wrap_i64 (by omega) (by omega)]; omega
          rw [e41]
          clear e41
          refine Ops.regs 3 [(2, (Value.slice none 0 0)), (3, (i64 (((((scanB (bs)).2.1) + 4) + ((scanB (bs)).1) : Nat) : Int))), (4, (i64 12)), (5, (Value.int IntKind.u64 (((scanB (bs)).1 : Nat) : Int))), (8, (i64 ((((scanB (bs)).2.1) + 4 : Nat) : Int))), (9, (Value.slice (if bc = ((scanB (bs)).2.1) + 4 then B else Option.map (fun q => Addr.add q ((((scanB (bs)).2.1) + 4) * 1)) B) (((((scanB (bs)).2.1) + 4) + ((scanB (bs)).1)) - (((scanB (bs)).2.1) + 4)) (bc - (((scanB (bs)).2.1) + 4))))] (j := 7) (by kernel_rfl) (by kernel_rfl) ?_
          refine Ops.done (by kernel_rfl) ?_
          refine q_ret (by kernel_rfl) ?_
          refine ⟨(Value.tuple #[(Value.slice none 0 0), (i64 (((((scanB (bs)).2.1) + 4) + ((scanB (bs)).1) : Nat) : Int)), (i64 12)]), retv_tmp3 rfl rfl rfl rfl, ?_⟩
          have hb0 : byteN bs (scanB (bs)).2.1 = x0.toNat := byteN_at hx0
          have hb1 : byteN bs ((scanB (bs)).2.1 + 1) = x1.toNat := byteN_at hx1
          have hb2 : byteN bs ((scanB (bs)).2.1 + 2) = x2.toNat := byteN_at hx2
          have hb3 : byteN bs ((scanB (bs)).2.1 + 3) = x3.toNat := byteN_at hx3
          have hcr : crcMore 0 ((bs.drop ((scanB bs).2.1 + 4)).take (scanB bs).1) = crcMore 0 ((bs.drop ((scanB bs).2.1 + 4)).take ((scanB bs).2.1 + 4 + (scanB bs).1 - ((scanB bs).2.1 + 4))) := by rw [Nat.add_sub_cancel_left]
          have e : cutB bs = ([], (((scanB (bs)).2.1) + 4) + ((scanB (bs)).1), 12) := by unfold cutB; rw [if_neg (by omega), if_neg (by omega), if_neg (by omega), hb0, hb1, hb2, hb3]; first | (rw [if_pos (by unfold le4; omega)]; done) | (rw [if_neg (by unfold le4; omega), Nat.add_sub_cancel_left]; done) | (rw [if_neg (by unfold le4; omega)]; congr 2; omega)
          exact ⟨_, by (rw [e]; try rfl), K0, by rw [e]; exact (World.ownsRow_nil _ _ _ _)⟩
        · rw [h38]
          have p42 : (((((0 ||| (x0.toNat * 1)) ||| (x1.toNat * 256)) ||| (x2.toNat * 65536)) ||| (x3.toNat * 16777216) : Nat) : Int) = ((crcMore 0 ((bs.drop (((scanB (bs)).2.1) + 4)).take (((((scanB (bs)).2.1) + 4) + ((scanB (bs)).1)) - (((scanB (bs)).2.1) + 4))) : Nat) : Int) := of_bne_f h38
          refine q_skip (by kernel_rfl) ?_
          refine q_seq (by kernel_rfl) ?_
          refine q_region (by kernel_rfl) ?_
          refine Ops.regs 1 [(2, (Value.slice none 0 0)), (3, (i64 0)), (4, (i64 0)), (5, (Value.int IntKind.u64 (((scanB (bs)).1 : Nat) : Int))), (8, (i64 ((((scanB (bs)).2.1) + 4 : Nat) : Int))), (67, (Value.slice (if bc = ((scanB (bs)).2.1) + 4 then B else Option.map (fun q => Addr.add q ((((scanB (bs)).2.1) + 4) * 1)) B) (((((scanB (bs)).2.1) + 4) + ((scanB (bs)).1)) - (((scanB (bs)).2.1) + 4)) (bc - (((scanB (bs)).2.1) + 4))))] (j := 1) (by kernel_rfl) (by kernel_rfl) ?_
          refine Ops.call (by kernel_rfl) (d := (some 68)) (by kernel_rfl) (Clone_calls _ (Value.slice (if bc = ((scanB (bs)).2.1) + 4 then B else Option.map (fun q => Addr.add q ((((scanB (bs)).2.1) + 4) * 1)) B) (((((scanB (bs)).2.1) + 4) + ((scanB (bs)).1)) - (((scanB (bs)).2.1) + 4)) (bc - (((scanB (bs)).2.1) + 4))) ((bs.drop (((scanB (bs)).2.1) + 4)).take (((((scanB (bs)).2.1) + 4) + ((scanB (bs)).1)) - (((scanB (bs)).2.1) + 4))) F18 (by omega)) ?_
          rintro _ w44 ⟨v43, rfl, K45, hO46⟩
          have O47 := own_base hO46 K0.size
          clear hO46
          refine ⟨_, _, rfl, rfl, ?_⟩
          replace K0 := K0.trans K45 (U := none_) (fun i h1 h2 => h2) (fun i h1 h2 => by exact h2)
          replace F18 := (Rd.keep0 (by omega) F18 K45)
          clear K45
          refine Ops.regs 3 [(2, (Value.slice none 0 0)), (3, (i64 0)), (4, (i64 0)), (68, v43), (69, (i64 ((((scanB (bs)).2.1) + 4 : Nat) : Int))), (71, (i64 (IntKind.i64.wrap ((((scanB (bs)).1 : Nat) : Int)))))] (j := 5) (by kernel_rfl) (by kernel_rfl) ?_
          have e48 : IntKind.i64.wrap ((((scanB (bs)).1 : Nat) : Int)) = (((scanB (bs)).1 : Nat) : Int) := wrap_i64 (by omega) (by omega)
          rw [e48]
          refine Ops.regs 1 [(2, (Value.slice none 0 0)), (3, (i64 0)), (4, (i64 0)), (68, v43), (72, (i64 (IntKind.i64.wrap (((((scanB (bs)).2.1) + 4 : Nat) : Int) + (((scanB (bs)).1 : Nat) : Int)))))] (j := 6) (by kernel_rfl) (by kernel_rfl) ?_
          have e49 : IntKind.i64.wrap (((((scanB (bs)).2.1) + 4 : Nat) : Int) + (((scanB (bs)).1 : Nat) : Int)) = (((((scanB (bs)).2.1) + 4) + ((scanB (bs)).1) : Nat) : Int) := by rw [wrap_i64 (by omega) (by omega)]; omega
          rw [e49]
          clear e49
          refine Ops.regs 3 [(2, v43), (3, (i64 (((((scanB (bs)).2.1) + 4) + ((scanB (bs)).1) : Nat) : Int))), (4, (i64 0))] (j := 9) (by kernel_rfl) (by kernel_rfl) ?_
          refine Ops.done (by kernel_rfl) ?_
          refine q_ret (by kernel_rfl) ?_
          refine ⟨(Value.tuple #[v43, (i64 (((((scanB (bs)).2.1) + 4) + ((scanB (bs)).1) : Nat) : Int)), (i64 0)]), retv_tmp3 rfl rfl rfl rfl, ?_⟩
          have hb0 : byteN bs (scanB (bs)).2.1 = x0.toNat := byteN_at hx0
          have hb1 : byteN bs ((scanB (bs)).2.1 + 1) = x1.toNat := byteN_at hx1
          have hb2 : byteN bs ((scanB (bs)).2.1 + 2) = x2.toNat := byteN_at hx2
          have hb3 : byteN bs ((scanB (bs)).2.1 + 3) = x3.toNat := byteN_at hx3
          have hcr : crcMore 0 ((bs.drop ((scanB bs).2.1 + 4)).take (scanB bs).1) = crcMore 0 ((bs.drop ((scanB bs).2.1 + 4)).take ((scanB bs).2.1 + 4 + (scanB bs).1 - ((scanB bs).2.1 + 4))) := by rw [Nat.add_sub_cancel_left]
          have e : cutB bs = ((bs.drop (((scanB (bs)).2.1) + 4)).take (((((scanB (bs)).2.1) + 4) + ((scanB (bs)).1)) - (((scanB (bs)).2.1) + 4)), (((scanB (bs)).2.1) + 4) + ((scanB (bs)).1), 0) := by unfold cutB; rw [if_neg (by omega), if_neg (by omega), if_neg (by omega), hb0, hb1, hb2, hb3]; first | (rw [if_pos (by unfold le4; omega)]; done) | (rw [if_neg (by unfold le4; omega), Nat.add_sub_cancel_left]; done) | (rw [if_neg (by unfold le4; omega)]; congr 2; omega)
          exact ⟨_, by (rw [e]; try rfl), K0, by rw [e]; exact O47⟩

theorem Unframe_calls (w : World) (B : Option Addr) (bc : Nat) (bs : List UInt8) (hB : RdB w (.slice B bs.length bc) bs) (hbl : bs.length ≤ 140737488351232) : Calls Try.prog 49 ⟨[(Value.slice B bs.length bc)]⟩ w (fun e w' => ∃ v', e = .returned (.tuple #[v', i64 (unframeB bs).2]) ∧ Keeps none_ w w' ∧ OwnB w' w.heap.size 5 v' (unframeB bs).1) := by
  have hbc := hB.slice
  have K0 : Keeps none_ w w := Keeps.refl w
  refine q_calls Try.func49 (by kernel_rfl) (by kernel_rfl) ?_
  refine q_seq (by kernel_rfl) ?_
  refine q_region (by kernel_rfl) ?_
  refine Ops.regs 2 [(0, (Value.slice B bs.length bc)), (2, (Value.slice none 0 0)), (3, (i64 0))] (j := 2) (by kernel_rfl) (by kernel_rfl) ?_
  refine Ops.done (by kernel_rfl) ?_
  refine q_seq (by kernel_rfl) ?_
  refine q_region (by kernel_rfl) ?_
  refine Ops.regs 1 [(0, (Value.slice B bs.length bc)), (2, (Value.slice none 0 0)), (3, (i64 0)), (8, (Value.slice B bs.length bc))] (j := 1) (by kernel_rfl) (by kernel_rfl) ?_
  refine Ops.call (by kernel_rfl) (d := (some 9)) (by kernel_rfl) (cut_calls _ B bc bs (hB.keep0 (by omega) K0) (by first | omega | decide)) ?_
  rintro _ w2 ⟨v1, rfl, K3, hO4⟩
  have O5 := own_base hO4 K0.size
  clear hO4
  refine ⟨_, _, rfl, rfl, ?_⟩
  replace K0 := K0.trans K3 (U := none_) (fun i h1 h2 => h2) (fun i h1 h2 => by exact h2)
  clear K3
  refine Ops.regs 7 [(0, (Value.slice B bs.length bc)), (2, (Value.slice none 0 0)), (3, (i64 0)), (4, v1), (5, (i64 (((cutB bs).2.1 : Nat) : Int))), (6, (i64 ((cutB bs).2.2)))] (j := 9) (by kernel_rfl) (by kernel_rfl) ?_
  refine Ops.done (by kernel_rfl) ?_
  refine q_seq (by kernel_rfl) ?_
  refine q_block (id := 0) (by kernel_rfl) ?_
  refine q_seq (by kernel_rfl) ?_
  refine q_region (by kernel_rfl) ?_
  refine Ops.regs 3 [(0, (Value.slice B bs.length bc)), (2, (Value.slice none 0 0)), (3, (i64 0)), (4, v1), (5, (i64 (((cutB bs).2.1 : Nat) : Int))), (6, (i64 ((cutB bs).2.2))), (16, (Value.bool (decide ((((cutB bs).2.1 : Nat) : Int) > 0))))] (j := 3) (by kernel_rfl) (by kernel_rfl) ?_
  refine Ops.split (decide ((((cutB bs).2.1 : Nat) : Int) > 0)) (fun h6 => ?_) (fun h6 => ?_)
  · rw [h6]
    have p7 : (((cutB bs).2.1 : Nat) : Int) > 0 := of_decide_eq_true h6
    refine Ops.regs 6 [(2, (Value.slice none 0 0)), (3, (i64 0)), (4, v1), (6, (i64 ((cutB bs).2.2))), (13, (Value.bool (decide ((((cutB bs).2.1 : Nat) : Int) < ((bs.length : Nat) : Int)))))] (j := 9) (by kernel_rfl) (by kernel_rfl) ?_
    refine Ops.done (by kernel_rfl) ?_
    refine q_cond (o := .tmp 13) (b := (decide ((((cutB bs).2.1 : Nat) : Int) < ((bs.length : Nat) : Int)))) (by kernel_rfl) rfl (fun h8 => ?_) (fun h8 => ?_)
    · rw [h8]
      have p9 : (((cutB bs).2.1 : Nat) : Int) < ((bs.length : Nat) : Int) := of_decide_eq_true h8
      refine q_seq (by kernel_rfl) ?_
      refine q_region (by kernel_rfl) ?_
      refine Ops.regs 2 [(2, (Value.slice none 0 0)), (3, (i64 11)), (4, v1), (6, (i64 ((cutB bs).2.2)))] (j := 2) (by kernel_rfl) (by kernel_rfl) ?_
      refine Ops.done (by kernel_rfl) ?_
      refine q_ret (by kernel_rfl) ?_
      refine ⟨(Value.tuple #[(Value.slice none 0 0), (i64 11)]), retv_tmp2 rfl rfl rfl, ?_⟩
      have e : unframeB bs = ([], 11) := by unfold unframeB; first | (rw [if_pos (by omega)]; done) | (rw [if_neg (by omega), if_pos (by omega)]; done) | (rw [if_neg (by omega), if_neg (by omega)]; done)
      exact ⟨_, by (rw [e]; try rfl), K0, by rw [e]; exact (World.ownsRow_nil _ _ _ _)⟩
    · rw [h8]
      have p10 : ¬ ((((cutB bs).2.1 : Nat) : Int) < ((bs.length : Nat) : Int)) := of_decide_eq_false h8
      refine q_seq (by kernel_rfl) ?_
      refine q_region (by kernel_rfl) ?_
      refine Ops.regs 3 [(2, (Value.slice none 0 0)), (3, (i64 0)), (4, v1), (6, (i64 ((cutB bs).2.2))), (22, (Value.bool (((cutB bs).2.2) != 0)))] (j := 3) (by kernel_rfl) (by kernel_rfl) ?_
      refine Ops.done (by kernel_rfl) ?_
      refine q_cond (o := .tmp 22) (b := (((cutB bs).2.2) != 0)) (by kernel_rfl) rfl (fun h11 => ?_) (fun h11 => ?_)
      · rw [h11]
        have p12 : ¬ ((cutB bs).2.2 = 0) := of_bne_t h11
        refine q_seq (by kernel_rfl) ?_
        refine q_region (by kernel_rfl) ?_
        refine Ops.regs 3 [(2, (Value.slice none 0 0)), (3, (i64 ((cutB bs).2.2))), (4, v1)] (j := 3) (by kernel_rfl) (by kernel_rfl) ?_
        refine Ops.done (by kernel_rfl) ?_
        refine q_ret (by kernel_rfl) ?_
        refine ⟨(Value.tuple #[(Value.slice none 0 0), (i64 ((cutB bs).2.2))]), retv_tmp2 rfl rfl rfl, ?_⟩
        have e : unframeB bs = ([], (cutB bs).2.2) := by unfold unframeB; first | (rw [if_pos (by omega)]; done) | (rw [if_neg (by omega), if_pos (by omega)]; done) | (rw [if_neg (by omega), if_neg (by omega)]; done)
        exact ⟨_, by (rw [e]; try rfl), K0, by rw [e]; exact (World.ownsRow_nil _ _ _ _)⟩
      · rw [h11]
        have p13 : (cutB bs).2.2 = 0 := of_bne_f h11
        refine q_skip (by kernel_rfl) ?_
        refine q_seq (by kernel_rfl) ?_
        refine q_region (by kernel_rfl) ?_
        refine Ops.regs 3 [(2, v1), (3, (i64 0))] (j := 3) (by kernel_rfl) (by kernel_rfl) ?_
        refine Ops.done (by kernel_rfl) ?_
        refine q_ret (by kernel_rfl) ?_
        refine ⟨(Value.tuple #[v1, (i64 0)]), retv_tmp2 rfl rfl rfl, ?_⟩
        have e : unframeB bs = ((cutB bs).1, 0) := by unfold unframeB; first | (rw [if_pos (by omega)]; done) | (rw [if_neg (by omega), if_pos (by omega)]; done) | (rw [if_neg (by omega), if_neg (by omega)]; done)
        exact ⟨_, by (rw [e]; try rfl), K0, by rw [e]; exact O5⟩
  · rw [h6]
    have p14 : ¬ ((((cutB bs).2.1 : Nat) : Int) > 0) := of_decide_eq_false h6
    refine Ops.regs 6 [(2, (Value.slice none 0 0)), (3, (i64 0)), (4, v1), (6, (i64 ((cutB bs).2.2))), (13, (Value.bool false))] (j := 9) (by kernel_rfl) (by kernel_rfl) ?_
    refine Ops.done (by kernel_rfl) ?_
    refine q_else (o := .tmp 13) (by kernel_rfl) rfl ?_
    refine q_seq (by kernel_rfl) ?_
    refine q_region (by kernel_rfl) ?_
    refine Ops.regs 3 [(2, (Value.slice none 0 0)), (3, (i64 0)), (4, v1), (6, (i64 ((cutB bs).2.2))), (22, (Value.bool (((cutB bs).2.2) != 0)))] (j := 3) (by kernel_rfl) (by kernel_rfl) ?_
    refine Ops.done (by kernel_rfl) ?_
    refine q_cond (o := .tmp 22) (b := (((cutB bs).2.2) != 0)) (by kernel_rfl) rfl (fun h15 => ?_) (fun h15 => ?_)
    · rw [h15]
      have p16 : ¬ ((cutB bs).2.2 = 0) := of_bne_t h15
      refine q_seq (by kernel_rfl) ?_
      refine q_region (by kernel_rfl) ?_
      refine Ops.regs 3 [(2, (Value.slice none 0 0)), (3, (i64 ((cutB bs).2.2))), (4, v1)] (j := 3) (by kernel_rfl) (by kernel_rfl) ?_
      refine Ops.done (by kernel_rfl) ?_
      refine q_ret (by kernel_rfl) ?_
      refine ⟨(Value.tuple #[(Value.slice none 0 0), (i64 ((cutB bs).2.2))]), retv_tmp2 rfl rfl rfl, ?_⟩
      have e : unframeB bs = ([], (cutB bs).2.2) := by unfold unframeB; first | (rw [if_pos (by omega)]; done) | (rw [if_neg (by omega), if_pos (by omega)]; done) | (rw [if_neg (by omega), if_neg (by omega)]; done)
      exact ⟨_, by (rw [e]; try rfl), K0, by rw [e]; exact (World.ownsRow_nil _ _ _ _)⟩
    · rw [h15]
      have p17 : (cutB bs).2.2 = 0 := of_bne_f h15
      refine q_skip (by kernel_rfl) ?_
      refine q_seq (by kernel_rfl) ?_
      refine q_region (by kernel_rfl) ?_
      refine Ops.regs 3 [(2, v1), (3, (i64 0))] (j := 3) (by kernel_rfl) (by kernel_rfl) ?_
      refine Ops.done (by kernel_rfl) ?_
      refine q_ret (by kernel_rfl) ?_
      refine ⟨(Value.tuple #[v1, (i64 0)]), retv_tmp2 rfl rfl rfl, ?_⟩
      have e : unframeB bs = ((cutB bs).1, 0) := by unfold unframeB; first | (rw [if_pos (by omega)]; done) | (rw [if_neg (by omega), if_pos (by omega)]; done) | (rw [if_neg (by omega), if_neg (by omega)]; done)
      exact ⟨_, by (rw [e]; try rfl), K0, by rw [e]; exact O5⟩
end Go.Proofs.Ytnepjfnkaigakaa
