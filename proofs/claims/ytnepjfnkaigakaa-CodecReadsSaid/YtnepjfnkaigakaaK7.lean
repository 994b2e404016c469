/- codec: the reference's readers -/
import Derived.Test.YtnepjfnkaigakaaProg
import Derived.Test.YtnepjfnkaigakaaK5
set_option linter.unusedVariables false
namespace Go.Proofs.Ytnepjfnkaigakaa
open Go.Q Go.RowKit

theorem RRUint_calls (w : World) (b : Nat) (A : Option Addr) (c : Nat) (r : Rdr) (hok : r.Ok) (H0 : Has w b (rowL (rdrL A c r) 72)) (hR : RdO w A c r.bs) (hne : ∀ g o s, A = some ⟨g, o, s⟩ → g ≠ b) : Calls Try.prog 68 ⟨[(Value.pointer (some ⟨b, 0, none⟩))]⟩ w (fun e w' => e = .returned (.int .u64 ((r.uint.1 : Nat) : Int)) ∧ Keeps (fun i => i = b) w w' ∧ Has w' b (rowL (rdrL A c r.uint.2) 72)) := by
  have hR0 := hR
  have hpos := hok.pos
  have hlen := hok.len
  have hsc := r.scan_le
  have hdl : (r.bs.drop r.pos).length = r.bs.length - r.pos := List.length_drop
  have hcap := hR.1.slice
  have Hb := H0.lt
  have K0 : Keeps (fun i => i = b) w w := (Keeps.refl w).mono (fun _ _ h => h.elim)
  refine q_calls Try.func68 (by kernel_rfl) (by kernel_rfl) ?_
  refine q_seq (by kernel_rfl) ?_
  refine q_region (by kernel_rfl) ?_
  refine Ops.regs 1 [(0, (Value.pointer (some ⟨b, 0, none⟩))), (2, (Value.int IntKind.u64 0))] (j := 1) (by kernel_rfl) (by kernel_rfl) ?_
  refine Ops.done (by kernel_rfl) ?_
  refine q_seq (by kernel_rfl) ?_
  refine q_seq (by kernel_rfl) ?_
  refine q_region (by kernel_rfl) ?_
  refine Ops.regs 3 [(0, (Value.pointer (some ⟨b, 0, none⟩))), (2, (Value.int IntKind.u64 0)), (8, (Value.pointer (some ⟨b, 2, none⟩)))] (j := 3) (by kernel_rfl) (by kernel_rfl) ?_
  refine Ops.go (v := (i64 r.why)) (by kernel_rfl) (Runs.load (t := 28) (a := ⟨b, 2, none⟩) (by kernel_rfl) (H0.loads (by kernel_rfl))) (d := (some 9)) (by kernel_rfl) rfl ?_
  refine Ops.regs 1 [(0, (Value.pointer (some ⟨b, 0, none⟩))), (2, (Value.int IntKind.u64 0)), (10, (Value.bool (r.why != 0)))] (j := 5) (by kernel_rfl) (by kernel_rfl) ?_
  refine Ops.done (by kernel_rfl) ?_
  refine q_cond (o := .tmp 10) (b := (r.why != 0)) (by kernel_rfl) rfl (fun h1 => ?_) (fun h1 => ?_)
  · rw [h1]
    have p2 : ¬ (r.why = 0) := of_bne_t h1
    refine q_seq (by kernel_rfl) ?_
    refine q_region (by kernel_rfl) ?_
    refine Ops.regs 1 [(0, (Value.pointer (some ⟨b, 0, none⟩))), (2, (Value.int IntKind.u64 0))] (j := 1) (by kernel_rfl) (by kernel_rfl) ?_
    refine Ops.done (by kernel_rfl) ?_
    refine q_ret (by kernel_rfl) ?_
    refine ⟨(Value.int IntKind.u64 0), retv_tmp rfl rfl, ?_⟩
    have e := uint_stay (r := r) (by omega)
    exact ⟨by first | (rw [e]; done) | (rw [e]; rfl), K0, by rw [e]; exact H0⟩
  · rw [h1]
    have p3 : r.why = 0 := of_bne_f h1
    refine q_skip (by kernel_rfl) ?_
    refine q_seq (by kernel_rfl) ?_
    refine q_region (by kernel_rfl) ?_
    refine Ops.regs 1 [(0, (Value.pointer (some ⟨b, 0, none⟩))), (2, (Value.int IntKind.u64 0)), (3, (Value.int IntKind.u64 0))] (j := 1) (by kernel_rfl) (by kernel_rfl) ?_
    refine Ops.done (by kernel_rfl) ?_
    refine q_seq (by kernel_rfl) ?_
    refine q_seq (by kernel_rfl) ?_
    refine q_region (by kernel_rfl) ?_
    refine Ops.regs 1 [(0, (Value.pointer (some ⟨b, 0, none⟩))), (2, (Value.int IntKind.u64 0)), (3, (Value.int IntKind.u64 0)), (4, (i64 0))] (j := 1) (by kernel_rfl) (by kernel_rfl) ?_
    refine Ops.done (by kernel_rfl) ?_
    refine q_block (id := 0) (by kernel_rfl) ?_
    refine q_keep (R := [(0, (Value.pointer (some ⟨b, 0, none⟩))), (3, (Value.int IntKind.u64 0)), (4, (i64 0))]) (by kernel_rfl) ?_
    refine q_loop (fun (gs : Nat × Nat) L (wx : World) => match gs with | (i, n) => L = [(0, (Value.pointer (some ⟨b, 0, none⟩))), (3, (Value.int IntKind.u64 ((n : Nat) : Int))), (4, (i64 ((i : Nat) : Int)))] ∧ scanA (r.bs.drop (r.pos + i)) i n = scanB (r.bs.drop r.pos) ∧ i ≤ 9 ∧ r.pos + i ≤ r.bs.length ∧ n < p7 i ∧ Keeps (fun i => i = b) w wx ∧ Has wx b (rowL [(Value.slice A r.bs.length c), (i64 ((r.pos : Nat) : Int)), (i64 r.why)] 72)) (fun (gs : Nat × Nat) => match gs with | (i, n) => 10 - i) (0, 0) (by kernel_rfl) ⟨rfl, rfl, (by omega), (by omega), (p7_pos 0), K0, H0⟩ ?_
    clear H0 hR K0
    rintro ⟨i, n⟩ _ w4 ⟨rfl, hE, hi, hil, hn, K5, H6⟩
    refine q_seq (by kernel_rfl) ?_
    refine q_seq (by kernel_rfl) ?_
    refine q_region (by kernel_rfl) ?_
    refine Ops.regs 2 [(0, (Value.pointer (some ⟨b, 0, none⟩))), (3, (Value.int IntKind.u64 ((n : Nat) : Int))), (4, (i64 ((i : Nat) : Int))), (12, (Value.bool (decide (((i : Nat) : Int) < 10))))] (j := 2) (by kernel_rfl) (by kernel_rfl) ?_
    refine Ops.done (by kernel_rfl) ?_
    have h7 : (decide (((i : Nat) : Int) < 10)) = true := decide_eq_true (by omega)
    rw [h7]
    refine q_then (o := .tmp 12) (by kernel_rfl) rfl ?_
    refine q_skip (by kernel_rfl) ?_
    refine q_seq (by kernel_rfl) ?_
    refine q_block (id := 1) (by kernel_rfl) ?_
    refine q_seq (by kernel_rfl) ?_
    refine q_seq (by kernel_rfl) ?_
    refine q_draw (fun wz => Keeps none_ w4 wz) 12 (by kernel_rfl) (by kernel_rfl) (by kernel_rfl) (fun w8 K9 _ _ => ⟨K9, ?_⟩)
    have K10 := K5.trans K9 (U := (fun i => i = b)) (fun i h1 h2 => h2) (fun i h1 h2 => by exact h2.elim)
    clear K5
    have H11 := H6.keep K9 (fun h => h)
    clear H6
    refine Dr.strong (S' := (fun wz => Keeps none_ w8 wz)) (Keeps.refl w8) (fun wz hx => K9.trans hx (fun i _ h => h) (fun _ _ h => h)) ?_
    clear K9
    refine Dr.takes (fuel' := 9) (is' := [2, 1, 0]) [0, 1, 2] [(0, (Value.pointer (some ⟨b, 0, none⟩))), (3, (Value.int IntKind.u64 ((n : Nat) : Int))), (4, (i64 ((i : Nat) : Int))), (12, (Value.bool true)), (17, (Value.pointer (some ⟨b, 1, none⟩)))] (by kernel_rfl) rfl (by kernel_rfl) ?_
    refine Dr.take (i := 3) (v := (i64 ((r.pos : Nat) : Int))) (by kernel_rfl) (by kernel_rfl) (fun wz hS => Runs.load (t := 3) (a := ⟨b, 1, none⟩) (by kernel_rfl) ((H11.keep hS (fun h => h)).loads (by kernel_rfl))) (d := (some 18)) (by kernel_rfl) rfl ?_
    refine Dr.takes (fuel' := 6) (is' := [5, 4, 3, 2, 1, 0]) [4, 5] [(0, (Value.pointer (some ⟨b, 0, none⟩))), (3, (Value.int IntKind.u64 ((n : Nat) : Int))), (4, (i64 ((i : Nat) : Int))), (12, (Value.bool true)), (20, (i64 (IntKind.i64.wrap (((r.pos : Nat) : Int) + ((i : Nat) : Int)))))] (by kernel_rfl) rfl (by kernel_rfl) ?_
    have e12 : IntKind.i64.wrap (((r.pos : Nat) : Int) + ((i : Nat) : Int)) = ((r.pos + i : Nat) : Int) := by rw [wrap_i64 (by omega) (by omega)]; omega
    rw [e12]
    clear e12
    refine Dr.takes (fuel' := 3) (is' := [8, 7, 6, 5, 4, 3, 2, 1, 0]) [6, 7, 8] [(0, (Value.pointer (some ⟨b, 0, none⟩))), (3, (Value.int IntKind.u64 ((n : Nat) : Int))), (4, (i64 ((i : Nat) : Int))), (12, (Value.bool true)), (20, (i64 ((r.pos + i : Nat) : Int))), (23, (Value.pointer (some ⟨b, 0, none⟩)))] (by kernel_rfl) rfl (by kernel_rfl) ?_
    refine Dr.take (i := 9) (v := (Value.slice A r.bs.length c)) (by kernel_rfl) (by kernel_rfl) (fun wz hS => Runs.load (t := 23) (a := ⟨b, 0, none⟩) (by kernel_rfl) ((H11.keep hS (fun h => h)).loads (by kernel_rfl))) (d := (some 24)) (by kernel_rfl) rfl ?_
    refine Dr.takes (fuel' := 0) (is' := [11, 10, 9, 8, 7, 6, 5, 4, 3, 2, 1, 0]) [10, 11] [(0, (Value.pointer (some ⟨b, 0, none⟩))), (3, (Value.int IntKind.u64 ((n : Nat) : Int))), (4, (i64 ((i : Nat) : Int))), (12, (Value.bool true)), (26, (Value.bool (decide (((r.pos + i : Nat) : Int) ≥ ((r.bs.length : Nat) : Int)))))] (by kernel_rfl) rfl (by kernel_rfl) ?_
    refine Dr.done (by kernel_rfl) ?_
    refine q_cond (o := .tmp 26) (b := (decide (((r.pos + i : Nat) : Int) ≥ ((r.bs.length : Nat) : Int)))) (by kernel_rfl) rfl (fun h13 => ?_) (fun h13 => ?_)
    · rw [h13]
      have p14 : ((r.pos + i : Nat) : Int) ≥ ((r.bs.length : Nat) : Int) := of_decide_eq_true h13
      refine q_seq (by kernel_rfl) ?_
      refine q_region (by kernel_rfl) ?_
      refine Ops.regs 3 [(0, (Value.pointer (some ⟨b, 0, none⟩))), (3, (Value.int IntKind.u64 ((n : Nat) : Int))), (4, (i64 ((i : Nat) : Int))), (12, (Value.bool true)), (26, (Value.bool true)), (29, (Value.pointer (some ⟨b, 2, none⟩)))] (j := 3) (by kernel_rfl) (by kernel_rfl) ?_
      refine Ops.put (t := 28) (b := b) (off := 2) (v := (i64 10)) (ys := [(Value.slice A r.bs.length c), (i64 ((r.pos : Nat) : Int)), (i64 10)]) (by kernel_rfl) (by kernel_rfl) H11 (by kernel_rfl) (d := none) (by kernel_rfl) rfl (fun w15 H16 K17 => ?_)
      clear H11
      have K18 := K10.trans K17 (U := (fun i => i = b)) (fun i h1 h2 => h2) (fun i h1 h2 => by have h2 : i = b := h2; show i = b; omega)
      clear K10
      clear K17
      refine Ops.done (by kernel_rfl) ?_
      refine q_seq (by kernel_rfl) ?_
      refine q_region (by kernel_rfl) ?_
      refine Ops.regs 1 [(0, (Value.pointer (some ⟨b, 0, none⟩))), (2, (Value.int IntKind.u64 0)), (3, (Value.int IntKind.u64 ((n : Nat) : Int))), (4, (i64 ((i : Nat) : Int))), (12, (Value.bool true)), (26, (Value.bool true))] (j := 1) (by kernel_rfl) (by kernel_rfl) ?_
      refine Ops.done (by kernel_rfl) ?_
      refine q_ret (by kernel_rfl) ?_
      refine ⟨(Value.int IntKind.u64 0), retv_tmp rfl rfl, ?_⟩
      have es : scanB (r.bs.drop r.pos) = (n, 0, 10) := by rw [← hE, List.drop_eq_nil_of_le (by omega)]; rfl
      have e := uint_bad (by omega) es (by decide)
      exact ⟨by first | (rw [e]; done) | (rw [e]; rfl), K18, by rw [e]; exact H16⟩
    · rw [h13]
      have p19 : ¬ (((r.pos + i : Nat) : Int) ≥ ((r.bs.length : Nat) : Int)) := of_decide_eq_false h13
      obtain ⟨x, lb, lo, hx, hA, hLd⟩ := RdB.at (P := Try.prog) (t := 5) hR0.1 (k := r.pos + i) (by kernel_rfl) (by omega)
      have hx256 : x.toNat < 256 := x.toNat_lt
      have hlb : lb ≠ b := hne _ _ _ hA
      refine q_skip (by kernel_rfl) ?_
      refine q_seq (by kernel_rfl) ?_
      refine q_draw (fun wz => Keeps none_ w8 wz) 13 (by kernel_rfl) (by kernel_rfl) (by kernel_rfl) (fun w20 K21 _ _ => ⟨K21, ?_⟩)
      have K22 := K10.trans K21 (U := (fun i => i = b)) (fun i h1 h2 => h2) (fun i h1 h2 => by exact h2.elim)
      clear K10
      have H23 := H11.keep K21 (fun h => h)
      clear H11
      refine Dr.strong (S' := (fun wz => Keeps none_ w20 wz)) (Keeps.refl w20) (fun wz hx => K21.trans hx (fun i _ h => h) (fun _ _ h => h)) ?_
      clear K21
      refine Dr.takes (fuel' := 10) (is' := [2, 1, 0]) [0, 1, 2] [(0, (Value.pointer (some ⟨b, 0, none⟩))), (3, (Value.int IntKind.u64 ((n : Nat) : Int))), (4, (i64 ((i : Nat) : Int))), (12, (Value.bool true)), (26, (Value.bool false)), (32, (Value.pointer (some ⟨b, 0, none⟩)))] (by kernel_rfl) rfl (by kernel_rfl) ?_
      refine Dr.take (i := 3) (v := (Value.slice A r.bs.length c)) (by kernel_rfl) (by kernel_rfl) (fun wz hS => Runs.load (t := 23) (a := ⟨b, 0, none⟩) (by kernel_rfl) ((H23.keep hS (fun h => h)).loads (by kernel_rfl))) (d := (some 33)) (by kernel_rfl) rfl ?_
      refine Dr.takes (fuel' := 6) (is' := [6, 5, 4, 3, 2, 1, 0]) [4, 5, 6] [(0, (Value.pointer (some ⟨b, 0, none⟩))), (3, (Value.int IntKind.u64 ((n : Nat) : Int))), (4, (i64 ((i : Nat) : Int))), (12, (Value.bool true)), (26, (Value.bool false)), (33, (Value.slice A r.bs.length c)), (36, (Value.pointer (some ⟨b, 1, none⟩)))] (by kernel_rfl) rfl (by kernel_rfl) ?_
      refine Dr.take (i := 7) (v := (i64 ((r.pos : Nat) : Int))) (by kernel_rfl) (by kernel_rfl) (fun wz hS => Runs.load (t := 3) (a := ⟨b, 1, none⟩) (by kernel_rfl) ((H23.keep hS (fun h => h)).loads (by kernel_rfl))) (d := (some 37)) (by kernel_rfl) rfl ?_
      refine Dr.takes (fuel' := 3) (is' := [9, 8, 7, 6, 5, 4, 3, 2, 1, 0]) [8, 9] [(0, (Value.pointer (some ⟨b, 0, none⟩))), (3, (Value.int IntKind.u64 ((n : Nat) : Int))), (4, (i64 ((i : Nat) : Int))), (12, (Value.bool true)), (26, (Value.bool false)), (33, (Value.slice A r.bs.length c)), (39, (i64 (IntKind.i64.wrap (((r.pos : Nat) : Int) + ((i : Nat) : Int)))))] (by kernel_rfl) rfl (by kernel_rfl) ?_
      have e24 : IntKind.i64.wrap (((r.pos : Nat) : Int) + ((i : Nat) : Int)) = ((r.pos + i : Nat) : Int) := by rw [wrap_i64 (by omega) (by omega)]; omega
      rw [e24]
      clear e24
      refine Dr.take (i := 10) (v := (Value.pointer (some ⟨lb, lo + (r.pos + i), none⟩))) (by kernel_rfl) (by kernel_rfl) (fun wz hS => Runs.ixSliceE (k := IntKind.i64) (t := 23) (len := r.bs.length) (cap := c) (s := 1) (off' := lo + (r.pos + i)) (i := ((r.pos + i : Nat) : Int)) hA (by kernel_rfl) (by kernel_rfl) (by omega) (by omega) (by omega)) (d := (some 40)) (by kernel_rfl) rfl ?_
      refine Dr.take (i := 11) (v := (Value.int IntKind.u8 ((x.toNat : Nat) : Int))) (by kernel_rfl) (by kernel_rfl) (fun wz hS => Runs.load (t := 5) (a := ⟨lb, lo + (r.pos + i), none⟩) (by kernel_rfl) (hLd _ _ (K22.trans hS (fun _ _ h => h) (fun i h1 h2 => h2.elim)) (fun h => by have h : lb = b := h; omega))) (d := (some 41)) (by kernel_rfl) rfl ?_
      refine Dr.takes (fuel' := 0) (is' := [12, 11, 10, 9, 8, 7, 6, 5, 4, 3, 2, 1, 0]) [12] [(0, (Value.pointer (some ⟨b, 0, none⟩))), (3, (Value.int IntKind.u64 ((n : Nat) : Int))), (4, (i64 ((i : Nat) : Int))), (5, (Value.int IntKind.u8 ((x.toNat : Nat) : Int))), (12, (Value.bool true)), (26, (Value.bool false))] (by kernel_rfl) rfl (by kernel_rfl) ?_
      refine Dr.done (by kernel_rfl) ?_
      refine q_seq (by kernel_rfl) ?_
      refine q_seq (by kernel_rfl) ?_
      refine q_region (by kernel_rfl) ?_
      refine Ops.regs 3 [(0, (Value.pointer (some ⟨b, 0, none⟩))), (3, (Value.int IntKind.u64 ((n : Nat) : Int))), (4, (i64 ((i : Nat) : Int))), (5, (Value.int IntKind.u8 ((x.toNat : Nat) : Int))), (12, (Value.bool true)), (26, (Value.bool false)), (44, (Value.bool (((i : Nat) : Int) == 9)))] (j := 3) (by kernel_rfl) (by kernel_rfl) ?_
      refine Ops.split (((i : Nat) : Int) == 9) (fun h25 => ?_) (fun h25 => ?_)
      · rw [h25]
        have p26 : ((i : Nat) : Int) = 9 := of_beq_t h25
        refine Ops.regs 4 [(0, (Value.pointer (some ⟨b, 0, none⟩))), (3, (Value.int IntKind.u64 ((n : Nat) : Int))), (4, (i64 ((i : Nat) : Int))), (5, (Value.int IntKind.u8 ((x.toNat : Nat) : Int))), (12, (Value.bool true)), (26, (Value.bool false)), (48, (Value.bool (decide (((x.toNat : Nat) : Int) > 1))))] (j := 7) (by kernel_rfl) (by kernel_rfl) ?_
        refine Ops.split (decide (((x.toNat : Nat) : Int) > 1)) (fun h27 => ?_) (fun h27 => ?_)
        · rw [h27]
          have p28 : ((x.toNat : Nat) : Int) > 1 := of_decide_eq_true h27
          refine Ops.regs 7 [(0, (Value.pointer (some ⟨b, 0, none⟩))), (3, (Value.int IntKind.u64 ((n : Nat) : Int))), (4, (i64 ((i : Nat) : Int))), (5, (Value.int IntKind.u8 ((x.toNat : Nat) : Int))), (12, (Value.bool true)), (26, (Value.bool false)), (55, (Value.bool true))] (j := 14) (by kernel_rfl) (by kernel_rfl) ?_
          refine Ops.done (by kernel_rfl) ?_
          refine q_then (o := .tmp 55) (by kernel_rfl) rfl ?_
          refine q_seq (by kernel_rfl) ?_
          refine q_region (by kernel_rfl) ?_
          refine Ops.regs 3 [(0, (Value.pointer (some ⟨b, 0, none⟩))), (3, (Value.int IntKind.u64 ((n : Nat) : Int))), (4, (i64 ((i : Nat) : Int))), (5, (Value.int IntKind.u8 ((x.toNat : Nat) : Int))), (12, (Value.bool true)), (26, (Value.bool false)), (55, (Value.bool true)), (58, (Value.pointer (some ⟨b, 2, none⟩)))] (j := 3) (by kernel_rfl) (by kernel_rfl) ?_
          refine Ops.put (t := 28) (b := b) (off := 2) (v := (i64 11)) (ys := [(Value.slice A r.bs.length c), (i64 ((r.pos : Nat) : Int)), (i64 11)]) (by kernel_rfl) (by kernel_rfl) H23 (by kernel_rfl) (d := none) (by kernel_rfl) rfl (fun w29 H30 K31 => ?_)
          clear H23
          have K32 := K22.trans K31 (U := (fun i => i = b)) (fun i h1 h2 => h2) (fun i h1 h2 => by have h2 : i = b := h2; show i = b; omega)
          clear K22
          clear K31
          refine Ops.done (by kernel_rfl) ?_
          refine q_seq (by kernel_rfl) ?_
          refine q_region (by kernel_rfl) ?_
          refine Ops.regs 1 [(0, (Value.pointer (some ⟨b, 0, none⟩))), (2, (Value.int IntKind.u64 0)), (3, (Value.int IntKind.u64 ((n : Nat) : Int))), (4, (i64 ((i : Nat) : Int))), (5, (Value.int IntKind.u8 ((x.toNat : Nat) : Int))), (12, (Value.bool true)), (26, (Value.bool false)), (55, (Value.bool true))] (j := 1) (by kernel_rfl) (by kernel_rfl) ?_
          refine Ops.done (by kernel_rfl) ?_
          refine q_ret (by kernel_rfl) ?_
          refine ⟨(Value.int IntKind.u64 0), retv_tmp rfl rfl, ?_⟩
          have es : scanB (r.bs.drop r.pos) = (n, 0, 11) := by rw [← hE, hx, scanA_bad (by omega)]
          have e := uint_bad (by omega) es (by decide)
          exact ⟨by first | (rw [e]; done) | (rw [e]; rfl), K32, by rw [e]; exact H30⟩
        · rw [h27]
          have p33 : ¬ (((x.toNat : Nat) : Int) > 1) := of_decide_eq_false h27
          refine Ops.regs 3 [(0, (Value.pointer (some ⟨b, 0, none⟩))), (3, (Value.int IntKind.u64 ((n : Nat) : Int))), (4, (i64 ((i : Nat) : Int))), (5, (Value.int IntKind.u8 ((x.toNat : Nat) : Int))), (12, (Value.bool true)), (26, (Value.bool false)), (48, (Value.bool false)), (51, (Value.bool (decide (((i : Nat) : Int) > 0))))] (j := 10) (by kernel_rfl) (by kernel_rfl) ?_
          refine Ops.split (decide (((i : Nat) : Int) > 0)) (fun h34 => ?_) (fun h34 => ?_)
          · rw [h34]
            have p35 : ((i : Nat) : Int) > 0 := of_decide_eq_true h34
            refine Ops.regs 4 [(0, (Value.pointer (some ⟨b, 0, none⟩))), (3, (Value.int IntKind.u64 ((n : Nat) : Int))), (4, (i64 ((i : Nat) : Int))), (5, (Value.int IntKind.u8 ((x.toNat : Nat) : Int))), (12, (Value.bool true)), (26, (Value.bool false)), (55, (Value.bool (((x.toNat : Nat) : Int) == 0)))] (j := 14) (by kernel_rfl) (by kernel_rfl) ?_
            refine Ops.done (by kernel_rfl) ?_
            refine q_cond (o := .tmp 55) (b := (((x.toNat : Nat) : Int) == 0)) (by kernel_rfl) rfl (fun h36 => ?_) (fun h36 => ?_)
            · rw [h36]
              have p37 : ((x.toNat : Nat) : Int) = 0 := of_beq_t h36
              refine q_seq (by kernel_rfl) ?_
              refine q_region (by kernel_rfl) ?_
              refine Ops.regs 3 [(0, (Value.pointer (some ⟨b, 0, none⟩))), (3, (Value.int IntKind.u64 ((n : Nat) : Int))), (4, (i64 ((i : Nat) : Int))), (5, (Value.int IntKind.u8 ((x.toNat : Nat) : Int))), (12, (Value.bool true)), (26, (Value.bool false)), (55, (Value.bool true)), (58, (Value.pointer (some ⟨b, 2, none⟩)))] (j := 3) (by kernel_rfl) (by kernel_rfl) ?_
              refine Ops.put (t := 28) (b := b) (off := 2) (v := (i64 11)) (ys := [(Value.slice A r.bs.length c), (i64 ((r.pos : Nat) : Int)), (i64 11)]) (by kernel_rfl) (by kernel_rfl) H23 (by kernel_rfl) (d := none) (by kernel_rfl) rfl (fun w38 H39 K40 => ?_)
              clear H23
              have K41 := K22.trans K40 (U := (fun i => i = b)) (fun i h1 h2 => h2) (fun i h1 h2 => by have h2 : i = b := h2; show i = b; omega)
              clear K22
              clear K40
              refine Ops.done (by kernel_rfl) ?_
              refine q_seq (by kernel_rfl) ?_
              refine q_region (by kernel_rfl) ?_
              refine Ops.regs 1 [(0, (Value.pointer (some ⟨b, 0, none⟩))), (2, (Value.int IntKind.u64 0)), (3, (Value.int IntKind.u64 ((n : Nat) : Int))), (4, (i64 ((i : Nat) : Int))), (5, (Value.int IntKind.u8 ((x.toNat : Nat) : Int))), (12, (Value.bool true)), (26, (Value.bool false)), (55, (Value.bool true))] (j := 1) (by kernel_rfl) (by kernel_rfl) ?_
              refine Ops.done (by kernel_rfl) ?_
              refine q_ret (by kernel_rfl) ?_
              refine ⟨(Value.int IntKind.u64 0), retv_tmp rfl rfl, ?_⟩
              have es : scanB (r.bs.drop r.pos) = (n, 0, 11) := by rw [← hE, hx, scanA_bad (by omega)]
              have e := uint_bad (by omega) es (by decide)
              exact ⟨by first | (rw [e]; done) | (rw [e]; rfl), K41, by rw [e]; exact H39⟩
            · rw [h36]
              have p42 : ¬ (((x.toNat : Nat) : Int) = 0) := of_beq_f h36
              refine q_skip (by kernel_rfl) ?_
              refine q_seq (by kernel_rfl) ?_
              refine q_region (by kernel_rfl) ?_
              refine Ops.regs 3 [(0, (Value.pointer (some ⟨b, 0, none⟩))), (3, (Value.int IntKind.u64 ((n : Nat) : Int))), (4, (i64 ((i : Nat) : Int))), (5, (Value.int IntKind.u8 ((x.toNat : Nat) : Int))), (12, (Value.bool true)), (26, (Value.bool false)), (55, (Value.bool false)), (59, (Value.int IntKind.u64 ((n : Nat) : Int))), (61, (Value.int IntKind.u8 ((((x.toNat : Nat) : Int)).tmod 128)))] (j := 3) (by kernel_rfl) (by kernel_rfl) ?_
              have e43 : (((x.toNat : Nat) : Int)).tmod 128 = ((x.toNat % 128 : Nat) : Int) := tmod_nat x.toNat 128
              rw [e43]
              clear e43
              refine Ops.regs 1 [(0, (Value.pointer (some ⟨b, 0, none⟩))), (3, (Value.int IntKind.u64 ((n : Nat) : Int))), (4, (i64 ((i : Nat) : Int))), (5, (Value.int IntKind.u8 ((x.toNat : Nat) : Int))), (12, (Value.bool true)), (26, (Value.bool false)), (55, (Value.bool false)), (59, (Value.int IntKind.u64 ((n : Nat) : Int))), (62, (Value.int IntKind.u64 (IntKind.u64.wrap (((x.toNat % 128 : Nat) : Int)))))] (j := 4) (by kernel_rfl) (by kernel_rfl) ?_
              have e44 : IntKind.u64.wrap (((x.toNat % 128 : Nat) : Int)) = ((x.toNat % 128 : Nat) : Int) := wrap_u64 (by omega) (by omega)
              rw [e44]
              refine Ops.regs 2 [(0, (Value.pointer (some ⟨b, 0, none⟩))), (3, (Value.int IntKind.u64 ((n : Nat) : Int))), (4, (i64 ((i : Nat) : Int))), (5, (Value.int IntKind.u8 ((x.toNat : Nat) : Int))), (12, (Value.bool true)), (26, (Value.bool false)), (55, (Value.bool false)), (59, (Value.int IntKind.u64 ((n : Nat) : Int))), (62, (Value.int IntKind.u64 ((x.toNat % 128 : Nat) : Int))), (64, (i64 (IntKind.i64.wrap (7 * ((i : Nat) : Int)))))] (j := 6) (by kernel_rfl) (by kernel_rfl) ?_
              have e45 : IntKind.i64.wrap (7 * ((i : Nat) : Int)) = ((7 * i : Nat) : Int) := by rw [wrap_i64 (by omega) (by omega)]; omega
              rw [e45]
              clear e45
              refine Ops.regs 1 [(0, (Value.pointer (some ⟨b, 0, none⟩))), (3, (Value.int IntKind.u64 ((n : Nat) : Int))), (4, (i64 ((i : Nat) : Int))), (5, (Value.int IntKind.u8 ((x.toNat : Nat) : Int))), (12, (Value.bool true)), (26, (Value.bool false)), (55, (Value.bool false)), (59, (Value.int IntKind.u64 ((n : Nat) : Int))), (62, (Value.int IntKind.u64 ((x.toNat % 128 : Nat) : Int))), (65, (Value.int IntKind.u64 (IntKind.u64.wrap (((7 * i : Nat) : Int)))))] (j := 7) (by kernel_rfl) (by kernel_rfl) ?_
              have e46 : IntKind.u64.wrap (((7 * i : Nat) : Int)) = ((7 * i : Nat) : Int) := wrap_u64 (by omega) (by omega)
              rw [e46]
              have hr := scan_round (c := x) hi hn (by omega)
              refine Ops.go (v := (Value.int IntKind.u64 ((x.toNat % 128 * p7 i : Nat) : Int))) (by kernel_rfl) (Runs.int (op := .shl) (t := 22) (by kernel_rfl) (run_shl7 (k := IntKind.u64) (i := i) (s := ((7 * i : Nat) : Int)) (by omega) (by omega) hr.1)) (d := (some 66)) (by kernel_rfl) rfl ?_
              refine Ops.go (v := (Value.int IntKind.u64 ((n + x.toNat % 128 * p7 i : Nat) : Int))) (by kernel_rfl) (Runs.int (op := .or) (t := 22) (by kernel_rfl) (run_or7 hn hr.2.1)) (d := (some 67)) (by kernel_rfl) rfl ?_
              refine Ops.regs 1 [(0, (Value.pointer (some ⟨b, 0, none⟩))), (3, (Value.int IntKind.u64 ((n + x.toNat % 128 * p7 i : Nat) : Int))), (4, (i64 ((i : Nat) : Int))), (5, (Value.int IntKind.u8 ((x.toNat : Nat) : Int))), (12, (Value.bool true)), (26, (Value.bool false)), (55, (Value.bool false))] (j := 10) (by kernel_rfl) (by kernel_rfl) ?_
              refine Ops.done (by kernel_rfl) ?_
              refine q_seq (by kernel_rfl) ?_
              refine q_region (by kernel_rfl) ?_
              refine Ops.regs 2 [(0, (Value.pointer (some ⟨b, 0, none⟩))), (3, (Value.int IntKind.u64 ((n + x.toNat % 128 * p7 i : Nat) : Int))), (4, (i64 ((i : Nat) : Int))), (5, (Value.int IntKind.u8 ((x.toNat : Nat) : Int))), (12, (Value.bool true)), (26, (Value.bool false)), (55, (Value.bool false)), (69, (Value.bool (decide (((x.toNat : Nat) : Int) < 128))))] (j := 2) (by kernel_rfl) (by kernel_rfl) ?_
              refine Ops.done (by kernel_rfl) ?_
              refine q_cond (o := .tmp 69) (b := (decide (((x.toNat : Nat) : Int) < 128))) (by kernel_rfl) rfl (fun h47 => ?_) (fun h47 => ?_)
              · rw [h47]
                have p48 : ((x.toNat : Nat) : Int) < 128 := of_decide_eq_true h47
                refine q_seq (by kernel_rfl) ?_
                refine q_region (by kernel_rfl) ?_
                refine Ops.regs 4 [(0, (Value.pointer (some ⟨b, 0, none⟩))), (3, (Value.int IntKind.u64 ((n + x.toNat % 128 * p7 i : Nat) : Int))), (4, (i64 ((i : Nat) : Int))), (5, (Value.int IntKind.u8 ((x.toNat : Nat) : Int))), (12, (Value.bool true)), (26, (Value.bool false)), (55, (Value.bool false)), (69, (Value.bool true)), (70, (Value.pointer (some ⟨b, 0, none⟩))), (73, (Value.pointer (some ⟨b, 1, none⟩)))] (j := 4) (by kernel_rfl) (by kernel_rfl) ?_
                refine Ops.go (v := (i64 ((r.pos : Nat) : Int))) (by kernel_rfl) (Runs.load (t := 3) (a := ⟨b, 1, none⟩) (by kernel_rfl) (H23.loads (by kernel_rfl))) (d := (some 74)) (by kernel_rfl) rfl ?_
                refine Ops.regs 2 [(0, (Value.pointer (some ⟨b, 0, none⟩))), (3, (Value.int IntKind.u64 ((n + x.toNat % 128 * p7 i : Nat) : Int))), (4, (i64 ((i : Nat) : Int))), (5, (Value.int IntKind.u8 ((x.toNat : Nat) : Int))), (12, (Value.bool true)), (26, (Value.bool false)), (55, (Value.bool false)), (69, (Value.bool true)), (70, (Value.pointer (some ⟨b, 0, none⟩))), (76, (i64 (IntKind.i64.wrap (((r.pos : Nat) : Int) + ((i : Nat) : Int)))))] (j := 7) (by kernel_rfl) (by kernel_rfl) ?_
                have e49 : IntKind.i64.wrap (((r.pos : Nat) : Int) + ((i : Nat) : Int)) = ((r.pos + i : Nat) : Int) := by rw [wrap_i64 (by omega) (by omega)]; omega
                rw [e49]
                clear e49
                refine Ops.regs 1 [(0, (Value.pointer (some ⟨b, 0, none⟩))), (3, (Value.int IntKind.u64 ((n + x.toNat % 128 * p7 i : Nat) : Int))), (4, (i64 ((i : Nat) : Int))), (5, (Value.int IntKind.u8 ((x.toNat : Nat) : Int))), (12, (Value.bool true)), (26, (Value.bool false)), (55, (Value.bool false)), (69, (Value.bool true)), (70, (Value.pointer (some ⟨b, 0, none⟩))), (77, (i64 (IntKind.i64.wrap (((r.pos + i : Nat) : Int) + 1))))] (j := 8) (by kernel_rfl) (by kernel_rfl) ?_
                have e50 : IntKind.i64.wrap (((r.pos + i : Nat) : Int) + 1) = (((r.pos + i) + 1 : Nat) : Int) := by rw [wrap_i64 (by omega) (by omega)]; omega
                rw [e50]
                clear e50
                refine Ops.regs 2 [(0, (Value.pointer (some ⟨b, 0, none⟩))), (3, (Value.int IntKind.u64 ((n + x.toNat % 128 * p7 i : Nat) : Int))), (4, (i64 ((i : Nat) : Int))), (5, (Value.int IntKind.u8 ((x.toNat : Nat) : Int))), (12, (Value.bool true)), (26, (Value.bool false)), (55, (Value.bool false)), (69, (Value.bool true)), (77, (i64 (((r.pos + i) + 1 : Nat) : Int))), (79, (Value.pointer (some ⟨b, 1, none⟩)))] (j := 10) (by kernel_rfl) (by kernel_rfl) ?_
                refine Ops.put (t := 3) (b := b) (off := 1) (v := (i64 (((r.pos + i) + 1 : Nat) : Int))) (ys := [(Value.slice A r.bs.length c), (i64 (((r.pos + i) + 1 : Nat) : Int)), (i64 r.why)]) (by kernel_rfl) (by kernel_rfl) H23 (by kernel_rfl) (d := none) (by kernel_rfl) rfl (fun w51 H52 K53 => ?_)
                clear H23
                have K54 := K22.trans K53 (U := (fun i => i = b)) (fun i h1 h2 => h2) (fun i h1 h2 => by have h2 : i = b := h2; show i = b; omega)
                clear K22
                clear K53
                refine Ops.done (by kernel_rfl) ?_
                refine q_seq (by kernel_rfl) ?_
                refine q_region (by kernel_rfl) ?_
                refine Ops.regs 2 [(0, (Value.pointer (some ⟨b, 0, none⟩))), (2, (Value.int IntKind.u64 ((n + x.toNat % 128 * p7 i : Nat) : Int))), (3, (Value.int IntKind.u64 ((n + x.toNat % 128 * p7 i : Nat) : Int))), (4, (i64 ((i : Nat) : Int))), (5, (Value.int IntKind.u8 ((x.toNat : Nat) : Int))), (12, (Value.bool true)), (26, (Value.bool false)), (55, (Value.bool false)), (69, (Value.bool true))] (j := 2) (by kernel_rfl) (by kernel_rfl) ?_
                refine Ops.done (by kernel_rfl) ?_
                refine q_ret (by kernel_rfl) ?_
                refine ⟨(Value.int IntKind.u64 ((n + x.toNat % 128 * p7 i : Nat) : Int)), retv_tmp rfl rfl, ?_⟩
                have es : scanB (r.bs.drop r.pos) = (n + x.toNat % 128 * p7 i, i + 1, 0) := by rw [← hE, hx]; exact scanA_end (by omega) (by omega)
                have e := uint_good (by omega) es
                exact ⟨by first | (rw [e]; done) | (rw [e]; rfl), K54, by rw [e]; exact H52⟩
              · rw [h47]
                have p55 : ¬ (((x.toNat : Nat) : Int) < 128) := of_decide_eq_false h47
                refine q_skip (by kernel_rfl) ?_
                refine q_region (by kernel_rfl) ?_
                refine Ops.regs 2 [(0, (Value.pointer (some ⟨b, 0, none⟩))), (3, (Value.int IntKind.u64 ((n + x.toNat % 128 * p7 i : Nat) : Int))), (4, (i64 ((i : Nat) : Int))), (5, (Value.int IntKind.u8 ((x.toNat : Nat) : Int))), (12, (Value.bool true)), (14, (i64 (IntKind.i64.wrap (((i : Nat) : Int) + 1)))), (26, (Value.bool false)), (55, (Value.bool false)), (69, (Value.bool false))] (j := 2) (by kernel_rfl) (by kernel_rfl) ?_
                have e56 : IntKind.i64.wrap (((i : Nat) : Int) + 1) = ((i + 1 : Nat) : Int) := by rw [wrap_i64 (by omega) (by omega)]; omega
                rw [e56]
                clear e56
                refine Ops.regs 1 [(0, (Value.pointer (some ⟨b, 0, none⟩))), (3, (Value.int IntKind.u64 ((n + x.toNat % 128 * p7 i : Nat) : Int))), (4, (i64 ((i + 1 : Nat) : Int))), (5, (Value.int IntKind.u8 ((x.toNat : Nat) : Int))), (12, (Value.bool true)), (26, (Value.bool false)), (55, (Value.bool false)), (69, (Value.bool false))] (j := 3) (by kernel_rfl) (by kernel_rfl) ?_
                refine Ops.keep (R := [(0, (Value.pointer (some ⟨b, 0, none⟩))), (3, (Value.int IntKind.u64 ((n + x.toNat % 128 * p7 i : Nat) : Int))), (4, (i64 ((i + 1 : Nat) : Int)))]) (by kernel_rfl) ?_
                refine Ops.done (by kernel_rfl) ?_
                exact ⟨(i + 1, n + x.toNat % 128 * p7 i), ⟨rfl, ((show scanA (r.bs.drop (r.pos + i)) i n = scanA (r.bs.drop (r.pos + i + 1)) (i + 1) (n + x.toNat % 128 * p7 i) from by rw [hx, scanA_more (by omega) (by omega)]).symm.trans hE), (by omega), (by omega), (hr.2.2 (by omega)), K22, H23⟩, (show 10 - (i + 1) < 10 - i from by omega)⟩
          · rw [h34]
            have p57 : ¬ (((i : Nat) : Int) > 0) := of_decide_eq_false h34
            refine Ops.regs 4 [(0, (Value.pointer (some ⟨b, 0, none⟩))), (3, (Value.int IntKind.u64 ((n : Nat) : Int))), (4, (i64 ((i : Nat) : Int))), (5, (Value.int IntKind.u8 ((x.toNat : Nat) : Int))), (12, (Value.bool true)), (26, (Value.bool false)), (55, (Value.bool false))] (j := 14) (by kernel_rfl) (by kernel_rfl) ?_
            refine Ops.done (by kernel_rfl) ?_
            refine q_else (o := .tmp 55) (by kernel_rfl) rfl ?_
            refine q_skip (by kernel_rfl) ?_
            refine q_seq (by kernel_rfl) ?_
            refine q_region (by kernel_rfl) ?_
            refine Ops.regs 3 [(0, (Value.pointer (some ⟨b, 0, none⟩))), (3, (Value.int IntKind.u64 ((n : Nat) : Int))), (4, (i64 ((i : Nat) : Int))), (5, (Value.int IntKind.u8 ((x.toNat : Nat) : Int))), (12, (Value.bool true)), (26, (Value.bool false)), (55, (Value.bool false)), (59, (Value.int IntKind.u64 ((n : Nat) : Int))), (61, (Value.int IntKind.u8 ((((x.toNat : Nat) : Int)).tmod 128)))] (j := 3) (by kernel_rfl) (by kernel_rfl) ?_
            have e58 : (((x.toNat : Nat) : Int)).tmod 128 = ((x.toNat % 128 : Nat) : Int) := tmod_nat x.toNat 128
            rw [e58]
            clear e58
            refine Ops.regs 1 [(0, (Value.pointer (some ⟨b, 0, none⟩))), (3, (Value.int IntKind.u64 ((n : Nat) : Int))), (4, (i64 ((i : Nat) : Int))), (5, (Value.int IntKind.u8 ((x.toNat : Nat) : Int))), (12, (Value.bool true)), (26, (Value.bool false)), (55, (Value.bool false)), (59, (Value.int IntKind.u64 ((n : Nat) : Int))), (62, (Value.int IntKind.u64 (IntKind.u64.wrap (((x.toNat % 128 : Nat) : Int)))))] (j := 4) (by kernel_rfl) (by kernel_rfl) ?_
            have e59 : IntKind.u64.wrap (((x.toNat % 128 : Nat) : Int)) = ((x.toNat % 128 : Nat) : Int) := wrap_u64 (by omega) (by omega)
            rw [e59]
            refine Ops.regs 2 [(0, (Value.pointer (some ⟨b, 0, none⟩))), (3, (Value.int IntKind.u64 ((n : Nat) : Int))), (4, (i64 ((i : Nat) : Int))), (5, (Value.int IntKind.u8 ((x.toNat : Nat) : Int))), (12, (Value.bool true)), (26, (Value.bool false)), (55, (Value.bool false)), (59, (Value.int IntKind.u64 ((n : Nat) : Int))), (62, (Value.int IntKind.u64 ((x.toNat % 128 : Nat) : Int))), (64, (i64 (IntKind.i64.wrap (7 * ((i : Nat) : Int)))))] (j := 6) (by kernel_rfl) (by kernel_rfl) ?_
            have e60 : IntKind.i64.wrap (7 * ((i : Nat) : Int)) = ((7 * i : Nat) : Int) := by rw [wrap_i64 (by omega) (by omega)]; omega
            rw [e60]
            clear e60
            refine Ops.regs 1 [(0, (Value.pointer (some ⟨b, 0, none⟩))), (3, (Value.int IntKind.u64 ((n : Nat) : Int))), (4, (i64 ((i : Nat) : Int))), (5, (Value.int IntKind.u8 ((x.toNat : Nat) : Int))), (12, (Value.bool true)), (26, (Value.bool false)), (55, (Value.bool false)), (59, (Value.int IntKind.u64 ((n : Nat) : Int))), (62, (Value.int IntKind.u64 ((x.toNat % 128 : Nat) : Int))), (65, (Value.int IntKind.u64 (IntKind.u64.wrap (((7 * i : Nat) : Int)))))] (j := 7) (by kernel_rfl) (by kernel_rfl) ?_
            have e61 : IntKind.u64.wrap (((7 * i : Nat) : Int)) = ((7 * i : Nat) : Int) := wrap_u64 (by omega) (by omega)
            rw [e61]
            have hr := scan_round (c := x) hi hn (by omega)
            refine Ops.go (v := (Value.int IntKind.u64 ((x.toNat % 128 * p7 i : Nat) : Int))) (by kernel_rfl) (Runs.int (op := .shl) (t := 22) (by kernel_rfl) (run_shl7 (k := IntKind.u64) (i := i) (s := ((7 * i : Nat) : Int)) (by omega) (by omega) hr.1)) (d := (some 66)) (by kernel_rfl) rfl ?_
            refine Ops.go (v := (Value.int IntKind.u64 ((n + x.toNat % 128 * p7 i : Nat) : Int))) (by kernel_rfl) (Runs.int (op := .or) (t := 22) (by kernel_rfl) (run_or7 hn hr.2.1)) (d := (some 67)) (by kernel_rfl) rfl ?_
            refine Ops.regs 1 [(0, (Value.pointer (some ⟨b, 0, none⟩))), (3, (Value.int IntKind.u64 ((n + x.toNat % 128 * p7 i : Nat) : Int))), (4, (i64 ((i : Nat) : Int))), (5, (Value.int IntKind.u8 ((x.toNat : Nat) : Int))), (12, (Value.bool true)), (26, (Value.bool false)), (55, (Value.bool false))] (j := 10) (by kernel_rfl) (by kernel_rfl) ?_
            refine Ops.done (by kernel_rfl) ?_
            refine q_seq (by kernel_rfl) ?_
            refine q_region (by kernel_rfl) ?_
            refine Ops.regs 2 [(0, (Value.pointer (some ⟨b, 0, none⟩))), (3, (Value.int IntKind.u64 ((n + x.toNat % 128 * p7 i : Nat) : Int))), (4, (i64 ((i : Nat) : Int))), (5, (Value.int IntKind.u8 ((x.toNat : Nat) : Int))), (12, (Value.bool true)), (26, (Value.bool false)), (55, (Value.bool false)), (69, (Value.bool (decide (((x.toNat : Nat) : Int) < 128))))] (j := 2) (by kernel_rfl) (by kernel_rfl) ?_
            refine Ops.done (by kernel_rfl) ?_
            refine q_cond (o := .tmp 69) (b := (decide (((x.toNat : Nat) : Int) < 128))) (by kernel_rfl) rfl (fun h62 => ?_) (fun h62 => ?_)
            · rw [h62]
              have p63 : ((x.toNat : Nat) : Int) < 128 := of_decide_eq_true h62
              refine q_seq (by kernel_rfl) ?_
              refine q_region (by kernel_rfl) ?_
              refine Ops.regs 4 [(0, (Value.pointer (some ⟨b, 0, none⟩))), (3, (Value.int IntKind.u64 ((n + x.toNat % 128 * p7 i : Nat) : Int))), (4, (i64 ((i : Nat) : Int))), (5, (Value.int IntKind.u8 ((x.toNat : Nat) : Int))), (12, (Value.bool true)), (26, (Value.bool false)), (55, (Value.bool false)), (69, (Value.bool true)), (70, (Value.pointer (some ⟨b, 0, none⟩))), (73, (Value.pointer (some ⟨b, 1, none⟩)))] (j := 4) (by kernel_rfl) (by kernel_rfl) ?_
              refine Ops.go (v := (i64 ((r.pos : Nat) : Int))) (by kernel_rfl) (Runs.load (t := 3) (a := ⟨b, 1, none⟩) (by kernel_rfl) (H23.loads (by kernel_rfl))) (d := (some 74)) (by kernel_rfl) rfl ?_
              refine Ops.regs 2 [(0, (Value.pointer (some ⟨b, 0, none⟩))), (3, (Value.int IntKind.u64 ((n + x.toNat % 128 * p7 i : Nat) : Int))), (4, (i64 ((i : Nat) : Int))), (5, (Value.int IntKind.u8 ((x.toNat : Nat) : Int))), (12, (Value.bool true)), (26, (Value.bool false)), (55, (Value.bool false)), (69, (Value.bool true)), (70, (Value.pointer (some ⟨b, 0, none⟩))), (76, (i64 (IntKind.i64.wrap (((r.pos : Nat) : Int) + ((i : Nat) : Int)))))] (j := 7) (by kernel_rfl) (by kernel_rfl) ?_
              have e64 : IntKind.i64.wrap (((r.pos : Nat) : Int) + ((i : Nat) : Int)) = ((r.pos + i : Nat) : Int) := by rw [wrap_i64 (by omega) (by omega)]; omega
              rw [e64]
              clear e64
              refine Ops.regs 1 [(0, (Value.pointer (some ⟨b, 0, none⟩))), (3, (Value.int IntKind.u64 ((n + x.toNat % 128 * p7 i : Nat) : Int))), (4, (i64 ((i : Nat) : Int))), (5, (Value.int IntKind.u8 ((x.toNat : Nat) : Int))), (12, (Value.bool true)), (26, (Value.bool false)), (55, (Value.bool false)), (69, (Value.bool true)), (70, (Value.pointer (some ⟨b, 0, none⟩))), (77, (i64 (IntKind.i64.wrap (((r.pos + i : Nat) : Int) + 1))))] (j := 8) (by kernel_rfl) (by kernel_rfl) ?_
              have e65 : IntKind.i64.wrap (((r.pos + i : Nat) : Int) + 1) = (((r.pos + i) + 1 : Nat) : Int) := by rw [wrap_i64 (by omega) (by omega)]; omega
              rw [e65]
              clear e65
              refine Ops.regs 2 [(0, (Value.pointer (some ⟨b, 0, none⟩))), (3, (Value.int IntKind.u64 ((n + x.toNat % 128 * p7 i : Nat) : Int))), (4, (i64 ((i : Nat) : Int))), (5, (Value.int IntKind.u8 ((x.toNat : Nat) : Int))), (12, (Value.bool true)), (26, (Value.bool false)), (55, (Value.bool false)), (69, (Value.bool true)), (77, (i64 (((r.pos + i) + 1 : Nat) : Int))), (79, (Value.pointer (some ⟨b, 1, none⟩)))] (j := 10) (by kernel_rfl) (by kernel_rfl) ?_
              refine Ops.put (t := 3) (b := b) (off := 1) (v := (i64 (((r.pos + i) + 1 : Nat) : Int))) (ys := [(Value.slice A r.bs.length c), (i64 (((r.pos + i) + 1 : Nat) : Int)), (i64 r.why)]) (by kernel_rfl) (by kernel_rfl) H23 (by kernel_rfl) (d := none) (by kernel_rfl) rfl (fun w66 H67 K68 => ?_)
              clear H23
              have K69 := K22.trans K68 (U := (fun i => i = b)) (fun i h1 h2 => h2) (fun i h1 h2 => by have h2 : i = b := h2; show i = b; omega)
              clear K22
              clear K68
              refine Ops.done (by kernel_rfl) ?_
              refine q_seq (by kernel_rfl) ?_
              refine q_region (by kernel_rfl) ?_
              refine Ops.regs 2 [(0, (Value.pointer (some ⟨b, 0, none⟩))), (2, (Value.int IntKind.u64 ((n + x.toNat % 128 * p7 i : Nat) : Int))), (3, (Value.int IntKind.u64 ((n + x.toNat % 128 * p7 i : Nat) : Int))), (4, (i64 ((i : Nat) : Int))), (5, (Value.int IntKind.u8 ((x.toNat : Nat) : Int))), (12, (Value.bool true)), (26, (Value.bool false)), (55, (Value.bool false)), (69, (Value.bool true))] (j := 2) (by kernel_rfl) (by kernel_rfl) ?_
              refine Ops.done (by kernel_rfl) ?_
              refine q_ret (by kernel_rfl) ?_
              refine ⟨(Value.int IntKind.u64 ((n + x.toNat % 128 * p7 i : Nat) : Int)), retv_tmp rfl rfl, ?_⟩
              have es : scanB (r.bs.drop r.pos) = (n + x.toNat % 128 * p7 i, i + 1, 0) := by rw [← hE, hx]; exact scanA_end (by omega) (by omega)
              have e := uint_good (by omega) es
              exact ⟨by first | (rw [e]; done) | (rw [e]; rfl), K69, by rw [e]; exact H67⟩
            · rw [h62]
              have p70 : ¬ (((x.toNat : Nat) : Int) < 128) := of_decide_eq_false h62
              refine q_skip (by kernel_rfl) ?_
              refine q_region (by kernel_rfl) ?_
              refine Ops.regs 2 [(0, (Value.pointer (some ⟨b, 0, none⟩))), (3, (Value.int IntKind.u64 ((n + x.toNat % 128 * p7 i : Nat) : Int))), (4, (i64 ((i : Nat) : Int))), (5, (Value.int IntKind.u8 ((x.toNat : Nat) : Int))), (12, (Value.bool true)), (14, (i64 (IntKind.i64.wrap (((i : Nat) : Int) + 1)))), (26, (Value.bool false)), (55, (Value.bool false)), (69, (Value.bool false))] (j := 2) (by kernel_rfl) (by kernel_rfl) ?_
              have e71 : IntKind.i64.wrap (((i : Nat) : Int) + 1) = ((i + 1 : Nat) : Int) := by rw [wrap_i64 (by omega) (by omega)]; omega
              rw [e71]
              clear e71
              refine Ops.regs 1 [(0, (Value.pointer (some ⟨b, 0, none⟩))), (3, (Value.int IntKind.u64 ((n + x.toNat % 128 * p7 i : Nat) : Int))), (4, (i64 ((i + 1 : Nat) : Int))), (5, (Value.int IntKind.u8 ((x.toNat : Nat) : Int))), (12, (Value.bool true)), (26, (Value.bool false)), (55, (Value.bool false)), (69, (Value.bool false))] (j := 3) (by kernel_rfl) (by kernel_rfl) ?_
              refine Ops.keep (R := [(0, (Value.pointer (some ⟨b, 0, none⟩))), (3, (Value.int IntKind.u64 ((n + x.toNat % 128 * p7 i : Nat) : Int))), (4, (i64 ((i + 1 : Nat) : Int)))]) (by kernel_rfl) ?_
              refine Ops.done (by kernel_rfl) ?_
              exact ⟨(i + 1, n + x.toNat % 128 * p7 i), ⟨rfl, ((show scanA (r.bs.drop (r.pos + i)) i n = scanA (r.bs.drop (r.pos + i + 1)) (i + 1) (n + x.toNat % 128 * p7 i) from by rw [hx, scanA_more (by omega) (by omega)]).symm.trans hE), (by omega), (by omega), (hr.2.2 (by omega)), K22, H23⟩, (show 10 - (i + 1) < 10 - i from by omega)⟩
      · rw [h25]
        have p72 : ¬ (((i : Nat) : Int) = 9) := of_beq_f h25
        refine Ops.regs 7 [(0, (Value.pointer (some ⟨b, 0, none⟩))), (3, (Value.int IntKind.u64 ((n : Nat) : Int))), (4, (i64 ((i : Nat) : Int))), (5, (Value.int IntKind.u8 ((x.toNat : Nat) : Int))), (12, (Value.bool true)), (26, (Value.bool false)), (48, (Value.bool false)), (51, (Value.bool (decide (((i : Nat) : Int) > 0))))] (j := 10) (by kernel_rfl) (by kernel_rfl) ?_
        refine Ops.split (decide (((i : Nat) : Int) > 0)) (fun h73 => ?_) (fun h73 => ?_)
        · rw [h73]
          have p74 : ((i : Nat) : Int) > 0 := of_decide_eq_true h73
          refine Ops.regs 4 [(0, (Value.pointer (some ⟨b, 0, none⟩))), (3, (Value.int IntKind.u64 ((n : Nat) : Int))), (4, (i64 ((i : Nat) : Int))), (5, (Value.int IntKind.u8 ((x.toNat : Nat) : Int))), (12, (Value.bool true)), (26, (Value.bool false)), (55, (Value.bool (((x.toNat : Nat) : Int) == 0)))] (j := 14) (by kernel_rfl) (by kernel_rfl) ?_
          refine Ops.done (by kernel_rfl) ?_
          refine q_cond (o := .tmp 55) (b := (((x.toNat : Nat) : Int) == 0)) (by kernel_rfl) rfl (fun h75 => ?_) (fun h75 => ?_)
          · rw [h75]
            have p76 : ((x.toNat : Nat) : Int) = 0 := of_beq_t h75
            refine q_seq (by kernel_rfl) ?_
            refine q_region (by kernel_rfl) ?_
            refine Ops.regs 3 [(0, (Value.pointer (some ⟨b, 0, none⟩))), (3, (Value.int IntKind.u64 ((n : Nat) : Int))), (4, (i64 ((i : Nat) : Int))), (5, (Value.int IntKind.u8 ((x.toNat : Nat) : Int))), (12, (Value.bool true)), (26, (Value.bool false)), (55, (Value.bool true)), (58, (Value.pointer (some ⟨b, 2, none⟩)))] (j := 3) (by kernel_rfl) (by kernel_rfl) ?_
            refine Ops.put (t := 28) (b := b) (off := 2) (v := (i64 11)) (ys := [(Value.slice A r.bs.length c), (i64 ((r.pos : Nat) : Int)), (i64 11)]) (by kernel_rfl) (by kernel_rfl) H23 (by kernel_rfl) (d := none) (by kernel_rfl) rfl (fun w77 H78 K79 => ?_)
            clear H23
            have K80 := K22.trans K79 (U := (fun i => i = b)) (fun i h1 h2 => h2) (fun i h1 h2 => by have h2 : i = b := h2; show i = b; omega)
            clear K22
            clear K79
            refine Ops.done (by kernel_rfl) ?_
            refine q_seq (by kernel_rfl) ?_
            refine q_region (by kernel_rfl) ?_
            refine Ops.regs 1 [(0, (Value.pointer (some ⟨b, 0, none⟩))), (2, (Value.int IntKind.u64 0)), (3, (Value.int IntKind.u64 ((n : Nat) : Int))), (4, (i64 ((i : Nat) : Int))), (5, (Value.int IntKind.u8 ((x.toNat : Nat) : Int))), (12, (Value.bool true)), (26, (Value.bool false)), (55, (Value.bool true))] (j := 1) (by kernel_rfl) (by kernel_rfl) ?_
            refine Ops.done (by kernel_rfl) ?_
            refine q_ret (by kernel_rfl) ?_
            refine ⟨(Value.int IntKind.u64 0), retv_tmp rfl rfl, ?_⟩
            have es : scanB (r.bs.drop r.pos) = (n, 0, 11) := by rw [← hE, hx, scanA_bad (by omega)]
            have e := uint_bad (by omega) es (by decide)
            exact ⟨by first | (rw [e]; done) | (rw [e]; rfl), K80, by rw [e]; exact H78⟩
          · rw [h75]
            have p81 : ¬ (((x.toNat : Nat) : Int) = 0) := of_beq_f h75
            refine q_skip (by kernel_rfl) ?_
            refine q_seq (by kernel_rfl) ?_
            refine q_region (by kernel_rfl) ?_
            refine Ops.regs 3 [(0, (Value.pointer (some ⟨b, 0, none⟩))), (3, (Value.int IntKind.u64 ((n : Nat) : Int))), (4, (i64 ((i : Nat) : Int))), (5, (Value.int IntKind.u8 ((x.toNat : Nat) : Int))), (12, (Value.bool true)), (26, (Value.bool false)), (55, (Value.bool false)), (59, (Value.int IntKind.u64 ((n : Nat) : Int))), (61, (Value.int IntKind.u8 ((((x.toNat : Nat) : Int)).tmod 128)))] (j := 3) (by kernel_rfl) (by kernel_rfl) ?_
            have e82 : (((x.toNat : Nat) : Int)).tmod 128 = ((x.toNat % 128 : Nat) : Int) := tmod_nat x.toNat 128
            rw [e82]
            clear e82
            refine Ops.regs 1 [(0, (Value.pointer (some ⟨b, 0, none⟩))), (3, (Value.int IntKind.u64 ((n : Nat) : Int))), (4, (i64 ((i : Nat) : Int))), (5, (Value.int IntKind.u8 ((x.toNat : Nat) : Int))), (12, (Value.bool true)), (26, (Value.bool false)), (55, (Value.bool false)), (59, (Value.int IntKind.u64 ((n : Nat) : Int))), (62, (Value.int IntKind.u64 (IntKind.u64.wrap (((x.toNat % 128 : Nat) : Int)))))] (j := 4) (by kernel_rfl) (by kernel_rfl) ?_
            have e83 : IntKind.u64.wrap (((x.toNat % 128 : Nat) : Int)) = ((x.toNat % 128 : Nat) : Int) := wrap_u64 (by omega) (by omega)
            rw [e83]
            refine Ops.regs 2 [(0, (Value.pointer (some ⟨b, 0, none⟩))), (3, (Value.int IntKind.u64 ((n : Nat) : Int))), (4, (i64 ((i : Nat) : Int))), (5, (Value.int IntKind.u8 ((x.toNat : Nat) : Int))), (12, (Value.bool true)), (26, (Value.bool false)), (55, (Value.bool false)), (59, (Value.int IntKind.u64 ((n : Nat) : Int))), (62, (Value.int IntKind.u64 ((x.toNat % 128 : Nat) : Int))), (64, (i64 (IntKind.i64.wrap (7 * ((i : Nat) : Int)))))] (j := 6) (by kernel_rfl) (by kernel_rfl) ?_
            have e84 : IntKind.i64.wrap (7 * ((i : Nat) : Int)) = ((7 * i : Nat) : Int) := by rw [wrap_i64 (by omega) (by omega)]; omega
            rw [e84]
            clear e84
            refine Ops.regs 1 [(0, (Value.pointer (some ⟨b, 0, none⟩))), (3, (Value.int IntKind.u64 ((n : Nat) : Int))), (4, (i64 ((i : Nat) : Int))), (5, (Value.int IntKind.u8 ((x.toNat : Nat) : Int))), (12, (Value.bool true)), (26, (Value.bool false)), (55, (Value.bool false)), (59, (Value.int IntKind.u64 ((n : Nat) : Int))), (62, (Value.int IntKind.u64 ((x.toNat % 128 : Nat) : Int))), (65, (Value.int IntKind.u64 (IntKind.u64.wrap (((7 * i : Nat) : Int)))))] (j := 7) (by kernel_rfl) (by kernel_rfl) ?_
            have e85 : IntKind.u64.wrap (((7 * i : Nat) : Int)) = ((7 * i : Nat) : Int) := wrap_u64 (by omega) (by omega)
            rw [e85]
            have hr := scan_round (c := x) hi hn (by omega)
            refine Ops.go (v := (Value.int IntKind.u64 ((x.toNat % 128 * p7 i : Nat) : Int))) (by kernel_rfl) (Runs.int (op := .shl) (t := 22) (by kernel_rfl) (run_shl7 (k := IntKind.u64) (i := i) (s := ((7 * i : Nat) : Int)) (by omega) (by omega) hr.1)) (d := (some 66)) (by kernel_rfl) rfl ?_
            refine Ops.go (v := (Value.int IntKind.u64 ((n + x.toNat % 128 * p7 i : Nat) : Int))) (by kernel_rfl) (Runs.int (op := .or) (t := 22) (by kernel_rfl) (run_or7 hn hr.2.1)) (d := (some 67)) (by kernel_rfl) rfl ?_
            refine Ops.regs 1 [(0, (Value.pointer (some ⟨b, 0, none⟩))), (3, (Value.int IntKind.u64 ((n + x.toNat % 128 * p7 i : Nat) : Int))), (4, (i64 ((i : Nat) : Int))), (5, (Value.int IntKind.u8 ((x.toNat : Nat) : Int))), (12, (Value.bool true)), (26, (Value.bool false)), (55, (Value.bool false))] (j := 10) (by kernel_rfl) (by kernel_rfl) ?_
            refine Ops.done (by kernel_rfl) ?_
            refine q_seq (by kernel_rfl) ?_
            refine q_region (by kernel_rfl) ?_
            refine Ops.regs 2 [(0, (Value.pointer (some ⟨b, 0, none⟩))), (3, (Value.int IntKind.u64 ((n + x.toNat % 128 * p7 i : Nat) : Int))), (4, (i64 ((i : Nat) : Int))), (5, (Value.int IntKind.u8 ((x.toNat : Nat) : Int))), (12, (Value.bool true)), (26, (Value.bool false)), (55, (Value.bool false)), (69, (Value.bool (decide (((x.toNat : Nat) : Int) < 128))))] (j := 2) (by kernel_rfl) (by kernel_rfl) ?_
            refine Ops.done (by kernel_rfl) ?_
            refine q_cond (o := .tmp 69) (b := (decide (((x.toNat : Nat) : Int) < 128))) (by kernel_rfl) rfl (fun h86 => ?_) (fun h86 => ?_)
            · rw [h86]
              have p87 : ((x.toNat : Nat) : Int) < 128 := of_decide_eq_true h86
              refine q_seq (by kernel_rfl) ?_
              refine q_region (by kernel_rfl) ?_
              refine Ops.regs 4 [(0, (Value.pointer (some ⟨b, 0, none⟩))), (3, (Value.int IntKind.u64 ((n + x.toNat % 128 * p7 i : Nat) : Int))), (4, (i64 ((i : Nat) : Int))), (5, (Value.int IntKind.u8 ((x.toNat : Nat) : Int))), (12, (Value.bool true)), (26, (Value.bool false)), (55, (Value.bool false)), (69, (Value.bool true)), (70, (Value.pointer (some ⟨b, 0, none⟩))), (73, (Value.pointer (some ⟨b, 1, none⟩)))] (j := 4) (by kernel_rfl) (by kernel_rfl) ?_
              refine Ops.go (v := (i64 ((r.pos : Nat) : Int))) (by kernel_rfl) (Runs.load (t := 3) (a := ⟨b, 1, none⟩) (by kernel_rfl) (H23.loads (by kernel_rfl))) (d := (some 74)) (by kernel_rfl) rfl ?_
              refine Ops.regs 2 [(0, (Value.pointer (some ⟨b, 0, none⟩))), (3, (Value.int IntKind.u64 ((n + x.toNat % 128 * p7 i : Nat) : Int))), (4, (i64 ((i : Nat) : Int))), (5, (Value.int IntKind.u8 ((x.toNat : Nat) : Int))), (12, (Value.bool true)), (26, (Value.bool false)), (55, (Value.bool false)), (69, (Value.bool true)), (70, (Value.pointer (some ⟨b, 0, none⟩))), (76, (i64 (IntKind.i64.wrap (((r.pos : Nat) : Int) + ((i : Nat) : Int)))))] (j := 7) (by kernel_rfl) (by kernel_rfl) ?_
              have e88 : IntKind.i64.wrap (((r.pos : Nat) : Int) + ((i : Nat) : Int)) = ((r.pos + i : Nat) : Int) := by rw [wrap_i64 (by omega) (by omega)]; omega
              rw [e88]
              clear e88
              refine Ops.regs 1 [(0, (Value.pointer (some ⟨b, 0, none⟩))), (3, (Value.int IntKind.u64 ((n + x.toNat % 128 * p7 i : Nat) : Int))), (4, (i64 ((i : Nat) : Int))), (5, (Value.int IntKind.u8 ((x.toNat : Nat) : Int))), (12, (Value.bool true)), (26, (Value.bool false)), (55, (Value.bool false)), (69, (Value.bool true)), (70, (Value.pointer (some ⟨b, 0, none⟩))), (77, (i64 (IntKind.i64.wrap (((r.pos + i : Nat) : Int) + 1))))] (j := 8) (by kernel_rfl) (by kernel_rfl) ?_
              have e89 : IntKind.i64.wrap (((r.pos + i : Nat) : Int) + 1) = (((r.pos + i) + 1 : Nat) : Int) := by rw [wrap_i64 (by omega) (by omega)]; omega
              rw [e89]
              clear e89
              refine Ops.regs 2 [(0, (Value.pointer (some ⟨b, 0, none⟩))), (3, (Value.int IntKind.u64 ((n + x.toNat % 128 * p7 i : Nat) : Int))), (4, (i64 ((i : Nat) : Int))), (5, (Value.int IntKind.u8 ((x.toNat : Nat) : Int))), (12, (Value.bool true)), (26, (Value.bool false)), (55, (Value.bool false)), (69, (Value.bool true)), (77, (i64 (((r.pos + i) + 1 : Nat) : Int))), (79, (Value.pointer (some ⟨b, 1, none⟩)))] (j := 10) (by kernel_rfl) (by kernel_rfl) ?_
              refine Ops.put (t := 3) (b := b) (off := 1) (v := (i64 (((r.pos + i) + 1 : Nat) : Int))) (ys := [(Value.slice A r.bs.length c), (i64 (((r.pos + i) + 1 : Nat) : Int)), (i64 r.why)]) (by kernel_rfl) (by kernel_rfl) H23 (by kernel_rfl) (d := none) (by kernel_rfl) rfl (fun w90 H91 K92 => ?_)
              clear H23
              have K93 := K22.trans K92 (U := (fun i => i = b)) (fun i h1 h2 => h2) (fun i h1 h2 => by have h2 : i = b := h2; show i = b; omega)
              clear K22
              clear K92
              refine Ops.done (by kernel_rfl) ?_
              refine q_seq (by kernel_rfl) ?_
              refine q_region (by kernel_rfl) ?_
              refine Ops.regs 2 [(0, (Value.pointer (some ⟨b, 0, none⟩))), (2, (Value.int IntKind.u64 ((n + x.toNat % 128 * p7 i : Nat) : Int))), (3, (Value.int IntKind.u64 ((n + x.toNat % 128 * p7 i : Nat) : Int))), (4, (i64 ((i : Nat) : Int))), (5, (Value.int IntKind.u8 ((x.toNat : Nat) : Int))), (12, (Value.bool true)), (26, (Value.bool false)), (55, (Value.bool false)), (69, (Value.bool true))] (j := 2) (by kernel_rfl) (by kernel_rfl) ?_
              refine Ops.done (by kernel_rfl) ?_
              refine q_ret (by kernel_rfl) ?_
              refine ⟨(Value.int IntKind.u64 ((n + x.toNat % 128 * p7 i : Nat) : Int)), retv_tmp rfl rfl, ?_⟩
              have es : scanB (r.bs.drop r.pos) = (n + x.toNat % 128 * p7 i, i + 1, 0) := by rw [← hE, hx]; exact scanA_end (by omega) (by omega)
              have e := uint_good (by omega) es
              exact ⟨by first | (rw [e]; done) | (rw [e]; rfl), K93, by rw [e]; exact H91⟩
            · rw [h86]
              have p94 : ¬ (((x.toNat : Nat) : Int) < 128) := of_decide_eq_false h86
              refine q_skip (by kernel_rfl) ?_
              refine q_region (by kernel_rfl) ?_
              refine Ops.regs 2 [(0, (Value.pointer (some ⟨b, 0, none⟩))), (3, (Value.int IntKind.u64 ((n + x.toNat % 128 * p7 i : Nat) : Int))), (4, (i64 ((i : Nat) : Int))), (5, (Value.int IntKind.u8 ((x.toNat : Nat) : Int))), (12, (Value.bool true)), (14, (i64 (IntKind.i64.wrap (((i : Nat) : Int) + 1)))), (26, (Value.bool false)), (55, (Value.bool false)), (69, (Value.bool false))] (j := 2) (by kernel_rfl) (by kernel_rfl) ?_
              have e95 : IntKind.i64.wrap (((i : Nat) : Int) + 1) = ((i + 1 : Nat) : Int) := by rw [wrap_i64 (by omega) (by omega)]; omega
              rw [e95]
              clear e95
              refine Ops.regs 1 [(0, (Value.pointer (some ⟨b, 0, none⟩))), (3, (Value.int IntKind.u64 ((n + x.toNat % 128 * p7 i : Nat) : Int))), (4, (i64 ((i + 1 : Nat) : Int))), (5, (Value.int IntKind.u8 ((x.toNat : Nat) : Int))), (12, (Value.bool true)), (26, (Value.bool false)), (55, (Value.bool false)), (69, (Value.bool false))] (j := 3) (by kernel_rfl) (by kernel_rfl) ?_
              refine Ops.keep (R := [(0, (Value.pointer (some ⟨b, 0, none⟩))), (3, (Value.int IntKind.u64 ((n + x.toNat % 128 * p7 i : Nat) : Int))), (4, (i64 ((i + 1 : Nat) : Int)))]) (by kernel_rfl) ?_
              refine Ops.done (by kernel_rfl) ?_
              exact ⟨(i + 1, n + x.toNat % 128 * p7 i), ⟨rfl, ((show scanA (r.bs.drop (r.pos + i)) i n = scanA (r.bs.drop (r.pos + i + 1)) (i + 1) (n + x.toNat % 128 * p7 i) from by rw [hx, scanA_more (by omega) (by omega)]).symm.trans hE), (by omega), (by omega), (hr.2.2 (by omega)), K22, H23⟩, (show 10 - (i + 1) < 10 - i from by omega)⟩
        · rw [h73]
          have p96 : ¬ (((i : Nat) : Int) > 0) := of_decide_eq_false h73
          refine Ops.regs 4 [(0, (Value.pointer (some ⟨b, 0, none⟩))), (3, (Value.int IntKind.u64 ((n : Nat) : Int))), (4, (i64 ((i : Nat) : Int))), (5, (Value.int IntKind.u8 ((x.toNat : Nat) : Int))), (12, (Value.bool true)), (26, (Value.bool false)), (55, (Value.bool false))] (j := 14) (by kernel_rfl) (by kernel_rfl) ?_
          refine Ops.done (by kernel_rfl) ?_
          refine q_else (o := .tmp 55) (by kernel_rfl) rfl ?_
          refine q_skip (by kernel_rfl) ?_
          refine q_seq (by kernel_rfl) ?_
          refine q_region (by kernel_rfl) ?_
          refine Ops.regs 3 [(0, (Value.pointer (some ⟨b, 0, none⟩))), (3, (Value.int IntKind.u64 ((n : Nat) : Int))), (4, (i64 ((i : Nat) : Int))), (5, (Value.int IntKind.u8 ((x.toNat : Nat) : Int))), (12, (Value.bool true)), (26, (Value.bool false)), (55, (Value.bool false)), (59, (Value.int IntKind.u64 ((n : Nat) : Int))), (61, (Value.int IntKind.u8 ((((x.toNat : Nat) : Int)).tmod 128)))] (j := 3) (by kernel_rfl) (by kernel_rfl) ?_
          have e97 : (((x.toNat : Nat) : Int)).tmod 128 = ((x.toNat % 128 : Nat) : Int) := tmod_nat x.toNat 128
          rw [e97]
          clear e97
          refine Ops.regs 1 [(0, (Value.pointer (some ⟨b, 0, none⟩))), (3, (Value.int IntKind.u64 ((n : Nat) : Int))), (4, (i64 ((i : Nat) : Int))), (5, (Value.int IntKind.u8 ((x.toNat : Nat) : Int))), (12, (Value.bool true)), (26, (Value.bool false)), (55, (Value.bool false)), (59, (Value.int IntKind.u64 ((n : Nat) : Int))), (62, (Value.int IntKind.u64 (IntKind.u64.wrap (((x.toNat % 128 : Nat) : Int)))))] (j := 4) (by kernel_rfl) (by kernel_rfl) ?_
          have e98 : IntKind.u64.wrap (((x.toNat % 128 : Nat) : Int)) = ((x.toNat % 128 : Nat) : Int) := wrap_u64 (by omega) (by omega)
          rw [e98]
          refine Ops.regs 2 [(0, (Value.pointer (some ⟨b, 0, none⟩))), (3, (Value.int IntKind.u64 ((n : Nat) : Int))), (4, (i64 ((i : Nat) : Int))), (5, (Value.int IntKind.u8 ((x.toNat : Nat) : Int))), (12, (Value.bool true)), (26, (Value.bool false)), (55, (Value.bool false)), (59, (Value.int IntKind.u64 ((n : Nat) : Int))), (62, (Value.int IntKind.u64 ((x.toNat % 128 : Nat) : Int))), (64, (i64 (IntKind.i64.wrap (7 * ((i : Nat) : Int)))))] (j := 6) (by kernel_rfl) (by kernel_rfl) ?_
          have e99 : IntKind.i64.wrap (7 * ((i : Nat) : Int)) = ((7 * i : Nat) : Int) := by rw [wrap_i64 (by omega) (by omega)]; omega
          rw [e99]
          clear e99
          refine Ops.regs 1 [(0, (Value.pointer (some ⟨b, 0, none⟩))), (3, (Value.int IntKind.u64 ((n : Nat) : Int))), (4, (i64 ((i : Nat) : Int))), (5, (Value.int IntKind.u8 ((x.toNat : Nat) : Int))), (12, (Value.bool true)), (26, (Value.bool false)), (55, (Value.bool false)), (59, (Value.int IntKind.u64 ((n : Nat) : Int))), (62, (Value.int IntKind.u64 ((x.toNat % 128 : Nat) : Int))), (65, (Value.int IntKind.u64 (IntKind.u64.wrap (((7 * i : Nat) : Int)))))] (j := 7) (by kernel_rfl) (by kernel_rfl) ?_
          have e100 : IntKind.u64.wrap (((7 * i : Nat) : Int)) = ((7 * i : Nat) : Int) := wrap_u64 (by omega) (by omega)
          rw [e100]
          have hr := scan_round (c := x) hi hn (by omega)
          refine Ops.go (v := (Value.int IntKind.u64 ((x.toNat % 128 * p7 i : Nat) : Int))) (by kernel_rfl) (Runs.int (op := .shl) (t := 22) (by kernel_rfl) (run_shl7 (k := IntKind.u64) (i := i) (s := ((7 * i : Nat) : Int)) (by omega) (by omega) hr.1)) (d := (some 66)) (by kernel_rfl) rfl ?_
          refine Ops.go (v := (Value.int IntKind.u64 ((n + x.toNat % 128 * p7 i : Nat) : Int))) (by kernel_rfl) (Runs.int (op := .or) (t := 22) (by kernel_rfl) (run_or7 hn hr.2.1)) (d := (some 67)) (by kernel_rfl) rfl ?_
          refine Ops.regs 1 [(0, (Value.pointer (some ⟨b, 0, none⟩))), (3, (Value.int IntKind.u64 ((n + x.toNat % 128 * p7 i : Nat) : Int))), (4, (i64 ((i : Nat) : Int))), (5, (Value.int IntKind.u8 ((x.toNat : Nat) : Int))), (12, (Value.bool true)), (26, (Value.bool false)), (55, (Value.bool false))] (j := 10) (by kernel_rfl) (by kernel_rfl) ?_
          refine Ops.done (by kernel_rfl) ?_
          refine q_seq (by kernel_rfl) ?_
          refine q_region (by kernel_rfl) ?_
          refine Ops.regs 2 [(0, (Value.pointer (some ⟨b, 0, none⟩))), (3, (Value.int IntKind.u64 ((n + x.toNat % 128 * p7 i : Nat) : Int))), (4, (i64 ((i : Nat) : Int))), (5, (Value.int IntKind.u8 ((x.toNat : Nat) : Int))), (12, (Value.bool true)), (26, (Value.bool false)), (55, (Value.bool false)), (69, (Value.bool (decide (((x.toNat : Nat) : Int) < 128))))] (j := 2) (by kernel_rfl) (by kernel_rfl) ?_
          refine Ops.done (by kernel_rfl) ?_
          refine q_cond (o := .tmp 69) (b := (decide (((x.toNat : Nat) : Int) < 128))) (by kernel_rfl) rfl (fun h101 => ?_) (fun h101 => ?_)
          · rw [h101]
            have p102 : ((x.toNat : Nat) : Int) < 128 := of_decide_eq_true h101
            refine q_seq (by kernel_rfl) ?_
            refine q_region (by kernel_rfl) ?_
            refine Ops.regs 4 [(0, (Value.pointer (some ⟨b, 0, none⟩))), (3, (Value.int IntKind.u64 ((n + x.toNat % 128 * p7 i : Nat) : Int))), (4, (i64 ((i : Nat) : Int))), (5, (Value.int IntKind.u8 ((x.toNat : Nat) : Int))), (12, (Value.bool true)), (26, (Value.bool false)), (55, (Value.bool false)), (69, (Value.bool true)), (70, (Value.pointer (some ⟨b, 0, none⟩))), (73, (Value.pointer (some ⟨b, 1, none⟩)))] (j := 4) (by kernel_rfl) (by kernel_rfl) ?_
            refine Ops.go (v := (i64 ((r.pos : Nat) : Int))) (by kernel_rfl) (Runs.load (t := 3) (a := ⟨b, 1, none⟩) (by kernel_rfl) (H23.loads (by kernel_rfl))) (d := (some 74)) (by kernel_rfl) rfl ?_
            refine Ops.regs 2 [(0, (Value.pointer (some ⟨b, 0, none⟩))), (3, (Value.int IntKind.u64 ((n + x.toNat % 128 * p7 i : Nat) : Int))), (4, (i64 ((i : Nat) : Int))), (5, (Value.int IntKind.u8 ((x.toNat : Nat) : Int))), (12, (Value.bool true)), (26, (Value.bool false)), (55, (Value.bool false)), (69, (Value.bool true)), (70, (Value.pointer (some ⟨b, 0, none⟩))), (76, (i64 (IntKind.i64.wrap (((r.pos : Nat) : Int) + ((i : Nat) : Int)))))] (j := 7) (by kernel_rfl) (by kernel_rfl) ?_
            have e103 : IntKind.i64.wrap (((r.pos : Nat) : Int) + ((i : Nat) : Int)) = ((r.pos + i : Nat) : Int) := by rw [wrap_i64 (by omega) (by omega)]; omega
            rw [e103]
            clear e103
            refine Ops.regs 1 [(0, (Value.pointer (some ⟨b, 0, none⟩))), (3, (Value.int IntKind.u64 ((n + x.toNat % 128 * p7 i : Nat) : Int))), (4, (i64 ((i : Nat) : Int))), (5, (Value.int IntKind.u8 ((x.toNat : Nat) : Int))), (12, (Value.bool true)), (26, (Value.bool false)), (55, (Value.bool false)), (69, (Value.bool true)), (70, (Value.pointer (some ⟨b, 0, none⟩))), (77, (i64 (IntKind.i64.wrap (((r.pos + i : Nat) : Int) + 1))))] (j := 8) (by kernel_rfl) (by kernel_rfl) ?_
            have e104 : IntKind.i64.wrap (((r.pos + i : Nat) : Int) + 1) = (((r.pos + i) + 1 : Nat) : Int) := by rw [wrap_i64 (by omega) (by omega)]; omega
            rw [e104]
            clear e104
            refine Ops.regs 2 [(0, (Value.pointer (some ⟨b, 0, none⟩))), (3, (Value.int IntKind.u64 ((n + x.toNat % 128 * p7 i : Nat) : Int))), (4, (i64 ((i : Nat) : Int))), (5, (Value.int IntKind.u8 ((x.toNat : Nat) : Int))), (12, (Value.bool true)), (26, (Value.bool false)), (55, (Value.bool false)), (69, (Value.bool true)), (77, (i64 (((r.pos + i) + 1 : Nat) : Int))), (79, (Value.pointer (some ⟨b, 1, none⟩)))] (j := 10) (by kernel_rfl) (by kernel_rfl) ?_
            refine Ops.put (t := 3) (b := b) (off := 1) (v := (i64 (((r.pos + i) + 1 : Nat) : Int))) (ys := [(Value.slice A r.bs.length c), (i64 (((r.pos + i) + 1 : Nat) : Int)), (i64 r.why)]) (by kernel_rfl) (by kernel_rfl) H23 (by kernel_rfl) (d := none) (by kernel_rfl) rfl (fun w105 H106 K107 => ?_)
            clear H23
            have K108 := K22.trans K107 (U := (fun i => i = b)) (fun i h1 h2 => h2) (fun i h1 h2 => by have h2 : i = b := h2; show i = b; omega)
            clear K22
            clear K107
            refine Ops.done (by kernel_rfl) ?_
            refine q_seq (by kernel_rfl) ?_
            refine q_region (by kernel_rfl) ?_
            refine Ops.regs 2 [(0, (Value.pointer (some ⟨b, 0, none⟩))), (2, (Value.int IntKind.u64 ((n + x.toNat % 128 * p7 i : Nat) : Int))), (3, (Value.int IntKind.u64 ((n + x.toNat % 128 * p7 i : Nat) : Int))), (4, (i64 ((i : Nat) : Int))), (5, (Value.int IntKind.u8 ((x.toNat : Nat) : Int))), (12, (Value.bool true)), (26, (Value.bool false)), (55, (Value.bool false)), (69, (Value.bool true))] (j := 2) (by kernel_rfl) (by kernel_rfl) ?_
            refine Ops.done (by kernel_rfl) ?_
            refine q_ret (by kernel_rfl) ?_
            refine ⟨(Value.int IntKind.u64 ((n + x.toNat % 128 * p7 i : Nat) : Int)), retv_tmp rfl rfl, ?_⟩
            have es : scanB (r.bs.drop r.pos) = (n + x.toNat % 128 * p7 i, i + 1, 0) := by rw [← hE, hx]; exact scanA_end (by omega) (by omega)
            have e := uint_good (by omega) es
            exact ⟨by first | (rw [e]; done) | (rw [e]; rfl), K108, by rw [e]; exact H106⟩
          · rw [h101]
            have p109 : ¬ (((x.toNat : Nat) : Int) < 128) := of_decide_eq_false h101
            refine q_skip (by kernel_rfl) ?_
            refine q_region (by kernel_rfl) ?_
            refine Ops.regs 2 [(0, (Value.pointer (some ⟨b, 0, none⟩))), (3, (Value.int IntKind.u64 ((n + x.toNat % 128 * p7 i : Nat) : Int))), (4, (i64 ((i : Nat) : Int))), (5, (Value.int IntKind.u8 ((x.toNat : Nat) : Int))), (12, (Value.bool true)), (14, (i64 (IntKind.i64.wrap (((i : Nat) : Int) + 1)))), (26, (Value.bool false)), (55, (Value.bool false)), (69, (Value.bool false))] (j := 2) (by kernel_rfl) (by kernel_rfl) ?_
            have e110 : IntKind.i64.wrap (((i : Nat) : Int) + 1) = ((i + 1 : Nat) : Int) := by rw [wrap_i64 (by omega) (by omega)]; omega
            rw [e110]
            clear e110
            refine Ops.regs 1 [(0, (Value.pointer (some ⟨b, 0, none⟩))), (3, (Value.int IntKind.u64 ((n + x.toNat % 128 * p7 i : Nat) : Int))), (4, (i64 ((i + 1 : Nat) : Int))), (5, (Value.int IntKind.u8 ((x.toNat : Nat) : Int))), (12, (Value.bool true)), (26, (Value.bool false)), (55, (Value.bool false)), (69, (Value.bool false))] (j := 3) (by kernel_rfl) (by kernel_rfl) ?_
            refine Ops.keep (R := [(0, (Value.pointer (some ⟨b, 0, none⟩))), (3, (Value.int IntKind.u64 ((n + x.toNat % 128 * p7 i : Nat) : Int))), (4, (i64 ((i + 1 : Nat) : Int)))]) (by kernel_rfl) ?_
            refine Ops.done (by kernel_rfl) ?_
            exact ⟨(i + 1, n + x.toNat % 128 * p7 i), ⟨rfl, ((show scanA (r.bs.drop (r.pos + i)) i n = scanA (r.bs.drop (r.pos + i + 1)) (i + 1) (n + x.toNat % 128 * p7 i) from by rw [hx, scanA_more (by omega) (by omega)]).symm.trans hE), (by omega), (by omega), (hr.2.2 (by omega)), K22, H23⟩, (show 10 - (i + 1) < 10 - i from by omega)⟩

theorem RRInt_calls (w : World) (b : Nat) (A : Option Addr) (c : Nat) (r : Rdr) (hok : r.Ok) (H0 : Has w b (rowL (rdrL A c r) 72)) (hR : RdO w A c r.bs) (hne : ∀ g o s, A = some ⟨g, o, s⟩ → g ≠ b) : Calls Try.prog 69 ⟨[(Value.pointer (some ⟨b, 0, none⟩))]⟩ w (fun e w' => e = .returned (i64 r.int.1) ∧ Keeps (fun i => i = b) w w' ∧ Has w' b (rowL (rdrL A c r.int.2) 72)) := by
  have hpos := hok.pos
  have hlen := hok.len
  have hsc := r.scan_le
  have hdl : (r.bs.drop r.pos).length = r.bs.length - r.pos := List.length_drop
  have hcap := hR.1.slice
  have Hb := H0.lt
  have K0 : Keeps (fun i => i = b) w w := (Keeps.refl w).mono (fun _ _ h => h.elim)
  refine q_calls Try.func69 (by kernel_rfl) (by kernel_rfl) ?_
  refine q_seq (by kernel_rfl) ?_
  refine q_region (by kernel_rfl) ?_
  refine Ops.regs 1 [(0, (Value.pointer (some ⟨b, 0, none⟩))), (2, (i64 0))] (j := 1) (by kernel_rfl) (by kernel_rfl) ?_
  refine Ops.done (by kernel_rfl) ?_
  refine q_seq (by kernel_rfl) ?_
  refine q_region (by kernel_rfl) ?_
  refine Ops.regs 1 [(2, (i64 0)), (4, (Value.pointer (some ⟨b, 0, none⟩)))] (j := 1) (by kernel_rfl) (by kernel_rfl) ?_
  refine Ops.call (by kernel_rfl) (d := (some 5)) (by kernel_rfl) (RRUint_calls _ b A c r hok H0 hR hne) ?_
  rintro _ w1 ⟨rfl, K2, H3⟩
  have hok4 := Rdr.Ok.uint hok
  have hu5 := Rdr.uint_lt r
  refine ⟨_, _, rfl, rfl, ?_⟩
  have K6 := K0.trans K2 (U := (fun i => i = b)) (fun i h1 h2 => h2) (fun i h1 h2 => by have h2 : i = b := h2; show i = b; omega)
  clear K0
  have F7 := RdO.keep hR K2 (fun i _ _ hi hs => by have hs : i = b := hs; have := hne i _ _ hi; omega)
  clear hR
  clear K2
  have F8 : RdO w1 A c (r.uint.2).bs := by rw [Rdr.uint_bs]; exact F7
  clear F7
  refine Ops.regs 1 [(2, (i64 0)), (3, (Value.int IntKind.u64 ((r.uint.1 : Nat) : Int)))] (j := 3) (by kernel_rfl) (by kernel_rfl) ?_
  refine Ops.done (by kernel_rfl) ?_
  refine q_seq (by kernel_rfl) ?_
  refine q_seq (by kernel_rfl) ?_
  refine q_region (by kernel_rfl) ?_
  refine Ops.regs 2 [(2, (i64 0)), (3, (Value.int IntKind.u64 ((r.uint.1 : Nat) : Int))), (7, (Value.int IntKind.u64 ((((r.uint.1 : Nat) : Int)).tmod 2)))] (j := 2) (by kernel_rfl) (by kernel_rfl) ?_
  have e9 : (((r.uint.1 : Nat) : Int)).tmod 2 = ((r.uint.1 % 2 : Nat) : Int) := tmod_nat r.uint.1 2
  rw [e9]
  clear e9
  refine Ops.regs 1 [(2, (i64 0)), (3, (Value.int IntKind.u64 ((r.uint.1 : Nat) : Int))), (8, (Value.bool (((r.uint.1 % 2 : Nat) : Int) == 1)))] (j := 3) (by kernel_rfl) (by kernel_rfl) ?_
  refine Ops.done (by kernel_rfl) ?_
  refine q_cond (o := .tmp 8) (b := (((r.uint.1 % 2 : Nat) : Int) == 1)) (by kernel_rfl) rfl (fun h10 => ?_) (fun h10 => ?_)
  · rw [h10]
    have p11 : ((r.uint.1 % 2 : Nat) : Int) = 1 := of_beq_t h10
    refine q_seq (by kernel_rfl) ?_
    refine q_region (by kernel_rfl) ?_
    refine Ops.regs 2 [(2, (i64 0)), (3, (Value.int IntKind.u64 ((r.uint.1 : Nat) : Int))), (10, (Value.int IntKind.u64 (IntKind.u64.wrap ((((r.uint.1 : Nat) : Int)).tdiv 2))))] (j := 2) (by kernel_rfl) (by kernel_rfl) ?_
    have e12 : IntKind.u64.wrap ((((r.uint.1 : Nat) : Int)).tdiv 2) = ((r.uint.1 / 2 : Nat) : Int) := (congrArg (IntKind.u64.wrap ·) (tdiv_nat r.uint.1 2)).trans (wrap_u64 (by omega) (by omega))
    rw [e12]
    clear e12
    refine Ops.regs 1 [(2, (i64 0)), (3, (Value.int IntKind.u64 ((r.uint.1 : Nat) : Int))), (11, (i64 (IntKind.i64.wrap (((r.uint.1 / 2 : Nat) : Int)))))] (j := 3) (by kernel_rfl) (by kernel_rfl) ?_
    have e13 : IntKind.i64.wrap (((r.uint.1 / 2 : Nat) : Int)) = ((r.uint.1 / 2 : Nat) : Int) := wrap_i64 (by omega) (by omega)
    rw [e13]
    refine Ops.regs 1 [(2, (i64 0)), (3, (Value.int IntKind.u64 ((r.uint.1 : Nat) : Int))), (12, (i64 (IntKind.i64.wrap (0 - ((r.uint.1 / 2 : Nat) : Int)))))] (j := 4) (by kernel_rfl) (by kernel_rfl) ?_
    have e14 : IntKind.i64.wrap (0 - ((r.uint.1 / 2 : Nat) : Int)) = 0 - ((r.uint.1 / 2 : Nat) : Int) := wrap_i64 (by omega) (by omega)
    rw [e14]
    refine Ops.regs 1 [(2, (i64 0)), (3, (Value.int IntKind.u64 ((r.uint.1 : Nat) : Int))), (13, (i64 (IntKind.i64.wrap ((0 - ((r.uint.1 / 2 : Nat) : Int)) - 1))))] (j := 5) (by kernel_rfl) (by kernel_rfl) ?_
    have e15 : IntKind.i64.wrap ((0 - ((r.uint.1 / 2 : Nat) : Int)) - 1) = (0 - ((r.uint.1 / 2 : Nat) : Int)) - 1 := wrap_i64 (by omega) (by omega)
    rw [e15]
    refine Ops.regs 1 [(2, (i64 ((0 - ((r.uint.1 / 2 : Nat) : Int)) - 1))), (3, (Value.int IntKind.u64 ((r.uint.1 : Nat) : Int)))] (j := 6) (by kernel_rfl) (by kernel_rfl) ?_
    refine Ops.done (by kernel_rfl) ?_
    refine q_ret (by kernel_rfl) ?_
    refine ⟨(i64 ((0 - ((r.uint.1 / 2 : Nat) : Int)) - 1)), retv_tmp rfl rfl, ?_⟩
    have e : r.int.1 = (0 - ((r.uint.1 / 2 : Nat) : Int)) - 1 := by first | exact unzz_odd (by omega) | exact unzz_even (by omega)
    exact ⟨by rw [e], K6, H3⟩
  · rw [h10]
    have p16 : ¬ (((r.uint.1 % 2 : Nat) : Int) = 1) := of_beq_f h10
    refine q_skip (by kernel_rfl) ?_
    refine q_seq (by kernel_rfl) ?_
    refine q_region (by kernel_rfl) ?_
    refine Ops.regs 2 [(2, (i64 0)), (15, (Value.int IntKind.u64 (IntKind.u64.wrap ((((r.uint.1 : Nat) : Int)).tdiv 2))))] (j := 2) (by kernel_rfl) (by kernel_rfl) ?_
    have e17 : IntKind.u64.wrap ((((r.uint.1 : Nat) : Int)).tdiv 2) = ((r.uint.1 / 2 : Nat) : Int) := (congrArg (IntKind.u64.wrap ·) (tdiv_nat r.uint.1 2)).trans (wrap_u64 (by omega) (by omega))
    rw [e17]
    clear e17
    refine Ops.regs 1 [(2, (i64 0)), (16, (i64 (IntKind.i64.wrap (((r.uint.1 / 2 : Nat) : Int)))))] (j := 3) (by kernel_rfl) (by kernel_rfl) ?_
    have e18 : IntKind.i64.wrap (((r.uint.1 / 2 : Nat) : Int)) = ((r.uint.1 / 2 : Nat) : Int) := wrap_i64 (by omega) (by omega)
    rw [e18]
    refine Ops.regs 1 [(2, (i64 ((r.uint.1 / 2 : Nat) : Int)))] (j := 4) (by kernel_rfl) (by kernel_rfl) ?_
    refine Ops.done (by kernel_rfl) ?_
    refine q_ret (by kernel_rfl) ?_
    refine ⟨(i64 ((r.uint.1 / 2 : Nat) : Int)), retv_tmp rfl rfl, ?_⟩
    have e : r.int.1 = ((r.uint.1 / 2 : Nat) : Int) := by first | exact unzz_odd (by omega) | exact unzz_even (by omega)
    exact ⟨by rw [e], K6, H3⟩

theorem RREnd_calls (w : World) (b : Nat) (A : Option Addr) (c : Nat) (r : Rdr) (hok : r.Ok) (H0 : Has w b (rowL (rdrL A c r) 72)) (hR : RdO w A c r.bs) (hne : ∀ g o s, A = some ⟨g, o, s⟩ → g ≠ b) : Calls Try.prog 46 ⟨[(Value.pointer (some ⟨b, 0, none⟩))]⟩ w (fun e w' => e = .returned (i64 r.end_) ∧ Keeps none_ w w') := by
  have hpos := hok.pos
  have hlen := hok.len
  have hsc := r.scan_le
  have hdl : (r.bs.drop r.pos).length = r.bs.length - r.pos := List.length_drop
  have hcap := hR.1.slice
  have Hb := H0.lt
  have K0 : Keeps none_ w w := Keeps.refl w
  refine q_calls Try.func46 (by kernel_rfl) (by kernel_rfl) ?_
  refine q_seq (by kernel_rfl) ?_
  refine q_region (by kernel_rfl) ?_
  refine Ops.regs 1 [(0, (Value.pointer (some ⟨b, 0, none⟩))), (2, (i64 0))] (j := 1) (by kernel_rfl) (by kernel_rfl) ?_
  refine Ops.done (by kernel_rfl) ?_
  refine q_seq (by kernel_rfl) ?_
  refine q_seq (by kernel_rfl) ?_
  refine q_draw (fun wz => Keeps none_ w wz) 17 (by kernel_rfl) (by kernel_rfl) (by kernel_rfl) (fun w1 K2 _ _ => ⟨K2, ?_⟩)
  have K3 := K0.trans K2 (U := none_) (fun i h1 h2 => h2) (fun i h1 h2 => by exact h2)
  clear K0
  have H4 := H0.keep K2 (fun h => h)
  clear H0
  have F5 := RdO.keep0 hR K2
  clear hR
  refine Dr.strong (S' := (fun wz => Keeps none_ w1 wz)) (Keeps.refl w1) (fun wz hx => K2.trans hx (fun i _ h => h) (fun _ _ h => h)) ?_
  clear K2
  refine Dr.takes (fuel' := 14) (is' := [2, 1, 0]) [0, 1, 2] [(0, (Value.pointer (some ⟨b, 0, none⟩))), (2, (i64 0)), (5, (Value.pointer (some ⟨b, 2, none⟩)))] (by kernel_rfl) rfl (by kernel_rfl) ?_
  refine Dr.take (i := 3) (v := (i64 r.why)) (by kernel_rfl) (by kernel_rfl) (fun wz hS => Runs.load (t := 28) (a := ⟨b, 2, none⟩) (by kernel_rfl) ((H4.keep hS (fun h => h)).loads (by kernel_rfl))) (d := (some 6)) (by kernel_rfl) rfl ?_
  refine Dr.takes (fuel' := 11) (is' := [5, 4, 3, 2, 1, 0]) [4, 5] [(0, (Value.pointer (some ⟨b, 0, none⟩))), (2, (i64 0)), (8, (Value.bool (r.why == 0)))] (by kernel_rfl) rfl (by kernel_rfl) ?_
  refine Dr.split (r.why == 0) (fun h6 => ?_) (fun h6 => ?_)
  · rw [h6]
    have p7 : r.why = 0 := of_beq_t h6
    refine Dr.takes (fuel' := 8) (is' := [8, 7, 6, 5, 4, 3, 2, 1, 0]) [6, 7, 8] [(0, (Value.pointer (some ⟨b, 0, none⟩))), (2, (i64 0)), (8, (Value.bool true)), (11, (Value.pointer (some ⟨b, 1, none⟩)))] (by kernel_rfl) rfl (by kernel_rfl) ?_
    refine Dr.take (i := 9) (v := (i64 ((r.pos : Nat) : Int))) (by kernel_rfl) (by kernel_rfl) (fun wz hS => Runs.load (t := 3) (a := ⟨b, 1, none⟩) (by kernel_rfl) ((H4.keep hS (fun h => h)).loads (by kernel_rfl))) (d := (some 12)) (by kernel_rfl) rfl ?_
    refine Dr.takes (fuel' := 4) (is' := [12, 11, 10, 9, 8, 7, 6, 5, 4, 3, 2, 1, 0]) [10, 11, 12] [(0, (Value.pointer (some ⟨b, 0, none⟩))), (2, (i64 0)), (8, (Value.bool true)), (12, (i64 ((r.pos : Nat) : Int))), (15, (Value.pointer (some ⟨b, 0, none⟩)))] (by kernel_rfl) rfl (by kernel_rfl) ?_
    refine Dr.take (i := 13) (v := (Value.slice A r.bs.length c)) (by kernel_rfl) (by kernel_rfl) (fun wz hS => Runs.load (t := 23) (a := ⟨b, 0, none⟩) (by kernel_rfl) ((H4.keep hS (fun h => h)).loads (by kernel_rfl))) (d := (some 16)) (by kernel_rfl) rfl ?_
    refine Dr.takes (fuel' := 0) (is' := [16, 15, 14, 13, 12, 11, 10, 9, 8, 7, 6, 5, 4, 3, 2, 1, 0]) [14, 15, 16] [(0, (Value.pointer (some ⟨b, 0, none⟩))), (2, (i64 0)), (19, (Value.bool (decide (((r.pos : Nat) : Int) < ((r.bs.length : Nat) : Int)))))] (by kernel_rfl) rfl (by kernel_rfl) ?_
    refine Dr.done (by kernel_rfl) ?_
    refine q_cond (o := .tmp 19) (b := (decide (((r.pos : Nat) : Int) < ((r.bs.length : Nat) : Int)))) (by kernel_rfl) rfl (fun h8 => ?_) (fun h8 => ?_)
    · rw [h8]
      have p9 : ((r.pos : Nat) : Int) < ((r.bs.length : Nat) : Int) := of_decide_eq_true h8
      refine q_seq (by kernel_rfl) ?_
      refine q_region (by kernel_rfl) ?_
      refine Ops.regs 1 [(0, (Value.pointer (some ⟨b, 0, none⟩))), (2, (i64 11))] (j := 1) (by kernel_rfl) (by kernel_rfl) ?_
      refine Ops.done (by kernel_rfl) ?_
      refine q_ret (by kernel_rfl) ?_
      refine ⟨(i64 11), retv_tmp rfl rfl, ?_⟩
      have e : r.end_ = 11 := by unfold Rdr.end_; (split <;> first | (exfalso; omega) | rfl | omega)
      exact ⟨by rw [e], K3⟩
    · rw [h8]
      have p10 : ¬ (((r.pos : Nat) : Int) < ((r.bs.length : Nat) : Int)) := of_decide_eq_false h8
      refine q_skip (by kernel_rfl) ?_
      refine q_seq (by kernel_rfl) ?_
      refine q_region (by kernel_rfl) ?_
      refine Ops.regs 3 [(2, (i64 0)), (22, (Value.pointer (some ⟨b, 2, none⟩)))] (j := 3) (by kernel_rfl) (by kernel_rfl) ?_
      refine Ops.go (v := (i64 r.why)) (by kernel_rfl) (Runs.load (t := 28) (a := ⟨b, 2, none⟩) (by kernel_rfl) (H4.loads (by kernel_rfl))) (d := (some 23)) (by kernel_rfl) rfl ?_
      refine Ops.regs 1 [(2, (i64 r.why))] (j := 5) (by kernel_rfl) (by kernel_rfl) ?_
      refine Ops.done (by kernel_rfl) ?_
      refine q_ret (by kernel_rfl) ?_
      refine ⟨(i64 r.why), retv_tmp rfl rfl, ?_⟩
      have e : r.end_ = r.why := by unfold Rdr.end_; (split <;> first | (exfalso; omega) | rfl | omega)
      exact ⟨by rw [e], K3⟩
  · rw [h6]
    have p11 : ¬ (r.why = 0) := of_beq_f h6
    refine Dr.takes (fuel' := 0) (is' := [16, 15, 14, 13, 12, 11, 10, 9, 8, 7, 6, 5, 4, 3, 2, 1, 0]) [6, 7, 8, 9, 10, 11, 12, 13, 14, 15, 16] [(0, (Value.pointer (some ⟨b, 0, none⟩))), (2, (i64 0)), (19, (Value.bool false))] (by kernel_rfl) rfl (by kernel_rfl) ?_
    refine Dr.done (by kernel_rfl) ?_
    refine q_else (o := .tmp 19) (by kernel_rfl) rfl ?_
    refine q_skip (by kernel_rfl) ?_
    refine q_seq (by kernel_rfl) ?_
    refine q_region (by kernel_rfl) ?_
    refine Ops.regs 3 [(2, (i64 0)), (22, (Value.pointer (some ⟨b, 2, none⟩)))] (j := 3) (by kernel_rfl) (by kernel_rfl) ?_
    refine Ops.go (v := (i64 r.why)) (by kernel_rfl) (Runs.load (t := 28) (a := ⟨b, 2, none⟩) (by kernel_rfl) (H4.loads (by kernel_rfl))) (d := (some 23)) (by kernel_rfl) rfl ?_
    refine Ops.regs 1 [(2, (i64 r.why))] (j := 5) (by kernel_rfl) (by kernel_rfl) ?_
    refine Ops.done (by kernel_rfl) ?_
    refine q_ret (by kernel_rfl) ?_
    refine ⟨(i64 r.why), retv_tmp rfl rfl, ?_⟩
    have e : r.end_ = r.why := by unfold Rdr.end_; (split <;> first | (exfalso; omega) | rfl | omega)
    exact ⟨by rw [e], K3⟩
end Go.Proofs.Ytnepjfnkaigakaa
