/- codec: readers -/
import Derived.Test.YtnepjfnkaigakaaProg
import Derived.Test.YtnepjfnkaigakaaLibRead3
import Derived.Test.YtnepjfnkaigakaaK4
set_option linter.unusedVariables false
namespace Go.Proofs.Ytnepjfnkaigakaa
open Go.Q Go.RowKit

theorem ok_calls (w : World) (b : Nat) (A : Option Addr) (c : Nat) (r : Rdr) (hok : r.Ok) (H0 : Has w b (rowL (rdrL A c r) 88)) (hR : RdO w A c r.bs) (hne : ∀ g o s, A = some ⟨g, o, s⟩ → g ≠ b) : Calls Try.prog 58 ⟨[(Value.pointer (some ⟨b, 0, none⟩))]⟩ w (fun e w' => e = .returned (.bool (r.why == 0)) ∧ Keeps none_ w w') := by
  have hpos := hok.pos
  have hlen := hok.len
  have hsc := r.scan_le
  have hdl : (r.bs.drop r.pos).length = r.bs.length - r.pos := List.length_drop
  have hcap := hR.1.slice
  have Hb := H0.lt
  have K0 : Keeps none_ w w := Keeps.refl w
  refine q_calls Try.func58 (by kernel_rfl) (by kernel_rfl) ?_
  refine q_seq (by kernel_rfl) ?_
  refine q_region (by kernel_rfl) ?_
  refine Ops.regs 1 [(0, (Value.pointer (some ⟨b, 0, none⟩))), (2, (Value.bool false))] (j := 1) (by kernel_rfl) (by kernel_rfl) ?_
  refine Ops.done (by kernel_rfl) ?_
  refine q_seq (by kernel_rfl) ?_
  refine q_region (by kernel_rfl) ?_
  refine Ops.regs 6 [(2, (Value.bool false)), (5, (Value.bool true)), (8, (Value.pointer (some ⟨b, 2, none⟩)))] (j := 6) (by kernel_rfl) (by kernel_rfl) ?_
  refine Ops.go (v := (i64 r.why)) (by kernel_rfl) (Runs.load (t := 28) (a := ⟨b, 2, none⟩) (by kernel_rfl) (H0.loads (by kernel_rfl))) (d := (some 9)) (by kernel_rfl) rfl ?_
  refine Ops.regs 3 [(2, (Value.bool (r.why == 0)))] (j := 10) (by kernel_rfl) (by kernel_rfl) ?_
  refine Ops.done (by kernel_rfl) ?_
  refine q_ret (by kernel_rfl) ?_
  refine ⟨(Value.bool (r.why == 0)), retv_tmp rfl rfl, ?_⟩
  exact ⟨rfl, K0⟩

theorem left_calls (w : World) (b : Nat) (A : Option Addr) (c : Nat) (r : Rdr) (hok : r.Ok) (H0 : Has w b (rowL (rdrL A c r) 88)) (hR : RdO w A c r.bs) (hne : ∀ g o s, A = some ⟨g, o, s⟩ → g ≠ b) : Calls Try.prog 60 ⟨[(Value.pointer (some ⟨b, 0, none⟩))]⟩ w (fun e w' => ∃ A2 c2, e = .returned (.slice A2 (r.bs.drop r.pos).length c2) ∧ Keeps none_ w w' ∧ RdB w' (.slice A2 (r.bs.drop r.pos).length c2) (r.bs.drop r.pos) ∧ (∀ g o s, A2 = some ⟨g, o, s⟩ → ∃ o2 s2, A = some ⟨g, o2, s2⟩)) := by
  have hpos := hok.pos
  have hlen := hok.len
  have hsc := r.scan_le
  have hdl : (r.bs.drop r.pos).length = r.bs.length - r.pos := List.length_drop
  have hcap := hR.1.slice
  have Hb := H0.lt
  have K0 : Keeps none_ w w := Keeps.refl w
  refine q_calls Try.func60 (by kernel_rfl) (by kernel_rfl) ?_
  refine q_seq (by kernel_rfl) ?_
  refine q_region (by kernel_rfl) ?_
  refine Ops.regs 1 [(0, (Value.pointer (some ⟨b, 0, none⟩))), (2, (Value.slice none 0 0))] (j := 1) (by kernel_rfl) (by kernel_rfl) ?_
  refine Ops.done (by kernel_rfl) ?_
  refine q_seq (by kernel_rfl) ?_
  refine q_draw (fun wz => Keeps none_ w wz) 10 (by kernel_rfl) (by kernel_rfl) (by kernel_rfl) (fun w1 K2 _ _ => ⟨K2, ?_⟩)
  have K3 := K0.trans K2 (U := none_) (fun i h1 h2 => h2) (fun i h1 h2 => by exact h2)
  clear K0
  have H4 := H0.keep K2 (fun h => h)
  clear H0
  have F5 := RdO.keep0 hR K2
  clear hR
  refine Dr.strong (S' := (fun wz => Keeps none_ w1 wz)) (Keeps.refl w1) (fun wz hx => K2.trans hx (fun i _ h => h) (fun _ _ h => h)) ?_
  clear K2
  refine Dr.takes (fuel' := 7) (is' := [2, 1, 0]) [0, 1, 2] [(0, (Value.pointer (some ⟨b, 0, none⟩))), (2, (Value.slice none 0 0)), (5, (Value.pointer (some ⟨b, 0, none⟩)))] (by kernel_rfl) rfl (by kernel_rfl) ?_
  refine Dr.take (i := 3) (v := (Value.slice A r.bs.length c)) (by kernel_rfl) (by kernel_rfl) (fun wz hS => Runs.load (t := 23) (a := ⟨b, 0, none⟩) (by kernel_rfl) ((H4.keep hS (fun h => h)).loads (by kernel_rfl))) (d := (some 6)) (by kernel_rfl) rfl ?_
  refine Dr.takes (fuel' := 3) (is' := [6, 5, 4, 3, 2, 1, 0]) [4, 5, 6] [(2, (Value.slice none 0 0)), (6, (Value.slice A r.bs.length c)), (9, (Value.pointer (some ⟨b, 1, none⟩)))] (by kernel_rfl) rfl (by kernel_rfl) ?_
  refine Dr.take (i := 7) (v := (i64 ((r.pos : Nat) : Int))) (by kernel_rfl) (by kernel_rfl) (fun wz hS => Runs.load (t := 3) (a := ⟨b, 1, none⟩) (by kernel_rfl) ((H4.keep hS (fun h => h)).loads (by kernel_rfl))) (d := (some 10)) (by kernel_rfl) rfl ?_
  refine Dr.take (i := 8) (v := (Value.slice (if c = r.pos then A else Option.map (fun q => Addr.add q (r.pos * 1)) A) (r.bs.length - r.pos) (c - r.pos))) (by kernel_rfl) (by kernel_rfl) (fun wz hS => Runs.slice (by kernel_rfl) (run_cut (sz := 1) (t := 23) (A := A) (n := r.bs.length) (c := c) r.pos r.bs.length c (lo := some (i64 ((r.pos : Nat) : Int))) (hi := none) (mx := none) tyB.slice (by kernel_rfl) (.inr ⟨_, rfl⟩) (.inl ⟨rfl, rfl, rfl⟩) (.inl ⟨rfl, rfl⟩) (by omega) (by omega) (by omega))) (d := (some 11)) (by kernel_rfl) rfl ?_
  refine Dr.takes (fuel' := 0) (is' := [9, 8, 7, 6, 5, 4, 3, 2, 1, 0]) [9] [(2, (Value.slice (if c = r.pos then A else Option.map (fun q => Addr.add q (r.pos * 1)) A) (r.bs.length - r.pos) (c - r.pos)))] (by kernel_rfl) rfl (by kernel_rfl) ?_
  refine Dr.done (by kernel_rfl) ?_
  refine q_ret (by kernel_rfl) ?_
  refine ⟨(Value.slice (if c = r.pos then A else Option.map (fun q => Addr.add q (r.pos * 1)) A) (r.bs.length - r.pos) (c - r.pos)), retv_tmp rfl rfl, ?_⟩
  have hD := RdB.drop F5.1 hpos
  exact ⟨_, _, by rw [hdl], K3, by rw [hdl]; exact hD, fun g o s h => cut_block h⟩

theorem RdUint_calls (w : World) (b : Nat) (A : Option Addr) (c : Nat) (r : Rdr) (hok : r.Ok) (H0 : Has w b (rowL (rdrL A c r) 88)) (hR : RdO w A c r.bs) (hne : ∀ g o s, A = some ⟨g, o, s⟩ → g ≠ b) : Calls Try.prog 14 ⟨[(Value.pointer (some ⟨b, 0, none⟩))]⟩ w (fun e w' => e = .returned (.int .u64 ((r.uint.1 : Nat) : Int)) ∧ Keeps (fun i => i = b) w w' ∧ Has w' b (rowL (rdrL A c r.uint.2) 88)) := by
  have hpos := hok.pos
  have hlen := hok.len
  have hsc := r.scan_le
  have hdl : (r.bs.drop r.pos).length = r.bs.length - r.pos := List.length_drop
  have hcap := hR.1.slice
  have Hb := H0.lt
  have K0 : Keeps (fun i => i = b) w w := (Keeps.refl w).mono (fun _ _ h => h.elim)
  refine q_calls Try.func14 (by kernel_rfl) (by kernel_rfl) ?_
  refine q_seq (by kernel_rfl) ?_
  refine q_region (by kernel_rfl) ?_
  refine Ops.regs 1 [(0, (Value.pointer (some ⟨b, 0, none⟩))), (2, (Value.int IntKind.u64 0))] (j := 1) (by kernel_rfl) (by kernel_rfl) ?_
  refine Ops.done (by kernel_rfl) ?_
  refine q_seq (by kernel_rfl) ?_
  refine q_seq (by kernel_rfl) ?_
  refine q_region (by kernel_rfl) ?_
  refine Ops.regs 1 [(0, (Value.pointer (some ⟨b, 0, none⟩))), (2, (Value.int IntKind.u64 0)), (6, (Value.pointer (some ⟨b, 0, none⟩)))] (j := 1) (by kernel_rfl) (by kernel_rfl) ?_
  refine Ops.call (by kernel_rfl) (d := (some 7)) (by kernel_rfl) (ok_calls _ b A c r hok H0 hR hne) ?_
  rintro _ w1 ⟨rfl, K2⟩
  refine ⟨_, _, rfl, rfl, ?_⟩
  have K3 := K0.trans K2 (U := (fun i => i = b)) (fun i h1 h2 => h2) (fun i h1 h2 => by exact h2.elim)
  clear K0
  have H4 := H0.keep K2 (fun h => h)
  clear H0
  have F5 := RdO.keep0 hR K2
  clear hR
  clear K2
  refine Ops.regs 1 [(0, (Value.pointer (some ⟨b, 0, none⟩))), (2, (Value.int IntKind.u64 0)), (8, (Value.bool (!(r.why == 0))))] (j := 3) (by kernel_rfl) (by kernel_rfl) ?_
  refine Ops.done (by kernel_rfl) ?_
  refine q_cond (o := .tmp 8) (b := (!(r.why == 0))) (by kernel_rfl) rfl (fun h6 => ?_) (fun h6 => ?_)
  · rw [h6]
    have p7 : ¬ (r.why = 0) := of_beq_f (bnot_true h6)
    refine q_seq (by kernel_rfl) ?_
    refine q_region (by kernel_rfl) ?_
    refine Ops.regs 1 [(0, (Value.pointer (some ⟨b, 0, none⟩))), (2, (Value.int IntKind.u64 0))] (j := 1) (by kernel_rfl) (by kernel_rfl) ?_
    refine Ops.done (by kernel_rfl) ?_
    refine q_ret (by kernel_rfl) ?_
    refine ⟨(Value.int IntKind.u64 0), retv_tmp rfl rfl, ?_⟩
    have e : r.uint = (0, ⟨r.bs, r.pos, r.why⟩) := by unfold Rdr.uint; (repeat' split) <;> first | (exfalso; omega) | rfl | (rw [show (scanB (r.bs.drop r.pos)).2.2 = r.why from by omega])
    exact ⟨by first | (rw [e]; done) | (rw [e]; rfl), K3, by rw [e]; exact H4⟩
  · rw [h6]
    have p8 : r.why = 0 := of_beq_t (bnot_false h6)
    refine q_skip (by kernel_rfl) ?_
    refine q_seq (by kernel_rfl) ?_
    refine q_region (by kernel_rfl) ?_
    refine Ops.regs 1 [(0, (Value.pointer (some ⟨b, 0, none⟩))), (2, (Value.int IntKind.u64 0)), (10, (Value.pointer (some ⟨b, 0, none⟩)))] (j := 1) (by kernel_rfl) (by kernel_rfl) ?_
    refine Ops.call (by kernel_rfl) (d := (some 11)) (by kernel_rfl) (left_calls _ b A c r hok H4 F5 hne) ?_
    rintro _ w9 ⟨A11, c12, rfl, K10, h13, hlb14⟩
    refine ⟨_, _, rfl, rfl, ?_⟩
    have K15 := K3.trans K10 (U := (fun i => i = b)) (fun i h1 h2 => h2) (fun i h1 h2 => by exact h2.elim)
    clear K3
    have H16 := H4.keep K10 (fun h => h)
    clear H4
    have F17 := RdO.keep0 F5 K10
    clear F5
    clear K10
    refine Ops.call (by kernel_rfl) (d := (some 12)) (by kernel_rfl) (scan_calls _ A11 c12 (r.bs.drop r.pos) h13 (by omega)) ?_
    rintro _ w18 ⟨rfl, K19⟩
    refine ⟨_, _, rfl, rfl, ?_⟩
    have K20 := K15.trans K19 (U := (fun i => i = b)) (fun i h1 h2 => h2) (fun i h1 h2 => by exact h2.elim)
    clear K15
    have H21 := H16.keep K19 (fun h => h)
    clear H16
    have F22 := RdO.keep0 F17 K19
    clear F17
    have F23 := (Rd.keep0 (by omega) h13 K19)
    clear h13
    clear K19
    refine Ops.regs 7 [(0, (Value.pointer (some ⟨b, 0, none⟩))), (2, (Value.int IntKind.u64 0)), (3, (Value.int IntKind.u64 (((scanB (r.bs.drop r.pos)).1 : Nat) : Int))), (4, (i64 (((scanB (r.bs.drop r.pos)).2.1 : Nat) : Int))), (5, (i64 ((scanB (r.bs.drop r.pos)).2.2)))] (j := 10) (by kernel_rfl) (by kernel_rfl) ?_
    refine Ops.done (by kernel_rfl) ?_
    refine q_seq (by kernel_rfl) ?_
    refine q_seq (by kernel_rfl) ?_
    refine q_region (by kernel_rfl) ?_
    refine Ops.regs 4 [(0, (Value.pointer (some ⟨b, 0, none⟩))), (2, (Value.int IntKind.u64 0)), (3, (Value.int IntKind.u64 (((scanB (r.bs.drop r.pos)).1 : Nat) : Int))), (4, (i64 (((scanB (r.bs.drop r.pos)).2.1 : Nat) : Int))), (5, (i64 ((scanB (r.bs.drop r.pos)).2.2))), (17, (i64 ((scanB (r.bs.drop r.pos)).2.2))), (19, (Value.pointer (some ⟨b, 2, none⟩)))] (j := 4) (by kernel_rfl) (by kernel_rfl) ?_
    refine Ops.put (t := 28) (b := b) (off := 2) (v := (i64 ((scanB (r.bs.drop r.pos)).2.2))) (ys := [(Value.slice A r.bs.length c), (i64 ((r.pos : Nat) : Int)), (i64 ((scanB (r.bs.drop r.pos)).2.2))]) (by kernel_rfl) (by kernel_rfl) H21 (by kernel_rfl) (d := none) (by kernel_rfl) rfl (fun w24 H25 K26 => ?_)
    clear H21
    have K27 := K20.trans K26 (U := (fun i => i = b)) (fun i h1 h2 => h2) (fun i h1 h2 => by have h2 : i = b := h2; show i = b; omega)
    clear K20
    have F28 := RdO.keep F22 K26 (fun i _ _ hi hs => by have hs : i = b := hs; have := hne i _ _ hi; omega)
    clear F22
    clear F23
    clear K26
    refine Ops.done (by kernel_rfl) ?_
    refine q_seq (by kernel_rfl) ?_
    refine q_region (by kernel_rfl) ?_
    refine Ops.regs 2 [(0, (Value.pointer (some ⟨b, 0, none⟩))), (2, (Value.int IntKind.u64 0)), (3, (Value.int IntKind.u64 (((scanB (r.bs.drop r.pos)).1 : Nat) : Int))), (4, (i64 (((scanB (r.bs.drop r.pos)).2.1 : Nat) : Int))), (21, (Value.bool (((scanB (r.bs.drop r.pos)).2.2) != 0)))] (j := 2) (by kernel_rfl) (by kernel_rfl) ?_
    refine Ops.done (by kernel_rfl) ?_
    refine q_cond (o := .tmp 21) (b := (((scanB (r.bs.drop r.pos)).2.2) != 0)) (by kernel_rfl) rfl (fun h29 => ?_) (fun h29 => ?_)
    · rw [h29]
      have p30 : ¬ ((scanB (r.bs.drop r.pos)).2.2 = 0) := of_bne_t h29
      refine q_seq (by kernel_rfl) ?_
      refine q_region (by kernel_rfl) ?_
      refine Ops.regs 1 [(0, (Value.pointer (some ⟨b, 0, none⟩))), (2, (Value.int IntKind.u64 0)), (3, (Value.int IntKind.u64 (((scanB (r.bs.drop r.pos)).1 : Nat) : Int))), (4, (i64 (((scanB (r.bs.drop r.pos)).2.1 : Nat) : Int)))] (j := 1) (by kernel_rfl) (by kernel_rfl) ?_
      refine Ops.done (by kernel_rfl) ?_
      refine q_ret (by kernel_rfl) ?_
      refine ⟨(Value.int IntKind.u64 0), retv_tmp rfl rfl, ?_⟩
      have e : r.uint = (0, ⟨r.bs, r.pos, (scanB (r.bs.drop r.pos)).2.2⟩) := by unfold Rdr.uint; (repeat' split) <;> first | (exfalso; omega) | rfl | (rw [show (scanB (r.bs.drop r.pos)).2.2 = r.why from by omega])
      exact ⟨by first | (rw [e]; done) | (rw [e]; rfl), K27, by rw [e]; exact H25⟩
    · rw [h29]
      have p31 : (scanB (r.bs.drop r.pos)).2.2 = 0 := of_bne_f h29
      refine q_skip (by kernel_rfl) ?_
      refine q_seq (by kernel_rfl) ?_
      refine q_region (by kernel_rfl) ?_
      refine Ops.regs 3 [(2, (Value.int IntKind.u64 0)), (3, (Value.int IntKind.u64 (((scanB (r.bs.drop r.pos)).1 : Nat) : Int))), (4, (i64 (((scanB (r.bs.drop r.pos)).2.1 : Nat) : Int))), (22, (Value.pointer (some ⟨b, 0, none⟩))), (24, (Value.pointer (some ⟨b, 1, none⟩)))] (j := 3) (by kernel_rfl) (by kernel_rfl) ?_
      refine Ops.go (v := (i64 ((r.pos : Nat) : Int))) (by kernel_rfl) (Runs.load (t := 3) (a := ⟨b, 1, none⟩) (by kernel_rfl) (H25.loads (by kernel_rfl))) (d := (some 25)) (by kernel_rfl) rfl ?_
      refine Ops.regs 2 [(2, (Value.int IntKind.u64 0)), (3, (Value.int IntKind.u64 (((scanB (r.bs.drop r.pos)).1 : Nat) : Int))), (22, (Value.pointer (some ⟨b, 0, none⟩))), (27, (i64 (IntKind.i64.wrap (((r.pos : Nat) : Int) + (((scanB (r.bs.drop r.pos)).2.1 : Nat) : Int)))))] (j := 6) (by kernel_rfl) (by kernel_rfl) ?_
      have e32 : IntKind.i64.wrap (((r.pos : Nat) : Int) + (((scanB (r.bs.drop r.pos)).2.1 : Nat) : Int)) = ((r.pos + ((scanB (r.bs.drop r.pos)).2.1) : Nat) : Int) := by rw [wrap_i64 (by omega) (by omega)]; omega
      rw [e32]
      clear e32
      refine Ops.regs 2 [(2, (Value.int IntKind.u64 0)), (3, (Value.int IntKind.u64 (((scanB (r.bs.drop r.pos)).1 : Nat) : Int))), (27, (i64 ((r.pos + ((scanB (r.bs.drop r.pos)).2.1) : Nat) : Int))), (29, (Value.pointer (some ⟨b, 1, none⟩)))] (j := 8) (by kernel_rfl) (by kernel_rfl) ?_
      refine Ops.put (t := 3) (b := b) (off := 1) (v := (i64 ((r.pos + ((scanB (r.bs.drop r.pos)).2.1) : Nat) : Int))) (ys := [(Value.slice A r.bs.length c), (i64 ((r.pos + ((scanB (r.bs.drop r.pos)).2.1) : Nat) : Int)), (i64 ((scanB (r.bs.drop r.pos)).2.2))]) (by kernel_rfl) (by kernel_rfl) H25 (by kernel_rfl) (d := none) (by kernel_rfl) rfl (fun w33 H34 K35 => ?_)
      clear H25
      have K36 := K27.trans K35 (U := (fun i => i = b)) (fun i h1 h2 => h2) (fun i h1 h2 => by have h2 : i = b := h2; show i = b; omega)
      clear K27
      have F37 := RdO.keep F28 K35 (fun i _ _ hi hs => by have hs : i = b := hs; have := hne i _ _ hi; omega)
      clear F28
      clear K35
      refine Ops.done (by kernel_rfl) ?_
      refine q_seq (by kernel_rfl) ?_
      refine q_region (by kernel_rfl) ?_
      refine Ops.regs 2 [(2, (Value.int IntKind.u64 (((scanB (r.bs.drop r.pos)).1 : Nat) : Int)))] (j := 2) (by kernel_rfl) (by kernel_rfl) ?_
      refine Ops.done (by kernel_rfl) ?_
      refine q_ret (by kernel_rfl) ?_
      refine ⟨(Value.int IntKind.u64 (((scanB (r.bs.drop r.pos)).1 : Nat) : Int)), retv_tmp rfl rfl, ?_⟩
      have e : r.uint = ((scanB (r.bs.drop r.pos)).1, ⟨r.bs, r.pos + ((scanB (r.bs.drop r.pos)).2.1), (scanB (r.bs.drop r.pos)).2.2⟩) := by unfold Rdr.uint; (repeat' split) <;> first | (exfalso; omega) | rfl | (rw [show (scanB (r.bs.drop r.pos)).2.2 = r.why from by omega])
      exact ⟨by first | (rw [e]; done) | (rw [e]; rfl), K36, by rw [e]; exact H34⟩

theorem RdInt_calls (w : World) (b : Nat) (A : Option Addr) (c : Nat) (r : Rdr) (hok : r.Ok) (H0 : Has w b (rowL (rdrL A c r) 88)) (hR : RdO w A c r.bs) (hne : ∀ g o s, A = some ⟨g, o, s⟩ → g ≠ b) : Calls Try.prog 47 ⟨[(Value.pointer (some ⟨b, 0, none⟩))]⟩ w (fun e w' => e = .returned (i64 r.int.1) ∧ Keeps (fun i => i = b) w w' ∧ Has w' b (rowL (rdrL A c r.int.2) 88)) := by
  have hpos := hok.pos
  have hlen := hok.len
  have hsc := r.scan_le
  have hdl : (r.bs.drop r.pos).length = r.bs.length - r.pos := List.length_drop
  have hcap := hR.1.slice
  have Hb := H0.lt
  have K0 : Keeps (fun i => i = b) w w := (Keeps.refl w).mono (fun _ _ h => h.elim)
  refine q_calls Try.func47 (by kernel_rfl) (by kernel_rfl) ?_
  refine q_seq (by kernel_rfl) ?_
  refine q_region (by kernel_rfl) ?_
  refine Ops.regs 1 [(0, (Value.pointer (some ⟨b, 0, none⟩))), (2, (i64 0))] (j := 1) (by kernel_rfl) (by kernel_rfl) ?_
  refine Ops.done (by kernel_rfl) ?_
  refine q_seq (by kernel_rfl) ?_
  refine q_region (by kernel_rfl) ?_
  refine Ops.regs 1 [(2, (i64 0)), (4, (Value.pointer (some ⟨b, 0, none⟩)))] (j := 1) (by kernel_rfl) (by kernel_rfl) ?_
  refine Ops.call (by kernel_rfl) (d := (some 5)) (by kernel_rfl) (RdUint_calls _ b A c r hok H0 hR hne) ?_
  rintro _ w1 ⟨rfl, K2, H3⟩
  have hok4 := Rdr.Ok.uint hok
  have hu5 := Rdr.uint_lt r
  refine ⟨_, _, rfl, rfl, ?_⟩
  have K6 := K0.trans K2 (U := (fun i => i = b)) (fun i h1 h2 => h2) (fun i h1 h2 => by have h2 : i = b := h2; show i = b; omega)
  clear K0
  have F7 := RdO.keep hR K2 (fun i _ _ hi hs => by have hs : i = b := hs; have := hne i _ _ hi; omega)
  clear hR
  clear K2
  have F8 : RdO w1 A c (r.uint.2).bs := by rw [Rdr.uint_bs]; exact F7
  clear F7
  refine Ops.regs 1 [(2, (i64 0)), (3, (Value.int IntKind.u64 ((r.uint.1 : Nat) : Int)))] (j := 3) (by kernel_rfl) (by kernel_rfl) ?_
  refine Ops.done (by kernel_rfl) ?_
  refine q_seq (by kernel_rfl) ?_
  refine q_region (by kernel_rfl) ?_
  refine Ops.regs 2 [(2, (i64 0)), (3, (Value.int IntKind.u64 ((r.uint.1 : Nat) : Int))), (7, (Value.int IntKind.u64 ((((r.uint.1 : Nat) : Int)).fdiv 2)))] (j := 2) (by kernel_rfl) (by kernel_rfl) ?_
  have e9 : (((r.uint.1 : Nat) : Int)).fdiv 2 = ((r.uint.1 / 2 : Nat) : Int) := fdiv_nat r.uint.1 2
  rw [e9]
  clear e9
  refine Ops.regs 1 [(2, (i64 0)), (3, (Value.int IntKind.u64 ((r.uint.1 : Nat) : Int))), (8, (i64 (IntKind.i64.wrap (((r.uint.1 / 2 : Nat) : Int)))))] (j := 3) (by kernel_rfl) (by kernel_rfl) ?_
  have e10 : IntKind.i64.wrap (((r.uint.1 / 2 : Nat) : Int)) = ((r.uint.1 / 2 : Nat) : Int) := wrap_i64 (by omega) (by omega)
  rw [e10]
  refine Ops.regs 1 [(2, (i64 0)), (8, (i64 ((r.uint.1 / 2 : Nat) : Int))), (9, (Value.int IntKind.u64 ((r.uint.1 : Nat) : Int)))] (j := 4) (by kernel_rfl) (by kernel_rfl) ?_
  refine Ops.go (v := (Value.int IntKind.u64 ((r.uint.1 % 2 : Nat) : Int))) (by kernel_rfl) (Runs.int (op := .and) (t := 22) (by kernel_rfl) (run_and1 (by omega))) (d := (some 10)) (by kernel_rfl) rfl ?_
  refine Ops.regs 1 [(2, (i64 0)), (8, (i64 ((r.uint.1 / 2 : Nat) : Int))), (11, (i64 (IntKind.i64.wrap (((r.uint.1 % 2 : Nat) : Int)))))] (j := 6) (by kernel_rfl) (by kernel_rfl) ?_
  have e11 : IntKind.i64.wrap (((r.uint.1 % 2 : Nat) : Int)) = ((r.uint.1 % 2 : Nat) : Int) := wrap_i64 (by omega) (by omega)
  rw [e11]
  refine Ops.regs 1 [(2, (i64 0)), (8, (i64 ((r.uint.1 / 2 : Nat) : Int))), (12, (i64 (IntKind.i64.wrap (0 - ((r.uint.1 % 2 : Nat) : Int)))))] (j := 7) (by kernel_rfl) (by kernel_rfl) ?_
  have e12 : IntKind.i64.wrap (0 - ((r.uint.1 % 2 : Nat) : Int)) = 0 - ((r.uint.1 % 2 : Nat) : Int) := wrap_i64 (by omega) (by omega)
  rw [e12]
  refine Ops.go (v := (i64 (unzz r.uint.1))) (by kernel_rfl) (Runs.int (op := .xor) (t := 2) (by kernel_rfl) (run_unzz (by omega))) (d := (some 13)) (by kernel_rfl) rfl ?_
  refine Ops.regs 1 [(2, (i64 (unzz r.uint.1)))] (j := 9) (by kernel_rfl) (by kernel_rfl) ?_
  refine Ops.done (by kernel_rfl) ?_
  refine q_ret (by kernel_rfl) ?_
  refine ⟨(i64 (unzz r.uint.1)), retv_tmp rfl rfl, ?_⟩
  exact ⟨rfl, K6, H3⟩

theorem RdEnd_calls (w : World) (b : Nat) (A : Option Addr) (c : Nat) (r : Rdr) (hok : r.Ok) (H0 : Has w b (rowL (rdrL A c r) 88)) (hR : RdO w A c r.bs) (hne : ∀ g o s, A = some ⟨g, o, s⟩ → g ≠ b) : Calls Try.prog 15 ⟨[(Value.pointer (some ⟨b, 0, none⟩))]⟩ w (fun e w' => e = .returned (i64 r.end_) ∧ Keeps none_ w w') := by
  have hpos := hok.pos
  have hlen := hok.len
  have hsc := r.scan_le
  have hdl : (r.bs.drop r.pos).length = r.bs.length - r.pos := List.length_drop
  have hcap := hR.1.slice
  have Hb := H0.lt
  have K0 : Keeps none_ w w := Keeps.refl w
  refine q_calls Try.func15 (by kernel_rfl) (by kernel_rfl) ?_
  refine q_seq (by kernel_rfl) ?_
  refine q_region (by kernel_rfl) ?_
  refine Ops.regs 1 [(0, (Value.pointer (some ⟨b, 0, none⟩))), (2, (i64 0))] (j := 1) (by kernel_rfl) (by kernel_rfl) ?_
  refine Ops.done (by kernel_rfl) ?_
  refine q_seq (by kernel_rfl) ?_
  refine q_block (id := 0) (by kernel_rfl) ?_
  refine q_seq (by kernel_rfl) ?_
  refine q_region (by kernel_rfl) ?_
  refine Ops.regs 3 [(0, (Value.pointer (some ⟨b, 0, none⟩))), (2, (i64 0)), (3, (Value.bool false))] (j := 3) (by kernel_rfl) (by kernel_rfl) ?_
  refine Ops.done (by kernel_rfl) ?_
  refine q_else (o := .tmp 3) (by kernel_rfl) rfl ?_
  refine q_seq (by kernel_rfl) ?_
  refine q_region (by kernel_rfl) ?_
  refine Ops.regs 3 [(0, (Value.pointer (some ⟨b, 0, none⟩))), (2, (i64 0)), (9, (Value.pointer (some ⟨b, 2, none⟩)))] (j := 3) (by kernel_rfl) (by kernel_rfl) ?_
  refine Ops.go (v := (i64 r.why)) (by kernel_rfl) (Runs.load (t := 28) (a := ⟨b, 2, none⟩) (by kernel_rfl) (H0.loads (by kernel_rfl))) (d := (some 10)) (by kernel_rfl) rfl ?_
  refine Ops.regs 2 [(0, (Value.pointer (some ⟨b, 0, none⟩))), (2, (i64 0)), (12, (Value.bool (r.why == 0)))] (j := 6) (by kernel_rfl) (by kernel_rfl) ?_
  refine Ops.split (r.why == 0) (fun h1 => ?_) (fun h1 => ?_)
  · rw [h1]
    have p2 : r.why = 0 := of_beq_t h1
    refine Ops.regs 1 [(0, (Value.pointer (some ⟨b, 0, none⟩))), (2, (i64 0)), (12, (Value.bool true)), (13, (Value.pointer (some ⟨b, 0, none⟩)))] (j := 7) (by kernel_rfl) (by kernel_rfl) ?_
    refine Ops.call (by kernel_rfl) (d := (some 14)) (by kernel_rfl) (left_calls _ b A c r hok H0 hR hne) ?_
    rintro _ w3 ⟨A5, c6, rfl, K4, h7, hlb8⟩
    refine ⟨_, _, rfl, rfl, ?_⟩
    have K9 := K0.trans K4 (U := none_) (fun i h1 h2 => h2) (fun i h1 h2 => by exact h2)
    clear K0
    have H10 := H0.keep K4 (fun h => h)
    clear H0
    have F11 := RdO.keep0 hR K4
    clear hR
    clear K4
    refine Ops.regs 4 [(0, (Value.pointer (some ⟨b, 0, none⟩))), (2, (i64 0)), (6, (Value.bool (decide ((((r.bs.drop r.pos).length : Nat) : Int) > 0))))] (j := 12) (by kernel_rfl) (by kernel_rfl) ?_
    refine Ops.done (by kernel_rfl) ?_
    refine q_cond (o := .tmp 6) (b := (decide ((((r.bs.drop r.pos).length : Nat) : Int) > 0))) (by kernel_rfl) rfl (fun h12 => ?_) (fun h12 => ?_)
    · rw [h12]
      have p13 : (((r.bs.drop r.pos).length : Nat) : Int) > 0 := of_decide_eq_true h12
      refine q_seq (by kernel_rfl) ?_
      refine q_region (by kernel_rfl) ?_
      refine Ops.regs 1 [(0, (Value.pointer (some ⟨b, 0, none⟩))), (2, (i64 11))] (j := 1) (by kernel_rfl) (by kernel_rfl) ?_
      refine Ops.done (by kernel_rfl) ?_
      refine q_ret (by kernel_rfl) ?_
      refine ⟨(i64 11), retv_tmp rfl rfl, ?_⟩
      have e : r.end_ = 11 := by unfold Rdr.end_; (split <;> first | (exfalso; omega) | rfl | omega)
      exact ⟨by rw [e], K9⟩
    · rw [h12]
      have p14 : ¬ ((((r.bs.drop r.pos).length : Nat) : Int) > 0) := of_decide_eq_false h12
      refine q_skip (by kernel_rfl) ?_
      refine q_seq (by kernel_rfl) ?_
      refine q_region (by kernel_rfl) ?_
      refine Ops.regs 3 [(2, (i64 0)), (20, (Value.pointer (some ⟨b, 2, none⟩)))] (j := 3) (by kernel_rfl) (by kernel_rfl) ?_
      refine Ops.go (v := (i64 r.why)) (by kernel_rfl) (Runs.load (t := 28) (a := ⟨b, 2, none⟩) (by kernel_rfl) (H10.loads (by kernel_rfl))) (d := (some 21)) (by kernel_rfl) rfl ?_
      refine Ops.regs 1 [(2, (i64 r.why))] (j := 5) (by kernel_rfl) (by kernel_rfl) ?_
      refine Ops.done (by kernel_rfl) ?_
      refine q_ret (by kernel_rfl) ?_
      refine ⟨(i64 r.why), retv_tmp rfl rfl, ?_⟩
      have e : r.end_ = r.why := by unfold Rdr.end_; (split <;> first | (exfalso; omega) | rfl | omega)
      exact ⟨by rw [e], K9⟩
  · rw [h1]
    have p15 : ¬ (r.why = 0) := of_beq_f h1
    refine Ops.regs 6 [(0, (Value.pointer (some ⟨b, 0, none⟩))), (2, (i64 0)), (6, (Value.bool false))] (j := 12) (by kernel_rfl) (by kernel_rfl) ?_
    refine Ops.done (by kernel_rfl) ?_
    refine q_else (o := .tmp 6) (by kernel_rfl) rfl ?_
    refine q_skip (by kernel_rfl) ?_
    refine q_seq (by kernel_rfl) ?_
    refine q_region (by kernel_rfl) ?_
    refine Ops.regs 3 [(2, (i64 0)), (20, (Value.pointer (some ⟨b, 2, none⟩)))] (j := 3) (by kernel_rfl) (by kernel_rfl) ?_
    refine Ops.go (v := (i64 r.why)) (by kernel_rfl) (Runs.load (t := 28) (a := ⟨b, 2, none⟩) (by kernel_rfl) (H0.loads (by kernel_rfl))) (d := (some 21)) (by kernel_rfl) rfl ?_
    refine Ops.regs 1 [(2, (i64 r.why))] (j := 5) (by kernel_rfl) (by kernel_rfl) ?_
    refine Ops.done (by kernel_rfl) ?_
    refine q_ret (by kernel_rfl) ?_
    refine ⟨(i64 r.why), retv_tmp rfl rfl, ?_⟩
    have e : r.end_ = r.why := by unfold Rdr.end_; (split <;> first | (exfalso; omega) | rfl | omega)
    exact ⟨by rw [e], K0⟩
end Go.Proofs.Ytnepjfnkaigakaa
