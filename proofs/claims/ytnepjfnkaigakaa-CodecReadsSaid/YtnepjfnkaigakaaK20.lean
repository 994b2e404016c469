/- one read of both -/
import Derived.Test.YtnepjfnkaigakaaProg
import Derived.Test.YtnepjfnkaigakaaK18
set_option linter.unusedVariables false
namespace Go.Proofs.Ytnepjfnkaigakaa
open Go.Q Go.RowKit

set_option maxHeartbeats 4000000 in
theorem one_calls (w : World) (b1 b2 : Nat) (A1 A2 : Option Addr) (c1 c2 : Nat) (r : Rdr) (kind most : Int) (hm : -9223372036854775808 ≤ most ∧ most ≤ 9223372036854775807) (hb : b1 ≠ b2) (hok : r.Ok) (H1 : Has w b1 (rowL (rdrL A1 c1 r) 88)) (H2 : Has w b2 (rowL (rdrL A2 c2 r) 72)) (hR1 : RdO w A1 c1 r.bs) (hR2 : RdO w A2 c2 r.bs) (hne11 : ∀ g o s, A1 = some ⟨g, o, s⟩ → g ≠ b1) (hne12 : ∀ g o s, A1 = some ⟨g, o, s⟩ → g ≠ b2) (hne21 : ∀ g o s, A2 = some ⟨g, o, s⟩ → g ≠ b1) (hne22 : ∀ g o s, A2 = some ⟨g, o, s⟩ → g ≠ b2) : Calls Try.prog 45 ⟨[(Value.pointer (some ⟨b1, 0, none⟩)), (Value.pointer (some ⟨b2, 0, none⟩)), (i64 kind), (i64 most)]⟩ w (fun e w' => e = .returned (.bool true) ∧ Keeps (fun i => i = b1 ∨ i = b2) w w' ∧ Has w' b1 (rowL (rdrL A1 c1 (r.step kind most)) 88) ∧ Has w' b2 (rowL (rdrL A2 c2 (r.step kind most)) 72)) := by
  have K0 : Keeps (fun i => i = b1 ∨ i = b2) w w := (Keeps.refl w).mono (fun _ _ h => h.elim)
  have Hb1 := H1.lt
  have Hb2 := H2.lt
  have htm := tmod_range kind (k := 8) (by decide)
  refine q_calls Try.func45 (by kernel_rfl) (by kernel_rfl) ?_
  refine q_seq (by kernel_rfl) ?_
  refine q_region (by kernel_rfl) ?_
  refine Ops.regs 1 [(0, (Value.pointer (some ⟨b1, 0, none⟩))), (1, (Value.pointer (some ⟨b2, 0, none⟩))), (2, (i64 kind)), (3, (i64 most)), (8, (Value.bool false))] (j := 1) (by kernel_rfl) (by kernel_rfl) ?_
  refine Ops.done (by kernel_rfl) ?_
  refine q_seq (by kernel_rfl) ?_
  refine q_seq (by kernel_rfl) ?_
  refine q_region (by kernel_rfl) ?_
  refine Ops.regs 2 [(0, (Value.pointer (some ⟨b1, 0, none⟩))), (1, (Value.pointer (some ⟨b2, 0, none⟩))), (3, (i64 most)), (8, (Value.bool false)), (13, (i64 ((kind).tmod 8)))] (j := 2) (by kernel_rfl) (by kernel_rfl) ?_
  refine Ops.done (by kernel_rfl) ?_
  refine q_block (id := 0) (by kernel_rfl) ?_
  refine q_seq (by kernel_rfl) ?_
  refine q_region (by kernel_rfl) ?_
  refine Ops.regs 2 [(0, (Value.pointer (some ⟨b1, 0, none⟩))), (1, (Value.pointer (some ⟨b2, 0, none⟩))), (3, (i64 most)), (8, (Value.bool false)), (13, (i64 ((kind).tmod 8))), (14, (Value.bool (((kind).tmod 8) == 0)))] (j := 2) (by kernel_rfl) (by kernel_rfl) ?_
  refine Ops.done (by kernel_rfl) ?_
  refine q_cond (o := .tmp 14) (b := (((kind).tmod 8) == 0)) (by kernel_rfl) rfl (fun h1 => ?_) (fun h1 => ?_)
  · rw [h1]
    have p2 : (kind).tmod 8 = 0 := of_beq_t h1
    refine q_seq (by kernel_rfl) ?_
    refine q_region (by kernel_rfl) ?_
    refine Ops.regs 1 [(0, (Value.pointer (some ⟨b1, 0, none⟩))), (1, (Value.pointer (some ⟨b2, 0, none⟩))), (3, (i64 most)), (8, (Value.bool false)), (13, (i64 ((kind).tmod 8))), (16, (Value.pointer (some ⟨b1, 0, none⟩)))] (j := 1) (by kernel_rfl) (by kernel_rfl) ?_
    refine Ops.call (by kernel_rfl) (d := (some 17)) (by kernel_rfl) (RdUint_calls _ b1 A1 c1 r hok H1 hR1 hne11 ) ?_
    rintro _ w3 ⟨rfl, K4, H5⟩
    have hok6 : (r.uint).2.Ok := Rdr.Ok.uint hok
    have hu7 := Rdr.uint_lt r
    refine ⟨_, _, rfl, rfl, ?_⟩
    have K8 := K0.trans K4 (U := (fun i => i = b1 ∨ i = b2)) (fun i h1 h2 => h2) (fun i h1 h2 => by have h2 : i = b1 := h2; show i = b1 ∨ i = b2; omega)
    clear K0
    have H9 := H2.keep K4 (by intro h; change b2 = b1 at h; omega)
    clear H2
    have F10 := RdO.keep hR1 K4 (fun i _ _ hi hs => by have hs : i = b1 := hs; have := hne11 i _ _ hi; omega)
    clear hR1
    have F11 := RdO.keep hR2 K4 (fun i _ _ hi hs => by have hs : i = b1 := hs; have := hne21 i _ _ hi; omega)
    clear hR2
    clear K4
    have F12 : RdO w3 A1 c1 (r.uint).2.bs := by rw [Rdr.uint_bs]; exact F10
    clear F10
    refine Ops.regs 1 [(0, (Value.pointer (some ⟨b1, 0, none⟩))), (1, (Value.pointer (some ⟨b2, 0, none⟩))), (3, (i64 most)), (8, (Value.bool false)), (13, (i64 ((kind).tmod 8))), (17, (Value.int IntKind.u64 (((r.uint).1 : Nat) : Int))), (18, (Value.pointer (some ⟨b2, 0, none⟩)))] (j := 3) (by kernel_rfl) (by kernel_rfl) ?_
    refine Ops.call (by kernel_rfl) (d := (some 19)) (by kernel_rfl) (RRUint_calls _ b2 A2 c2 r hok H9 F11 hne22 ) ?_
    rintro _ w13 ⟨rfl, K14, H15⟩
    have hok16 : (r.uint).2.Ok := Rdr.Ok.uint hok
    have hu17 := Rdr.uint_lt r
    refine ⟨_, _, rfl, rfl, ?_⟩
    have K18 := K8.trans K14 (U := (fun i => i = b1 ∨ i = b2)) (fun i h1 h2 => h2) (fun i h1 h2 => by have h2 : i = b2 := h2; show i = b1 ∨ i = b2; omega)
    clear K8
    have H19 := H5.keep K14 (by intro h; change b1 = b2 at h; omega)
    clear H5
    have F20 := RdO.keep F12 K14 (fun i _ _ hi hs => by have hs : i = b2 := hs; have := hne12 i _ _ hi; omega)
    clear F12
    have F21 := RdO.keep F11 K14 (fun i _ _ hi hs => by have hs : i = b2 := hs; have := hne22 i _ _ hi; omega)
    clear F11
    clear K14
    have F22 : RdO w13 A2 c2 (r.uint).2.bs := by rw [Rdr.uint_bs]; exact F21
    clear F21
    refine Ops.regs 2 [(0, (Value.pointer (some ⟨b1, 0, none⟩))), (1, (Value.pointer (some ⟨b2, 0, none⟩))), (3, (i64 most)), (8, (Value.bool ((((r.uint).1 : Nat) : Int) == (((r.uint).1 : Nat) : Int)))), (13, (i64 ((kind).tmod 8)))] (j := 6) (by kernel_rfl) (by kernel_rfl) ?_
    refine Ops.done (by kernel_rfl) ?_
    refine q_ret (by kernel_rfl) ?_
    refine ⟨(Value.bool ((((r.uint).1 : Nat) : Int) == (((r.uint).1 : Nat) : Int))), retv_tmp rfl rfl, ?_⟩
    have e : r.step kind most = (r.uint).2 := by unfold Rdr.step; repeat (first | rw [if_pos (by omega)] | rw [if_neg (by omega)])
    exact ⟨by simp, K18, by rw [e]; exact H19, by rw [e]; exact H15⟩
  · rw [h1]
    have p23 : ¬ ((kind).tmod 8 = 0) := of_beq_f h1
    refine q_seq (by kernel_rfl) ?_
    refine q_region (by kernel_rfl) ?_
    refine Ops.regs 2 [(0, (Value.pointer (some ⟨b1, 0, none⟩))), (1, (Value.pointer (some ⟨b2, 0, none⟩))), (3, (i64 most)), (8, (Value.bool false)), (13, (i64 ((kind).tmod 8))), (21, (Value.bool (((kind).tmod 8) == 1)))] (j := 2) (by kernel_rfl) (by kernel_rfl) ?_
    refine Ops.done (by kernel_rfl) ?_
    refine q_cond (o := .tmp 21) (b := (((kind).tmod 8) == 1)) (by kernel_rfl) rfl (fun h24 => ?_) (fun h24 => ?_)
    · rw [h24]
      have p25 : (kind).tmod 8 = 1 := of_beq_t h24
      refine q_seq (by kernel_rfl) ?_
      refine q_region (by kernel_rfl) ?_
      refine Ops.regs 1 [(0, (Value.pointer (some ⟨b1, 0, none⟩))), (1, (Value.pointer (some ⟨b2, 0, none⟩))), (3, (i64 most)), (8, (Value.bool false)), (13, (i64 ((kind).tmod 8))), (23, (Value.pointer (some ⟨b1, 0, none⟩)))] (j := 1) (by kernel_rfl) (by kernel_rfl) ?_
      refine Ops.call (by kernel_rfl) (d := (some 24)) (by kernel_rfl) (RdInt_calls _ b1 A1 c1 r hok H1 hR1 hne11 ) ?_
      rintro _ w26 ⟨rfl, K27, H28⟩
      have hok29 : (r.int).2.Ok := Rdr.Ok.int hok
      have hu30 := Rdr.int_range r
      refine ⟨_, _, rfl, rfl, ?_⟩
      have K31 := K0.trans K27 (U := (fun i => i = b1 ∨ i = b2)) (fun i h1 h2 => h2) (fun i h1 h2 => by have h2 : i = b1 := h2; show i = b1 ∨ i = b2; omega)
      clear K0
      have H32 := H2.keep K27 (by intro h; change b2 = b1 at h; omega)
      clear H2
      have F33 := RdO.keep hR1 K27 (fun i _ _ hi hs => by have hs : i = b1 := hs; have := hne11 i _ _ hi; omega)
      clear hR1
      have F34 := RdO.keep hR2 K27 (fun i _ _ hi hs => by have hs : i = b1 := hs; have := hne21 i _ _ hi; omega)
      clear hR2
      clear K27
      have F35 : RdO w26 A1 c1 (r.int).2.bs := by rw [Rdr.int_bs]; exact F33
      clear F33
      refine Ops.regs 1 [(0, (Value.pointer (some ⟨b1, 0, none⟩))), (1, (Value.pointer (some ⟨b2, 0, none⟩))), (3, (i64 most)), (8, (Value.bool false)), (13, (i64 ((kind).tmod 8))), (24, (i64 ((r.int).1))), (25, (Value.pointer (some ⟨b2, 0, none⟩)))] (j := 3) (by kernel_rfl) (by kernel_rfl) ?_
      refine Ops.call (by kernel_rfl) (d := (some 26)) (by kernel_rfl) (RRInt_calls _ b2 A2 c2 r hok H32 F34 hne22 ) ?_
      rintro _ w36 ⟨rfl, K37, H38⟩
      have hok39 : (r.int).2.Ok := Rdr.Ok.int hok
      have hu40 := Rdr.int_range r
      refine ⟨_, _, rfl, rfl, ?_⟩
      have K41 := K31.trans K37 (U := (fun i => i = b1 ∨ i = b2)) (fun i h1 h2 => h2) (fun i h1 h2 => by have h2 : i = b2 := h2; show i = b1 ∨ i = b2; omega)
      clear K31
      have H42 := H28.keep K37 (by intro h; change b1 = b2 at h; omega)
      clear H28
      have F43 := RdO.keep F35 K37 (fun i _ _ hi hs => by have hs : i = b2 := hs; have := hne12 i _ _ hi; omega)
      clear F35
      have F44 := RdO.keep F34 K37 (fun i _ _ hi hs => by have hs : i = b2 := hs; have := hne22 i _ _ hi; omega)
      clear F34
      clear K37
      have F45 : RdO w36 A2 c2 (r.int).2.bs := by rw [Rdr.int_bs]; exact F44
      clear F44
      refine Ops.regs 2 [(0, (Value.pointer (some ⟨b1, 0, none⟩))), (1, (Value.pointer (some ⟨b2, 0, none⟩))), (3, (i64 most)), (8, (Value.bool (((r.int).1) == ((r.int).1)))), (13, (i64 ((kind).tmod 8)))] (j := 6) (by kernel_rfl) (by kernel_rfl) ?_
      refine Ops.done (by kernel_rfl) ?_
      refine q_ret (by kernel_rfl) ?_
      refine ⟨(Value.bool (((r.int).1) == ((r.int).1))), retv_tmp rfl rfl, ?_⟩
      have e : r.step kind most = (r.int).2 := by unfold Rdr.step; repeat (first | rw [if_pos (by omega)] | rw [if_neg (by omega)])
      exact ⟨by simp, K41, by rw [e]; exact H42, by rw [e]; exact H38⟩
    · rw [h24]
      have p46 : ¬ ((kind).tmod 8 = 1) := of_beq_f h24
      refine q_seq (by kernel_rfl) ?_
      refine q_region (by kernel_rfl) ?_
      refine Ops.regs 2 [(0, (Value.pointer (some ⟨b1, 0, none⟩))), (1, (Value.pointer (some ⟨b2, 0, none⟩))), (3, (i64 most)), (8, (Value.bool false)), (13, (i64 ((kind).tmod 8))), (28, (Value.bool (((kind).tmod 8) == 2)))] (j := 2) (by kernel_rfl) (by kernel_rfl) ?_
      refine Ops.done (by kernel_rfl) ?_
      refine q_cond (o := .tmp 28) (b := (((kind).tmod 8) == 2)) (by kernel_rfl) rfl (fun h47 => ?_) (fun h47 => ?_)
      · rw [h47]
        have p48 : (kind).tmod 8 = 2 := of_beq_t h47
        refine q_seq (by kernel_rfl) ?_
        refine q_region (by kernel_rfl) ?_
        refine Ops.regs 1 [(0, (Value.pointer (some ⟨b1, 0, none⟩))), (1, (Value.pointer (some ⟨b2, 0, none⟩))), (3, (i64 most)), (8, (Value.bool false)), (13, (i64 ((kind).tmod 8))), (30, (Value.pointer (some ⟨b1, 0, none⟩)))] (j := 1) (by kernel_rfl) (by kernel_rfl) ?_
        refine Ops.call (by kernel_rfl) (d := (some 31)) (by kernel_rfl) (RdBytes_calls _ b1 A1 c1 r hok H1 hR1 hne11 ) ?_
        rintro _ w49 ⟨v54, rfl, K50, hO55, H51⟩
        have hok52 : (r.bytes).2.Ok := Rdr.Ok.bytes hok
        have hu53 := Rdr.bytes_le hok
        have ob57 : ∀ i, (v54).ownBlock = some i → i ≠ b1 := fun i hi => by have := (World.ownsRow.lt hO55 i hi).1; have := H1.lt; omega
        have ob58 : ∀ i, (v54).ownBlock = some i → i ≠ b2 := fun i hi => by have := (World.ownsRow.lt hO55 i hi).1; have := H2.lt; omega
        have oo59 : ∀ i o s, A1 = some ⟨i, o, s⟩ → (v54).ownBlock = some i → False := fun i o s hi hs => by have := (World.ownsRow.lt hO55 i hs).1; have := hR1.2 i o s hi; omega
        have oo61 : ∀ i o s, A2 = some ⟨i, o, s⟩ → (v54).ownBlock = some i → False := fun i o s hi hs => by have := (World.ownsRow.lt hO55 i hs).1; have := hR2.2 i o s hi; omega
        have O56 := own_base hO55 K0.size
        clear hO55
        refine ⟨_, _, rfl, rfl, ?_⟩
        have K63 := K0.trans K50 (U := (fun i => i = b1 ∨ i = b2)) (fun i h1 h2 => h2) (fun i h1 h2 => by have h2 : i = b1 := h2; show i = b1 ∨ i = b2; omega)
        clear K0
        have H64 := H2.keep K50 (by intro h; change b2 = b1 at h; omega)
        clear H2
        have F65 := RdO.keep hR1 K50 (fun i _ _ hi hs => by have hs : i = b1 := hs; have := hne11 i _ _ hi; omega)
        clear hR1
        have F66 := RdO.keep hR2 K50 (fun i _ _ hi hs => by have hs : i = b1 := hs; have := hne21 i _ _ hi; omega)
        clear hR2
        clear K50
        have F67 : RdO w49 A1 c1 (r.bytes).2.bs := by rw [Rdr.bytes_bs]; exact F65
        clear F65
        refine Ops.regs 1 [(0, (Value.pointer (some ⟨b1, 0, none⟩))), (1, (Value.pointer (some ⟨b2, 0, none⟩))), (3, (i64 most)), (8, (Value.bool false)), (9, v54), (13, (i64 ((kind).tmod 8)))] (j := 3) (by kernel_rfl) (by kernel_rfl) ?_
        refine Ops.done (by kernel_rfl) ?_
        refine q_seq (by kernel_rfl) ?_
        refine q_region (by kernel_rfl) ?_
        refine Ops.regs 1 [(0, (Value.pointer (some ⟨b1, 0, none⟩))), (1, (Value.pointer (some ⟨b2, 0, none⟩))), (3, (i64 most)), (8, (Value.bool false)), (9, v54), (13, (i64 ((kind).tmod 8))), (32, (Value.pointer (some ⟨b2, 0, none⟩)))] (j := 1) (by kernel_rfl) (by kernel_rfl) ?_
        refine Ops.call (by kernel_rfl) (d := (some 33)) (by kernel_rfl) (RRBytes_calls _ b2 A2 c2 r hok H64 F66 hne22 ) ?_
        rintro _ w68 ⟨v73, rfl, K69, hO74, H70⟩
        have hok71 : (r.bytes).2.Ok := Rdr.Ok.bytes hok
        have hu72 := Rdr.bytes_le hok
        have ob76 : ∀ i, (v73).ownBlock = some i → i ≠ b1 := fun i hi => by have := (World.ownsRow.lt hO74 i hi).1; have := H51.lt; omega
        have ob77 : ∀ i, (v73).ownBlock = some i → i ≠ b2 := fun i hi => by have := (World.ownsRow.lt hO74 i hi).1; have := H64.lt; omega
        have oo78 : ∀ i o s, A1 = some ⟨i, o, s⟩ → (v73).ownBlock = some i → False := fun i o s hi hs => by have := (World.ownsRow.lt hO74 i hs).1; have := F67.2 i o s hi; omega
        have oo80 : ∀ i o s, A2 = some ⟨i, o, s⟩ → (v73).ownBlock = some i → False := fun i o s hi hs => by have := (World.ownsRow.lt hO74 i hs).1; have := F66.2 i o s hi; omega
        have oo82 : ∀ i, (v54).ownBlock = some i → (v73).ownBlock = some i → False := fun i hi hs => by have := (World.ownsRow.lt hO74 i hs).1; have := (World.ownsRow.lt O56 i hi).2; omega
        have oo83 : ∀ i, (v73).ownBlock = some i → (v54).ownBlock = some i → False := fun i hi hs => oo82 i hs hi
        have O75 := own_base hO74 K63.size
        clear hO74
        refine ⟨_, _, rfl, rfl, ?_⟩
        have K84 := K63.trans K69 (U := (fun i => i = b1 ∨ i = b2)) (fun i h1 h2 => h2) (fun i h1 h2 => by have h2 : i = b2 := h2; show i = b1 ∨ i = b2; omega)
        clear K63
        have H85 := H51.keep K69 (by intro h; change b1 = b2 at h; omega)
        clear H51
        have F86 := RdO.keep F67 K69 (fun i _ _ hi hs => by have hs : i = b2 := hs; have := hne12 i _ _ hi; omega)
        clear F67
        have F87 := RdO.keep F66 K69 (fun i _ _ hi hs => by have hs : i = b2 := hs; have := hne22 i _ _ hi; omega)
        clear F66
        have F88 := own_keep O56 K69 (fun i hi hs => by have hs : i = b2 := hs; have := ob58 i hi; omega)
        clear O56
        clear K69
        have F89 : RdO w68 A2 c2 (r.bytes).2.bs := by rw [Rdr.bytes_bs]; exact F87
        clear F87
        refine Ops.regs 1 [(0, (Value.pointer (some ⟨b1, 0, none⟩))), (1, (Value.pointer (some ⟨b2, 0, none⟩))), (3, (i64 most)), (8, (Value.bool false)), (9, v54), (10, v73), (13, (i64 ((kind).tmod 8)))] (j := 3) (by kernel_rfl) (by kernel_rfl) ?_
        refine Ops.done (by kernel_rfl) ?_
        refine q_seq (by kernel_rfl) ?_
        refine q_region (by kernel_rfl) ?_
        refine Ops.regs 1 [(0, (Value.pointer (some ⟨b1, 0, none⟩))), (1, (Value.pointer (some ⟨b2, 0, none⟩))), (3, (i64 most)), (8, (Value.bool false)), (9, v54), (10, v73), (13, (i64 ((kind).tmod 8))), (34, v54)] (j := 1) (by kernel_rfl) (by kernel_rfl) ?_
        refine Ops.go (v := (Value.string (str ((r.bytes).1)))) (by kernel_rfl) (Runs.b2s (s := 23) (d := 9) (e := 5) (by kernel_rfl) (by kernel_rfl) (by kernel_rfl) (OwnB.rd F88)) (d := (some 35)) (by kernel_rfl) rfl ?_
        refine Ops.regs 1 [(0, (Value.pointer (some ⟨b1, 0, none⟩))), (1, (Value.pointer (some ⟨b2, 0, none⟩))), (3, (i64 most)), (8, (Value.bool false)), (9, v54), (13, (i64 ((kind).tmod 8))), (35, (Value.string (str ((r.bytes).1)))), (36, v73)] (j := 3) (by kernel_rfl) (by kernel_rfl) ?_
        refine Ops.go (v := (Value.string (str ((r.bytes).1)))) (by kernel_rfl) (Runs.b2s (s := 23) (d := 9) (e := 5) (by kernel_rfl) (by kernel_rfl) (by kernel_rfl) (OwnB.rd O75)) (d := (some 37)) (by kernel_rfl) rfl ?_
        refine Ops.go (v := (Value.bool (((r.bytes).1) == ((r.bytes).1)))) (by kernel_rfl) (Runs.streq (t := 9) (by kernel_rfl)) (d := (some 38)) (by kernel_rfl) rfl ?_
        refine Ops.regs 1 [(0, (Value.pointer (some ⟨b1, 0, none⟩))), (1, (Value.pointer (some ⟨b2, 0, none⟩))), (3, (i64 most)), (8, (Value.bool false)), (9, v54), (11, (Value.bool (((r.bytes).1) == ((r.bytes).1)))), (13, (i64 ((kind).tmod 8)))] (j := 6) (by kernel_rfl) (by kernel_rfl) ?_
        refine Ops.done (by kernel_rfl) ?_
        refine q_seq (by kernel_rfl) ?_
        refine q_region (by kernel_rfl) ?_
        refine Ops.regs 1 [(0, (Value.pointer (some ⟨b1, 0, none⟩))), (1, (Value.pointer (some ⟨b2, 0, none⟩))), (3, (i64 most)), (8, (Value.bool false)), (11, (Value.bool (((r.bytes).1) == ((r.bytes).1)))), (13, (i64 ((kind).tmod 8))), (39, v54)] (j := 1) (by kernel_rfl) (by kernel_rfl) ?_
        refine Ops.call (by kernel_rfl) (d := (some 40)) (by kernel_rfl) (Spoil_calls _ v54 ((r.bytes).1) _ F88 (by omega)) ?_
        rintro _ w91 ⟨rfl, K90⟩
        refine ⟨_, _, rfl, rfl, ?_⟩
        have K92 := K84.trans K90 (U := (fun i => i = b1 ∨ i = b2)) (fun i h1 h2 => h2) (fun i h1 h2 => by have h2 : (v54).ownBlock = some i := h2; exfalso; have := (World.ownsRow.lt F88 i h2).1; omega)
        clear K84
        have H93 := H85.keep K90 (by intro h; change (v54).ownBlock = some b1 at h; have := ob57 b1 h; omega)
        clear H85
        have H94 := H70.keep K90 (by intro h; change (v54).ownBlock = some b2 at h; have := ob58 b2 h; omega)
        clear H70
        have F95 := RdO.keep F86 K90 (fun i _ _ hi hs => by have hs : (v54).ownBlock = some i := hs; exact oo59 i _ _ hi hs)
        clear F86
        have F96 := RdO.keep F89 K90 (fun i _ _ hi hs => by have hs : (v54).ownBlock = some i := hs; exact oo61 i _ _ hi hs)
        clear F89
        clear F88
        have F97 := own_keep O75 K90 (fun i hi hs => by have hs : (v54).ownBlock = some i := hs; exact oo83 i hi hs)
        clear O75
        clear K90
        refine Ops.done (by kernel_rfl) ?_
        refine q_seq (by kernel_rfl) ?_
        refine q_region (by kernel_rfl) ?_
        refine Ops.regs 2 [(0, (Value.pointer (some ⟨b1, 0, none⟩))), (1, (Value.pointer (some ⟨b2, 0, none⟩))), (3, (i64 most)), (8, (Value.bool (((r.bytes).1) == ((r.bytes).1)))), (13, (i64 ((kind).tmod 8)))] (j := 2) (by kernel_rfl) (by kernel_rfl) ?_
        refine Ops.done (by kernel_rfl) ?_
        refine q_ret (by kernel_rfl) ?_
        refine ⟨(Value.bool (((r.bytes).1) == ((r.bytes).1))), retv_tmp rfl rfl, ?_⟩
        have e : r.step kind most = (r.bytes).2 := by unfold Rdr.step; repeat (first | rw [if_pos (by omega)] | rw [if_neg (by omega)])
        exact ⟨by simp, K92, by rw [e]; exact H93, by rw [e]; exact H94⟩
      · rw [h47]
        have p98 : ¬ ((kind).tmod 8 = 2) := of_beq_f h47
        refine q_seq (by kernel_rfl) ?_
        refine q_region (by kernel_rfl) ?_
        refine Ops.regs 2 [(0, (Value.pointer (some ⟨b1, 0, none⟩))), (1, (Value.pointer (some ⟨b2, 0, none⟩))), (3, (i64 most)), (8, (Value.bool false)), (13, (i64 ((kind).tmod 8))), (42, (Value.bool (((kind).tmod 8) == 3)))] (j := 2) (by kernel_rfl) (by kernel_rfl) ?_
        refine Ops.done (by kernel_rfl) ?_
        refine q_cond (o := .tmp 42) (b := (((kind).tmod 8) == 3)) (by kernel_rfl) rfl (fun h99 => ?_) (fun h99 => ?_)
        · rw [h99]
          have p100 : (kind).tmod 8 = 3 := of_beq_t h99
          refine q_seq (by kernel_rfl) ?_
          refine q_region (by kernel_rfl) ?_
          refine Ops.regs 1 [(0, (Value.pointer (some ⟨b1, 0, none⟩))), (1, (Value.pointer (some ⟨b2, 0, none⟩))), (3, (i64 most)), (8, (Value.bool false)), (13, (i64 ((kind).tmod 8))), (44, (Value.pointer (some ⟨b1, 0, none⟩)))] (j := 1) (by kernel_rfl) (by kernel_rfl) ?_
          refine Ops.call (by kernel_rfl) (d := (some 45)) (by kernel_rfl) (RdText_calls _ b1 A1 c1 r hok H1 hR1 hne11 ) ?_
          rintro _ w101 ⟨rfl, K102, H103⟩
          have hok104 : (r.bytes).2.Ok := Rdr.Ok.bytes hok
          have hu105 := Rdr.bytes_le hok
          refine ⟨_, _, rfl, rfl, ?_⟩
          have K106 := K0.trans K102 (U := (fun i => i = b1 ∨ i = b2)) (fun i h1 h2 => h2) (fun i h1 h2 => by have h2 : i = b1 := h2; show i = b1 ∨ i = b2; omega)
          clear K0
          have H107 := H2.keep K102 (by intro h; change b2 = b1 at h; omega)
          clear H2
          have F108 := RdO.keep hR1 K102 (fun i _ _ hi hs => by have hs : i = b1 := hs; have := hne11 i _ _ hi; omega)
          clear hR1
          have F109 := RdO.keep hR2 K102 (fun i _ _ hi hs => by have hs : i = b1 := hs; have := hne21 i _ _ hi; omega)
          clear hR2
          clear K102
          have F110 : RdO w101 A1 c1 (r.bytes).2.bs := by rw [Rdr.bytes_bs]; exact F108
          clear F108
          refine Ops.regs 1 [(0, (Value.pointer (some ⟨b1, 0, none⟩))), (1, (Value.pointer (some ⟨b2, 0, none⟩))), (3, (i64 most)), (8, (Value.bool false)), (13, (i64 ((kind).tmod 8))), (45, (Value.string (str (r.bytes).1))), (46, (Value.pointer (some ⟨b2, 0, none⟩)))] (j := 3) (by kernel_rfl) (by kernel_rfl) ?_
          refine Ops.call (by kernel_rfl) (d := (some 47)) (by kernel_rfl) (RRText_calls _ b2 A2 c2 r hok H107 F109 hne22 ) ?_
          rintro _ w111 ⟨rfl, K112, H113⟩
          have hok114 : (r.bytes).2.Ok := Rdr.Ok.bytes hok
          have hu115 := Rdr.bytes_le hok
          refine ⟨_, _, rfl, rfl, ?_⟩
          have K116 := K106.trans K112 (U := (fun i => i = b1 ∨ i = b2)) (fun i h1 h2 => h2) (fun i h1 h2 => by have h2 : i = b2 := h2; show i = b1 ∨ i = b2; omega)
          clear K106
          have H117 := H103.keep K112 (by intro h; change b1 = b2 at h; omega)
          clear H103
          have F118 := RdO.keep F110 K112 (fun i _ _ hi hs => by have hs : i = b2 := hs; have := hne12 i _ _ hi; omega)
          clear F110
          have F119 := RdO.keep F109 K112 (fun i _ _ hi hs => by have hs : i = b2 := hs; have := hne22 i _ _ hi; omega)
          clear F109
          clear K112
          have F120 : RdO w111 A2 c2 (r.bytes).2.bs := by rw [Rdr.bytes_bs]; exact F119
          clear F119
          refine Ops.go (v := (Value.bool ((r.bytes).1 == (r.bytes).1))) (by kernel_rfl) (Runs.streq (t := 9) (by kernel_rfl)) (d := (some 48)) (by kernel_rfl) rfl ?_
          refine Ops.regs 1 [(0, (Value.pointer (some ⟨b1, 0, none⟩))), (1, (Value.pointer (some ⟨b2, 0, none⟩))), (3, (i64 most)), (8, (Value.bool ((r.bytes).1 == (r.bytes).1))), (13, (i64 ((kind).tmod 8)))] (j := 6) (by kernel_rfl) (by kernel_rfl) ?_
          refine Ops.done (by kernel_rfl) ?_
          refine q_ret (by kernel_rfl) ?_
          refine ⟨(Value.bool ((r.bytes).1 == (r.bytes).1)), retv_tmp rfl rfl, ?_⟩
          have e : r.step kind most = (r.bytes).2 := by unfold Rdr.step; repeat (first | rw [if_pos (by omega)] | rw [if_neg (by omega)])
          exact ⟨by simp, K116, by rw [e]; exact H117, by rw [e]; exact H113⟩
        · rw [h99]
          have p121 : ¬ ((kind).tmod 8 = 3) := of_beq_f h99
          refine q_seq (by kernel_rfl) ?_
          refine q_region (by kernel_rfl) ?_
          refine Ops.regs 2 [(0, (Value.pointer (some ⟨b1, 0, none⟩))), (1, (Value.pointer (some ⟨b2, 0, none⟩))), (3, (i64 most)), (8, (Value.bool false)), (13, (i64 ((kind).tmod 8))), (49, (Value.bool (((kind).tmod 8) == 4)))] (j := 2) (by kernel_rfl) (by kernel_rfl) ?_
          refine Ops.done (by kernel_rfl) ?_
          refine q_cond (o := .tmp 49) (b := (((kind).tmod 8) == 4)) (by kernel_rfl) rfl (fun h122 => ?_) (fun h122 => ?_)
          · rw [h122]
            have p123 : (kind).tmod 8 = 4 := of_beq_t h122
            refine q_seq (by kernel_rfl) ?_
            refine q_region (by kernel_rfl) ?_
            refine Ops.regs 1 [(0, (Value.pointer (some ⟨b1, 0, none⟩))), (1, (Value.pointer (some ⟨b2, 0, none⟩))), (3, (i64 most)), (8, (Value.bool false)), (13, (i64 ((kind).tmod 8))), (51, (Value.pointer (some ⟨b1, 0, none⟩)))] (j := 1) (by kernel_rfl) (by kernel_rfl) ?_
            refine Ops.call (by kernel_rfl) (d := (some 52)) (by kernel_rfl) (RdBool_calls _ b1 A1 c1 r hok H1 hR1 hne11 ) ?_
            rintro _ w124 ⟨rfl, K125, H126⟩
            have hok127 : (r.bool_).2.Ok := Rdr.Ok.bool_ hok
            refine ⟨_, _, rfl, rfl, ?_⟩
            have K128 := K0.trans K125 (U := (fun i => i = b1 ∨ i = b2)) (fun i h1 h2 => h2) (fun i h1 h2 => by have h2 : i = b1 := h2; show i = b1 ∨ i = b2; omega)
            clear K0
            have H129 := H2.keep K125 (by intro h; change b2 = b1 at h; omega)
            clear H2
            have F130 := RdO.keep hR1 K125 (fun i _ _ hi hs => by have hs : i = b1 := hs; have := hne11 i _ _ hi; omega)
            clear hR1
            have F131 := RdO.keep hR2 K125 (fun i _ _ hi hs => by have hs : i = b1 := hs; have := hne21 i _ _ hi; omega)
            clear hR2
            clear K125
            have F132 : RdO w124 A1 c1 (r.bool_).2.bs := by rw [Rdr.bool_bs]; exact F130
            clear F130
            refine Ops.regs 1 [(0, (Value.pointer (some ⟨b1, 0, none⟩))), (1, (Value.pointer (some ⟨b2, 0, none⟩))), (3, (i64 most)), (8, (Value.bool false)), (13, (i64 ((kind).tmod 8))), (52, (Value.bool ((r.bool_).1))), (53, (Value.pointer (some ⟨b2, 0, none⟩)))] (j := 3) (by kernel_rfl) (by kernel_rfl) ?_
            refine Ops.call (by kernel_rfl) (d := (some 54)) (by kernel_rfl) (RRBool_calls _ b2 A2 c2 r hok H129 F131 hne22 ) ?_
            rintro _ w133 ⟨rfl, K134, H135⟩
            have hok136 : (r.bool_).2.Ok := Rdr.Ok.bool_ hok
            refine ⟨_, _, rfl, rfl, ?_⟩
            have K137 := K128.trans K134 (U := (fun i => i = b1 ∨ i = b2)) (fun i h1 h2 => h2) (fun i h1 h2 => by have h2 : i = b2 := h2; show i = b1 ∨ i = b2; omega)
            clear K128
            have H138 := H126.keep K134 (by intro h; change b1 = b2 at h; omega)
            clear H126
            have F139 := RdO.keep F132 K134 (fun i _ _ hi hs => by have hs : i = b2 := hs; have := hne12 i _ _ hi; omega)
            clear F132
            have F140 := RdO.keep F131 K134 (fun i _ _ hi hs => by have hs : i = b2 := hs; have := hne22 i _ _ hi; omega)
            clear F131
            clear K134
            have F141 : RdO w133 A2 c2 (r.bool_).2.bs := by rw [Rdr.bool_bs]; exact F140
            clear F140
            refine Ops.split ((r.bool_).1) (fun h142 => ?_) (fun h142 => ?_)
            · rw [h142]
              have p143 : ((r.bool_).1) = true := h142
              refine Ops.regs 2 [(0, (Value.pointer (some ⟨b1, 0, none⟩))), (1, (Value.pointer (some ⟨b2, 0, none⟩))), (3, (i64 most)), (8, (Value.bool true)), (13, (i64 ((kind).tmod 8)))] (j := 6) (by kernel_rfl) (by kernel_rfl) ?_
              refine Ops.done (by kernel_rfl) ?_
              refine q_ret (by kernel_rfl) ?_
              refine ⟨(Value.bool true), retv_tmp rfl rfl, ?_⟩
              have e : r.step kind most = (r.bool_).2 := by unfold Rdr.step; repeat (first | rw [if_pos (by omega)] | rw [if_neg (by omega)])
              exact ⟨rfl, K137, by rw [e]; exact H138, by rw [e]; exact H135⟩
            · rw [h142]
              have p144 : ((r.bool_).1) = false := h142
              refine Ops.regs 2 [(0, (Value.pointer (some ⟨b1, 0, none⟩))), (1, (Value.pointer (some ⟨b2, 0, none⟩))), (3, (i64 most)), (8, (Value.bool true)), (13, (i64 ((kind).tmod 8)))] (j := 6) (by kernel_rfl) (by kernel_rfl) ?_
              refine Ops.done (by kernel_rfl) ?_
              refine q_ret (by kernel_rfl) ?_
              refine ⟨(Value.bool true), retv_tmp rfl rfl, ?_⟩
              have e : r.step kind most = (r.bool_).2 := by unfold Rdr.step; repeat (first | rw [if_pos (by omega)] | rw [if_neg (by omega)])
              exact ⟨rfl, K137, by rw [e]; exact H138, by rw [e]; exact H135⟩
          · rw [h122]
            have p145 : ¬ ((kind).tmod 8 = 4) := of_beq_f h122
            refine q_seq (by kernel_rfl) ?_
            refine q_region (by kernel_rfl) ?_
            refine Ops.regs 2 [(0, (Value.pointer (some ⟨b1, 0, none⟩))), (1, (Value.pointer (some ⟨b2, 0, none⟩))), (3, (i64 most)), (8, (Value.bool false)), (13, (i64 ((kind).tmod 8))), (56, (Value.bool (((kind).tmod 8) == 5)))] (j := 2) (by kernel_rfl) (by kernel_rfl) ?_
            refine Ops.done (by kernel_rfl) ?_
            refine q_cond (o := .tmp 56) (b := (((kind).tmod 8) == 5)) (by kernel_rfl) rfl (fun h146 => ?_) (fun h146 => ?_)
            · rw [h146]
              have p147 : (kind).tmod 8 = 5 := of_beq_t h146
              refine q_seq (by kernel_rfl) ?_
              refine q_region (by kernel_rfl) ?_
              refine Ops.regs 2 [(0, (Value.pointer (some ⟨b1, 0, none⟩))), (1, (Value.pointer (some ⟨b2, 0, none⟩))), (3, (i64 most)), (8, (Value.bool false)), (13, (i64 ((kind).tmod 8))), (58, (Value.pointer (some ⟨b1, 0, none⟩))), (59, (i64 most))] (j := 2) (by kernel_rfl) (by kernel_rfl) ?_
              refine Ops.call (by kernel_rfl) (d := (some 60)) (by kernel_rfl) (Count_calls _ b1 A1 c1 r hok H1 hR1 hne11 most (by omega)) ?_
              rintro _ w148 ⟨rfl, K149, H150⟩
              have hok151 : (r.sized most).2.Ok := Rdr.Ok.sized hok most
              have hu152 := Rdr.sized_le hok most
              have hu153 := Rdr.sized_lt r most
              refine ⟨_, _, rfl, rfl, ?_⟩
              have K154 := K0.trans K149 (U := (fun i => i = b1 ∨ i = b2)) (fun i h1 h2 => h2) (fun i h1 h2 => by have h2 : i = b1 := h2; show i = b1 ∨ i = b2; omega)
              clear K0
              have H155 := H2.keep K149 (by intro h; change b2 = b1 at h; omega)
              clear H2
              have F156 := RdO.keep hR1 K149 (fun i _ _ hi hs => by have hs : i = b1 := hs; have := hne11 i _ _ hi; omega)
              clear hR1
              have F157 := RdO.keep hR2 K149 (fun i _ _ hi hs => by have hs : i = b1 := hs; have := hne21 i _ _ hi; omega)
              clear hR2
              clear K149
              have F158 : RdO w148 A1 c1 (r.sized most).2.bs := by rw [Rdr.sized_bs]; exact F156
              clear F156
              refine Ops.regs 2 [(0, (Value.pointer (some ⟨b1, 0, none⟩))), (1, (Value.pointer (some ⟨b2, 0, none⟩))), (8, (Value.bool false)), (13, (i64 ((kind).tmod 8))), (60, (i64 (((r.sized most).1 : Nat) : Int))), (61, (Value.pointer (some ⟨b2, 0, none⟩))), (62, (i64 most))] (j := 5) (by kernel_rfl) (by kernel_rfl) ?_
              refine Ops.call (by kernel_rfl) (d := (some 63)) (by kernel_rfl) (RRCount_calls _ b2 A2 c2 r hok H155 F157 hne22 most (by omega)) ?_
              rintro _ w159 ⟨rfl, K160, H161⟩
              have hok162 : (r.sized most).2.Ok := Rdr.Ok.sized hok most
              have hu163 := Rdr.sized_le hok most
              have hu164 := Rdr.sized_lt r most
              refine ⟨_, _, rfl, rfl, ?_⟩
              have K165 := K154.trans K160 (U := (fun i => i = b1 ∨ i = b2)) (fun i h1 h2 => h2) (fun i h1 h2 => by have h2 : i = b2 := h2; show i = b1 ∨ i = b2; omega)
              clear K154
              have H166 := H150.keep K160 (by intro h; change b1 = b2 at h; omega)
              clear H150
              have F167 := RdO.keep F158 K160 (fun i _ _ hi hs => by have hs : i = b2 := hs; have := hne12 i _ _ hi; omega)
              clear F158
              have F168 := RdO.keep F157 K160 (fun i _ _ hi hs => by have hs : i = b2 := hs; have := hne22 i _ _ hi; omega)
              clear F157
              clear K160
              have F169 : RdO w159 A2 c2 (r.sized most).2.bs := by rw [Rdr.sized_bs]; exact F168
              clear F168
              refine Ops.regs 2 [(0, (Value.pointer (some ⟨b1, 0, none⟩))), (1, (Value.pointer (some ⟨b2, 0, none⟩))), (8, (Value.bool ((((r.sized most).1 : Nat) : Int) == (((r.sized most).1 : Nat) : Int)))), (13, (i64 ((kind).tmod 8)))] (j := 8) (by kernel_rfl) (by kernel_rfl) ?_
              refine Ops.done (by kernel_rfl) ?_
              refine q_ret (by kernel_rfl) ?_
              refine ⟨(Value.bool ((((r.sized most).1 : Nat) : Int) == (((r.sized most).1 : Nat) : Int))), retv_tmp rfl rfl, ?_⟩
              have e : r.step kind most = (r.sized most).2 := by unfold Rdr.step; repeat (first | rw [if_pos (by omega)] | rw [if_neg (by omega)])
              exact ⟨by simp, K165, by rw [e]; exact H166, by rw [e]; exact H161⟩
            · rw [h146]
              have p170 : ¬ ((kind).tmod 8 = 5) := of_beq_f h146
              refine q_seq (by kernel_rfl) ?_
              refine q_region (by kernel_rfl) ?_
              refine Ops.regs 2 [(0, (Value.pointer (some ⟨b1, 0, none⟩))), (1, (Value.pointer (some ⟨b2, 0, none⟩))), (8, (Value.bool false)), (65, (Value.bool (((kind).tmod 8) == 6)))] (j := 2) (by kernel_rfl) (by kernel_rfl) ?_
              refine Ops.done (by kernel_rfl) ?_
              refine q_cond (o := .tmp 65) (b := (((kind).tmod 8) == 6)) (by kernel_rfl) rfl (fun h171 => ?_) (fun h171 => ?_)
              · rw [h171]
                have p172 : (kind).tmod 8 = 6 := of_beq_t h171
                refine q_seq (by kernel_rfl) ?_
                refine q_region (by kernel_rfl) ?_
                refine Ops.regs 1 [(0, (Value.pointer (some ⟨b1, 0, none⟩))), (1, (Value.pointer (some ⟨b2, 0, none⟩))), (8, (Value.bool false)), (67, (Value.pointer (some ⟨b1, 0, none⟩)))] (j := 1) (by kernel_rfl) (by kernel_rfl) ?_
                refine Ops.call (by kernel_rfl) (d := (some 68)) (by kernel_rfl) (GetOp_calls _ b1 A1 c1 r hok H1 hR1 hne11 ) ?_
                rintro _ w173 ⟨rfl, K174, H175⟩
                have hok176 : (r.op).2.Ok := Rdr.Ok.op hok
                refine ⟨_, _, rfl, rfl, ?_⟩
                have K177 := K0.trans K174 (U := (fun i => i = b1 ∨ i = b2)) (fun i h1 h2 => h2) (fun i h1 h2 => by have h2 : i = b1 := h2; show i = b1 ∨ i = b2; omega)
                clear K0
                have H178 := H2.keep K174 (by intro h; change b2 = b1 at h; omega)
                clear H2
                have F179 := RdO.keep hR1 K174 (fun i _ _ hi hs => by have hs : i = b1 := hs; have := hne11 i _ _ hi; omega)
                clear hR1
                have F180 := RdO.keep hR2 K174 (fun i _ _ hi hs => by have hs : i = b1 := hs; have := hne21 i _ _ hi; omega)
                clear hR2
                clear K174
                have F181 : RdO w173 A1 c1 (r.op).2.bs := by rw [Rdr.op_bs]; exact F179
                clear F179
                refine Ops.regs 1 [(0, (Value.pointer (some ⟨b1, 0, none⟩))), (1, (Value.pointer (some ⟨b2, 0, none⟩))), (8, (Value.bool false)), (68, (agg [(i64 ((r.op).1.kind)), (Value.string (str (r.op).1.frm)), (Value.string (str (r.op).1.to)), (i64 ((r.op).1.amount)), (Value.string (str (r.op).1.key)), (i64 ((r.op).1.slot)), (i64 ((r.op).1.shard))])), (69, (Value.pointer (some ⟨b2, 0, none⟩)))] (j := 3) (by kernel_rfl) (by kernel_rfl) ?_
                refine Ops.call (by kernel_rfl) (d := (some 70)) (by kernel_rfl) (RGetOp_calls _ b2 A2 c2 r hok H178 F180 hne22 ) ?_
                rintro _ w182 ⟨rfl, K183, H184⟩
                have hok185 : (r.op).2.Ok := Rdr.Ok.op hok
                refine ⟨_, _, rfl, rfl, ?_⟩
                have K186 := K177.trans K183 (U := (fun i => i = b1 ∨ i = b2)) (fun i h1 h2 => h2) (fun i h1 h2 => by have h2 : i = b2 := h2; show i = b1 ∨ i = b2; omega)
                clear K177
                have H187 := H175.keep K183 (by intro h; change b1 = b2 at h; omega)
                clear H175
                have F188 := RdO.keep F181 K183 (fun i _ _ hi hs => by have hs : i = b2 := hs; have := hne12 i _ _ hi; omega)
                clear F181
                have F189 := RdO.keep F180 K183 (fun i _ _ hi hs => by have hs : i = b2 := hs; have := hne22 i _ _ hi; omega)
                clear F180
                clear K183
                have F190 : RdO w182 A2 c2 (r.op).2.bs := by rw [Rdr.op_bs]; exact F189
                clear F189
                refine Ops.go (v := (Value.bool (aggB [(i64 ((r.op).1.kind)), (Value.string (str (r.op).1.frm)), (Value.string (str (r.op).1.to)), (i64 ((r.op).1.amount)), (Value.string (str (r.op).1.key)), (i64 ((r.op).1.slot)), (i64 ((r.op).1.shard))] [(i64 ((r.op).1.kind)), (Value.string (str (r.op).1.frm)), (Value.string (str (r.op).1.to)), (i64 ((r.op).1.amount)), (Value.string (str (r.op).1.key)), (i64 ((r.op).1.slot)), (i64 ((r.op).1.shard))]))) (by kernel_rfl) (Runs.aggeq (t := 43) (by kernel_rfl) (by kernel_rfl)) (d := (some 71)) (by kernel_rfl) rfl ?_
                refine Ops.regs 1 [(0, (Value.pointer (some ⟨b1, 0, none⟩))), (1, (Value.pointer (some ⟨b2, 0, none⟩))), (8, (Value.bool (aggB [(i64 ((r.op).1.kind)), (Value.string (str (r.op).1.frm)), (Value.string (str (r.op).1.to)), (i64 ((r.op).1.amount)), (Value.string (str (r.op).1.key)), (i64 ((r.op).1.slot)), (i64 ((r.op).1.shard))] [(i64 ((r.op).1.kind)), (Value.string (str (r.op).1.frm)), (Value.string (str (r.op).1.to)), (i64 ((r.op).1.amount)), (Value.string (str (r.op).1.key)), (i64 ((r.op).1.slot)), (i64 ((r.op).1.shard))])))] (j := 6) (by kernel_rfl) (by kernel_rfl) ?_
                refine Ops.done (by kernel_rfl) ?_
                refine q_ret (by kernel_rfl) ?_
                refine ⟨(Value.bool (aggB [(i64 ((r.op).1.kind)), (Value.string (str (r.op).1.frm)), (Value.string (str (r.op).1.to)), (i64 ((r.op).1.amount)), (Value.string (str (r.op).1.key)), (i64 ((r.op).1.slot)), (i64 ((r.op).1.shard))] [(i64 ((r.op).1.kind)), (Value.string (str (r.op).1.frm)), (Value.string (str (r.op).1.to)), (i64 ((r.op).1.amount)), (Value.string (str (r.op).1.key)), (i64 ((r.op).1.slot)), (i64 ((r.op).1.shard))])), retv_tmp rfl rfl, ?_⟩
                have e : r.step kind most = (r.op).2 := by unfold Rdr.step; repeat (first | rw [if_pos (by omega)] | rw [if_neg (by omega)])
                exact ⟨by simp [aggB, cellB], K186, by rw [e]; exact H187, by rw [e]; exact H184⟩
              · rw [h171]
                have p191 : ¬ ((kind).tmod 8 = 6) := of_beq_f h171
                refine q_skip (by kernel_rfl) ?_
                refine q_seq (by kernel_rfl) ?_
                refine q_region (by kernel_rfl) ?_
                refine Ops.regs 1 [(1, (Value.pointer (some ⟨b2, 0, none⟩))), (8, (Value.bool false)), (72, (Value.pointer (some ⟨b1, 0, none⟩)))] (j := 1) (by kernel_rfl) (by kernel_rfl) ?_
                refine Ops.call (by kernel_rfl) (d := (some 73)) (by kernel_rfl) (GetReply_calls _ b1 A1 c1 r hok H1 hR1 hne11 ) ?_
                rintro _ w192 ⟨A205, c206, rfl, K193, hO197, H194⟩
                have hok195 : (r.reply).2.Ok := Rdr.Ok.reply hok
                have ob199 : ∀ i, ((Value.slice A205 ((r.reply).1.rows.length) c206)).ownBlock = some i → i ≠ b1 := fun i hi => by have := (World.ownsRow.lt hO197 i hi).1; have := H1.lt; omega
                have ob200 : ∀ i, ((Value.slice A205 ((r.reply).1.rows.length) c206)).ownBlock = some i → i ≠ b2 := fun i hi => by have := (World.ownsRow.lt hO197 i hi).1; have := H2.lt; omega
                have oo201 : ∀ i o s, A1 = some ⟨i, o, s⟩ → ((Value.slice A205 ((r.reply).1.rows.length) c206)).ownBlock = some i → False := fun i o s hi hs => by have := (World.ownsRow.lt hO197 i hs).1; have := hR1.2 i o s hi; omega
                have oo203 : ∀ i o s, A2 = some ⟨i, o, s⟩ → ((Value.slice A205 ((r.reply).1.rows.length) c206)).ownBlock = some i → False := fun i o s hi hs => by have := (World.ownsRow.lt hO197 i hs).1; have := hR2.2 i o s hi; omega
                have O198 := own_base hO197 K0.size
                clear hO197
                refine ⟨_, _, rfl, rfl, ?_⟩
                have K207 := K0.trans K193 (U := (fun i => i = b1 ∨ i = b2)) (fun i h1 h2 => h2) (fun i h1 h2 => by have h2 : i = b1 := h2; show i = b1 ∨ i = b2; omega)
                clear K0
                have H208 := H2.keep K193 (by intro h; change b2 = b1 at h; omega)
                clear H2
                have F209 := RdO.keep hR1 K193 (fun i _ _ hi hs => by have hs : i = b1 := hs; have := hne11 i _ _ hi; omega)
                clear hR1
                have F210 := RdO.keep hR2 K193 (fun i _ _ hi hs => by have hs : i = b1 := hs; have := hne21 i _ _ hi; omega)
                clear hR2
                clear K193
                have F211 : RdO w192 A1 c1 (r.reply).2.bs := by rw [Rdr.reply_bs]; exact F209
                clear F209
                refine Ops.regs 1 [(8, (Value.bool false)), (73, (agg [(i64 ((r.reply).1.why)), (i64 ((r.reply).1.amount)), (Value.slice A205 ((r.reply).1.rows.length) c206)])), (74, (Value.pointer (some ⟨b2, 0, none⟩)))] (j := 3) (by kernel_rfl) (by kernel_rfl) ?_
                refine Ops.call (by kernel_rfl) (d := (some 75)) (by kernel_rfl) (RGetReply_calls _ b2 A2 c2 r hok H208 F210 hne22 ) ?_
                rintro _ w212 ⟨A227, c228, rfl, K213, hO217, H214⟩
                have hok215 : (r.reply).2.Ok := Rdr.Ok.reply hok
                have ob219 : ∀ i, ((Value.slice A227 ((r.reply).1.rows.length) c228)).ownBlock = some i → i ≠ b1 := fun i hi => by have := (World.ownsRow.lt hO217 i hi).1; have := H194.lt; omega
                have ob220 : ∀ i, ((Value.slice A227 ((r.reply).1.rows.length) c228)).ownBlock = some i → i ≠ b2 := fun i hi => by have := (World.ownsRow.lt hO217 i hi).1; have := H208.lt; omega
                have oo221 : ∀ i o s, A1 = some ⟨i, o, s⟩ → ((Value.slice A227 ((r.reply).1.rows.length) c228)).ownBlock = some i → False := fun i o s hi hs => by have := (World.ownsRow.lt hO217 i hs).1; have := F211.2 i o s hi; omega
                have oo223 : ∀ i o s, A2 = some ⟨i, o, s⟩ → ((Value.slice A227 ((r.reply).1.rows.length) c228)).ownBlock = some i → False := fun i o s hi hs => by have := (World.ownsRow.lt hO217 i hs).1; have := F210.2 i o s hi; omega
                have oo225 : ∀ i, ((Value.slice A205 ((r.reply).1.rows.length) c206)).ownBlock = some i → ((Value.slice A227 ((r.reply).1.rows.length) c228)).ownBlock = some i → False := fun i hi hs => by have := (World.ownsRow.lt hO217 i hs).1; have := (World.ownsRow.lt O198 i hi).2; omega
                have oo226 : ∀ i, ((Value.slice A227 ((r.reply).1.rows.length) c228)).ownBlock = some i → ((Value.slice A205 ((r.reply).1.rows.length) c206)).ownBlock = some i → False := fun i hi hs => oo225 i hs hi
                have O218 := own_base hO217 K207.size
                clear hO217
                refine ⟨_, _, rfl, rfl, ?_⟩
                have K229 := K207.trans K213 (U := (fun i => i = b1 ∨ i = b2)) (fun i h1 h2 => h2) (fun i h1 h2 => by have h2 : i = b2 := h2; show i = b1 ∨ i = b2; omega)
                clear K207
                have H230 := H194.keep K213 (by intro h; change b1 = b2 at h; omega)
                clear H194
                have F231 := RdO.keep F211 K213 (fun i _ _ hi hs => by have hs : i = b2 := hs; have := hne12 i _ _ hi; omega)
                clear F211
                have F232 := RdO.keep F210 K213 (fun i _ _ hi hs => by have hs : i = b2 := hs; have := hne22 i _ _ hi; omega)
                clear F210
                have F233 := own_keep O198 K213 (fun i hi hs => by have hs : i = b2 := hs; have := ob200 i hi; omega)
                clear O198
                clear K213
                have F234 : RdO w212 A2 c2 (r.reply).2.bs := by rw [Rdr.reply_bs]; exact F232
                clear F232
                refine Ops.call (by kernel_rfl) (d := (some 76)) (by kernel_rfl) (SameReply_calls _ A205 c206 ((r.reply).1) A227 c228 ((r.reply).1) (OwnT.rd F233) (OwnT.rd O218)) ?_
                rintro _ w238 ⟨t235, rfl, ht236, K237⟩
                have httt235 : t235 = true := ht236.2 rfl
                refine ⟨_, _, rfl, rfl, ?_⟩
                have K239 := K229.trans K237 (U := (fun i => i = b1 ∨ i = b2)) (fun i h1 h2 => h2) (fun i h1 h2 => by exact h2.elim)
                clear K229
                have H240 := H230.keep K237 (fun h => h)
                clear H230
                have H241 := H214.keep K237 (fun h => h)
                clear H214
                have F242 := RdO.keep0 F231 K237
                clear F231
                have F243 := RdO.keep0 F234 K237
                clear F234
                have F244 := own_keep0 F233 K237
                clear F233
                have F245 := own_keep0 O218 K237
                clear O218
                clear K237
                refine Ops.regs 1 [(8, (Value.bool t235))] (j := 6) (by kernel_rfl) (by kernel_rfl) ?_
                refine Ops.done (by kernel_rfl) ?_
                refine q_ret (by kernel_rfl) ?_
                refine ⟨(Value.bool t235), retv_tmp rfl rfl, ?_⟩
                have e : r.step kind most = (r.reply).2 := by unfold Rdr.step; repeat (first | rw [if_pos (by omega)] | rw [if_neg (by omega)])
                exact ⟨by rw [httt235], K239, by rw [e]; exact H240, by rw [e]; exact H241⟩
end Go.Proofs.Ytnepjfnkaigakaa
