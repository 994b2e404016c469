/- the program's reader: how many, bytes, texts -/
import Derived.Test.YtooginpgclcldaaGreatDoorProg
import Derived.Test.YtooginpgclcldaaGreatDoorKR
import Derived.Test.YtooginpgclcldaaGreatDoorLX
set_option linter.unusedVariables false
namespace Go.Proofs.YtooginpgclcldaaGreatDoor
open Go.Q Go.RowKit

theorem sized_calls (w : World) (b : Nat) (A : Option Addr) (c : Nat) (r : Rdr) (hok : r.Ok) (H0 : Has w b (rowL (rdrL A c r) 86)) (hR : RdO w A c r.bs) (hne : ∀ g o s, A = some ⟨g, o, s⟩ → g ≠ b) (most : Int) (hm : -9223372036854775808 ≤ most ∧ most ≤ 9223372036854775807) : Calls Tryz.prog 58 ⟨[(ptr b), (i64 most)]⟩ w (fun e w' => e = .returned (i64 (((r.sized most).1 : Nat) : Int)) ∧ Keeps (fun i => i = b) w w' ∧ Has w' b (rowL (rdrL A c (r.sized most).2) 86)) := by
 have hpos := hok.pos
 have hlen := hok.len
 have hsc := r.scan_le
 have hdl : (r.bs.drop r.pos).length = r.bs.length - r.pos := List.length_drop
 have hcap := hR.1.slice
 have Hb := H0.lt
 have K0 : Keeps (fun i => i = b) w w := (Keeps.refl w).mono (fun _ _ h => h.elim)
 have hub := r.uint_bs
 have hubl := congrArg List.length hub
 have hul := r.uint_lt
 refine q_calls Tryz.func58 (by kernel_rfl) (by kernel_rfl) ?_
 refine qs ?_
 refine qg ?_
 refine og 1 [(0, (ptr b)), (1, (i64 most)), (4, (i64 0))] 1 ?_
 refine od ?_
 refine qs ?_
 refine qs ?_
 refine qg ?_
 refine og 1 [(0, (ptr b)), (1, (i64 most)), (4, (i64 0)), (7, (ptr b))] 1 ?_
 refine Ops.call (by kernel_rfl) (d := (some 8)) (by kernel_rfl) (ok_calls _ b A c r hok H0 hR hne) ?_
 rintro _ w1 ⟨rfl, K2⟩
 refine ⟨_, _, rfl, rfl, ?_⟩
 replace K0 := K0.trans K2 (U := (fun i => i = b)) (fun i h1 h2 => h2) (fun i h1 h2 => by exact h2.elim)
 replace H0 := H0.keep K2 (fun h => h)
 replace hR := RdO.keep0 hR K2
 clear K2
 refine og 1 [(0, (ptr b)), (1, (i64 most)), (4, (i64 0)), (9, (Value.bool (!(r.why == 0))))] 3 ?_
 refine od ?_
 refine q_cond (o := .tmp 9) (b := (!(r.why == 0))) (by kernel_rfl) rfl (fun h3 => ?_) (fun h3 => ?_)
 ·rw [h3]
  have p4 : ¬ (r.why = 0) := of_beq_f (bnot_true h3)
  refine qs ?_
  refine qg ?_
  refine og 1 [(0, (ptr b)), (1, (i64 most)), (4, (i64 0))] 1 ?_
  refine od ?_
  refine q_ret (by kernel_rfl) ?_
  refine ⟨(i64 0), retv_tmp rfl rfl, ?_⟩
  have e : r.sized most = (0, r) := by unfold Rdr.sized; (repeat' split) <;> first | (exfalso; omega) | rfl | (simp only [Rdr.uint_bs]; done) | (rw [Rdr.uint_bs]; done)
  exact ⟨by first | (rw [e]; done) | (rw [e]; rfl), K0, by rw [e]; exact H0⟩
 ·rw [h3]
  have p5 : r.why = 0 := of_beq_t (bnot_false h3)
  refine q_skip (by kernel_rfl) ?_
  refine qs ?_
  refine qg ?_
  refine og 3 [(0, (ptr b)), (1, (i64 most)), (4, (i64 0)), (12, (Value.pointer (some ⟨b, 1, none⟩)))] 3 ?_
  refine Ops.go (v := (i64 ((r.pos : Nat) : Int))) (by kernel_rfl) (Runs.load (t := 3) (a := ⟨b, 1, none⟩) (by kernel_rfl) (H0.loads (by kernel_rfl))) (d := (some 13)) (by kernel_rfl) rfl ?_
  refine og 1 [(0, (ptr b)), (1, (i64 most)), (4, (i64 0)), (5, (i64 ((r.pos : Nat) : Int)))] 5 ?_
  refine od ?_
  refine qs ?_
  refine qg ?_
  refine og 1 [(0, (ptr b)), (1, (i64 most)), (4, (i64 0)), (5, (i64 ((r.pos : Nat) : Int))), (14, (ptr b))] 1 ?_
  refine Ops.call (by kernel_rfl) (d := (some 15)) (by kernel_rfl) (RdUint_calls _ b A c r hok H0 hR hne) ?_
  rintro _ w6 ⟨rfl, K7, H8⟩
  have hok9 := Rdr.Ok.uint hok
  have hu10 := Rdr.uint_lt r
  refine ⟨_, _, rfl, rfl, ?_⟩
  replace K0 := K0.trans K7 (U := (fun i => i = b)) (fun i h1 h2 => h2) (fun i h1 h2 => by have h2 : i = b := h2; show i = b; omega)
  replace hR := RdO.keep hR K7 (fun i _ _ hi hs => by have hs : i = b := hs; have := hne i _ _ hi; omega)
  clear K7
  have F11 : RdO w6 A c (r.uint.2).bs := by rw [Rdr.uint_bs]; exact hR
  clear hR
  refine og 1 [(0, (ptr b)), (1, (i64 most)), (4, (i64 0)), (5, (i64 ((r.pos : Nat) : Int))), (6, (Value.int IntKind.u64 ((r.uint.1 : Nat) : Int)))] 3 ?_
  refine od ?_
  refine qs ?_
  refine q_block (id := 0) (by kernel_rfl) ?_
  refine qs ?_
  refine qg ?_
  refine og 3 [(0, (ptr b)), (1, (i64 most)), (4, (i64 0)), (5, (i64 ((r.pos : Nat) : Int))), (6, (Value.int IntKind.u64 ((r.uint.1 : Nat) : Int))), (21, (Value.pointer (some ⟨b, 2, none⟩)))] 3 ?_
  refine Ops.go (v := (i64 r.uint.2.why)) (by kernel_rfl) (Runs.load (t := 25) (a := ⟨b, 2, none⟩) (by kernel_rfl) (H8.loads (by kernel_rfl))) (d := (some 22)) (by kernel_rfl) rfl ?_
  refine og 2 [(0, (ptr b)), (1, (i64 most)), (4, (i64 0)), (5, (i64 ((r.pos : Nat) : Int))), (6, (Value.int IntKind.u64 ((r.uint.1 : Nat) : Int))), (18, (Value.bool (r.uint.2.why != 0)))] 6 ?_
  refine od ?_
  refine q_cond (o := .tmp 18) (b := (r.uint.2.why != 0)) (by kernel_rfl) rfl (fun h12 => ?_) (fun h12 => ?_)
  ·rw [h12]
   have p13 : ¬ (r.uint.2.why = 0) := of_bne_t h12
   refine q_skip (by kernel_rfl) ?_
   refine qs ?_
   refine qg ?_
   refine og 4 [(4, (i64 0)), (47, (i64 ((r.pos : Nat) : Int))), (49, (Value.pointer (some ⟨b, 1, none⟩)))] 4 ?_
   refine Ops.put (t := 3) (b := b) (off := 1) (v := (i64 ((r.pos : Nat) : Int))) (ys := [(Value.slice A r.uint.2.bs.length c), (i64 ((r.pos : Nat) : Int)), (i64 r.uint.2.why)]) (by kernel_rfl) (by kernel_rfl) H8 (by kernel_rfl) (d := none) (by kernel_rfl) rfl (fun w14 H15 K16 => ?_)
   clear H8
   replace K0 := K0.trans K16 (U := (fun i => i = b)) (fun i h1 h2 => h2) (fun i h1 h2 => by have h2 : i = b := h2; show i = b; omega)
   replace F11 := RdO.keep F11 K16 (fun i _ _ hi hs => by have hs : i = b := hs; have := hne i _ _ hi; omega)
   clear K16
   refine od ?_
   refine qs ?_
   refine qg ?_
   refine og 1 [(4, (i64 0))] 1 ?_
   refine od ?_
   refine q_ret (by kernel_rfl) ?_
   refine ⟨(i64 0), retv_tmp rfl rfl, ?_⟩
   have e : r.sized most = (0, (⟨r.uint.2.bs, r.pos, r.uint.2.why⟩ : Rdr)) := by unfold Rdr.sized; (repeat' split) <;> first | (exfalso; omega) | rfl | (simp only [Rdr.uint_bs]; done) | (rw [Rdr.uint_bs]; done)
   exact ⟨by first | (rw [e]; done) | (rw [e]; rfl), K0, by rw [e]; exact H15⟩
  ·rw [h12]
   have p17 : r.uint.2.why = 0 := of_bne_f h12
   refine qs ?_
   refine qg ?_
   refine og 3 [(0, (ptr b)), (1, (i64 most)), (4, (i64 0)), (5, (i64 ((r.pos : Nat) : Int))), (6, (Value.int IntKind.u64 ((r.uint.1 : Nat) : Int))), (27, (Value.bool (decide (most < 0))))] 3 ?_
   refine Ops.split (decide (most < 0)) (fun h18 => ?_) (fun h18 => ?_)
   ·rw [h18]
    have p19 : most < 0 := of_decide_eq_true h18
    refine og 6 [(0, (ptr b)), (4, (i64 0)), (5, (i64 ((r.pos : Nat) : Int))), (6, (Value.int IntKind.u64 ((r.uint.1 : Nat) : Int))), (24, (Value.bool true))] 9 ?_
    refine od ?_
    refine q_then (o := .tmp 24) (by kernel_rfl) rfl ?_
    refine qg ?_
    refine og 3 [(0, (ptr b)), (4, (i64 0)), (5, (i64 ((r.pos : Nat) : Int))), (6, (Value.int IntKind.u64 ((r.uint.1 : Nat) : Int))), (35, (Value.pointer (some ⟨b, 2, none⟩)))] 3 ?_
    refine Ops.put (t := 25) (b := b) (off := 2) (v := (i64 3)) (ys := [(Value.slice A r.uint.2.bs.length c), (i64 ((r.uint.2.pos : Nat) : Int)), (i64 3)]) (by kernel_rfl) (by kernel_rfl) H8 (by kernel_rfl) (d := none) (by kernel_rfl) rfl (fun w20 H21 K22 => ?_)
    clear H8
    replace K0 := K0.trans K22 (U := (fun i => i = b)) (fun i h1 h2 => h2) (fun i h1 h2 => by have h2 : i = b := h2; show i = b; omega)
    replace F11 := RdO.keep F11 K22 (fun i _ _ hi hs => by have hs : i = b := hs; have := hne i _ _ hi; omega)
    clear K22
    refine od ?_
    refine qs ?_
    refine qg ?_
    refine og 4 [(4, (i64 0)), (47, (i64 ((r.pos : Nat) : Int))), (49, (Value.pointer (some ⟨b, 1, none⟩)))] 4 ?_
    refine Ops.put (t := 3) (b := b) (off := 1) (v := (i64 ((r.pos : Nat) : Int))) (ys := [(Value.slice A r.uint.2.bs.length c), (i64 ((r.pos : Nat) : Int)), (i64 3)]) (by kernel_rfl) (by kernel_rfl) H21 (by kernel_rfl) (d := none) (by kernel_rfl) rfl (fun w23 H24 K25 => ?_)
    clear H21
    replace K0 := K0.trans K25 (U := (fun i => i = b)) (fun i h1 h2 => h2) (fun i h1 h2 => by have h2 : i = b := h2; show i = b; omega)
    replace F11 := RdO.keep F11 K25 (fun i _ _ hi hs => by have hs : i = b := hs; have := hne i _ _ hi; omega)
    clear K25
    refine od ?_
    refine qs ?_
    refine qg ?_
    refine og 1 [(4, (i64 0))] 1 ?_
    refine od ?_
    refine q_ret (by kernel_rfl) ?_
    refine ⟨(i64 0), retv_tmp rfl rfl, ?_⟩
    have e : r.sized most = (0, (⟨r.uint.2.bs, r.pos, 3⟩ : Rdr)) := by unfold Rdr.sized; (repeat' split) <;> first | (exfalso; omega) | rfl | (simp only [Rdr.uint_bs]; done) | (rw [Rdr.uint_bs]; done)
    exact ⟨by first | (rw [e]; done) | (rw [e]; rfl), K0, by rw [e]; exact H24⟩
   ·rw [h18]
    have p26 : ¬ (most < 0) := of_decide_eq_false h18
    refine og 3 [(0, (ptr b)), (4, (i64 0)), (5, (i64 ((r.pos : Nat) : Int))), (6, (Value.int IntKind.u64 ((r.uint.1 : Nat) : Int))), (27, (Value.bool false)), (28, (Value.int IntKind.u64 ((r.uint.1 : Nat) : Int))), (30, (Value.int IntKind.u64 (IntKind.u64.wrap (most))))] 6 ?_
    have e27 : IntKind.u64.wrap (most) = most := wrap_u64 (by omega) (by omega)
    rw [e27]
    refine og 3 [(0, (ptr b)), (4, (i64 0)), (5, (i64 ((r.pos : Nat) : Int))), (6, (Value.int IntKind.u64 ((r.uint.1 : Nat) : Int))), (24, (Value.bool (decide (((r.uint.1 : Nat) : Int) > most))))] 9 ?_
    refine od ?_
    refine q_cond (o := .tmp 24) (b := (decide (((r.uint.1 : Nat) : Int) > most))) (by kernel_rfl) rfl (fun h28 => ?_) (fun h28 => ?_)
    ·rw [h28]
     have p29 : ((r.uint.1 : Nat) : Int) > most := of_decide_eq_true h28
     refine qg ?_
     refine og 3 [(0, (ptr b)), (4, (i64 0)), (5, (i64 ((r.pos : Nat) : Int))), (6, (Value.int IntKind.u64 ((r.uint.1 : Nat) : Int))), (35, (Value.pointer (some ⟨b, 2, none⟩)))] 3 ?_
     refine Ops.put (t := 25) (b := b) (off := 2) (v := (i64 3)) (ys := [(Value.slice A r.uint.2.bs.length c), (i64 ((r.uint.2.pos : Nat) : Int)), (i64 3)]) (by kernel_rfl) (by kernel_rfl) H8 (by kernel_rfl) (d := none) (by kernel_rfl) rfl (fun w30 H31 K32 => ?_)
     clear H8
     replace K0 := K0.trans K32 (U := (fun i => i = b)) (fun i h1 h2 => h2) (fun i h1 h2 => by have h2 : i = b := h2; show i = b; omega)
     replace F11 := RdO.keep F11 K32 (fun i _ _ hi hs => by have hs : i = b := hs; have := hne i _ _ hi; omega)
     clear K32
     refine od ?_
     refine qs ?_
     refine qg ?_
     refine og 4 [(4, (i64 0)), (47, (i64 ((r.pos : Nat) : Int))), (49, (Value.pointer (some ⟨b, 1, none⟩)))] 4 ?_
     refine Ops.put (t := 3) (b := b) (off := 1) (v := (i64 ((r.pos : Nat) : Int))) (ys := [(Value.slice A r.uint.2.bs.length c), (i64 ((r.pos : Nat) : Int)), (i64 3)]) (by kernel_rfl) (by kernel_rfl) H31 (by kernel_rfl) (d := none) (by kernel_rfl) rfl (fun w33 H34 K35 => ?_)
     clear H31
     replace K0 := K0.trans K35 (U := (fun i => i = b)) (fun i h1 h2 => h2) (fun i h1 h2 => by have h2 : i = b := h2; show i = b; omega)
     replace F11 := RdO.keep F11 K35 (fun i _ _ hi hs => by have hs : i = b := hs; have := hne i _ _ hi; omega)
     clear K35
     refine od ?_
     refine qs ?_
     refine qg ?_
     refine og 1 [(4, (i64 0))] 1 ?_
     refine od ?_
     refine q_ret (by kernel_rfl) ?_
     refine ⟨(i64 0), retv_tmp rfl rfl, ?_⟩
     have e : r.sized most = (0, (⟨r.uint.2.bs, r.pos, 3⟩ : Rdr)) := by unfold Rdr.sized; (repeat' split) <;> first | (exfalso; omega) | rfl | (simp only [Rdr.uint_bs]; done) | (rw [Rdr.uint_bs]; done)
     exact ⟨by first | (rw [e]; done) | (rw [e]; rfl), K0, by rw [e]; exact H34⟩
    ·rw [h28]
     have p36 : ¬ (((r.uint.1 : Nat) : Int) > most) := of_decide_eq_false h28
     refine qs ?_
     refine qg ?_
     refine og 2 [(0, (ptr b)), (4, (i64 0)), (5, (i64 ((r.pos : Nat) : Int))), (6, (Value.int IntKind.u64 ((r.uint.1 : Nat) : Int))), (37, (Value.int IntKind.u64 ((r.uint.1 : Nat) : Int))), (38, (ptr b))] 2 ?_
     refine Ops.call (by kernel_rfl) (d := (some 39)) (by kernel_rfl) (left_calls _ b A c r.uint.2 hok9 H8 F11 hne) ?_
     rintro _ w37 ⟨A39, c40, rfl, K38, h41, hlb42⟩
     have ob43 := left_ne (n := (r.uint.2.bs.drop r.uint.2.pos).length) (c := c40) hlb42 hne
     have hdlA39 : (r.uint.2.bs.drop r.uint.2.pos).length = r.uint.2.bs.length - r.uint.2.pos := List.length_drop
     have hslA39 := RdB.slice h41
     refine ⟨_, _, rfl, rfl, ?_⟩
     replace K0 := K0.trans K38 (U := (fun i => i = b)) (fun i h1 h2 => h2) (fun i h1 h2 => by exact h2.elim)
     replace H8 := H8.keep K38 (fun h => h)
     replace F11 := RdO.keep0 F11 K38
     clear K38
     refine og 2 [(0, (ptr b)), (4, (i64 0)), (5, (i64 ((r.pos : Nat) : Int))), (6, (Value.int IntKind.u64 ((r.uint.1 : Nat) : Int))), (37, (Value.int IntKind.u64 ((r.uint.1 : Nat) : Int))), (41, (Value.int IntKind.u64 (IntKind.u64.wrap ((((r.uint.2.bs.drop r.uint.2.pos).length : Nat) : Int)))))] 5 ?_
     have e44 : IntKind.u64.wrap ((((r.uint.2.bs.drop r.uint.2.pos).length : Nat) : Int)) = (((r.uint.2.bs.drop r.uint.2.pos).length : Nat) : Int) := wrap_u64 (by omega) (by omega)
     rw [e44]
     refine og 2 [(0, (ptr b)), (4, (i64 0)), (5, (i64 ((r.pos : Nat) : Int))), (6, (Value.int IntKind.u64 ((r.uint.1 : Nat) : Int))), (36, (Value.bool (decide (((r.uint.1 : Nat) : Int) > (((r.uint.2.bs.drop r.uint.2.pos).length : Nat) : Int)))))] 7 ?_
     refine od ?_
     refine q_cond (o := .tmp 36) (b := (decide (((r.uint.1 : Nat) : Int) > (((r.uint.2.bs.drop r.uint.2.pos).length : Nat) : Int)))) (by kernel_rfl) rfl (fun h45 => ?_) (fun h45 => ?_)
     ·rw [h45]
      have p46 : ((r.uint.1 : Nat) : Int) > (((r.uint.2.bs.drop r.uint.2.pos).length : Nat) : Int) := of_decide_eq_true h45
      refine qg ?_
      refine og 3 [(0, (ptr b)), (4, (i64 0)), (5, (i64 ((r.pos : Nat) : Int))), (6, (Value.int IntKind.u64 ((r.uint.1 : Nat) : Int))), (45, (Value.pointer (some ⟨b, 2, none⟩)))] 3 ?_
      refine Ops.put (t := 25) (b := b) (off := 2) (v := (i64 10)) (ys := [(Value.slice A r.uint.2.bs.length c), (i64 ((r.uint.2.pos : Nat) : Int)), (i64 10)]) (by kernel_rfl) (by kernel_rfl) H8 (by kernel_rfl) (d := none) (by kernel_rfl) rfl (fun w47 H48 K49 => ?_)
      clear H8
      replace K0 := K0.trans K49 (U := (fun i => i = b)) (fun i h1 h2 => h2) (fun i h1 h2 => by have h2 : i = b := h2; show i = b; omega)
      replace F11 := RdO.keep F11 K49 (fun i _ _ hi hs => by have hs : i = b := hs; have := hne i _ _ hi; omega)
      replace h41 := Rd.keep (by omega) h41 K49 (fun i hi hs => by have hs : i = b := hs; have := ob43 i hi; omega)
      clear K49
      refine od ?_
      refine qs ?_
      refine qg ?_
      refine og 4 [(4, (i64 0)), (47, (i64 ((r.pos : Nat) : Int))), (49, (Value.pointer (some ⟨b, 1, none⟩)))] 4 ?_
      refine Ops.put (t := 3) (b := b) (off := 1) (v := (i64 ((r.pos : Nat) : Int))) (ys := [(Value.slice A r.uint.2.bs.length c), (i64 ((r.pos : Nat) : Int)), (i64 10)]) (by kernel_rfl) (by kernel_rfl) H48 (by kernel_rfl) (d := none) (by kernel_rfl) rfl (fun w50 H51 K52 => ?_)
      clear H48
      replace K0 := K0.trans K52 (U := (fun i => i = b)) (fun i h1 h2 => h2) (fun i h1 h2 => by have h2 : i = b := h2; show i = b; omega)
      replace F11 := RdO.keep F11 K52 (fun i _ _ hi hs => by have hs : i = b := hs; have := hne i _ _ hi; omega)
      replace h41 := Rd.keep (by omega) h41 K52 (fun i hi hs => by have hs : i = b := hs; have := ob43 i hi; omega)
      clear K52
      refine od ?_
      refine qs ?_
      refine qg ?_
      refine og 1 [(4, (i64 0))] 1 ?_
      refine od ?_
      refine q_ret (by kernel_rfl) ?_
      refine ⟨(i64 0), retv_tmp rfl rfl, ?_⟩
      have e : r.sized most = (0, (⟨r.uint.2.bs, r.pos, 10⟩ : Rdr)) := by unfold Rdr.sized; (repeat' split) <;> first | (exfalso; omega) | rfl | (simp only [Rdr.uint_bs]; done) | (rw [Rdr.uint_bs]; done)
      exact ⟨by first | (rw [e]; done) | (rw [e]; rfl), K0, by rw [e]; exact H51⟩
     ·rw [h45]
      have p53 : ¬ (((r.uint.1 : Nat) : Int) > (((r.uint.2.bs.drop r.uint.2.pos).length : Nat) : Int)) := of_decide_eq_false h45
      refine qs ?_
      refine qg ?_
      refine og 2 [(0, (ptr b)), (4, (i64 0)), (5, (i64 ((r.pos : Nat) : Int))), (17, (i64 (IntKind.i64.wrap (((r.uint.1 : Nat) : Int)))))] 2 ?_
      have e54 : IntKind.i64.wrap (((r.uint.1 : Nat) : Int)) = ((r.uint.1 : Nat) : Int) := wrap_i64 (by omega) (by omega)
      rw [e54]
      refine og 1 [(0, (ptr b)), (4, (i64 ((r.uint.1 : Nat) : Int))), (5, (i64 ((r.pos : Nat) : Int)))] 3 ?_
      refine od ?_
      refine q_ret (by kernel_rfl) ?_
      refine ⟨(i64 ((r.uint.1 : Nat) : Int)), retv_tmp rfl rfl, ?_⟩
      have e : r.sized most = (r.uint.1, r.uint.2) := by unfold Rdr.sized; (repeat' split) <;> first | (exfalso; omega) | rfl | (simp only [Rdr.uint_bs]; done) | (rw [Rdr.uint_bs]; done)
      exact ⟨by first | (rw [e]; done) | (rw [e]; rfl), K0, by rw [e]; exact H8⟩

theorem Count_calls (w : World) (b : Nat) (A : Option Addr) (c : Nat) (r : Rdr) (hok : r.Ok) (H0 : Has w b (rowL (rdrL A c r) 86)) (hR : RdO w A c r.bs) (hne : ∀ g o s, A = some ⟨g, o, s⟩ → g ≠ b) (most : Int) (hm : -9223372036854775808 ≤ most ∧ most ≤ 9223372036854775807) : Calls Tryz.prog 19 ⟨[(ptr b), (i64 most)]⟩ w (fun e w' => e = .returned (i64 (((r.sized most).1 : Nat) : Int)) ∧ Keeps (fun i => i = b) w w' ∧ Has w' b (rowL (rdrL A c (r.sized most).2) 86)) := by
 have hpos := hok.pos
 have hlen := hok.len
 have hsc := r.scan_le
 have hdl : (r.bs.drop r.pos).length = r.bs.length - r.pos := List.length_drop
 have hcap := hR.1.slice
 have Hb := H0.lt
 have K0 : Keeps (fun i => i = b) w w := (Keeps.refl w).mono (fun _ _ h => h.elim)
 refine q_calls Tryz.func19 (by kernel_rfl) (by kernel_rfl) ?_
 refine qs ?_
 refine qg ?_
 refine og 1 [(0, (ptr b)), (1, (i64 most)), (4, (i64 0))] 1 ?_
 refine od ?_
 refine qs ?_
 refine qg ?_
 refine og 2 [(4, (i64 0)), (5, (ptr b)), (6, (i64 most))] 2 ?_
 refine Ops.call (by kernel_rfl) (d := (some 7)) (by kernel_rfl) (sized_calls _ b A c r hok H0 hR hne most (by omega)) ?_
 rintro _ w1 ⟨rfl, K2, H3⟩
 have hok4 : (r.sized most).2.Ok := Rdr.Ok.sized hok most
 have hu5 := Rdr.sized_le hok most
 have hu6 := Rdr.sized_lt r most
 refine ⟨_, _, rfl, rfl, ?_⟩
 replace K0 := K0.trans K2 (U := (fun i => i = b)) (fun i h1 h2 => h2) (fun i h1 h2 => by have h2 : i = b := h2; show i = b; omega)
 replace hR := RdO.keep hR K2 (fun i _ _ hi hs => by have hs : i = b := hs; have := hne i _ _ hi; omega)
 clear K2
 have F7 : RdO w1 A c (r.sized most).2.bs := by rw [Rdr.sized_bs]; exact hR
 clear hR
 refine og 1 [(4, (i64 (((r.sized most).1 : Nat) : Int)))] 4 ?_
 refine od ?_
 refine q_ret (by kernel_rfl) ?_
 refine ⟨(i64 (((r.sized most).1 : Nat) : Int)), retv_tmp rfl rfl, ?_⟩
 have e : r.sized most = ((r.sized most).1, (r.sized most).2) := by rfl
 exact ⟨by first | (rw [e]; done) | (rw [e]; rfl), K0, by rw [e]; exact H3⟩

theorem RdBytes_calls (w : World) (b : Nat) (A : Option Addr) (c : Nat) (r : Rdr) (hok : r.Ok) (H0 : Has w b (rowL (rdrL A c r) 86)) (hR : RdO w A c r.bs) (hne : ∀ g o s, A = some ⟨g, o, s⟩ → g ≠ b) : Calls Tryz.prog 59 ⟨[(ptr b)]⟩ w (fun e w' => ∃ v', e = .returned v' ∧ Keeps (fun i => i = b) w w' ∧ OwnB w' w.heap.size 5 v' (r.bytes.1) ∧ Has w' b (rowL (rdrL A c (r.bytes).2) 86)) := by
 have hpos := hok.pos
 have hlen := hok.len
 have hsc := r.scan_le
 have hdl : (r.bs.drop r.pos).length = r.bs.length - r.pos := List.length_drop
 have hcap := hR.1.slice
 have Hb := H0.lt
 have K0 : Keeps (fun i => i = b) w w := (Keeps.refl w).mono (fun _ _ h => h.elim)
 have hsb := r.sized_bs 65536
 have hsbl := congrArg List.length hsb
 refine q_calls Tryz.func59 (by kernel_rfl) (by kernel_rfl) ?_
 refine qs ?_
 refine qg ?_
 refine og 1 [(0, (ptr b)), (2, (Value.slice none 0 0))] 1 ?_
 refine od ?_
 refine qs ?_
 refine qg ?_
 refine og 1 [(0, (ptr b)), (2, (Value.slice none 0 0)), (5, (ptr b))] 1 ?_
 refine Ops.call (by kernel_rfl) (d := (some 6)) (by kernel_rfl) (sized_calls _ b A c r hok H0 hR hne 65536 (by omega)) ?_
 rintro _ w1 ⟨rfl, K2, H3⟩
 have hok4 : (r.sized 65536).2.Ok := Rdr.Ok.sized hok 65536
 have hu5 := Rdr.sized_le hok 65536
 have hu6 := Rdr.sized_lt r 65536
 refine ⟨_, _, rfl, rfl, ?_⟩
 replace K0 := K0.trans K2 (U := (fun i => i = b)) (fun i h1 h2 => h2) (fun i h1 h2 => by have h2 : i = b := h2; show i = b; omega)
 replace hR := RdO.keep hR K2 (fun i _ _ hi hs => by have hs : i = b := hs; have := hne i _ _ hi; omega)
 clear K2
 have F7 : RdO w1 A c (r.sized 65536).2.bs := by rw [Rdr.sized_bs]; exact hR
 clear hR
 refine og 1 [(0, (ptr b)), (2, (Value.slice none 0 0)), (3, (i64 (((r.sized 65536).1 : Nat) : Int)))] 3 ?_
 refine od ?_
 refine qs ?_
 refine qs ?_
 refine qg ?_
 refine og 1 [(0, (ptr b)), (2, (Value.slice none 0 0)), (3, (i64 (((r.sized 65536).1 : Nat) : Int))), (7, (ptr b))] 1 ?_
 refine Ops.call (by kernel_rfl) (d := (some 8)) (by kernel_rfl) (ok_calls _ b A c ((r.sized 65536).2) hok4 H3 F7 hne) ?_
 rintro _ w8 ⟨rfl, K9⟩
 refine ⟨_, _, rfl, rfl, ?_⟩
 replace K0 := K0.trans K9 (U := (fun i => i = b)) (fun i h1 h2 => h2) (fun i h1 h2 => by exact h2.elim)
 replace H3 := H3.keep K9 (fun h => h)
 replace F7 := RdO.keep0 F7 K9
 clear K9
 refine og 1 [(0, (ptr b)), (2, (Value.slice none 0 0)), (3, (i64 (((r.sized 65536).1 : Nat) : Int))), (9, (Value.bool (!((((r.sized 65536).2).why) == 0))))] 3 ?_
 refine od ?_
 refine q_cond (o := .tmp 9) (b := (!((((r.sized 65536).2).why) == 0))) (by kernel_rfl) rfl (fun h10 => ?_) (fun h10 => ?_)
 ·rw [h10]
  have p11 : ¬ (((r.sized 65536).2).why = 0) := of_beq_f (bnot_true h10)
  refine qs ?_
  refine qg ?_
  refine og 1 [(0, (ptr b)), (2, (Value.slice none 0 0)), (3, (i64 (((r.sized 65536).1 : Nat) : Int)))] 1 ?_
  refine od ?_
  refine q_ret (by kernel_rfl) ?_
  refine ⟨(Value.slice none 0 0), retv_tmp rfl rfl, ?_⟩
  have e : r.bytes = ([], (r.sized 65536).2) := by unfold Rdr.bytes; split <;> first | (exfalso; omega) | rfl | (simp only [Rdr.sized_bs]; done)
  exact ⟨(Value.slice none 0 0), rfl, K0, by rw [e]; exact (World.ownsRow_nil _ _ _ _), by rw [e]; exact H3⟩
 ·rw [h10]
  have p12 : ((r.sized 65536).2).why = 0 := of_beq_t (bnot_false h10)
  refine q_skip (by kernel_rfl) ?_
  refine qs ?_
  refine qg ?_
  refine og 1 [(0, (ptr b)), (2, (Value.slice none 0 0)), (3, (i64 (((r.sized 65536).1 : Nat) : Int))), (10, (ptr b))] 1 ?_
  refine Ops.call (by kernel_rfl) (d := (some 11)) (by kernel_rfl) (left_calls _ b A c ((r.sized 65536).2) hok4 H3 F7 hne) ?_
  rintro _ w13 ⟨A15, c16, rfl, K14, h17, hlb18⟩
  have ob19 := left_ne (n := (((r.sized 65536).2).bs.drop ((r.sized 65536).2).pos).length) (c := c16) hlb18 hne
  have hdlA15 : (((r.sized 65536).2).bs.drop ((r.sized 65536).2).pos).length = ((r.sized 65536).2).bs.length - ((r.sized 65536).2).pos := List.length_drop
  have hslA15 := RdB.slice h17
  refine ⟨_, _, rfl, rfl, ?_⟩
  replace K0 := K0.trans K14 (U := (fun i => i = b)) (fun i h1 h2 => h2) (fun i h1 h2 => by exact h2.elim)
  replace H3 := H3.keep K14 (fun h => h)
  replace F7 := RdO.keep0 F7 K14
  clear K14
  refine og 1 [(0, (ptr b)), (2, (Value.slice none 0 0)), (3, (i64 (((r.sized 65536).1 : Nat) : Int))), (11, (Value.slice A15 ((((r.sized 65536).2).bs.drop ((r.sized 65536).2).pos).length) c16)), (12, (i64 (((r.sized 65536).1 : Nat) : Int)))] 3 ?_
  have hcut := run_cut (sz := 1) (P := Tryz.prog) (w := w13) (t := 22) (A := A15) (n := ((((r.sized 65536).2).bs.drop ((r.sized 65536).2).pos).length)) (c := c16) 0 ((r.sized 65536).1) c16 (lo := none) (hi := some (i64 (((r.sized 65536).1 : Nat) : Int))) (mx := none) tyB.slice (by kernel_rfl) (.inl ⟨rfl, rfl⟩) (.inr ⟨_, rfl⟩) (.inl ⟨rfl, rfl⟩) (by omega) (by omega) (by omega)
  have hA0 : (if c16 = 0 then A15 else Option.map (fun q => Addr.add q (0 * 1)) A15) = A15 := by cases A15 <;> simp [Addr.add]
  rw [hA0, Nat.sub_zero, Nat.sub_zero] at hcut
  have F20 := RdB.take h17 (k := (r.sized 65536).1) (by omega)
  have htl : ((((r.sized 65536).2).bs.drop ((r.sized 65536).2).pos).take ((r.sized 65536).1)).length = (r.sized 65536).1 := by rw [List.length_take]; omega
  refine Ops.go (v := (Value.slice A15 ((r.sized 65536).1) c16)) (by kernel_rfl) (Runs.slice (by kernel_rfl) hcut) (d := (some 13)) (by kernel_rfl) rfl ?_
  clear hcut hA0
  refine Ops.call (by kernel_rfl) (d := (some 14)) (by kernel_rfl) (Clone_calls _ (Value.slice A15 ((r.sized 65536).1) c16) ((((r.sized 65536).2).bs.drop ((r.sized 65536).2).pos).take ((r.sized 65536).1)) F20 (by omega)) ?_
  rintro _ w22 ⟨v21, rfl, K23, hO24⟩
  have ob26 : ∀ i, (v21).ownBlock = some i → i ≠ b := fun i hi => by have := (World.ownsRow.lt hO24 i hi).1; have := H3.lt; omega
  have oo27 : ∀ i o s, A = some ⟨i, o, s⟩ → (v21).ownBlock = some i → False := fun i o s hi hs => by have := (World.ownsRow.lt hO24 i hs).1; have := F7.2 i o s hi; omega
  have O25 := own_base hO24 K0.size
  clear hO24
  refine ⟨_, _, rfl, rfl, ?_⟩
  replace K0 := K0.trans K23 (U := (fun i => i = b)) (fun i h1 h2 => h2) (fun i h1 h2 => by exact h2.elim)
  replace H3 := H3.keep K23 (fun h => h)
  replace F7 := RdO.keep0 F7 K23
  replace h17 := (Rd.keep0 (by omega) h17 K23)
  replace F20 := (Rd.keep0 (by omega) F20 K23)
  clear K23
  refine og 1 [(0, (ptr b)), (2, (Value.slice none 0 0)), (3, (i64 (((r.sized 65536).1 : Nat) : Int))), (4, v21)] 6 ?_
  refine od ?_
  refine qs ?_
  refine qg ?_
  refine og 3 [(2, (Value.slice none 0 0)), (3, (i64 (((r.sized 65536).1 : Nat) : Int))), (4, v21), (15, (ptr b)), (17, (Value.pointer (some ⟨b, 1, none⟩)))] 3 ?_
  refine Ops.go (v := (i64 ((((r.sized 65536).2).pos : Nat) : Int))) (by kernel_rfl) (Runs.load (t := 3) (a := ⟨b, 1, none⟩) (by kernel_rfl) (H3.loads (by kernel_rfl))) (d := (some 18)) (by kernel_rfl) rfl ?_
  refine og 2 [(2, (Value.slice none 0 0)), (4, v21), (15, (ptr b)), (20, (i64 (IntKind.i64.wrap (((((r.sized 65536).2).pos : Nat) : Int) + (((r.sized 65536).1 : Nat) : Int)))))] 6 ?_
  have e29 : IntKind.i64.wrap (((((r.sized 65536).2).pos : Nat) : Int) + (((r.sized 65536).1 : Nat) : Int)) = (((((r.sized 65536).2).pos) + ((r.sized 65536).1) : Nat) : Int) := by rw [wrap_i64 (by omega) (by omega)]; omega
  rw [e29]
  clear e29
  refine og 2 [(2, (Value.slice none 0 0)), (4, v21), (20, (i64 (((((r.sized 65536).2).pos) + ((r.sized 65536).1) : Nat) : Int))), (22, (Value.pointer (some ⟨b, 1, none⟩)))] 8 ?_
  refine Ops.put (t := 3) (b := b) (off := 1) (v := (i64 (((((r.sized 65536).2).pos) + ((r.sized 65536).1) : Nat) : Int))) (ys := [(Value.slice A (((r.sized 65536).2).bs.length) c), (i64 (((((r.sized 65536).2).pos) + ((r.sized 65536).1) : Nat) : Int)), (i64 (((r.sized 65536).2).why))]) (by kernel_rfl) (by kernel_rfl) H3 (by kernel_rfl) (d := none) (by kernel_rfl) rfl (fun w30 H31 K32 => ?_)
  clear H3
  replace K0 := K0.trans K32 (U := (fun i => i = b)) (fun i h1 h2 => h2) (fun i h1 h2 => by have h2 : i = b := h2; show i = b; omega)
  replace F7 := RdO.keep F7 K32 (fun i _ _ hi hs => by have hs : i = b := hs; have := hne i _ _ hi; omega)
  replace h17 := Rd.keep (by omega) h17 K32 (fun i hi hs => by have hs : i = b := hs; have := ob19 i hi; omega)
  clear F20
  replace O25 := own_keep O25 K32 (fun i hi hs => by have hs : i = b := hs; have := ob26 i hi; omega)
  clear K32
  refine od ?_
  refine qs ?_
  refine qg ?_
  refine og 2 [(2, v21)] 2 ?_
  refine od ?_
  refine q_ret (by kernel_rfl) ?_
  refine ⟨v21, retv_tmp rfl rfl, ?_⟩
  have e : r.bytes = ((((r.sized 65536).2).bs.drop ((r.sized 65536).2).pos).take ((r.sized 65536).1), (⟨((r.sized 65536).2).bs, (((r.sized 65536).2).pos) + ((r.sized 65536).1), ((r.sized 65536).2).why⟩ : Rdr)) := by unfold Rdr.bytes; split <;> first | (exfalso; omega) | rfl | (simp only [Rdr.sized_bs]; done)
  exact ⟨v21, rfl, K0, by rw [e]; exact O25, by rw [e]; exact H31⟩

theorem RdText_calls (w : World) (b : Nat) (A : Option Addr) (c : Nat) (r : Rdr) (hok : r.Ok) (H0 : Has w b (rowL (rdrL A c r) 86)) (hR : RdO w A c r.bs) (hne : ∀ g o s, A = some ⟨g, o, s⟩ → g ≠ b) : Calls Tryz.prog 20 ⟨[(ptr b)]⟩ w (fun e w' => e = .returned (.string (str r.bytes.1)) ∧ Keeps (fun i => i = b) w w' ∧ Has w' b (rowL (rdrL A c (r.bytes).2) 86)) := by
 have hpos := hok.pos
 have hlen := hok.len
 have hsc := r.scan_le
 have hdl : (r.bs.drop r.pos).length = r.bs.length - r.pos := List.length_drop
 have hcap := hR.1.slice
 have Hb := H0.lt
 have K0 : Keeps (fun i => i = b) w w := (Keeps.refl w).mono (fun _ _ h => h.elim)
 refine q_calls Tryz.func20 (by kernel_rfl) (by kernel_rfl) ?_
 refine qs ?_
 refine qg ?_
 refine og 1 [(0, (ptr b)), (2, (Value.string (str ([] : List UInt8))))] 1 ?_
 refine od ?_
 refine qs ?_
 refine qg ?_
 refine og 1 [(2, (Value.string (str ([] : List UInt8)))), (3, (ptr b))] 1 ?_
 refine Ops.call (by kernel_rfl) (d := (some 4)) (by kernel_rfl) (RdBytes_calls _ b A c r hok H0 hR hne ) ?_
 rintro _ w1 ⟨v6, rfl, K2, hO7, H3⟩
 have hok4 : (r.bytes).2.Ok := Rdr.Ok.bytes hok
 have hu5 := Rdr.bytes_le hok
 have ob9 : ∀ i, (v6).ownBlock = some i → i ≠ b := fun i hi => by have := (World.ownsRow.lt hO7 i hi).1; have := H0.lt; omega
 have oo10 : ∀ i o s, A = some ⟨i, o, s⟩ → (v6).ownBlock = some i → False := fun i o s hi hs => by have := (World.ownsRow.lt hO7 i hs).1; have := hR.2 i o s hi; omega
 have O8 := own_base hO7 K0.size
 clear hO7
 refine ⟨_, _, rfl, rfl, ?_⟩
 replace K0 := K0.trans K2 (U := (fun i => i = b)) (fun i h1 h2 => h2) (fun i h1 h2 => by have h2 : i = b := h2; show i = b; omega)
 replace hR := RdO.keep hR K2 (fun i _ _ hi hs => by have hs : i = b := hs; have := hne i _ _ hi; omega)
 clear K2
 have F12 : RdO w1 A c (r.bytes).2.bs := by rw [Rdr.bytes_bs]; exact hR
 clear hR
 refine Ops.go (v := (Value.string (str ((r.bytes).1)))) (by kernel_rfl) (Runs.b2s (s := 22) (d := 9) (e := 5) (by kernel_rfl) (by kernel_rfl) (by kernel_rfl) (OwnB.rd O8)) (d := (some 5)) (by kernel_rfl) rfl ?_
 refine og 1 [(2, (Value.string (str ((r.bytes).1))))] 4 ?_
 refine od ?_
 refine q_ret (by kernel_rfl) ?_
 refine ⟨(Value.string (str ((r.bytes).1))), retv_tmp rfl rfl, ?_⟩
 exact ⟨rfl, K0, H3⟩
end Go.Proofs.YtooginpgclcldaaGreatDoor
