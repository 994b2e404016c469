/- readers: how many, bytes, texts -/
import Derived.Test.YtlnidnadpdpciaaProg
import Derived.Test.YtlnidnadpdpciaaKB
import Derived.Test.YtlnidnadpdpciaaLX
set_option linter.unusedVariables false
namespace Go.Proofs.Ytlnidnadpdpciaa
open Go.Q Go.RowKit

theorem sized_calls (w : World) (b : Nat) (A : Option Addr) (c : Nat) (r : Rdr) (hok : r.Ok) (H0 : Has w b (rowL (rdrL A c r) 115)) (hR : RdO w A c r.bs) (hne : ∀ g o s, A = some ⟨g, o, s⟩ → g ≠ b) (most : Int) (hm : -9223372036854775808 ≤ most ∧ most ≤ 9223372036854775807) : Calls Try.prog 76 ⟨[(ptr b), (i64 most)]⟩ w (fun e w' => e = .returned (i64 (((r.sized most).1 : Nat) : Int)) ∧ Keeps (fun i => i = b) w w' ∧ Has w' b (rowL (rdrL A c (r.sized most).2) 115)) := by
 have hpos := hok.pos
 have hlen := hok.len
 have hsc := r.scan_le
 have hdl : (r.bs.drop r.pos).length = r.bs.length - r.pos := List.length_drop
 have hcap := hR.1.slice
 have Hb := H0.lt
 have K0 : Keeps (fun i => i = b) w w := (Keeps.refl w).mono (fun _ _ h => h.elim)
 have hub := r.uint_bs
 have hubl := congrArg List.length hub
 have hul := r.uint_lt
 refine q_calls Try.func76 (by kernel_rfl) (by kernel_rfl) ?_
 refine qs ?_
 refine qg ?_
 refine og 1 [(0, (ptr b)), (1, (i64 most)), (4, (i64 0))] 1 ?_
 refine od ?_
 refine qs ?_
 refine qs ?_
 refine qg ?_
 refine og 1 [(0, (ptr b)), (1, (i64 most)), (4, (i64 0)), (7, (ptr b))] 1 ?_
 refine Ops.call (by kernel_rfl) (d := (some 8)) (by kernel_rfl) (ok_calls _ b A c r hok H0 hR hne) ?_
 rintro _ w1 ⟨rfl, K2⟩
 refine ⟨_, _, rfl, rfl, ?_⟩
 replace K0 := K0.trans K2 (U := (fun i => i = b)) (fun i h1 h2 => h2) (fun i h1 h2 => by exact h2.elim)
 replace H0 := H0.keep K2 (fun h => h)
 replace hR := RdO.keep0 hR K2
 clear K2
 refine og 1 [(0, (ptr b)), (1, (i64 most)), (4, (i64 0)), (9, (Value.bool (!(r.why == 0))))] 3 ?_
 refine od ?_
 refine q_cond (o := .tmp 9) (b := (!(r.why == 0))) (by kernel_rfl) rfl (fun h3 => ?_) (fun h3 => ?_)
 ·rw [h3]
  have p4 : ¬ (r.why = 0) := of_beq_f (bnot_true h3)
  refine qs ?_
  refine qg ?_
  refine og 1 [(0, (ptr b)), (1, (i64 most)), (4, (i64 0))] 1 ?_
  refine od ?_
  refine q_ret (by kernel_rfl) ?_
  refine ⟨(i64 0), retv_tmp rfl rfl, ?_⟩
  have e : r.sized most = (0, r) := by unfold Rdr.sized; (repeat' split) <;> first | (exfalso; omega) | rfl | (simp only [Rdr.uint_bs]; done) | (rw [Rdr.uint_bs]; done)
  exact ⟨by first | (rw [e]; done) | (rw [e]; rfl), K0, by rw [e]; exact H0⟩
 ·rw [h3]
  have p5 : r.why = 0 := of_beq_t (bnot_false h3)
  refine q_skip (by kernel_rfl) ?_
  refine qs ?_
  refine qg ?_
  refine og 3 [(0, (ptr b)), (1, (i64 most)), (4, (i64 0)), (12, (Value.pointer (some ⟨b, 1, none⟩)))] 3 ?_
  refine Ops.go (v := (i64 ((r.pos : Nat) : Int))) (by kernel_rfl) (Runs.load (t := 3) (a := ⟨b, 1, none⟩) (by kernel_rfl) (H0.loads (by kernel_rfl))) (d := (some 13)) (by kernel_rfl) rfl ?_
  refine og 1 [(0, (ptr b)), (1, (i64 most)), (4, (i64 0)), (5, (i64 ((r.pos : Nat) : Int)))] 5 ?_
  refine od ?_
  refine qs ?_
  refine qg ?_
  refine og 1 [(0, (ptr b)), (1, (i64 most)), (4, (i64 0)), (5, (i64 ((r.pos : Nat) : Int))), (14, (ptr b))] 1 ?_
  refine Ops.call (by kernel_rfl) (d := (some 15)) (by kernel_rfl) (RdUint_calls _ b A c r hok H0 hR hne) ?_
  rintro _ w6 ⟨rfl, K7, H8⟩
  have hok9 := Rdr.Ok.uint hok
  have hu10 := Rdr.uint_lt r
  refine ⟨_, _, rfl, rfl, ?_⟩
  replace K0 := K0.trans K7 (U := (fun i => i = b)) (fun i h1 h2 => h2) (fun i h1 h2 => by have h2 : i = b := h2; show i = b; omega)
  replace hR := RdO.keep hR K7 (fun i _ _ hi hs => by have hs : i = b := hs; have := hne i _ _ hi; omega)
  clear K7
  have F11 : RdO w6 A c (r.uint.2).bs := by rw [Rdr.uint_bs]; exact hR
  clear hR
  refine og 1 [(0, (ptr b)), (1, (i64 most)), (4, (i64 0)), (5, (i64 ((r.pos : Nat) : Int))), (6, (Value.int IntKind.u64 ((r.uint.1 : Nat) : Int)))] 3 ?_
  refine od ?_
  refine qs ?_
  refine q_block (id := 0) (by kernel_rfl) ?_
  refine qs ?_
  refine qg ?_
  refine og 3 [(0, (ptr b)), (1, (i64 most)), (4, (i64 0)), (5, (i64 ((r.pos : Nat) : Int))), (6, (Value.int IntKind.u64 ((r.uint.1 : Nat) : Int))), (21, (Value.pointer (some ⟨b, 2, none⟩)))] 3 ?_
  refine Ops.go (v := (i64 r.uint.2.why)) (by kernel_rfl) (Runs.load (t := 24) (a := ⟨b, 2, none⟩) (by kernel_rfl) (H8.loads (by kernel_rfl))) (d := (some 22)) (by kernel_rfl) rfl ?_
  refine og 2 [(0, (ptr b)), (1, (i64 most)), (4, (i64 0)), (5, (i64 ((r.pos : Nat) : Int))), (6, (Value.int IntKind.u64 ((r.uint.1 : Nat) : Int))), (18, (Value.bool (r.uint.2.why != 0)))] 6 ?_
  refine od ?_
  refine q_cond (o := .tmp 18) (b := (r.uint.2.why != 0)) (by kernel_rfl) rfl (fun h12 => ?_) (fun h12 => ?_)
  ·rw [h12]
   have p13 : ¬ (r.uint.2.why = 0) := of_bne_t h12
   refine q_skip (by kernel_rfl) ?_
   refine qs ?_
   refine qg ?_
   refine og 4 [(4, (i64 0)), (47, (i64 ((r.pos : Nat) : Int))), (49, (Value.pointer (some ⟨b, 1, none⟩)))] 4 ?_
   refine Ops.put (t := 3) (b := b) (off := 1) (v := (i64 ((r.pos : Nat) : Int))) (ys := [(Value.slice A r.uint.2.bs.length c), (i64 ((r.pos : Nat) : Int)), (i64 r.uint.2.why)]) (by kernel_rfl) (by kernel_rfl) H8 (by kernel_rfl) (d := none) (by kernel_rfl) rfl (fun w14 H15 K16 => ?_)
   clear H8
   replace K0 := K0.trans K16 (U := (fun i => i = b)) (fun i h1 h2 => h2) (fun i h1 h2 => by have h2 : i = b := h2; show i = b; omega)
   replace F11 := RdO.keep F11 K16 (fun i _ _ hi hs => by have hs : i = b := hs; have := hne i _ _ hi; omega)
   clear K16
   refine od ?_
   refine qs ?_
   refine qg ?_
   refine og 1 [(4, (i64 0))] 1 ?_
   refine od ?_
   refine q_ret (by kernel_rfl) ?_
   refine ⟨(i64 0), retv_tmp rfl rfl, ?_⟩
   have e : r.sized most = (0, (⟨r.uint.2.bs, r.pos, r.uint.2.why⟩ : Rdr)) := by unfold Rdr.sized; (repeat' split) <;> first | (exfalso; omega) | rfl | (simp only [Rdr.uint_bs]; done) | (rw [Rdr.uint_bs]; done)
   exact ⟨by first | (rw [e]; done) | (rw [e]; rfl), K0, by rw [e]; exact H15⟩
  ·rw [h12]
   have p17 : r.uint.2.why = 0 := of_bne_f h12
   refine qs ?_
   refine qg ?_
   refine og 3 [(0, (ptr b)), (1, (i64 most)), (4, (i64 0)), (5, (i64 ((r.pos : Nat) : Int))), (6, (Value.int IntKind.u64 ((r.uint.1 : Nat) : Int))), (27, (Value.bool (decide (most < 0))))] 3 ?_
   refine Ops.split (decide (most < 0)) (fun h18 => ?_) (fun h18 => ?_)
   ·rw [h18]
    have p19 : most < 0 := of_decide_eq_true h18
    refine og 6 [(0, (ptr b)), (4, (i64 0)), (5, (i64 ((r.pos : Nat) : Int))), (6, (Value.int IntKind.u64 ((r.uint.1 : Nat) : Int))), (24, (Value.bool true))] 9 ?_
    refine od ?_
    refine q_then (o := .tmp 24) (by kernel_rfl) rfl ?_
    refine qg ?_
    refine og 3 [(0, (ptr b)), (4, (i64 0)), (5, (i64 ((r.pos : Nat) : Int))), (6, (Value.int IntKind.u64 ((r.uint.1 : Nat) : Int))), (35, (Value.pointer (some ⟨b, 2, none⟩)))] 3 ?_
    refine Ops.put (t := 24) (b := b) (off := 2) (v := (i64 3)) (ys := [(Value.slice A r.uint.2.bs.length c), (i64 ((r.uint.2.pos : Nat) : Int)), (i64 3)]) (by kernel_rfl) (by kernel_rfl) H8 (by kernel_rfl) (d := none) (by kernel_rfl) rfl (fun w20 H21 K22 => ?_)
    clear H8
    replace K0 := K0.trans K22 (U := (fun i => i = b)) (fun i h1 h2 => h2) (fun i h1 h2 => by have h2 : i = b := h2; show i = b; omega)
    replace F11 := RdO.keep F11 K22 (fun i _ _ hi hs => by have hs : i = b := hs; have := hne i _ _ hi; omega)
    clear K22
    refine od ?_
    refine qs ?_
    refine qg ?_
    refine og 4 [(4, (i64 0)), (47, (i64 ((r.pos : Nat) : Int))), (49, (Value.pointer (some ⟨b, 1, none⟩)))] 4 ?_
    refine Ops.put (t := 3) (b := b) (off := 1) (v := (i64 ((r.pos : Nat) : Int))) (ys := [(Value.slice A r.uint.2.bs.length c), (i64 ((r.pos : Nat) : Int)), (i64 3)]) (by kernel_rfl) (by kernel_rfl) H21 (by kernel_rfl) (d := none) (by kernel_rfl) rfl (fun w23 H24 K25 => ?_)
    clear H21
    replace K0 := K0.trans K25 (U := (fun i => i = b)) (fun i h1 h2 => h2) (fun i h1 h2 => by have h2 : i = b := h2; show i = b; omega)
    replace F11 := RdO.keep F11 K25 (fun i _ _ hi hs => by have hs : i = b := hs; have := hne i _ _ hi; omega)
    clear K25
    refine od ?_
    refine qs ?_
    refine qg ?_
    refine og 1 [(4, (i64 0))] 1 ?_
    refine od ?_
    refine q_ret (by kernel_rfl) ?_
    refine ⟨(i64 0), retv_tmp rfl rfl, ?_⟩
    have e : r.sized most = (0, (⟨r.uint.2.bs, r.pos, 3⟩ : Rdr)) := by unfold Rdr.sized; (repeat' split) <;> first | (exfalso; omega) | rfl | (simp only [Rdr.uint_bs]; done) | (rw [Rdr.uint_bs]; done)
    exact ⟨by first | (rw [e]; done) | (rw [e]; rfl), K0, by rw [e]; exact H24⟩
   ·rw [h18]
    have p26 : ¬ (most < 0) := of_decide_eq_false h18
    refine og 3 [(0, (ptr b)), (4, (i64 0)), (5, (i64 ((r.pos : Nat) : Int))), (6, (Value.int IntKind.u64 ((r.uint.1 : Nat) : Int))), (27, (Value.bool false)), (28, (Value.int IntKind.u64 ((r.uint.1 : Nat) : Int))), (30, (Value.int IntKind.u64 (IntKind.u64.wrap (most))))] 6 ?_
    have e27 : IntKind.u64.wrap (most) = most := wrap_u64 (by omega) (by omega)
    rw [e27]
    refine og 3 [(0, (ptr b)), (4, (i64 0)), (5, (i64 ((r.pos : Nat) : Int))), (6, (Value.int IntKind.u64 ((r.uint.1 : Nat) : Int))), (24, (Value.bool (decide (((r.uint.1 : Nat) : Int) > most))))] 9 ?_
    refine od ?_
    refine q_cond (o := .tmp 24) (b := (decide (((r.uint.1 : Nat) : Int) > most))) (by kernel_rfl) rfl (fun h28 => ?_) (fun h28 => ?_)
    ·rw [h28]
     have p29 : ((r.uint.1 : Nat) : Int) > most := of_decide_eq_true h28
     refine qg ?_
     refine og 3 [(0, (ptr b)), (4, (i64 0)), (5, (i64 ((r.pos : Nat) : Int))), (6, (Value.int IntKind.u64 ((r.uint.1 : Nat) : Int))), (35, (Value.pointer (some ⟨b, 2, none⟩)))] 3 ?_
     refine Ops.put (t := 24) (b := b) (off := 2) (v := (i64 3)) (ys := [(Value.slice A r.uint.2.bs.length c), (i64 ((r.uint.2.pos : Nat) : Int)), (i64 3)]) (by kernel_rfl) (by kernel_rfl) H8 (by kernel_rfl) (d := none) (by kernel_rfl) rfl (fun w30 H31 K32 => ?_)
     clear H8
     replace K0 := K0.trans K32 (U := (fun i => i = b)) (fun i h1 h2 => h2) (fun i h1 h2 => by have h2 : i = b := h2; show i = b; omega)
     replace F11 := RdO.keep F11 K32 (fun i _ _ hi hs => by have hs : i = b := hs; have := hne i _ _ hi; omega)
     clear K32
     refine od ?_
     refine qs ?_
     refine qg ?_
     refine og 4 [(4, (i64 0)), (47, (i64 ((r.pos : Nat) : Int))), (49, (Value.pointer (some ⟨b, 1, none⟩)))] 4 ?_
     refine Ops.put (t := 3) (b := b) (off := 1) (v := (i64 ((r.pos : Nat) : Int))) (ys := [(Value.slice A r.uint.2.bs.length c), (i64 ((r.pos : Nat) : Int)), (i64 3)]) (by kernel_rfl) (by kernel_rfl) H31 (by kernel_rfl) (d := none) (by kernel_rfl) rfl (fun w33 H34 K35 => ?_)
     clear H31
     replace K0 := K0.trans K35 (U := (fun i => i = b)) (fun i h1 h2 => h2) (fun i h1 h2 => by have h2 : i = b := h2; show i = b; omega)
     replace F11 := RdO.keep F11 K35 (fun i _ _ hi hs => by have hs : i = b := hs; have := hne i _ _ hi; omega)
     clear K35
     refine od ?_
     refine qs ?_
     refine qg ?_
     refine og 1 [(4, (i64 0))] 1 ?_
     refine od ?_
     refine q_ret (by kernel_rfl) ?_
     refine ⟨(i64 0), retv_tmp rfl rfl, ?_⟩
     have e : r.sized most = (0, (⟨r.uint.2.bs, r.pos, 3⟩ : Rdr)) := by unfold Rdr.sized; (repeat' split) <;> first | (exfalso; omega) | rfl | (simp only [Rdr.uint_bs]; done) | (rw [Rdr.uint_bs]; done)
     exact ⟨by first | (rw [e]; done) | (rw [e]; rfl), K0, by rw [e]; exact H34⟩
    ·rw [h28]
     have p36 : ¬ (((r.uint.1 : Nat) : Int) > most) := of_decide_eq_false h28
     refine qs ?_
     refine qg ?_
     refine og 2 [(0, (ptr b)), (4, (i64 0)), (5, (i64 ((r.pos : Nat) : Int))), (6, (Value.int IntKind.u64 ((r.uint.1 : Nat) : Int))), (37, (Value.int IntKind.u64 ((r.uint.1 : Nat) : Int))), (38, (ptr b))] 2 ?_
     refine Ops.call (by kernel_rfl) (d := (some 39)) (by kernel_rfl) (left_calls _ b A c r.uint.2 hok9 H8 F11 hne) ?_
     rintro _ w37 ⟨A39, c40, rfl, K38, h41, hlb42⟩
     have ob43 := left_ne (n := (r.uint.2.bs.drop r.uint.2.pos).length) (c := c40) hlb42 hne
     have hdlA39 : (r.uint.2.bs.drop r.uint.2.pos).length = r.uint.2.bs.length - r.uint.2.pos := List.length_drop
     have hslA39 := RdB.slice h41
     refine ⟨_, _, rfl, rfl, ?_⟩
     replace K0 := K0.trans K38 (U := (fun i => i = b)) (fun i h1 h2 => h2) (fun i h1 h2 => by exact h2.elim)
     replace H8 := H8.keep K38 (fun h => h)
     replace F11 := RdO.keep0 F11 K38
     clear K38
     refine og 2 [(0, (ptr b)), (4, (i64 0)), (5, (i64 ((r.pos : Nat) : Int))), (6, (Value.int IntKind.u64 ((r.uint.1 : Nat) : Int))), (37, (Value.int IntKind.u64 ((r.uint.1 : Nat) : Int))), (41, (Value.int IntKind.u64 (IntKind.u64.wrap ((((r.uint.2.bs.drop r.uint.2.pos).length : Nat) : Int)))))] 5 ?_
     have e44 : IntKind.u64.wrap ((((r.uint.2.bs.drop r.uint.2.pos).length : Nat) : Int)) = (((r.uint.2.bs.drop r.uint.2.pos).length : Nat) : Int) := wrap_u64 (by omega) (by omega)
     rw [e44]
     refine og 2 [(0, (ptr b)), (4, (i64 0)), (5, (i64 ((r.pos : Nat) : Int))), (6, (Value.int IntKind.u64 ((r.uint.1 : Nat) : Int))), (36, (Value.bool (decide (((r.uint.1 : Nat) : Int) > (((r.uint.2.bs.drop r.uint.2.pos).length : Nat) : Int)))))] 7 ?_
     refine od ?_
     refine q_cond (o := .tmp 36) (b := (decide (((r.uint.1 : Nat) : Int) > (((r.uint.2.bs.drop r.uint.2.pos).length : Nat) : Int)))) (by kernel_rfl) rfl (fun h45 => ?_) (fun h45 => ?_)
     ·rw [h45]
      have p46 : ((r.uint.1 : Nat) : Int) > (((r.uint.2.bs.drop r.uint.2.pos).length : Nat) : Int) := of_decide_eq_true h45
      refine qg ?_
      refine og 3 [(0, (ptr b)), (4, (i64 0)), (5, (i64 ((r.pos : Nat) : Int))), (6, (Value.int IntKind.u64 ((r.uint.1 : Nat) : Int))), (45, (Value.pointer (some ⟨b, 2, none⟩)))] 3 ?_
      refine Ops.put (t := 24) (b := b) (off := 2) (v := (i64 10)) (ys := [(Value.slice A r.uint.2.bs.length c), (i64 ((r.uint.2.pos : Nat) : Int)), (i64 10)]) (by kernel_rfl) (by kernel_rfl) H8 (by kernel_rfl) (d := none) (by kernel_rfl) rfl (fun w47 H48 K49 => ?_)
      clear H8
      replace K0 := K0.trans K49 (U := (fun i => i = b)) (fun i h1 h2 => h2) (fun i h1 h2 => by have h2 : i = b := h2; show i = b; omega)
      replace F11 := RdO.keep F11 K49 (fun i _ _ hi hs => by have hs : i = b := hs; have := hne i _ _ hi; omega)
      replace h41 := Rd.keep (by omega) h41 K49 (fun i hi hs => by have hs : i = b := hs; have := ob43 i hi; omega)
      clear K49
      refine od ?_
      refine qs ?_
      refine qg ?_
      refine og 4 [(4, (i64 0)), (47, (i64 ((r.pos : Nat) : Int))), (49, (Value.pointer (some ⟨b, 1, none⟩)))] 4 ?_
      refine Ops.put (t := 3) (b := b) (off := 1) (v := (i64 ((r.pos : Nat) : Int))) (ys := [(Value.slice A r.uint.2.bs.length c), (i64 ((r.pos : Nat) : Int)), (i64 10)]) (by kernel_rfl) (by kernel_rfl) H48 (by kernel_rfl) (d := none) (by kernel_rfl) rfl (fun w50 H51 K52 => ?_)
      clear H48
      replace K0 := K0.trans K52 (U := (fun i => i = b)) (fun i h1 h2 => h2) (fun i h1 h2 => by have h2 : i = b := h2; show i = b; omega)
      replace F11 := RdO.keep F11 K52 (fun i _ _ hi hs => by have hs : i = b := hs; have := hne i _ _ hi; omega)
      replace h41 := Rd.keep (by omega) h41 K52 (fun i hi hs => by have hs : i = b := hs; have := ob43 i hi; omega)
      clear K52
      refine od ?_
      refine qs ?_
      refine qg ?_
      refine og 1 [(4, (i64 0))] 1 ?_
      refine od ?_
      refine q_ret (by kernel_rfl) ?_
      refine ⟨(i64 0), retv_tmp rfl rfl, ?_⟩
      have e : r.sized most = (0, (⟨r.uint.2.bs, r.pos, 10⟩ : Rdr)) := by unfold Rdr.sized; (repeat' split) <;> first | (exfalso; omega) | rfl | (simp only [Rdr.uint_bs]; done) | (rw [Rdr.uint_bs]; done)
      exact ⟨by first | (rw [e]; done) | (rw [e]; rfl), K0, by rw [e]; exact H51⟩
     ·rw [h45]
      have p53 : ¬ (((r.uint.1 : Nat) : Int) > (((r.uint.2.bs.drop r.uint.2.pos).length : Nat) : Int)) := of_decide_eq_false h45
      refine qs ?_
      refine qg ?_
      refine og 2 [(0, (ptr b)), (4, (i64 0)), (5, (i64 ((r.pos : Nat) : Int))), (17, (i64 (IntKind.i64.wrap (((r.uint.1 : Nat) : Int)))))] 2 ?_
      have e54 : IntKind.i64.wrap (((r.uint.1 : Nat) : Int)) = ((r.uint.1 : Nat) : Int) := wrap_i64 (by omega) (by omega)
      rw [e54]
      refine og 1 [(0, (ptr b)), (4, (i64 ((r.uint.1 : Nat) : Int))), (5, (i64 ((r.pos : Nat) : Int)))] 3 ?_
      refine od ?_
      refine q_ret (by kernel_rfl) ?_
      refine ⟨(i64 ((r.uint.1 : Nat) : Int)), retv_tmp rfl rfl, ?_⟩
      have e : r.sized most = (r.uint.1, r.uint.2) := by unfold Rdr.sized; (repeat' split) <;> first | (exfalso; omega) | rfl | (simp only [Rdr.uint_bs]; done) | (rw [Rdr.uint_bs]; done)
      exact ⟨by first | (rw [e]; done) | (rw [e]; rfl), K0, by rw [e]; exact H8⟩

theorem Count_calls (w : World) (b : Nat) (A : Option Addr) (c : Nat) (r : Rdr) (hok : r.Ok) (H0 : Has w b (rowL (rdrL A c r) 115)) (hR : RdO w A c r.bs) (hne : ∀ g o s, A = some ⟨g, o, s⟩ → g ≠ b) (most : Int) (hm : -9223372036854775808 ≤ most ∧ most ≤ 9223372036854775807) : Calls Try.prog 75 ⟨[(ptr b), (i64 most)]⟩ w (fun e w' => e = .returned (i64 (((r.sized most).1 : Nat) : Int)) ∧ Keeps (fun i => i = b) w w' ∧ Has w' b (rowL (rdrL A c (r.sized most).2) 115)) := by
 have hpos := hok.pos
 have hlen := hok.len
 have hsc := r.scan_le
 have hdl : (r.bs.drop r.pos).length = r.bs.length - r.pos := List.length_drop
 have hcap := hR.1.slice
 have Hb := H0.lt
 have K0 : Keeps (fun i => i = b) w w := (Keeps.refl w).mono (fun _ _ h => h.elim)
 refine q_calls Try.func75 (by kernel_rfl) (by kernel_rfl) ?_
 refine qs ?_
 refine qg ?_
 refine og 1 [(0, (ptr b)), (1, (i64 most)), (4, (i64 0))] 1 ?_
 refine od ?_
 refine qs ?_
 refine qg ?_
 refine og 2 [(4, (i64 0)), (5, (ptr b)), (6, (i64 most))] 2 ?_
 refine Ops.call (by kernel_rfl) (d := (some 7)) (by kernel_rfl) (sized_calls _ b A c r hok H0 hR hne most (by omega)) ?_
 rintro _ w1 ⟨rfl, K2, H3⟩
 have hok4 : (r.sized most).2.Ok := Rdr.Ok.sized hok most
 have hu5 := Rdr.sized_le hok most
 have hu6 := Rdr.sized_lt r most
 refine ⟨_, _, rfl, rfl, ?_⟩
 replace K0 := K0.trans K2 (U := (fun i => i = b)) (fun i h1 h2 => h2) (fun i h1 h2 => by have h2 : i = b := h2; show i = b; omega)
 replace hR := RdO.keep hR K2 (fun i _ _ hi hs => by have hs : i = b := hs; have := hne i _ _ hi; omega)
 clear K2
 have F7 : RdO w1 A c (r.sized most).2.bs := by rw [Rdr.sized_bs]; exact hR
 clear hR
 refine og 1 [(4, (i64 (((r.sized most).1 : Nat) : Int)))] 4 ?_
 refine od ?_
 refine q_ret (by kernel_rfl) ?_
 refine ⟨(i64 (((r.sized most).1 : Nat) : Int)), retv_tmp rfl rfl, ?_⟩
 have e : r.sized most = ((r.sized most).1, (r.sized most).2) := by rfl
 exact ⟨by first | (rw [e]; done) | (rw [e]; rfl), K0, by rw [e]; exact H3⟩

theorem RdBytes_calls (w : World) (b : Nat) (A : Option Addr) (c : Nat) (r : Rdr) (hok : r.Ok) (H0 : Has w b (rowL (rdrL A c r) 115)) (hR : RdO w A c r.bs) (hne : ∀ g o s, A = some ⟨g, o, s⟩ → g ≠ b) : Calls Try.prog 53 ⟨[(ptr b)]⟩ w (fun e w' => ∃ v', e = .returned v' ∧ Keeps (fun i => i = b) w w' ∧ OwnB w' w.heap.size 5 v' (r.bytes.1) ∧ Has w' b (rowL (rdrL A c (r.bytes).2) 115)) := by
 have hpos := hok.pos
 have hlen := hok.len
 have hsc := r.scan_le
 have hdl : (r.bs.drop r.pos).length = r.bs.length - r.pos := List.length_drop
 have hcap := hR.1.slice
 have Hb := H0.lt
 have K0 : Keeps (fun i => i = b) w w := (Keeps.refl w).mono (fun _ _ h => h.elim)
 have hsb := r.sized_bs 65536
 have hsbl := congrArg List.length hsb
 refine q_calls Try.func53 (by kernel_rfl) (by kernel_rfl) ?_
 refine qs ?_
 refine qg ?_
 refine og 1 [(0, (ptr b)), (2, (Value.slice none 0 0))] 1 ?_
 refine od ?_
 refine qs ?_
 refine qg ?_
 refine og 1 [(0, (ptr b)), (2, (Value.slice none 0 0)), (5, (ptr b))] 1 ?_
 refine Ops.call (by kernel_rfl) (d := (some 6)) (by kernel_rfl) (sized_calls _ b A c r hok H0 hR hne 65536 (by omega)) ?_
 rintro _ w1 ⟨rfl, K2, H3⟩
 have hok4 : (r.sized 65536).2.Ok := Rdr.Ok.sized hok 65536
 have hu5 := Rdr.sized_le hok 65536
 have hu6 := Rdr.sized_lt r 65536
 refine ⟨_, _, rfl, rfl, ?_⟩
 replace K0 := K0.trans K2 (U := (fun i => i = b)) (fun i h1 h2 => h2) (fun i h1 h2 => by have h2 : i = b := h2; show i = b; omega)
 replace hR := RdO.keep hR K2 (fun i _ _ hi hs => by have hs : i = b := hs; have := hne i _ _ hi; omega)
 clear K2
 have F7 : RdO w1 A c (r.sized 65536).2.bs := by rw [Rdr.sized_bs]; exact hR
 clear hR
 refine og 1 [(0, (ptr b)), (2, (Value.slice none 0 0)), (3, (i64 (((r.sized 65536).1 : Nat) : Int)))] 3 ?_
 refine od ?_
 refine qs ?_
 refine qs ?_
 refine qg ?_
 refine og 1 [(0, (ptr b)), (2, (Value.slice none 0 0)), (3, (i64 (((r.sized 65536).1 : Nat) : Int))), (7, (ptr b))] 1 ?_
 refine Ops.call (by kernel_rfl) (d := (some 8)) (by kernel_rfl) (ok_calls _ b A c ((r.sized 65536).2) hok4 H3 F7 hne) ?_
 rintro _ w8 ⟨rfl, K9⟩
 refine ⟨_, _, rfl, rfl, ?_⟩
 replace K0 := K0.trans K9 (U := (fun i => i = b)) (fun i h1 h2 => h2) (fun i h1 h2 => by exact h2.elim)
 replace H3 := H3.keep K9 (fun h => h)
 replace F7 := RdO.keep0 F7 K9
 clear K9
 refine og 1 [(0, (ptr b)), (2, (Value.slice none 0 0)), (3, (i64 (((r.sized 65536).1 : Nat) : Int))), (9, (Value.bool (!((((r.sized 65536).2).why) == 0))))] 3 ?_
 refine od ?_
 refine q_cond (o := .tmp 9) (b := (!((((r.sized 65536).2).why) == 0))) (by kernel_rfl) rfl (fun h10 => ?_) (fun h10 => ?_)
 ·rw [h10]
  have p11 : ¬ (((r.sized 65536).2).why = 0) := of_beq_f (bnot_true h10)
  refine qs ?_
  refine qg ?_
  refine og 1 [(0, (ptr b)), (2, (Value.slice none 0 0)), (3, (i64 (((r.sized 65536).1 : Nat) : Int)))] 1 ?_
  refine od ?_
  refine q_ret (by kernel_rfl) ?_
  refine ⟨(Value.slice none 0 0), retv_tmp rfl rfl, ?_⟩
  have e : r.bytes = ([], (r.sized 65536).2) := by unfold Rdr.bytes; split <;> first | (exfalso; omega) | rfl | (simp only [Rdr.sized_bs]; done)
  exact ⟨(Value.slice none 0 0), rfl, K0, by rw [e]; exact (World.ownsRow_nil _ _ _ _), by rw [e]; exact H3⟩
 ·rw [h10]
  have p12 : ((r.sized 65536).2).why = 0 := of_beq_t (bnot_false h10)
  refine q_skip (by kernel_rfl) ?_
  refine qs ?_
  refine qg ?_
  refine og 1 [(0, (ptr b)), (2, (Value.slice none 0 0)), (3, (i64 (((r.sized 65536).1 : Nat) : Int))), (10, (ptr b))] 1 ?_
  refine Ops.call (by kernel_rfl) (d := (some 11)) (by kernel_rfl) (left_calls _ b A c ((r.sized 65536).2) hok4 H3 F7 hne) ?_
  rintro _ w13 ⟨A15, c16, rfl, K14, h17, hlb18⟩
  have ob19 := left_ne (n := (((r.sized 65536).2).bs.drop ((r.sized 65536).2).pos).length) (c := c16) hlb18 hne
  have hdlA15 : (((r.sized 65536).2).bs.drop ((r.sized 65536).2).pos).length = ((r.sized 65536).2).bs.length - ((r.sized 65536).2).pos := List.length_drop
  have hslA15 := RdB.slice h17
  refine ⟨_, _, rfl, rfl, ?_⟩
  replace K0 := K0.trans K14 (U := (fun i => i = b)) (fun i h1 h2 => h2) (fun i h1 h2 => by exact h2.elim)
  replace H3 := H3.keep K14 (fun h => h)
  replace F7 := RdO.keep0 F7 K14
  clear K14
  refine og 1 [(0, (ptr b)), (2, (Value.slice none 0 0)), (3, (i64 (((r.sized 65536).1 : Nat) : Int))), (11, (Value.slice A15 ((((r.sized 65536).2).bs.drop ((r.sized 65536).2).pos).length) c16)), (12, (i64 (((r.sized 65536).1 : Nat) : Int)))] 3 ?_
  have hcut := run_cut (sz := 1) (P := Try.prog) (w := w13) (t := 28) (A := A15) (n := ((((r.sized 65536).2).bs.drop ((r.sized 65536).2).pos).length)) (c := c16) 0 ((r.sized 65536).1) c16 (lo := none) (hi := some (i64 (((r.sized 65536).1 : Nat) : Int))) (mx := none) tyB.slice (by kernel_rfl) (.inl ⟨rfl, rfl⟩) (.inr ⟨_, rfl⟩) (.inl ⟨rfl, rfl⟩) (by omega) (by omega) (by omega)
  have hA0 : (if c16 = 0 then A15 else Option.map (fun q => Addr.add q (0 * 1)) A15) = A15 := by cases A15 <;> simp [Addr.add]
  rw [hA0, Nat.sub_zero, Nat.sub_zero] at hcut
  have F20 := RdB.take h17 (k := (r.sized 65536).1) (by omega)
  have htl : ((((r.sized 65536).2).bs.drop ((r.sized 65536).2).pos).take ((r.sized 65536).1)).length = (r.sized 65536).1 := by rw [List.length_take]; omega
  refine Ops.go (v := (Value.slice A15 ((r.sized 65536).1) c16)) (by kernel_rfl) (Runs.slice (by kernel_rfl) hcut) (d := (some 13)) (by kernel_rfl) rfl ?_
  clear hcut hA0
  refine Ops.call (by kernel_rfl) (d := (some 14)) (by kernel_rfl) (Clone_calls _ (Value.slice A15 ((r.sized 65536).1) c16) ((((r.sized 65536).2).bs.drop ((r.sized 65536).2).pos).take ((r.sized 65536).1)) F20 (by omega)) ?_
  rintro _ w22 ⟨v21, rfl, K23, hO24⟩
  have ob26 : ∀ i, (v21).ownBlock = some i → i ≠ b := fun i hi => by have := (World.ownsRow.lt hO24 i hi).1; have := H3.lt; omega
  have oo27 : ∀ i o s, A = some ⟨i, o, s⟩ → (v21).ownBlock = some i → False := fun i o s hi hs => by have := (World.ownsRow.lt hO24 i hs).1; have := F7.2 i o s hi; omega
  have O25 := own_base hO24 K0.size
  clear hO24
  refine ⟨_, _, rfl, rfl, ?_⟩
  replace K0 := K0.trans K23 (U := (fun i => i = b)) (fun i h1 h2 => h2) (fun i h1 h2 => by exact h2.elim)
  replace H3 := H3.keep K23 (fun h => h)
  replace F7 := RdO.keep0 F7 K23
  replace h17 := (Rd.keep0 (by omega) h17 K23)
  replace F20 := (Rd.keep0 (by omega) F20 K23)
  clear K23
  refine og 1 [(0, (ptr b)), (2, (Value.slice none 0 0)), (3, (i64 (((r.sized 65536).1 : Nat) : Int))), (4, v21)] 6 ?_
  refine od ?_
  refine qs ?_
  refine qg ?_
  refine og 3 [(2, (Value.slice none 0 0)), (3, (i64 (((r.sized 65536).1 : Nat) : Int))), (4, v21), (15, (ptr b)), (17, (Value.pointer (some ⟨b, 1, none⟩)))] 3 ?_
  refine Ops.go (v := (i64 ((((r.sized 65536).2).pos : Nat) : Int))) (by kernel_rfl) (Runs.load (t := 3) (a := ⟨b, 1, none⟩) (by kernel_rfl) (H3.loads (by kernel_rfl))) (d := (some 18)) (by kernel_rfl) rfl ?_
  refine og 2 [(2, (Value.slice none 0 0)), (4, v21), (15, (ptr b)), (20, (i64 (IntKind.i64.wrap (((((r.sized 65536).2).pos : Nat) : Int) + (((r.sized 65536).1 : Nat) : Int)))))] 6 ?_
  have e29 : IntKind.i64.wrap (((((r.sized 65536).2).pos : Nat) : Int) + (((r.sized 65536).1 : Nat) : Int)) = (((((r.sized 65536).2).pos) + ((r.sized 65536).1) : Nat) : Int) := by rw [wrap_i64 (by omega) (by omega)]; omega
  rw [e29]
  clear e29
  refine og 2 [(2, (Value.slice none 0 0)), (4, v21), (20, (i64 (((((r.sized 65536).2).pos) + ((r.sized 65536).1) : Nat) : Int))), (22, (Value.pointer (some ⟨b, 1, none⟩)))] 8 ?_
  refine Ops.put (t := 3) (b := b) (off := 1) (v := (i64 (((((r.sized 65536).2).pos) + ((r.sized 65536).1) : Nat) : Int))) (ys := [(Value.slice A (((r.sized 65536).2).bs.length) c), (i64 (((((r.sized 65536).2).pos) + ((r.sized 65536).1) : Nat) : Int)), (i64 (((r.sized 65536).2).why))]) (by kernel_rfl) (by kernel_rfl) H3 (by kernel_rfl) (d := none) (by kernel_rfl) rfl (fun w30 H31 K32 => ?_)
  clear H3
  replace K0 := K0.trans K32 (U := (fun i => i = b)) (fun i h1 h2 => h2) (fun i h1 h2 => by have h2 : i = b := h2; show i = b; omega)
  replace F7 := RdO.keep F7 K32 (fun i _ _ hi hs => by have hs : i = b := hs; have := hne i _ _ hi; omega)
  replace h17 := Rd.keep (by omega) h17 K32 (fun i hi hs => by have hs : i = b := hs; have := ob19 i hi; omega)
  clear F20
  replace O25 := own_keep O25 K32 (fun i hi hs => by have hs : i = b := hs; have := ob26 i hi; omega)
  clear K32
  refine od ?_
  refine qs ?_
  refine qg ?_
  refine og 2 [(2, v21)] 2 ?_
  refine od ?_
  refine q_ret (by kernel_rfl) ?_
  refine ⟨v21, retv_tmp rfl rfl, ?_⟩
  have e : r.bytes = ((((r.sized 65536).2).bs.drop ((r.sized 65536).2).pos).take ((r.sized 65536).1), (⟨((r.sized 65536).2).bs, (((r.sized 65536).2).pos) + ((r.sized 65536).1), ((r.sized 65536).2).why⟩ : Rdr)) := by unfold Rdr.bytes; split <;> first | (exfalso; omega) | rfl | (simp only [Rdr.sized_bs]; done)
  exact ⟨v21, rfl, K0, by rw [e]; exact O25, by rw [e]; exact H31⟩

theorem RdText_calls (w : World) (b : Nat) (A : Option Addr) (c : Nat) (r : Rdr) (hok : r.Ok) (H0 : Has w b (rowL (rdrL A c r) 115)) (hR : RdO w A c r.bs) (hne : ∀ g o s, A = some ⟨g, o, s⟩ → g ≠ b) : Calls Try.prog 74 ⟨[(ptr b)]⟩ w (fun e w' => e = .returned (.string (str r.bytes.1)) ∧ Keeps (fun i => i = b) w w' ∧ Has w' b (rowL (rdrL A c (r.bytes).2) 115)) := by
 have hpos := hok.pos
 have hlen := hok.len
 have hsc := r.scan_le
 have hdl : (r.bs.drop r.pos).length = r.bs.length - r.pos := List.length_drop
 have hcap := hR.1.slice
 have Hb := H0.lt
 have K0 : Keeps (fun i => i = b) w w := (Keeps.refl w).mono (fun _ _ h => h.elim)
 refine q_calls Try.func74 (by kernel_rfl) (by kernel_rfl) ?_
 refine qs ?_
 refine qg ?_
 refine og 1 [(0, (ptr b)), (2, (Value.string (str ([] : List UInt8))))] 1 ?_
 refine od ?_
 refine qs ?_
 refine qg ?_
 refine og 1 [(2, (Value.string (str ([] : List UInt8)))), (3, (ptr b))] 1 ?_
 refine Ops.call (by kernel_rfl) (d := (some 4)) (by kernel_rfl) (RdBytes_calls _ b A c r hok H0 hR hne ) ?_
 rintro _ w1 ⟨v6, rfl, K2, hO7, H3⟩
 have hok4 : (r.bytes).2.Ok := Rdr.Ok.bytes hok
 have hu5 := Rdr.bytes_le hok
 have ob9 : ∀ i, (v6).ownBlock = some i → i ≠ b := fun i hi => by have := (World.ownsRow.lt hO7 i hi).1; have := H0.lt; omega
 have oo10 : ∀ i o s, A = some ⟨i, o, s⟩ → (v6).ownBlock = some i → False := fun i o s hi hs => by have := (World.ownsRow.lt hO7 i hs).1; have := hR.2 i o s hi; omega
 have O8 := own_base hO7 K0.size
 clear hO7
 refine ⟨_, _, rfl, rfl, ?_⟩
 replace K0 := K0.trans K2 (U := (fun i => i = b)) (fun i h1 h2 => h2) (fun i h1 h2 => by have h2 : i = b := h2; show i = b; omega)
 replace hR := RdO.keep hR K2 (fun i _ _ hi hs => by have hs : i = b := hs; have := hne i _ _ hi; omega)
 clear K2
 have F12 : RdO w1 A c (r.bytes).2.bs := by rw [Rdr.bytes_bs]; exact hR
 clear hR
 refine Ops.go (v := (Value.string (str ((r.bytes).1)))) (by kernel_rfl) (Runs.b2s (s := 28) (d := 9) (e := 5) (by kernel_rfl) (by kernel_rfl) (by kernel_rfl) (OwnB.rd O8)) (d := (some 5)) (by kernel_rfl) rfl ?_
 refine og 1 [(2, (Value.string (str ((r.bytes).1))))] 4 ?_
 refine od ?_
 refine q_ret (by kernel_rfl) ?_
 refine ⟨(Value.string (str ((r.bytes).1))), retv_tmp rfl rfl, ?_⟩
 exact ⟨rfl, K0, H3⟩

theorem RRCount_calls (w : World) (b : Nat) (A : Option Addr) (c : Nat) (r : Rdr) (hok : r.Ok) (H0 : Has w b (rowL (rdrL A c r) 100)) (hR : RdO w A c r.bs) (hne : ∀ g o s, A = some ⟨g, o, s⟩ → g ≠ b) (most : Int) (hm : -9223372036854775808 ≤ most ∧ most ≤ 9223372036854775807) : Calls Try.prog 80 ⟨[(ptr b), (i64 most)]⟩ w (fun e w' => e = .returned (i64 (((r.sized most).1 : Nat) : Int)) ∧ Keeps (fun i => i = b) w w' ∧ Has w' b (rowL (rdrL A c (r.sized most).2) 100)) := by
 have hpos := hok.pos
 have hlen := hok.len
 have hsc := r.scan_le
 have hdl : (r.bs.drop r.pos).length = r.bs.length - r.pos := List.length_drop
 have hcap := hR.1.slice
 have Hb := H0.lt
 have K0 : Keeps (fun i => i = b) w w := (Keeps.refl w).mono (fun _ _ h => h.elim)
 have hub := r.uint_bs
 have hubl := congrArg List.length hub
 have hul := r.uint_lt
 have hw0 : r.why ≠ 0 → r.uint.1 = 0 ∧ r.uint.2.pos = r.pos ∧ r.uint.2.why = r.why := fun h => by rw [Rdr.uint_err h]; exact ⟨rfl, rfl, rfl⟩
 have hup := hok.uint.pos
 refine q_calls Try.func80 (by kernel_rfl) (by kernel_rfl) ?_
 refine qs ?_
 refine qg ?_
 refine og 1 [(0, (ptr b)), (1, (i64 most)), (4, (i64 0))] 1 ?_
 refine od ?_
 refine qs ?_
 refine qg ?_
 refine og 3 [(0, (ptr b)), (1, (i64 most)), (4, (i64 0)), (9, (Value.pointer (some ⟨b, 1, none⟩)))] 3 ?_
 refine Ops.go (v := (i64 ((r.pos : Nat) : Int))) (by kernel_rfl) (Runs.load (t := 3) (a := ⟨b, 1, none⟩) (by kernel_rfl) (H0.loads (by kernel_rfl))) (d := (some 10)) (by kernel_rfl) rfl ?_
 refine og 1 [(0, (ptr b)), (1, (i64 most)), (4, (i64 0)), (5, (i64 ((r.pos : Nat) : Int)))] 5 ?_
 refine od ?_
 refine qs ?_
 refine qg ?_
 refine og 1 [(0, (ptr b)), (1, (i64 most)), (4, (i64 0)), (5, (i64 ((r.pos : Nat) : Int))), (11, (ptr b))] 1 ?_
 refine Ops.call (by kernel_rfl) (d := (some 12)) (by kernel_rfl) (RRUint_calls _ b A c r hok H0 hR hne) ?_
 rintro _ w1 ⟨rfl, K2, H3⟩
 have hok4 := Rdr.Ok.uint hok
 have hu5 := Rdr.uint_lt r
 refine ⟨_, _, rfl, rfl, ?_⟩
 replace K0 := K0.trans K2 (U := (fun i => i = b)) (fun i h1 h2 => h2) (fun i h1 h2 => by have h2 : i = b := h2; show i = b; omega)
 replace hR := RdO.keep hR K2 (fun i _ _ hi hs => by have hs : i = b := hs; have := hne i _ _ hi; omega)
 clear K2
 have F6 : RdO w1 A c (r.uint.2).bs := by rw [Rdr.uint_bs]; exact hR
 clear hR
 refine og 1 [(0, (ptr b)), (1, (i64 most)), (4, (i64 0)), (5, (i64 ((r.pos : Nat) : Int))), (6, (Value.int IntKind.u64 ((r.uint.1 : Nat) : Int)))] 3 ?_
 refine od ?_
 refine qs ?_
 refine qs ?_
 refine qg ?_
 refine og 3 [(0, (ptr b)), (1, (i64 most)), (4, (i64 0)), (5, (i64 ((r.pos : Nat) : Int))), (6, (Value.int IntKind.u64 ((r.uint.1 : Nat) : Int))), (15, (Value.pointer (some ⟨b, 2, none⟩)))] 3 ?_
 refine Ops.go (v := (i64 r.uint.2.why)) (by kernel_rfl) (Runs.load (t := 24) (a := ⟨b, 2, none⟩) (by kernel_rfl) (H3.loads (by kernel_rfl))) (d := (some 16)) (by kernel_rfl) rfl ?_
 refine og 2 [(0, (ptr b)), (1, (i64 most)), (4, (i64 0)), (5, (i64 ((r.pos : Nat) : Int))), (6, (Value.int IntKind.u64 ((r.uint.1 : Nat) : Int))), (18, (Value.bool (r.uint.2.why == 0)))] 6 ?_
 refine Ops.split (r.uint.2.why == 0) (fun h7 => ?_) (fun h7 => ?_)
 ·rw [h7]
  have p8 : r.uint.2.why = 0 := of_beq_t h7
  refine og 3 [(0, (ptr b)), (1, (i64 most)), (4, (i64 0)), (5, (i64 ((r.pos : Nat) : Int))), (6, (Value.int IntKind.u64 ((r.uint.1 : Nat) : Int))), (18, (Value.bool true)), (21, (Value.bool (decide (most < 0))))] 9 ?_
  refine Ops.split (decide (most < 0)) (fun h9 => ?_) (fun h9 => ?_)
  ·rw [h9]
   have p10 : most < 0 := of_decide_eq_true h9
   refine og 6 [(0, (ptr b)), (4, (i64 0)), (5, (i64 ((r.pos : Nat) : Int))), (6, (Value.int IntKind.u64 ((r.uint.1 : Nat) : Int))), (27, (Value.bool true))] 15 ?_
   refine od ?_
   refine q_then (o := .tmp 27) (by kernel_rfl) rfl ?_
   refine qg ?_
   refine og 3 [(0, (ptr b)), (4, (i64 0)), (5, (i64 ((r.pos : Nat) : Int))), (6, (Value.int IntKind.u64 ((r.uint.1 : Nat) : Int))), (30, (Value.pointer (some ⟨b, 2, none⟩)))] 3 ?_
   refine Ops.put (t := 24) (b := b) (off := 2) (v := (i64 3)) (ys := [(Value.slice A r.uint.2.bs.length c), (i64 ((r.uint.2.pos : Nat) : Int)), (i64 3)]) (by kernel_rfl) (by kernel_rfl) H3 (by kernel_rfl) (d := none) (by kernel_rfl) rfl (fun w11 H12 K13 => ?_)
   clear H3
   replace K0 := K0.trans K13 (U := (fun i => i = b)) (fun i h1 h2 => h2) (fun i h1 h2 => by have h2 : i = b := h2; show i = b; omega)
   replace F6 := RdO.keep F6 K13 (fun i _ _ hi hs => by have hs : i = b := hs; have := hne i _ _ hi; omega)
   clear K13
   refine od ?_
   refine qs ?_
   refine qs ?_
   refine q_draw (fun wz => Keeps none_ w11 wz) 20 (by kernel_rfl) (by kernel_rfl) (by kernel_rfl) (fun w14 K15 _ _ => ⟨K15, ?_⟩)
   replace K0 := K0.trans K15 (U := (fun i => i = b)) (fun i h1 h2 => h2) (fun i h1 h2 => by exact h2.elim)
   replace H12 := H12.keep K15 (fun h => h)
   replace F6 := RdO.keep0 F6 K15
   refine Dr.strong (S' := (fun wz => Keeps none_ w14 wz)) (Keeps.refl w14) (fun wz hx => K15.trans hx (fun i _ h => h) (fun _ _ h => h)) ?_
   clear K15
   refine Dr.takes (fuel' := 17) (is' := [2, 1, 0]) [0, 1, 2] [(0, (ptr b)), (4, (i64 0)), (5, (i64 ((r.pos : Nat) : Int))), (6, (Value.int IntKind.u64 ((r.uint.1 : Nat) : Int))), (33, (Value.pointer (some ⟨b, 2, none⟩)))] (by kernel_rfl) rfl (by kernel_rfl) ?_
   refine Dr.take (i := 3) (v := (i64 3)) (by kernel_rfl) (by kernel_rfl) (fun wz hS => Runs.load (t := 24) (a := ⟨b, 2, none⟩) (by kernel_rfl) ((H12.keep hS (fun h => h)).loads (by kernel_rfl))) (d := (some 34)) (by kernel_rfl) rfl ?_
   refine Dr.takes (fuel' := 0) (is' := [19, 18, 17, 16, 15, 14, 13, 12, 11, 10, 9, 8, 7, 6, 5, 4, 3, 2, 1, 0]) [4, 5, 6, 7, 8, 9, 10, 11, 12, 13, 14, 15, 16, 17, 18, 19] [(0, (ptr b)), (4, (i64 0)), (5, (i64 ((r.pos : Nat) : Int))), (6, (Value.int IntKind.u64 ((r.uint.1 : Nat) : Int))), (50, (Value.bool false))] (by kernel_rfl) rfl (by kernel_rfl) ?_
   refine Dr.done (by kernel_rfl) ?_
   refine q_else (o := .tmp 50) (by kernel_rfl) rfl ?_
   refine q_skip (by kernel_rfl) ?_
   refine qs ?_
   refine qs ?_
   refine qg ?_
   refine og 3 [(0, (ptr b)), (4, (i64 0)), (5, (i64 ((r.pos : Nat) : Int))), (6, (Value.int IntKind.u64 ((r.uint.1 : Nat) : Int))), (56, (Value.pointer (some ⟨b, 2, none⟩)))] 3 ?_
   refine Ops.go (v := (i64 3)) (by kernel_rfl) (Runs.load (t := 24) (a := ⟨b, 2, none⟩) (by kernel_rfl) (H12.loads (by kernel_rfl))) (d := (some 57)) (by kernel_rfl) rfl ?_
   refine og 1 [(0, (ptr b)), (4, (i64 0)), (5, (i64 ((r.pos : Nat) : Int))), (6, (Value.int IntKind.u64 ((r.uint.1 : Nat) : Int))), (58, (Value.bool true))] 5 ?_
   refine od ?_
   refine q_then (o := .tmp 58) (by kernel_rfl) rfl ?_
   refine qs ?_
   refine qg ?_
   refine og 4 [(4, (i64 0)), (6, (Value.int IntKind.u64 ((r.uint.1 : Nat) : Int))), (60, (i64 ((r.pos : Nat) : Int))), (62, (Value.pointer (some ⟨b, 1, none⟩)))] 4 ?_
   refine Ops.put (t := 3) (b := b) (off := 1) (v := (i64 ((r.pos : Nat) : Int))) (ys := [(Value.slice A r.uint.2.bs.length c), (i64 ((r.pos : Nat) : Int)), (i64 3)]) (by kernel_rfl) (by kernel_rfl) H12 (by kernel_rfl) (d := none) (by kernel_rfl) rfl (fun w16 H17 K18 => ?_)
   clear H12
   replace K0 := K0.trans K18 (U := (fun i => i = b)) (fun i h1 h2 => h2) (fun i h1 h2 => by have h2 : i = b := h2; show i = b; omega)
   replace F6 := RdO.keep F6 K18 (fun i _ _ hi hs => by have hs : i = b := hs; have := hne i _ _ hi; omega)
   clear K18
   refine od ?_
   refine qs ?_
   refine qg ?_
   refine og 1 [(4, (i64 0)), (6, (Value.int IntKind.u64 ((r.uint.1 : Nat) : Int)))] 1 ?_
   refine od ?_
   refine q_ret (by kernel_rfl) ?_
   refine ⟨(i64 0), retv_tmp rfl rfl, ?_⟩
   have e : r.sized most = (0, (⟨r.uint.2.bs, r.pos, 3⟩ : Rdr)) := by by_cases hr0 : r.why = 0; (unfold Rdr.sized; (repeat' split) <;> first | (exfalso; omega) | rfl | (simp only [Rdr.uint_bs]; done) | (rw [Rdr.uint_bs]; done)); (have hr1 := hw0 hr0; rw [Rdr.sized_err hr0]; first | (exfalso; omega) | (rw [Rdr.uint_bs, hr1.2.2]; done))
   exact ⟨by first | (rw [e]; done) | (rw [e]; rfl), K0, by rw [e]; exact H17⟩
  ·rw [h9]
   have p19 : ¬ (most < 0) := of_decide_eq_false h9
   refine og 3 [(0, (ptr b)), (4, (i64 0)), (5, (i64 ((r.pos : Nat) : Int))), (6, (Value.int IntKind.u64 ((r.uint.1 : Nat) : Int))), (18, (Value.bool true)), (21, (Value.bool false)), (22, (Value.int IntKind.u64 ((r.uint.1 : Nat) : Int))), (24, (Value.int IntKind.u64 (IntKind.u64.wrap (most))))] 12 ?_
   have e20 : IntKind.u64.wrap (most) = most := wrap_u64 (by omega) (by omega)
   rw [e20]
   refine og 3 [(0, (ptr b)), (4, (i64 0)), (5, (i64 ((r.pos : Nat) : Int))), (6, (Value.int IntKind.u64 ((r.uint.1 : Nat) : Int))), (27, (Value.bool (decide (((r.uint.1 : Nat) : Int) > most))))] 15 ?_
   refine od ?_
   refine q_cond (o := .tmp 27) (b := (decide (((r.uint.1 : Nat) : Int) > most))) (by kernel_rfl) rfl (fun h21 => ?_) (fun h21 => ?_)
   ·rw [h21]
    have p22 : ((r.uint.1 : Nat) : Int) > most := of_decide_eq_true h21
    refine qg ?_
    refine og 3 [(0, (ptr b)), (4, (i64 0)), (5, (i64 ((r.pos : Nat) : Int))), (6, (Value.int IntKind.u64 ((r.uint.1 : Nat) : Int))), (30, (Value.pointer (some ⟨b, 2, none⟩)))] 3 ?_
    refine Ops.put (t := 24) (b := b) (off := 2) (v := (i64 3)) (ys := [(Value.slice A r.uint.2.bs.length c), (i64 ((r.uint.2.pos : Nat) : Int)), (i64 3)]) (by kernel_rfl) (by kernel_rfl) H3 (by kernel_rfl) (d := none) (by kernel_rfl) rfl (fun w23 H24 K25 => ?_)
    clear H3
    replace K0 := K0.trans K25 (U := (fun i => i = b)) (fun i h1 h2 => h2) (fun i h1 h2 => by have h2 : i = b := h2; show i = b; omega)
    replace F6 := RdO.keep F6 K25 (fun i _ _ hi hs => by have hs : i = b := hs; have := hne i _ _ hi; omega)
    clear K25
    refine od ?_
    refine qs ?_
    refine qs ?_
    refine q_draw (fun wz => Keeps none_ w23 wz) 20 (by kernel_rfl) (by kernel_rfl) (by kernel_rfl) (fun w26 K27 _ _ => ⟨K27, ?_⟩)
    replace K0 := K0.trans K27 (U := (fun i => i = b)) (fun i h1 h2 => h2) (fun i h1 h2 => by exact h2.elim)
    replace H24 := H24.keep K27 (fun h => h)
    replace F6 := RdO.keep0 F6 K27
    refine Dr.strong (S' := (fun wz => Keeps none_ w26 wz)) (Keeps.refl w26) (fun wz hx => K27.trans hx (fun i _ h => h) (fun _ _ h => h)) ?_
    clear K27
    refine Dr.takes (fuel' := 17) (is' := [2, 1, 0]) [0, 1, 2] [(0, (ptr b)), (4, (i64 0)), (5, (i64 ((r.pos : Nat) : Int))), (6, (Value.int IntKind.u64 ((r.uint.1 : Nat) : Int))), (33, (Value.pointer (some ⟨b, 2, none⟩)))] (by kernel_rfl) rfl (by kernel_rfl) ?_
    refine Dr.take (i := 3) (v := (i64 3)) (by kernel_rfl) (by kernel_rfl) (fun wz hS => Runs.load (t := 24) (a := ⟨b, 2, none⟩) (by kernel_rfl) ((H24.keep hS (fun h => h)).loads (by kernel_rfl))) (d := (some 34)) (by kernel_rfl) rfl ?_
    refine Dr.takes (fuel' := 0) (is' := [19, 18, 17, 16, 15, 14, 13, 12, 11, 10, 9, 8, 7, 6, 5, 4, 3, 2, 1, 0]) [4, 5, 6, 7, 8, 9, 10, 11, 12, 13, 14, 15, 16, 17, 18, 19] [(0, (ptr b)), (4, (i64 0)), (5, (i64 ((r.pos : Nat) : Int))), (6, (Value.int IntKind.u64 ((r.uint.1 : Nat) : Int))), (50, (Value.bool false))] (by kernel_rfl) rfl (by kernel_rfl) ?_
    refine Dr.done (by kernel_rfl) ?_
    refine q_else (o := .tmp 50) (by kernel_rfl) rfl ?_
    refine q_skip (by kernel_rfl) ?_
    refine qs ?_
    refine qs ?_
    refine qg ?_
    refine og 3 [(0, (ptr b)), (4, (i64 0)), (5, (i64 ((r.pos : Nat) : Int))), (6, (Value.int IntKind.u64 ((r.uint.1 : Nat) : Int))), (56, (Value.pointer (some ⟨b, 2, none⟩)))] 3 ?_
    refine Ops.go (v := (i64 3)) (by kernel_rfl) (Runs.load (t := 24) (a := ⟨b, 2, none⟩) (by kernel_rfl) (H24.loads (by kernel_rfl))) (d := (some 57)) (by kernel_rfl) rfl ?_
    refine og 1 [(0, (ptr b)), (4, (i64 0)), (5, (i64 ((r.pos : Nat) : Int))), (6, (Value.int IntKind.u64 ((r.uint.1 : Nat) : Int))), (58, (Value.bool true))] 5 ?_
    refine od ?_
    refine q_then (o := .tmp 58) (by kernel_rfl) rfl ?_
    refine qs ?_
    refine qg ?_
    refine og 4 [(4, (i64 0)), (6, (Value.int IntKind.u64 ((r.uint.1 : Nat) : Int))), (60, (i64 ((r.pos : Nat) : Int))), (62, (Value.pointer (some ⟨b, 1, none⟩)))] 4 ?_
    refine Ops.put (t := 3) (b := b) (off := 1) (v := (i64 ((r.pos : Nat) : Int))) (ys := [(Value.slice A r.uint.2.bs.length c), (i64 ((r.pos : Nat) : Int)), (i64 3)]) (by kernel_rfl) (by kernel_rfl) H24 (by kernel_rfl) (d := none) (by kernel_rfl) rfl (fun w28 H29 K30 => ?_)
    clear H24
    replace K0 := K0.trans K30 (U := (fun i => i = b)) (fun i h1 h2 => h2) (fun i h1 h2 => by have h2 : i = b := h2; show i = b; omega)
    replace F6 := RdO.keep F6 K30 (fun i _ _ hi hs => by have hs : i = b := hs; have := hne i _ _ hi; omega)
    clear K30
    refine od ?_
    refine qs ?_
    refine qg ?_
    refine og 1 [(4, (i64 0)), (6, (Value.int IntKind.u64 ((r.uint.1 : Nat) : Int)))] 1 ?_
    refine od ?_
    refine q_ret (by kernel_rfl) ?_
    refine ⟨(i64 0), retv_tmp rfl rfl, ?_⟩
    have e : r.sized most = (0, (⟨r.uint.2.bs, r.pos, 3⟩ : Rdr)) := by by_cases hr0 : r.why = 0; (unfold Rdr.sized; (repeat' split) <;> first | (exfalso; omega) | rfl | (simp only [Rdr.uint_bs]; done) | (rw [Rdr.uint_bs]; done)); (have hr1 := hw0 hr0; rw [Rdr.sized_err hr0]; first | (exfalso; omega) | (rw [Rdr.uint_bs, hr1.2.2]; done))
    exact ⟨by first | (rw [e]; done) | (rw [e]; rfl), K0, by rw [e]; exact H29⟩
   ·rw [h21]
    have p31 : ¬ (((r.uint.1 : Nat) : Int) > most) := of_decide_eq_false h21
    refine q_skip (by kernel_rfl) ?_
    refine qs ?_
    refine qs ?_
    refine q_draw (fun wz => Keeps none_ w1 wz) 20 (by kernel_rfl) (by kernel_rfl) (by kernel_rfl) (fun w32 K33 _ _ => ⟨K33, ?_⟩)
    replace K0 := K0.trans K33 (U := (fun i => i = b)) (fun i h1 h2 => h2) (fun i h1 h2 => by exact h2.elim)
    replace H3 := H3.keep K33 (fun h => h)
    replace F6 := RdO.keep0 F6 K33
    refine Dr.strong (S' := (fun wz => Keeps none_ w32 wz)) (Keeps.refl w32) (fun wz hx => K33.trans hx (fun i _ h => h) (fun _ _ h => h)) ?_
    clear K33
    refine Dr.takes (fuel' := 17) (is' := [2, 1, 0]) [0, 1, 2] [(0, (ptr b)), (4, (i64 0)), (5, (i64 ((r.pos : Nat) : Int))), (6, (Value.int IntKind.u64 ((r.uint.1 : Nat) : Int))), (33, (Value.pointer (some ⟨b, 2, none⟩)))] (by kernel_rfl) rfl (by kernel_rfl) ?_
    refine Dr.take (i := 3) (v := (i64 r.uint.2.why)) (by kernel_rfl) (by kernel_rfl) (fun wz hS => Runs.load (t := 24) (a := ⟨b, 2, none⟩) (by kernel_rfl) ((H3.keep hS (fun h => h)).loads (by kernel_rfl))) (d := (some 34)) (by kernel_rfl) rfl ?_
    refine Dr.takes (fuel' := 14) (is' := [5, 4, 3, 2, 1, 0]) [4, 5] [(0, (ptr b)), (4, (i64 0)), (5, (i64 ((r.pos : Nat) : Int))), (6, (Value.int IntKind.u64 ((r.uint.1 : Nat) : Int))), (36, (Value.bool (r.uint.2.why == 0)))] (by kernel_rfl) rfl (by kernel_rfl) ?_
    rw [h7]
    refine Dr.takes (fuel' := 10) (is' := [9, 8, 7, 6, 5, 4, 3, 2, 1, 0]) [6, 7, 8, 9] [(0, (ptr b)), (4, (i64 0)), (5, (i64 ((r.pos : Nat) : Int))), (6, (Value.int IntKind.u64 ((r.uint.1 : Nat) : Int))), (36, (Value.bool true)), (37, (Value.int IntKind.u64 ((r.uint.1 : Nat) : Int))), (40, (ptr b))] (by kernel_rfl) rfl (by kernel_rfl) ?_
    refine Dr.take (i := 10) (v := (Value.slice A r.uint.2.bs.length c)) (by kernel_rfl) (by kernel_rfl) (fun wz hS => Runs.load (t := 28) (a := ⟨b, 0, none⟩) (by kernel_rfl) ((H3.keep hS (fun h => h)).loads (by kernel_rfl))) (d := (some 41)) (by kernel_rfl) rfl ?_
    refine Dr.takes (fuel' := 5) (is' := [14, 13, 12, 11, 10, 9, 8, 7, 6, 5, 4, 3, 2, 1, 0]) [11, 12, 13, 14] [(0, (ptr b)), (4, (i64 0)), (5, (i64 ((r.pos : Nat) : Int))), (6, (Value.int IntKind.u64 ((r.uint.1 : Nat) : Int))), (36, (Value.bool true)), (37, (Value.int IntKind.u64 ((r.uint.1 : Nat) : Int))), (42, (i64 ((r.uint.2.bs.length : Nat) : Int))), (45, (Value.pointer (some ⟨b, 1, none⟩)))] (by kernel_rfl) rfl (by kernel_rfl) ?_
    refine Dr.take (i := 15) (v := (i64 ((r.uint.2.pos : Nat) : Int))) (by kernel_rfl) (by kernel_rfl) (fun wz hS => Runs.load (t := 3) (a := ⟨b, 1, none⟩) (by kernel_rfl) ((H3.keep hS (fun h => h)).loads (by kernel_rfl))) (d := (some 46)) (by kernel_rfl) rfl ?_
    refine Dr.takes (fuel' := 3) (is' := [16, 15, 14, 13, 12, 11, 10, 9, 8, 7, 6, 5, 4, 3, 2, 1, 0]) [16] [(0, (ptr b)), (4, (i64 0)), (5, (i64 ((r.pos : Nat) : Int))), (6, (Value.int IntKind.u64 ((r.uint.1 : Nat) : Int))), (36, (Value.bool true)), (37, (Value.int IntKind.u64 ((r.uint.1 : Nat) : Int))), (47, (i64 (IntKind.i64.wrap (((r.uint.2.bs.length : Nat) : Int) - ((r.uint.2.pos : Nat) : Int)))))] (by kernel_rfl) rfl (by kernel_rfl) ?_
    have e34 : IntKind.i64.wrap (((r.uint.2.bs.length : Nat) : Int) - ((r.uint.2.pos : Nat) : Int)) = ((r.uint.2.bs.length : Nat) : Int) - ((r.uint.2.pos : Nat) : Int) := wrap_i64 (by omega) (by omega)
    rw [e34]
    refine Dr.takes (fuel' := 2) (is' := [17, 16, 15, 14, 13, 12, 11, 10, 9, 8, 7, 6, 5, 4, 3, 2, 1, 0]) [17] [(0, (ptr b)), (4, (i64 0)), (5, (i64 ((r.pos : Nat) : Int))), (6, (Value.int IntKind.u64 ((r.uint.1 : Nat) : Int))), (36, (Value.bool true)), (37, (Value.int IntKind.u64 ((r.uint.1 : Nat) : Int))), (48, (Value.int IntKind.u64 (IntKind.u64.wrap (((r.uint.2.bs.length : Nat) : Int) - ((r.uint.2.pos : Nat) : Int)))))] (by kernel_rfl) rfl (by kernel_rfl) ?_
    have e35 : IntKind.u64.wrap (((r.uint.2.bs.length : Nat) : Int) - ((r.uint.2.pos : Nat) : Int)) = ((r.uint.2.bs.length : Nat) : Int) - ((r.uint.2.pos : Nat) : Int) := wrap_u64 (by omega) (by omega)
    rw [e35]
    refine Dr.takes (fuel' := 0) (is' := [19, 18, 17, 16, 15, 14, 13, 12, 11, 10, 9, 8, 7, 6, 5, 4, 3, 2, 1, 0]) [18, 19] [(0, (ptr b)), (4, (i64 0)), (5, (i64 ((r.pos : Nat) : Int))), (6, (Value.int IntKind.u64 ((r.uint.1 : Nat) : Int))), (50, (Value.bool (decide (((r.uint.1 : Nat) : Int) > ((r.uint.2.bs.length : Nat) : Int) - ((r.uint.2.pos : Nat) : Int)))))] (by kernel_rfl) rfl (by kernel_rfl) ?_
    refine Dr.done (by kernel_rfl) ?_
    refine q_cond (o := .tmp 50) (b := (decide (((r.uint.1 : Nat) : Int) > ((r.uint.2.bs.length : Nat) : Int) - ((r.uint.2.pos : Nat) : Int)))) (by kernel_rfl) rfl (fun h36 => ?_) (fun h36 => ?_)
    ·rw [h36]
     have p37 : ((r.uint.1 : Nat) : Int) > ((r.uint.2.bs.length : Nat) : Int) - ((r.uint.2.pos : Nat) : Int) := of_decide_eq_true h36
     refine qg ?_
     refine og 3 [(0, (ptr b)), (4, (i64 0)), (5, (i64 ((r.pos : Nat) : Int))), (6, (Value.int IntKind.u64 ((r.uint.1 : Nat) : Int))), (53, (Value.pointer (some ⟨b, 2, none⟩)))] 3 ?_
     refine Ops.put (t := 24) (b := b) (off := 2) (v := (i64 10)) (ys := [(Value.slice A r.uint.2.bs.length c), (i64 ((r.uint.2.pos : Nat) : Int)), (i64 10)]) (by kernel_rfl) (by kernel_rfl) H3 (by kernel_rfl) (d := none) (by kernel_rfl) rfl (fun w38 H39 K40 => ?_)
     clear H3
     replace K0 := K0.trans K40 (U := (fun i => i = b)) (fun i h1 h2 => h2) (fun i h1 h2 => by have h2 : i = b := h2; show i = b; omega)
     replace F6 := RdO.keep F6 K40 (fun i _ _ hi hs => by have hs : i = b := hs; have := hne i _ _ hi; omega)
     clear K40
     refine od ?_
     refine qs ?_
     refine qs ?_
     refine qg ?_
     refine og 3 [(0, (ptr b)), (4, (i64 0)), (5, (i64 ((r.pos : Nat) : Int))), (6, (Value.int IntKind.u64 ((r.uint.1 : Nat) : Int))), (56, (Value.pointer (some ⟨b, 2, none⟩)))] 3 ?_
     refine Ops.go (v := (i64 10)) (by kernel_rfl) (Runs.load (t := 24) (a := ⟨b, 2, none⟩) (by kernel_rfl) (H39.loads (by kernel_rfl))) (d := (some 57)) (by kernel_rfl) rfl ?_
     refine og 1 [(0, (ptr b)), (4, (i64 0)), (5, (i64 ((r.pos : Nat) : Int))), (6, (Value.int IntKind.u64 ((r.uint.1 : Nat) : Int))), (58, (Value.bool true))] 5 ?_
     refine od ?_
     refine q_then (o := .tmp 58) (by kernel_rfl) rfl ?_
     refine qs ?_
     refine qg ?_
     refine og 4 [(4, (i64 0)), (6, (Value.int IntKind.u64 ((r.uint.1 : Nat) : Int))), (60, (i64 ((r.pos : Nat) : Int))), (62, (Value.pointer (some ⟨b, 1, none⟩)))] 4 ?_
     refine Ops.put (t := 3) (b := b) (off := 1) (v := (i64 ((r.pos : Nat) : Int))) (ys := [(Value.slice A r.uint.2.bs.length c), (i64 ((r.pos : Nat) : Int)), (i64 10)]) (by kernel_rfl) (by kernel_rfl) H39 (by kernel_rfl) (d := none) (by kernel_rfl) rfl (fun w41 H42 K43 => ?_)
     clear H39
     replace K0 := K0.trans K43 (U := (fun i => i = b)) (fun i h1 h2 => h2) (fun i h1 h2 => by have h2 : i = b := h2; show i = b; omega)
     replace F6 := RdO.keep F6 K43 (fun i _ _ hi hs => by have hs : i = b := hs; have := hne i _ _ hi; omega)
     clear K43
     refine od ?_
     refine qs ?_
     refine qg ?_
     refine og 1 [(4, (i64 0)), (6, (Value.int IntKind.u64 ((r.uint.1 : Nat) : Int)))] 1 ?_
     refine od ?_
     refine q_ret (by kernel_rfl) ?_
     refine ⟨(i64 0), retv_tmp rfl rfl, ?_⟩
     have e : r.sized most = (0, (⟨r.uint.2.bs, r.pos, 10⟩ : Rdr)) := by by_cases hr0 : r.why = 0; (unfold Rdr.sized; (repeat' split) <;> first | (exfalso; omega) | rfl | (simp only [Rdr.uint_bs]; done) | (rw [Rdr.uint_bs]; done)); (have hr1 := hw0 hr0; rw [Rdr.sized_err hr0]; first | (exfalso; omega) | (rw [Rdr.uint_bs, hr1.2.2]; done))
     exact ⟨by first | (rw [e]; done) | (rw [e]; rfl), K0, by rw [e]; exact H42⟩
    ·rw [h36]
     have p44 : ¬ (((r.uint.1 : Nat) : Int) > ((r.uint.2.bs.length : Nat) : Int) - ((r.uint.2.pos : Nat) : Int)) := of_decide_eq_false h36
     refine q_skip (by kernel_rfl) ?_
     refine qs ?_
     refine qs ?_
     refine qg ?_
     refine og 3 [(0, (ptr b)), (4, (i64 0)), (5, (i64 ((r.pos : Nat) : Int))), (6, (Value.int IntKind.u64 ((r.uint.1 : Nat) : Int))), (56, (Value.pointer (some ⟨b, 2, none⟩)))] 3 ?_
     refine Ops.go (v := (i64 r.uint.2.why)) (by kernel_rfl) (Runs.load (t := 24) (a := ⟨b, 2, none⟩) (by kernel_rfl) (H3.loads (by kernel_rfl))) (d := (some 57)) (by kernel_rfl) rfl ?_
     refine og 1 [(0, (ptr b)), (4, (i64 0)), (5, (i64 ((r.pos : Nat) : Int))), (6, (Value.int IntKind.u64 ((r.uint.1 : Nat) : Int))), (58, (Value.bool (r.uint.2.why != 0)))] 5 ?_
     refine od ?_
     refine q_cond (o := .tmp 58) (b := (r.uint.2.why != 0)) (by kernel_rfl) rfl (fun h45 => ?_) (fun h45 => ?_)
     ·rw [h45]
      have p46 : ¬ (r.uint.2.why = 0) := of_bne_t h45
      refine qs ?_
      refine qg ?_
      refine og 4 [(4, (i64 0)), (6, (Value.int IntKind.u64 ((r.uint.1 : Nat) : Int))), (60, (i64 ((r.pos : Nat) : Int))), (62, (Value.pointer (some ⟨b, 1, none⟩)))] 4 ?_
      refine Ops.put (t := 3) (b := b) (off := 1) (v := (i64 ((r.pos : Nat) : Int))) (ys := [(Value.slice A r.uint.2.bs.length c), (i64 ((r.pos : Nat) : Int)), (i64 r.uint.2.why)]) (by kernel_rfl) (by kernel_rfl) H3 (by kernel_rfl) (d := none) (by kernel_rfl) rfl (fun w47 H48 K49 => ?_)
      clear H3
      replace K0 := K0.trans K49 (U := (fun i => i = b)) (fun i h1 h2 => h2) (fun i h1 h2 => by have h2 : i = b := h2; show i = b; omega)
      replace F6 := RdO.keep F6 K49 (fun i _ _ hi hs => by have hs : i = b := hs; have := hne i _ _ hi; omega)
      clear K49
      refine od ?_
      refine qs ?_
      refine qg ?_
      refine og 1 [(4, (i64 0)), (6, (Value.int IntKind.u64 ((r.uint.1 : Nat) : Int)))] 1 ?_
      refine od ?_
      refine q_ret (by kernel_rfl) ?_
      refine ⟨(i64 0), retv_tmp rfl rfl, ?_⟩
      have e : r.sized most = (0, (⟨r.uint.2.bs, r.pos, r.uint.2.why⟩ : Rdr)) := by by_cases hr0 : r.why = 0; (unfold Rdr.sized; (repeat' split) <;> first | (exfalso; omega) | rfl | (simp only [Rdr.uint_bs]; done) | (rw [Rdr.uint_bs]; done)); (have hr1 := hw0 hr0; rw [Rdr.sized_err hr0]; first | (exfalso; omega) | (rw [Rdr.uint_bs, hr1.2.2]; done))
      exact ⟨by first | (rw [e]; done) | (rw [e]; rfl), K0, by rw [e]; exact H48⟩
     ·rw [h45]
      have p50 : r.uint.2.why = 0 := of_bne_f h45
      refine q_skip (by kernel_rfl) ?_
      refine qs ?_
      refine qg ?_
      refine og 2 [(4, (i64 0)), (64, (i64 (IntKind.i64.wrap (((r.uint.1 : Nat) : Int)))))] 2 ?_
      have e51 : IntKind.i64.wrap (((r.uint.1 : Nat) : Int)) = ((r.uint.1 : Nat) : Int) := wrap_i64 (by omega) (by omega)
      rw [e51]
      refine og 1 [(4, (i64 ((r.uint.1 : Nat) : Int)))] 3 ?_
      refine od ?_
      refine q_ret (by kernel_rfl) ?_
      refine ⟨(i64 ((r.uint.1 : Nat) : Int)), retv_tmp rfl rfl, ?_⟩
      have e : r.sized most = (r.uint.1, r.uint.2) := by by_cases hr0 : r.why = 0; (unfold Rdr.sized; (repeat' split) <;> first | (exfalso; omega) | rfl | (simp only [Rdr.uint_bs]; done) | (rw [Rdr.uint_bs]; done)); (have hr1 := hw0 hr0; rw [Rdr.sized_err hr0]; first | (exfalso; omega) | (rw [Rdr.uint_bs, hr1.2.2]; done))
      exact ⟨by first | (rw [e]; done) | (rw [e]; rfl), K0, by rw [e]; exact H3⟩
 ·rw [h7]
  have p52 : ¬ (r.uint.2.why = 0) := of_beq_f h7
  refine og 9 [(0, (ptr b)), (4, (i64 0)), (5, (i64 ((r.pos : Nat) : Int))), (6, (Value.int IntKind.u64 ((r.uint.1 : Nat) : Int))), (27, (Value.bool false))] 15 ?_
  refine od ?_
  refine q_else (o := .tmp 27) (by kernel_rfl) rfl ?_
  refine q_skip (by kernel_rfl) ?_
  refine qs ?_
  refine qs ?_
  refine q_draw (fun wz => Keeps none_ w1 wz) 20 (by kernel_rfl) (by kernel_rfl) (by kernel_rfl) (fun w53 K54 _ _ => ⟨K54, ?_⟩)
  replace K0 := K0.trans K54 (U := (fun i => i = b)) (fun i h1 h2 => h2) (fun i h1 h2 => by exact h2.elim)
  replace H3 := H3.keep K54 (fun h => h)
  replace F6 := RdO.keep0 F6 K54
  refine Dr.strong (S' := (fun wz => Keeps none_ w53 wz)) (Keeps.refl w53) (fun wz hx => K54.trans hx (fun i _ h => h) (fun _ _ h => h)) ?_
  clear K54
  refine Dr.takes (fuel' := 17) (is' := [2, 1, 0]) [0, 1, 2] [(0, (ptr b)), (4, (i64 0)), (5, (i64 ((r.pos : Nat) : Int))), (6, (Value.int IntKind.u64 ((r.uint.1 : Nat) : Int))), (33, (Value.pointer (some ⟨b, 2, none⟩)))] (by kernel_rfl) rfl (by kernel_rfl) ?_
  refine Dr.take (i := 3) (v := (i64 r.uint.2.why)) (by kernel_rfl) (by kernel_rfl) (fun wz hS => Runs.load (t := 24) (a := ⟨b, 2, none⟩) (by kernel_rfl) ((H3.keep hS (fun h => h)).loads (by kernel_rfl))) (d := (some 34)) (by kernel_rfl) rfl ?_
  refine Dr.takes (fuel' := 14) (is' := [5, 4, 3, 2, 1, 0]) [4, 5] [(0, (ptr b)), (4, (i64 0)), (5, (i64 ((r.pos : Nat) : Int))), (6, (Value.int IntKind.u64 ((r.uint.1 : Nat) : Int))), (36, (Value.bool (r.uint.2.why == 0)))] (by kernel_rfl) rfl (by kernel_rfl) ?_
  rw [h7]
  refine Dr.takes (fuel' := 0) (is' := [19, 18, 17, 16, 15, 14, 13, 12, 11, 10, 9, 8, 7, 6, 5, 4, 3, 2, 1, 0]) [6, 7, 8, 9, 10, 11, 12, 13, 14, 15, 16, 17, 18, 19] [(0, (ptr b)), (4, (i64 0)), (5, (i64 ((r.pos : Nat) : Int))), (6, (Value.int IntKind.u64 ((r.uint.1 : Nat) : Int))), (50, (Value.bool false))] (by kernel_rfl) rfl (by kernel_rfl) ?_
  refine Dr.done (by kernel_rfl) ?_
  refine q_else (o := .tmp 50) (by kernel_rfl) rfl ?_
  refine q_skip (by kernel_rfl) ?_
  refine qs ?_
  refine qs ?_
  refine qg ?_
  refine og 3 [(0, (ptr b)), (4, (i64 0)), (5, (i64 ((r.pos : Nat) : Int))), (6, (Value.int IntKind.u64 ((r.uint.1 : Nat) : Int))), (56, (Value.pointer (some ⟨b, 2, none⟩)))] 3 ?_
  refine Ops.go (v := (i64 r.uint.2.why)) (by kernel_rfl) (Runs.load (t := 24) (a := ⟨b, 2, none⟩) (by kernel_rfl) (H3.loads (by kernel_rfl))) (d := (some 57)) (by kernel_rfl) rfl ?_
  refine og 1 [(0, (ptr b)), (4, (i64 0)), (5, (i64 ((r.pos : Nat) : Int))), (6, (Value.int IntKind.u64 ((r.uint.1 : Nat) : Int))), (58, (Value.bool (r.uint.2.why != 0)))] 5 ?_
  refine od ?_
  refine q_cond (o := .tmp 58) (b := (r.uint.2.why != 0)) (by kernel_rfl) rfl (fun h55 => ?_) (fun h55 => ?_)
  ·rw [h55]
   have p56 : ¬ (r.uint.2.why = 0) := of_bne_t h55
   refine qs ?_
   refine qg ?_
   refine og 4 [(4, (i64 0)), (6, (Value.int IntKind.u64 ((r.uint.1 : Nat) : Int))), (60, (i64 ((r.pos : Nat) : Int))), (62, (Value.pointer (some ⟨b, 1, none⟩)))] 4 ?_
   refine Ops.put (t := 3) (b := b) (off := 1) (v := (i64 ((r.pos : Nat) : Int))) (ys := [(Value.slice A r.uint.2.bs.length c), (i64 ((r.pos : Nat) : Int)), (i64 r.uint.2.why)]) (by kernel_rfl) (by kernel_rfl) H3 (by kernel_rfl) (d := none) (by kernel_rfl) rfl (fun w57 H58 K59 => ?_)
   clear H3
   replace K0 := K0.trans K59 (U := (fun i => i = b)) (fun i h1 h2 => h2) (fun i h1 h2 => by have h2 : i = b := h2; show i = b; omega)
   replace F6 := RdO.keep F6 K59 (fun i _ _ hi hs => by have hs : i = b := hs; have := hne i _ _ hi; omega)
   clear K59
   refine od ?_
   refine qs ?_
   refine qg ?_
   refine og 1 [(4, (i64 0)), (6, (Value.int IntKind.u64 ((r.uint.1 : Nat) : Int)))] 1 ?_
   refine od ?_
   refine q_ret (by kernel_rfl) ?_
   refine ⟨(i64 0), retv_tmp rfl rfl, ?_⟩
   have e : r.sized most = (0, (⟨r.uint.2.bs, r.pos, r.uint.2.why⟩ : Rdr)) := by by_cases hr0 : r.why = 0; (unfold Rdr.sized; (repeat' split) <;> first | (exfalso; omega) | rfl | (simp only [Rdr.uint_bs]; done) | (rw [Rdr.uint_bs]; done)); (have hr1 := hw0 hr0; rw [Rdr.sized_err hr0]; first | (exfalso; omega) | (rw [Rdr.uint_bs, hr1.2.2]; done))
   exact ⟨by first | (rw [e]; done) | (rw [e]; rfl), K0, by rw [e]; exact H58⟩
  ·rw [h55]
   have p60 : r.uint.2.why = 0 := of_bne_f h55
   refine q_skip (by kernel_rfl) ?_
   refine qs ?_
   refine qg ?_
   refine og 2 [(4, (i64 0)), (64, (i64 (IntKind.i64.wrap (((r.uint.1 : Nat) : Int)))))] 2 ?_
   have e61 : IntKind.i64.wrap (((r.uint.1 : Nat) : Int)) = ((r.uint.1 : Nat) : Int) := wrap_i64 (by omega) (by omega)
   rw [e61]
   refine og 1 [(4, (i64 ((r.uint.1 : Nat) : Int)))] 3 ?_
   refine od ?_
   refine q_ret (by kernel_rfl) ?_
   refine ⟨(i64 ((r.uint.1 : Nat) : Int)), retv_tmp rfl rfl, ?_⟩
   have e : r.sized most = (r.uint.1, r.uint.2) := by by_cases hr0 : r.why = 0; (unfold Rdr.sized; (repeat' split) <;> first | (exfalso; omega) | rfl | (simp only [Rdr.uint_bs]; done) | (rw [Rdr.uint_bs]; done)); (have hr1 := hw0 hr0; rw [Rdr.sized_err hr0]; first | (exfalso; omega) | (rw [Rdr.uint_bs, hr1.2.2]; done))
   exact ⟨by first | (rw [e]; done) | (rw [e]; rfl), K0, by rw [e]; exact H3⟩

theorem RRBytes_calls (w : World) (b : Nat) (A : Option Addr) (c : Nat) (r : Rdr) (hok : r.Ok) (H0 : Has w b (rowL (rdrL A c r) 100)) (hR : RdO w A c r.bs) (hne : ∀ g o s, A = some ⟨g, o, s⟩ → g ≠ b) : Calls Try.prog 56 ⟨[(ptr b)]⟩ w (fun e w' => ∃ v', e = .returned v' ∧ Keeps (fun i => i = b) w w' ∧ OwnB w' w.heap.size 5 v' (r.bytes.1) ∧ Has w' b (rowL (rdrL A c (r.bytes).2) 100)) := by
 have hpos := hok.pos
 have hlen := hok.len
 have hsc := r.scan_le
 have hdl : (r.bs.drop r.pos).length = r.bs.length - r.pos := List.length_drop
 have hcap := hR.1.slice
 have Hb := H0.lt
 have K0 : Keeps (fun i => i = b) w w := (Keeps.refl w).mono (fun _ _ h => h.elim)
 have hub := r.uint_bs
 have hubl := congrArg List.length hub
 have hul := r.uint_lt
 have hw0 : r.why ≠ 0 → r.uint.1 = 0 ∧ r.uint.2.pos = r.pos ∧ r.uint.2.why = r.why := fun h => by rw [Rdr.uint_err h]; exact ⟨rfl, rfl, rfl⟩
 have hup := hok.uint.pos
 refine q_calls Try.func56 (by kernel_rfl) (by kernel_rfl) ?_
 refine qs ?_
 refine qg ?_
 refine og 1 [(0, (ptr b)), (2, (Value.slice none 0 0))] 1 ?_
 refine od ?_
 refine qs ?_
 refine qg ?_
 refine og 3 [(0, (ptr b)), (2, (Value.slice none 0 0)), (8, (Value.pointer (some ⟨b, 1, none⟩)))] 3 ?_
 refine Ops.go (v := (i64 ((r.pos : Nat) : Int))) (by kernel_rfl) (Runs.load (t := 3) (a := ⟨b, 1, none⟩) (by kernel_rfl) (H0.loads (by kernel_rfl))) (d := (some 9)) (by kernel_rfl) rfl ?_
 refine og 1 [(0, (ptr b)), (2, (Value.slice none 0 0)), (3, (i64 ((r.pos : Nat) : Int)))] 5 ?_
 refine od ?_
 refine qs ?_
 refine qg ?_
 refine og 1 [(0, (ptr b)), (2, (Value.slice none 0 0)), (3, (i64 ((r.pos : Nat) : Int))), (10, (ptr b))] 1 ?_
 refine Ops.call (by kernel_rfl) (d := (some 11)) (by kernel_rfl) (RRUint_calls _ b A c r hok H0 hR hne) ?_
 rintro _ w1 ⟨rfl, K2, H3⟩
 have hok4 := Rdr.Ok.uint hok
 have hu5 := Rdr.uint_lt r
 refine ⟨_, _, rfl, rfl, ?_⟩
 replace K0 := K0.trans K2 (U := (fun i => i = b)) (fun i h1 h2 => h2) (fun i h1 h2 => by have h2 : i = b := h2; show i = b; omega)
 replace hR := RdO.keep hR K2 (fun i _ _ hi hs => by have hs : i = b := hs; have := hne i _ _ hi; omega)
 clear K2
 have F6 : RdO w1 A c (r.uint.2).bs := by rw [Rdr.uint_bs]; exact hR
 clear hR
 refine og 1 [(0, (ptr b)), (2, (Value.slice none 0 0)), (3, (i64 ((r.pos : Nat) : Int))), (4, (Value.int IntKind.u64 ((r.uint.1 : Nat) : Int)))] 3 ?_
 refine od ?_
 refine qs ?_
 refine qs ?_
 refine qg ?_
 refine og 3 [(0, (ptr b)), (2, (Value.slice none 0 0)), (3, (i64 ((r.pos : Nat) : Int))), (4, (Value.int IntKind.u64 ((r.uint.1 : Nat) : Int))), (14, (Value.pointer (some ⟨b, 2, none⟩)))] 3 ?_
 refine Ops.go (v := (i64 r.uint.2.why)) (by kernel_rfl) (Runs.load (t := 24) (a := ⟨b, 2, none⟩) (by kernel_rfl) (H3.loads (by kernel_rfl))) (d := (some 15)) (by kernel_rfl) rfl ?_
 refine og 2 [(0, (ptr b)), (2, (Value.slice none 0 0)), (3, (i64 ((r.pos : Nat) : Int))), (4, (Value.int IntKind.u64 ((r.uint.1 : Nat) : Int))), (17, (Value.bool (r.uint.2.why == 0)))] 6 ?_
 refine Ops.split (r.uint.2.why == 0) (fun h7 => ?_) (fun h7 => ?_)
 ·rw [h7]
  have p8 : r.uint.2.why = 0 := of_beq_t h7
  refine og 3 [(0, (ptr b)), (2, (Value.slice none 0 0)), (3, (i64 ((r.pos : Nat) : Int))), (4, (Value.int IntKind.u64 ((r.uint.1 : Nat) : Int))), (20, (Value.bool (decide (((r.uint.1 : Nat) : Int) > 65536))))] 9 ?_
  refine od ?_
  refine q_cond (o := .tmp 20) (b := (decide (((r.uint.1 : Nat) : Int) > 65536))) (by kernel_rfl) rfl (fun h9 => ?_) (fun h9 => ?_)
  ·rw [h9]
   have p10 : ((r.uint.1 : Nat) : Int) > 65536 := of_decide_eq_true h9
   refine qg ?_
   refine og 3 [(0, (ptr b)), (2, (Value.slice none 0 0)), (3, (i64 ((r.pos : Nat) : Int))), (4, (Value.int IntKind.u64 ((r.uint.1 : Nat) : Int))), (23, (Value.pointer (some ⟨b, 2, none⟩)))] 3 ?_
   refine Ops.put (t := 24) (b := b) (off := 2) (v := (i64 3)) (ys := [(Value.slice A r.uint.2.bs.length c), (i64 ((r.uint.2.pos : Nat) : Int)), (i64 3)]) (by kernel_rfl) (by kernel_rfl) H3 (by kernel_rfl) (d := none) (by kernel_rfl) rfl (fun w11 H12 K13 => ?_)
   clear H3
   replace K0 := K0.trans K13 (U := (fun i => i = b)) (fun i h1 h2 => h2) (fun i h1 h2 => by have h2 : i = b := h2; show i = b; omega)
   replace F6 := RdO.keep F6 K13 (fun i _ _ hi hs => by have hs : i = b := hs; have := hne i _ _ hi; omega)
   clear K13
   refine od ?_
   refine qs ?_
   refine qs ?_
   refine q_draw (fun wz => Keeps none_ w11 wz) 20 (by kernel_rfl) (by kernel_rfl) (by kernel_rfl) (fun w14 K15 _ _ => ⟨K15, ?_⟩)
   replace K0 := K0.trans K15 (U := (fun i => i = b)) (fun i h1 h2 => h2) (fun i h1 h2 => by exact h2.elim)
   replace H12 := H12.keep K15 (fun h => h)
   replace F6 := RdO.keep0 F6 K15
   refine Dr.strong (S' := (fun wz => Keeps none_ w14 wz)) (Keeps.refl w14) (fun wz hx => K15.trans hx (fun i _ h => h) (fun _ _ h => h)) ?_
   clear K15
   refine Dr.takes (fuel' := 17) (is' := [2, 1, 0]) [0, 1, 2] [(0, (ptr b)), (2, (Value.slice none 0 0)), (3, (i64 ((r.pos : Nat) : Int))), (4, (Value.int IntKind.u64 ((r.uint.1 : Nat) : Int))), (26, (Value.pointer (some ⟨b, 2, none⟩)))] (by kernel_rfl) rfl (by kernel_rfl) ?_
   refine Dr.take (i := 3) (v := (i64 3)) (by kernel_rfl) (by kernel_rfl) (fun wz hS => Runs.load (t := 24) (a := ⟨b, 2, none⟩) (by kernel_rfl) ((H12.keep hS (fun h => h)).loads (by kernel_rfl))) (d := (some 27)) (by kernel_rfl) rfl ?_
   refine Dr.takes (fuel' := 0) (is' := [19, 18, 17, 16, 15, 14, 13, 12, 11, 10, 9, 8, 7, 6, 5, 4, 3, 2, 1, 0]) [4, 5, 6, 7, 8, 9, 10, 11, 12, 13, 14, 15, 16, 17, 18, 19] [(0, (ptr b)), (2, (Value.slice none 0 0)), (3, (i64 ((r.pos : Nat) : Int))), (4, (Value.int IntKind.u64 ((r.uint.1 : Nat) : Int))), (43, (Value.bool false))] (by kernel_rfl) rfl (by kernel_rfl) ?_
   refine Dr.done (by kernel_rfl) ?_
   refine q_else (o := .tmp 43) (by kernel_rfl) rfl ?_
   refine q_skip (by kernel_rfl) ?_
   refine qs ?_
   refine qs ?_
   refine qg ?_
   refine og 3 [(0, (ptr b)), (2, (Value.slice none 0 0)), (3, (i64 ((r.pos : Nat) : Int))), (4, (Value.int IntKind.u64 ((r.uint.1 : Nat) : Int))), (49, (Value.pointer (some ⟨b, 2, none⟩)))] 3 ?_
   refine Ops.go (v := (i64 3)) (by kernel_rfl) (Runs.load (t := 24) (a := ⟨b, 2, none⟩) (by kernel_rfl) (H12.loads (by kernel_rfl))) (d := (some 50)) (by kernel_rfl) rfl ?_
   refine og 1 [(0, (ptr b)), (2, (Value.slice none 0 0)), (3, (i64 ((r.pos : Nat) : Int))), (4, (Value.int IntKind.u64 ((r.uint.1 : Nat) : Int))), (51, (Value.bool true))] 5 ?_
   refine od ?_
   refine q_then (o := .tmp 51) (by kernel_rfl) rfl ?_
   refine qs ?_
   refine qg ?_
   refine og 4 [(0, (ptr b)), (2, (Value.slice none 0 0)), (4, (Value.int IntKind.u64 ((r.uint.1 : Nat) : Int))), (53, (i64 ((r.pos : Nat) : Int))), (55, (Value.pointer (some ⟨b, 1, none⟩)))] 4 ?_
   refine Ops.put (t := 3) (b := b) (off := 1) (v := (i64 ((r.pos : Nat) : Int))) (ys := [(Value.slice A r.uint.2.bs.length c), (i64 ((r.pos : Nat) : Int)), (i64 3)]) (by kernel_rfl) (by kernel_rfl) H12 (by kernel_rfl) (d := none) (by kernel_rfl) rfl (fun w16 H17 K18 => ?_)
   clear H12
   replace K0 := K0.trans K18 (U := (fun i => i = b)) (fun i h1 h2 => h2) (fun i h1 h2 => by have h2 : i = b := h2; show i = b; omega)
   replace F6 := RdO.keep F6 K18 (fun i _ _ hi hs => by have hs : i = b := hs; have := hne i _ _ hi; omega)
   clear K18
   refine od ?_
   refine qs ?_
   refine qg ?_
   refine og 1 [(0, (ptr b)), (2, (Value.slice none 0 0)), (4, (Value.int IntKind.u64 ((r.uint.1 : Nat) : Int)))] 1 ?_
   refine od ?_
   refine q_ret (by kernel_rfl) ?_
   refine ⟨(Value.slice none 0 0), retv_tmp rfl rfl, ?_⟩
   have e : r.bytes = ([], (⟨r.uint.2.bs, r.pos, 3⟩ : Rdr)) := by by_cases hr0 : r.why = 0; (unfold Rdr.bytes Rdr.sized; (repeat' split) <;> first | (exfalso; omega) | rfl | (simp only [Rdr.uint_bs]; done) | (simp only [Rdr.uint_bs]; simp only [Nat.add_sub_cancel_left]; done) | (exfalso; simp only at *; omega)); (have hr1 := hw0 hr0; rw [Rdr.bytes_err hr0]; first | (exfalso; omega) | (rw [Rdr.uint_bs, hr1.2.2]; done))
   exact ⟨(Value.slice none 0 0), rfl, K0, by rw [e]; exact (World.ownsRow_nil _ _ _ _), by rw [e]; exact H17⟩
  ·rw [h9]
   have p19 : ¬ (((r.uint.1 : Nat) : Int) > 65536) := of_decide_eq_false h9
   refine q_skip (by kernel_rfl) ?_
   refine qs ?_
   refine qs ?_
   refine q_draw (fun wz => Keeps none_ w1 wz) 20 (by kernel_rfl) (by kernel_rfl) (by kernel_rfl) (fun w20 K21 _ _ => ⟨K21, ?_⟩)
   replace K0 := K0.trans K21 (U := (fun i => i = b)) (fun i h1 h2 => h2) (fun i h1 h2 => by exact h2.elim)
   replace H3 := H3.keep K21 (fun h => h)
   replace F6 := RdO.keep0 F6 K21
   refine Dr.strong (S' := (fun wz => Keeps none_ w20 wz)) (Keeps.refl w20) (fun wz hx => K21.trans hx (fun i _ h => h) (fun _ _ h => h)) ?_
   clear K21
   refine Dr.takes (fuel' := 17) (is' := [2, 1, 0]) [0, 1, 2] [(0, (ptr b)), (2, (Value.slice none 0 0)), (3, (i64 ((r.pos : Nat) : Int))), (4, (Value.int IntKind.u64 ((r.uint.1 : Nat) : Int))), (26, (Value.pointer (some ⟨b, 2, none⟩)))] (by kernel_rfl) rfl (by kernel_rfl) ?_
   refine Dr.take (i := 3) (v := (i64 r.uint.2.why)) (by kernel_rfl) (by kernel_rfl) (fun wz hS => Runs.load (t := 24) (a := ⟨b, 2, none⟩) (by kernel_rfl) ((H3.keep hS (fun h => h)).loads (by kernel_rfl))) (d := (some 27)) (by kernel_rfl) rfl ?_
   refine Dr.takes (fuel' := 14) (is' := [5, 4, 3, 2, 1, 0]) [4, 5] [(0, (ptr b)), (2, (Value.slice none 0 0)), (3, (i64 ((r.pos : Nat) : Int))), (4, (Value.int IntKind.u64 ((r.uint.1 : Nat) : Int))), (29, (Value.bool (r.uint.2.why == 0)))] (by kernel_rfl) rfl (by kernel_rfl) ?_
   rw [h7]
   refine Dr.takes (fuel' := 11) (is' := [8, 7, 6, 5, 4, 3, 2, 1, 0]) [6, 7, 8] [(0, (ptr b)), (2, (Value.slice none 0 0)), (3, (i64 ((r.pos : Nat) : Int))), (4, (Value.int IntKind.u64 ((r.uint.1 : Nat) : Int))), (29, (Value.bool true)), (32, (ptr b))] (by kernel_rfl) rfl (by kernel_rfl) ?_
   refine Dr.take (i := 9) (v := (Value.slice A r.uint.2.bs.length c)) (by kernel_rfl) (by kernel_rfl) (fun wz hS => Runs.load (t := 28) (a := ⟨b, 0, none⟩) (by kernel_rfl) ((H3.keep hS (fun h => h)).loads (by kernel_rfl))) (d := (some 33)) (by kernel_rfl) rfl ?_
   refine Dr.takes (fuel' := 6) (is' := [13, 12, 11, 10, 9, 8, 7, 6, 5, 4, 3, 2, 1, 0]) [10, 11, 12, 13] [(0, (ptr b)), (2, (Value.slice none 0 0)), (3, (i64 ((r.pos : Nat) : Int))), (4, (Value.int IntKind.u64 ((r.uint.1 : Nat) : Int))), (29, (Value.bool true)), (34, (i64 ((r.uint.2.bs.length : Nat) : Int))), (37, (Value.pointer (some ⟨b, 1, none⟩)))] (by kernel_rfl) rfl (by kernel_rfl) ?_
   refine Dr.take (i := 14) (v := (i64 ((r.uint.2.pos : Nat) : Int))) (by kernel_rfl) (by kernel_rfl) (fun wz hS => Runs.load (t := 3) (a := ⟨b, 1, none⟩) (by kernel_rfl) ((H3.keep hS (fun h => h)).loads (by kernel_rfl))) (d := (some 38)) (by kernel_rfl) rfl ?_
   refine Dr.takes (fuel' := 4) (is' := [15, 14, 13, 12, 11, 10, 9, 8, 7, 6, 5, 4, 3, 2, 1, 0]) [15] [(0, (ptr b)), (2, (Value.slice none 0 0)), (3, (i64 ((r.pos : Nat) : Int))), (4, (Value.int IntKind.u64 ((r.uint.1 : Nat) : Int))), (29, (Value.bool true)), (39, (i64 (IntKind.i64.wrap (((r.uint.2.bs.length : Nat) : Int) - ((r.uint.2.pos : Nat) : Int)))))] (by kernel_rfl) rfl (by kernel_rfl) ?_
   have e22 : IntKind.i64.wrap (((r.uint.2.bs.length : Nat) : Int) - ((r.uint.2.pos : Nat) : Int)) = ((r.uint.2.bs.length : Nat) : Int) - ((r.uint.2.pos : Nat) : Int) := wrap_i64 (by omega) (by omega)
   rw [e22]
   refine Dr.takes (fuel' := 3) (is' := [16, 15, 14, 13, 12, 11, 10, 9, 8, 7, 6, 5, 4, 3, 2, 1, 0]) [16] [(0, (ptr b)), (2, (Value.slice none 0 0)), (3, (i64 ((r.pos : Nat) : Int))), (4, (Value.int IntKind.u64 ((r.uint.1 : Nat) : Int))), (29, (Value.bool true)), (40, (Value.int IntKind.u64 (IntKind.u64.wrap (((r.uint.2.bs.length : Nat) : Int) - ((r.uint.2.pos : Nat) : Int)))))] (by kernel_rfl) rfl (by kernel_rfl) ?_
   have e23 : IntKind.u64.wrap (((r.uint.2.bs.length : Nat) : Int) - ((r.uint.2.pos : Nat) : Int)) = ((r.uint.2.bs.length : Nat) : Int) - ((r.uint.2.pos : Nat) : Int) := wrap_u64 (by omega) (by omega)
   rw [e23]
   refine Dr.takes (fuel' := 0) (is' := [19, 18, 17, 16, 15, 14, 13, 12, 11, 10, 9, 8, 7, 6, 5, 4, 3, 2, 1, 0]) [17, 18, 19] [(0, (ptr b)), (2, (Value.slice none 0 0)), (3, (i64 ((r.pos : Nat) : Int))), (4, (Value.int IntKind.u64 ((r.uint.1 : Nat) : Int))), (43, (Value.bool (decide (((r.uint.2.bs.length : Nat) : Int) - ((r.uint.2.pos : Nat) : Int) < ((r.uint.1 : Nat) : Int)))))] (by kernel_rfl) rfl (by kernel_rfl) ?_
   refine Dr.done (by kernel_rfl) ?_
   refine q_cond (o := .tmp 43) (b := (decide (((r.uint.2.bs.length : Nat) : Int) - ((r.uint.2.pos : Nat) : Int) < ((r.uint.1 : Nat) : Int)))) (by kernel_rfl) rfl (fun h24 => ?_) (fun h24 => ?_)
   ·rw [h24]
    have p25 : ((r.uint.2.bs.length : Nat) : Int) - ((r.uint.2.pos : Nat) : Int) < ((r.uint.1 : Nat) : Int) := of_decide_eq_true h24
    refine qg ?_
    refine og 3 [(0, (ptr b)), (2, (Value.slice none 0 0)), (3, (i64 ((r.pos : Nat) : Int))), (4, (Value.int IntKind.u64 ((r.uint.1 : Nat) : Int))), (46, (Value.pointer (some ⟨b, 2, none⟩)))] 3 ?_
    refine Ops.put (t := 24) (b := b) (off := 2) (v := (i64 10)) (ys := [(Value.slice A r.uint.2.bs.length c), (i64 ((r.uint.2.pos : Nat) : Int)), (i64 10)]) (by kernel_rfl) (by kernel_rfl) H3 (by kernel_rfl) (d := none) (by kernel_rfl) rfl (fun w26 H27 K28 => ?_)
    clear H3
    replace K0 := K0.trans K28 (U := (fun i => i = b)) (fun i h1 h2 => h2) (fun i h1 h2 => by have h2 : i = b := h2; show i = b; omega)
    replace F6 := RdO.keep F6 K28 (fun i _ _ hi hs => by have hs : i = b := hs; have := hne i _ _ hi; omega)
    clear K28
    refine od ?_
    refine qs ?_
    refine qs ?_
    refine qg ?_
    refine og 3 [(0, (ptr b)), (2, (Value.slice none 0 0)), (3, (i64 ((r.pos : Nat) : Int))), (4, (Value.int IntKind.u64 ((r.uint.1 : Nat) : Int))), (49, (Value.pointer (some ⟨b, 2, none⟩)))] 3 ?_
    refine Ops.go (v := (i64 10)) (by kernel_rfl) (Runs.load (t := 24) (a := ⟨b, 2, none⟩) (by kernel_rfl) (H27.loads (by kernel_rfl))) (d := (some 50)) (by kernel_rfl) rfl ?_
    refine og 1 [(0, (ptr b)), (2, (Value.slice none 0 0)), (3, (i64 ((r.pos : Nat) : Int))), (4, (Value.int IntKind.u64 ((r.uint.1 : Nat) : Int))), (51, (Value.bool true))] 5 ?_
    refine od ?_
    refine q_then (o := .tmp 51) (by kernel_rfl) rfl ?_
    refine qs ?_
    refine qg ?_
    refine og 4 [(0, (ptr b)), (2, (Value.slice none 0 0)), (4, (Value.int IntKind.u64 ((r.uint.1 : Nat) : Int))), (53, (i64 ((r.pos : Nat) : Int))), (55, (Value.pointer (some ⟨b, 1, none⟩)))] 4 ?_
    refine Ops.put (t := 3) (b := b) (off := 1) (v := (i64 ((r.pos : Nat) : Int))) (ys := [(Value.slice A r.uint.2.bs.length c), (i64 ((r.pos : Nat) : Int)), (i64 10)]) (by kernel_rfl) (by kernel_rfl) H27 (by kernel_rfl) (d := none) (by kernel_rfl) rfl (fun w29 H30 K31 => ?_)
    clear H27
    replace K0 := K0.trans K31 (U := (fun i => i = b)) (fun i h1 h2 => h2) (fun i h1 h2 => by have h2 : i = b := h2; show i = b; omega)
    replace F6 := RdO.keep F6 K31 (fun i _ _ hi hs => by have hs : i = b := hs; have := hne i _ _ hi; omega)
    clear K31
    refine od ?_
    refine qs ?_
    refine qg ?_
    refine og 1 [(0, (ptr b)), (2, (Value.slice none 0 0)), (4, (Value.int IntKind.u64 ((r.uint.1 : Nat) : Int)))] 1 ?_
    refine od ?_
    refine q_ret (by kernel_rfl) ?_
    refine ⟨(Value.slice none 0 0), retv_tmp rfl rfl, ?_⟩
    have e : r.bytes = ([], (⟨r.uint.2.bs, r.pos, 10⟩ : Rdr)) := by by_cases hr0 : r.why = 0; (unfold Rdr.bytes Rdr.sized; (repeat' split) <;> first | (exfalso; omega) | rfl | (simp only [Rdr.uint_bs]; done) | (simp only [Rdr.uint_bs]; simp only [Nat.add_sub_cancel_left]; done) | (exfalso; simp only at *; omega)); (have hr1 := hw0 hr0; rw [Rdr.bytes_err hr0]; first | (exfalso; omega) | (rw [Rdr.uint_bs, hr1.2.2]; done))
    exact ⟨(Value.slice none 0 0), rfl, K0, by rw [e]; exact (World.ownsRow_nil _ _ _ _), by rw [e]; exact H30⟩
   ·rw [h24]
    have p32 : ¬ (((r.uint.2.bs.length : Nat) : Int) - ((r.uint.2.pos : Nat) : Int) < ((r.uint.1 : Nat) : Int)) := of_decide_eq_false h24
    refine q_skip (by kernel_rfl) ?_
    refine qs ?_
    refine qs ?_
    refine qg ?_
    refine og 3 [(0, (ptr b)), (2, (Value.slice none 0 0)), (3, (i64 ((r.pos : Nat) : Int))), (4, (Value.int IntKind.u64 ((r.uint.1 : Nat) : Int))), (49, (Value.pointer (some ⟨b, 2, none⟩)))] 3 ?_
    refine Ops.go (v := (i64 r.uint.2.why)) (by kernel_rfl) (Runs.load (t := 24) (a := ⟨b, 2, none⟩) (by kernel_rfl) (H3.loads (by kernel_rfl))) (d := (some 50)) (by kernel_rfl) rfl ?_
    refine og 1 [(0, (ptr b)), (2, (Value.slice none 0 0)), (3, (i64 ((r.pos : Nat) : Int))), (4, (Value.int IntKind.u64 ((r.uint.1 : Nat) : Int))), (51, (Value.bool (r.uint.2.why != 0)))] 5 ?_
    refine od ?_
    refine q_cond (o := .tmp 51) (b := (r.uint.2.why != 0)) (by kernel_rfl) rfl (fun h33 => ?_) (fun h33 => ?_)
    ·rw [h33]
     have p34 : ¬ (r.uint.2.why = 0) := of_bne_t h33
     refine qs ?_
     refine qg ?_
     refine og 4 [(0, (ptr b)), (2, (Value.slice none 0 0)), (4, (Value.int IntKind.u64 ((r.uint.1 : Nat) : Int))), (53, (i64 ((r.pos : Nat) : Int))), (55, (Value.pointer (some ⟨b, 1, none⟩)))] 4 ?_
     refine Ops.put (t := 3) (b := b) (off := 1) (v := (i64 ((r.pos : Nat) : Int))) (ys := [(Value.slice A r.uint.2.bs.length c), (i64 ((r.pos : Nat) : Int)), (i64 r.uint.2.why)]) (by kernel_rfl) (by kernel_rfl) H3 (by kernel_rfl) (d := none) (by kernel_rfl) rfl (fun w35 H36 K37 => ?_)
     clear H3
     replace K0 := K0.trans K37 (U := (fun i => i = b)) (fun i h1 h2 => h2) (fun i h1 h2 => by have h2 : i = b := h2; show i = b; omega)
     replace F6 := RdO.keep F6 K37 (fun i _ _ hi hs => by have hs : i = b := hs; have := hne i _ _ hi; omega)
     clear K37
     refine od ?_
     refine qs ?_
     refine qg ?_
     refine og 1 [(0, (ptr b)), (2, (Value.slice none 0 0)), (4, (Value.int IntKind.u64 ((r.uint.1 : Nat) : Int)))] 1 ?_
     refine od ?_
     refine q_ret (by kernel_rfl) ?_
     refine ⟨(Value.slice none 0 0), retv_tmp rfl rfl, ?_⟩
     have e : r.bytes = ([], (⟨r.uint.2.bs, r.pos, r.uint.2.why⟩ : Rdr)) := by by_cases hr0 : r.why = 0; (unfold Rdr.bytes Rdr.sized; (repeat' split) <;> first | (exfalso; omega) | rfl | (simp only [Rdr.uint_bs]; done) | (simp only [Rdr.uint_bs]; simp only [Nat.add_sub_cancel_left]; done) | (exfalso; simp only at *; omega)); (have hr1 := hw0 hr0; rw [Rdr.bytes_err hr0]; first | (exfalso; omega) | (rw [Rdr.uint_bs, hr1.2.2]; done))
     exact ⟨(Value.slice none 0 0), rfl, K0, by rw [e]; exact (World.ownsRow_nil _ _ _ _), by rw [e]; exact H36⟩
    ·rw [h33]
     have p38 : r.uint.2.why = 0 := of_bne_f h33
     refine q_skip (by kernel_rfl) ?_
     refine qs ?_
     refine qg ?_
     refine og 1 [(0, (ptr b)), (2, (Value.slice none 0 0)), (4, (Value.int IntKind.u64 ((r.uint.1 : Nat) : Int))), (5, (Value.slice none 0 0))] 1 ?_
     refine od ?_
     refine qs ?_
     refine q_draw (fun wz => Keeps none_ w20 wz) 19 (by kernel_rfl) (by kernel_rfl) (by kernel_rfl) (fun w39 K40 _ _ => ⟨K40, ?_⟩)
     replace K0 := K0.trans K40 (U := (fun i => i = b)) (fun i h1 h2 => h2) (fun i h1 h2 => by exact h2.elim)
     replace H3 := H3.keep K40 (fun h => h)
     replace F6 := RdO.keep0 F6 K40
     refine Dr.strong (S' := (fun wz => Keeps none_ w39 wz)) (Keeps.refl w39) (fun wz hx => K40.trans hx (fun i _ h => h) (fun _ _ h => h)) ?_
     clear K40
     refine Dr.takes (fuel' := 15) (is' := [3, 2, 1, 0]) [0, 1, 2, 3] [(0, (ptr b)), (2, (Value.slice none 0 0)), (4, (Value.int IntKind.u64 ((r.uint.1 : Nat) : Int))), (5, (Value.slice none 0 0)), (56, (Value.slice none 0 0)), (59, (ptr b))] (by kernel_rfl) rfl (by kernel_rfl) ?_
     refine Dr.take (i := 4) (v := (Value.slice A r.uint.2.bs.length c)) (by kernel_rfl) (by kernel_rfl) (fun wz hS => Runs.load (t := 28) (a := ⟨b, 0, none⟩) (by kernel_rfl) ((H3.keep hS (fun h => h)).loads (by kernel_rfl))) (d := (some 60)) (by kernel_rfl) rfl ?_
     refine Dr.takes (fuel' := 11) (is' := [7, 6, 5, 4, 3, 2, 1, 0]) [5, 6, 7] [(0, (ptr b)), (2, (Value.slice none 0 0)), (4, (Value.int IntKind.u64 ((r.uint.1 : Nat) : Int))), (5, (Value.slice none 0 0)), (56, (Value.slice none 0 0)), (60, (Value.slice A r.uint.2.bs.length c)), (63, (Value.pointer (some ⟨b, 1, none⟩)))] (by kernel_rfl) rfl (by kernel_rfl) ?_
     refine Dr.take (i := 8) (v := (i64 ((r.uint.2.pos : Nat) : Int))) (by kernel_rfl) (by kernel_rfl) (fun wz hS => Runs.load (t := 3) (a := ⟨b, 1, none⟩) (by kernel_rfl) ((H3.keep hS (fun h => h)).loads (by kernel_rfl))) (d := (some 64)) (by kernel_rfl) rfl ?_
     refine Dr.takes (fuel' := 7) (is' := [11, 10, 9, 8, 7, 6, 5, 4, 3, 2, 1, 0]) [9, 10, 11] [(0, (ptr b)), (2, (Value.slice none 0 0)), (4, (Value.int IntKind.u64 ((r.uint.1 : Nat) : Int))), (5, (Value.slice none 0 0)), (56, (Value.slice none 0 0)), (60, (Value.slice A r.uint.2.bs.length c)), (64, (i64 ((r.uint.2.pos : Nat) : Int))), (67, (Value.pointer (some ⟨b, 1, none⟩)))] (by kernel_rfl) rfl (by kernel_rfl) ?_
     refine Dr.take (i := 12) (v := (i64 ((r.uint.2.pos : Nat) : Int))) (by kernel_rfl) (by kernel_rfl) (fun wz hS => Runs.load (t := 3) (a := ⟨b, 1, none⟩) (by kernel_rfl) ((H3.keep hS (fun h => h)).loads (by kernel_rfl))) (d := (some 68)) (by kernel_rfl) rfl ?_
     refine Dr.takes (fuel' := 4) (is' := [14, 13, 12, 11, 10, 9, 8, 7, 6, 5, 4, 3, 2, 1, 0]) [13, 14] [(0, (ptr b)), (2, (Value.slice none 0 0)), (4, (Value.int IntKind.u64 ((r.uint.1 : Nat) : Int))), (5, (Value.slice none 0 0)), (56, (Value.slice none 0 0)), (60, (Value.slice A r.uint.2.bs.length c)), (64, (i64 ((r.uint.2.pos : Nat) : Int))), (68, (i64 ((r.uint.2.pos : Nat) : Int))), (70, (i64 (IntKind.i64.wrap (((r.uint.1 : Nat) : Int)))))] (by kernel_rfl) rfl (by kernel_rfl) ?_
     have e41 : IntKind.i64.wrap (((r.uint.1 : Nat) : Int)) = ((r.uint.1 : Nat) : Int) := wrap_i64 (by omega) (by omega)
     rw [e41]
     refine Dr.takes (fuel' := 3) (is' := [15, 14, 13, 12, 11, 10, 9, 8, 7, 6, 5, 4, 3, 2, 1, 0]) [15] [(0, (ptr b)), (2, (Value.slice none 0 0)), (4, (Value.int IntKind.u64 ((r.uint.1 : Nat) : Int))), (5, (Value.slice none 0 0)), (56, (Value.slice none 0 0)), (60, (Value.slice A r.uint.2.bs.length c)), (64, (i64 ((r.uint.2.pos : Nat) : Int))), (71, (i64 (IntKind.i64.wrap (((r.uint.2.pos : Nat) : Int) + ((r.uint.1 : Nat) : Int)))))] (by kernel_rfl) rfl (by kernel_rfl) ?_
     have e42 : IntKind.i64.wrap (((r.uint.2.pos : Nat) : Int) + ((r.uint.1 : Nat) : Int)) = ((r.uint.2.pos + r.uint.1 : Nat) : Int) := by rw [wrap_i64 (by omega) (by omega)]; omega
     rw [e42]
     clear e42
     have hslF43 := RdB.slice F6.1
     have F43 := RdB.cutlh F6.1 r.uint.2.pos (r.uint.2.pos + r.uint.1) (by omega) (by omega)
     have hlF43 : ((r.uint.2.bs.drop r.uint.2.pos).take ((r.uint.2.pos + r.uint.1) - r.uint.2.pos)).length = (r.uint.2.pos + r.uint.1) - r.uint.2.pos := by rw [List.length_take, List.length_drop]; omega
     refine Dr.take (i := 16) (v := (Value.slice (if c = r.uint.2.pos then A else Option.map (fun q => Addr.add q (r.uint.2.pos * 1)) A) ((r.uint.2.pos + r.uint.1) - r.uint.2.pos) (c - r.uint.2.pos))) (by kernel_rfl) (by kernel_rfl) (fun wz hS => Runs.slice (by kernel_rfl) (run_cut (sz := 1) (t := 28) (A := A) (n := r.uint.2.bs.length) (c := c) r.uint.2.pos (r.uint.2.pos + r.uint.1) c (lo := some (i64 ((r.uint.2.pos : Nat) : Int))) (hi := some (i64 ((r.uint.2.pos + r.uint.1 : Nat) : Int))) (mx := none) tyB.slice (by kernel_rfl) (.inr ⟨_, rfl⟩) (.inr ⟨_, rfl⟩) (.inl ⟨rfl, rfl⟩) (by omega) (by omega) (by omega))) (d := (some 72)) (by kernel_rfl) rfl ?_
     obtain ⟨v44, w45, hr46, hO47, hK48⟩ := OwnB.app (ty := 28) (base := w39.heap.size) tyB (show OwnB w39 w39.heap.size 5 (.slice none 0 0) [] from World.ownsRow_nil _ _ _ _) F43 (by simp only [List.length_nil]; omega) (Nat.le_refl _)
     have hO49 : OwnB w45 _ 5 v44 ((r.uint.2.bs.drop r.uint.2.pos).take ((r.uint.2.pos + r.uint.1) - r.uint.2.pos)) := hO47
     have ob52 : ∀ i, (v44).ownBlock = some i → i ≠ b := fun i hi => by have := (World.ownsRow.lt hO49 i hi).1; have := H3.lt; omega
     have oo53 : ∀ i o s, A = some ⟨i, o, s⟩ → (v44).ownBlock = some i → False := fun i o s hi hs => by have := (World.ownsRow.lt hO49 i hs).1; have := F6.2 i o s hi; omega
     have K51 := Keeps.new hK48
     have O50 := own_base hO49 K0.size
     replace K0 := K0.trans K51 (U := (fun i => i = b)) (fun i h1 h2 => h2) (fun i h1 h2 => by exact h2.elim)
     replace H3 := H3.keep K51 (fun h => h)
     replace F6 := RdO.keep0 F6 K51
     replace F43 := (Rd.keep0 (by omega) F43 K51)
     refine Dr.go (i := 17) (v := v44) (by kernel_rfl) (by kernel_rfl) (Runs.append (ts := #[28, 28]) (ty := 28) (vs := [(Value.slice none 0 0), (Value.slice (if c = r.uint.2.pos then A else Option.map (fun q => Addr.add q (r.uint.2.pos * 1)) A) ((r.uint.2.pos + r.uint.1) - r.uint.2.pos) (c - r.uint.2.pos))]) (by kernel_rfl) hr46) (d := (some 73)) (by kernel_rfl) rfl K51 ?_
     refine Dr.strong (S' := (fun wz => Keeps none_ w45 wz)) (Keeps.refl w45) (fun wz hx => K51.trans hx (fun i _ h => h) (fun _ _ h => h)) ?_
     clear K51 hr46 hK48 hO47 hO49
     refine Dr.takes (fuel' := 0) (is' := [18, 17, 16, 15, 14, 13, 12, 11, 10, 9, 8, 7, 6, 5, 4, 3, 2, 1, 0]) [18] [(0, (ptr b)), (2, (Value.slice none 0 0)), (4, (Value.int IntKind.u64 ((r.uint.1 : Nat) : Int))), (5, v44)] (by kernel_rfl) rfl (by kernel_rfl) ?_
     refine Dr.done (by kernel_rfl) ?_
     refine qs ?_
     refine qg ?_
     refine og 4 [(2, (Value.slice none 0 0)), (4, (Value.int IntKind.u64 ((r.uint.1 : Nat) : Int))), (5, v44), (74, (ptr b)), (77, (Value.pointer (some ⟨b, 1, none⟩)))] 4 ?_
     refine Ops.go (v := (i64 ((r.uint.2.pos : Nat) : Int))) (by kernel_rfl) (Runs.load (t := 3) (a := ⟨b, 1, none⟩) (by kernel_rfl) (H3.loads (by kernel_rfl))) (d := (some 78)) (by kernel_rfl) rfl ?_
     refine og 2 [(2, (Value.slice none 0 0)), (5, v44), (74, (ptr b)), (78, (i64 ((r.uint.2.pos : Nat) : Int))), (80, (i64 (IntKind.i64.wrap (((r.uint.1 : Nat) : Int)))))] 7 ?_
     have e55 : IntKind.i64.wrap (((r.uint.1 : Nat) : Int)) = ((r.uint.1 : Nat) : Int) := wrap_i64 (by omega) (by omega)
     rw [e55]
     refine og 1 [(2, (Value.slice none 0 0)), (5, v44), (74, (ptr b)), (81, (i64 (IntKind.i64.wrap (((r.uint.2.pos : Nat) : Int) + ((r.uint.1 : Nat) : Int)))))] 8 ?_
     have e56 : IntKind.i64.wrap (((r.uint.2.pos : Nat) : Int) + ((r.uint.1 : Nat) : Int)) = ((r.uint.2.pos + r.uint.1 : Nat) : Int) := by rw [wrap_i64 (by omega) (by omega)]; omega
     rw [e56]
     clear e56
     refine og 2 [(2, (Value.slice none 0 0)), (5, v44), (81, (i64 ((r.uint.2.pos + r.uint.1 : Nat) : Int))), (83, (Value.pointer (some ⟨b, 1, none⟩)))] 10 ?_
     refine Ops.put (t := 3) (b := b) (off := 1) (v := (i64 ((r.uint.2.pos + r.uint.1 : Nat) : Int))) (ys := [(Value.slice A r.uint.2.bs.length c), (i64 ((r.uint.2.pos + r.uint.1 : Nat) : Int)), (i64 r.uint.2.why)]) (by kernel_rfl) (by kernel_rfl) H3 (by kernel_rfl) (d := none) (by kernel_rfl) rfl (fun w57 H58 K59 => ?_)
     clear H3
     replace K0 := K0.trans K59 (U := (fun i => i = b)) (fun i h1 h2 => h2) (fun i h1 h2 => by have h2 : i = b := h2; show i = b; omega)
     replace F6 := RdO.keep F6 K59 (fun i _ _ hi hs => by have hs : i = b := hs; have := hne i _ _ hi; omega)
     clear F43
     replace O50 := own_keep O50 K59 (fun i hi hs => by have hs : i = b := hs; have := ob52 i hi; omega)
     clear K59
     refine od ?_
     refine qs ?_
     refine qg ?_
     refine og 2 [(2, v44)] 2 ?_
     refine od ?_
     refine q_ret (by kernel_rfl) ?_
     refine ⟨v44, retv_tmp rfl rfl, ?_⟩
     have e : r.bytes = ((r.uint.2.bs.drop r.uint.2.pos).take ((r.uint.2.pos + r.uint.1) - r.uint.2.pos), (⟨r.uint.2.bs, r.uint.2.pos + r.uint.1, r.uint.2.why⟩ : Rdr)) := by by_cases hr0 : r.why = 0; (unfold Rdr.bytes Rdr.sized; (repeat' split) <;> first | (exfalso; omega) | rfl | (simp only [Rdr.uint_bs]; done) | (simp only [Rdr.uint_bs]; simp only [Nat.add_sub_cancel_left]; done) | (exfalso; simp only at *; omega)); (have hr1 := hw0 hr0; rw [Rdr.bytes_err hr0]; first | (exfalso; omega) | (rw [Rdr.uint_bs, hr1.2.2]; done))
     exact ⟨v44, rfl, K0, by rw [e]; exact O50, by rw [e]; exact H58⟩
 ·rw [h7]
  have p60 : ¬ (r.uint.2.why = 0) := of_beq_f h7
  refine og 3 [(0, (ptr b)), (2, (Value.slice none 0 0)), (3, (i64 ((r.pos : Nat) : Int))), (4, (Value.int IntKind.u64 ((r.uint.1 : Nat) : Int))), (20, (Value.bool false))] 9 ?_
  refine od ?_
  refine q_else (o := .tmp 20) (by kernel_rfl) rfl ?_
  refine q_skip (by kernel_rfl) ?_
  refine qs ?_
  refine qs ?_
  refine q_draw (fun wz => Keeps none_ w1 wz) 20 (by kernel_rfl) (by kernel_rfl) (by kernel_rfl) (fun w61 K62 _ _ => ⟨K62, ?_⟩)
  replace K0 := K0.trans K62 (U := (fun i => i = b)) (fun i h1 h2 => h2) (fun i h1 h2 => by exact h2.elim)
  replace H3 := H3.keep K62 (fun h => h)
  replace F6 := RdO.keep0 F6 K62
  refine Dr.strong (S' := (fun wz => Keeps none_ w61 wz)) (Keeps.refl w61) (fun wz hx => K62.trans hx (fun i _ h => h) (fun _ _ h => h)) ?_
  clear K62
  refine Dr.takes (fuel' := 17) (is' := [2, 1, 0]) [0, 1, 2] [(0, (ptr b)), (2, (Value.slice none 0 0)), (3, (i64 ((r.pos : Nat) : Int))), (4, (Value.int IntKind.u64 ((r.uint.1 : Nat) : Int))), (26, (Value.pointer (some ⟨b, 2, none⟩)))] (by kernel_rfl) rfl (by kernel_rfl) ?_
  refine Dr.take (i := 3) (v := (i64 r.uint.2.why)) (by kernel_rfl) (by kernel_rfl) (fun wz hS => Runs.load (t := 24) (a := ⟨b, 2, none⟩) (by kernel_rfl) ((H3.keep hS (fun h => h)).loads (by kernel_rfl))) (d := (some 27)) (by kernel_rfl) rfl ?_
  refine Dr.takes (fuel' := 14) (is' := [5, 4, 3, 2, 1, 0]) [4, 5] [(0, (ptr b)), (2, (Value.slice none 0 0)), (3, (i64 ((r.pos : Nat) : Int))), (4, (Value.int IntKind.u64 ((r.uint.1 : Nat) : Int))), (29, (Value.bool (r.uint.2.why == 0)))] (by kernel_rfl) rfl (by kernel_rfl) ?_
  rw [h7]
  refine Dr.takes (fuel' := 0) (is' := [19, 18, 17, 16, 15, 14, 13, 12, 11, 10, 9, 8, 7, 6, 5, 4, 3, 2, 1, 0]) [6, 7, 8, 9, 10, 11, 12, 13, 14, 15, 16, 17, 18, 19] [(0, (ptr b)), (2, (Value.slice none 0 0)), (3, (i64 ((r.pos : Nat) : Int))), (4, (Value.int IntKind.u64 ((r.uint.1 : Nat) : Int))), (43, (Value.bool false))] (by kernel_rfl) rfl (by kernel_rfl) ?_
  refine Dr.done (by kernel_rfl) ?_
  refine q_else (o := .tmp 43) (by kernel_rfl) rfl ?_
  refine q_skip (by kernel_rfl) ?_
  refine qs ?_
  refine qs ?_
  refine qg ?_
  refine og 3 [(0, (ptr b)), (2, (Value.slice none 0 0)), (3, (i64 ((r.pos : Nat) : Int))), (4, (Value.int IntKind.u64 ((r.uint.1 : Nat) : Int))), (49, (Value.pointer (some ⟨b, 2, none⟩)))] 3 ?_
  refine Ops.go (v := (i64 r.uint.2.why)) (by kernel_rfl) (Runs.load (t := 24) (a := ⟨b, 2, none⟩) (by kernel_rfl) (H3.loads (by kernel_rfl))) (d := (some 50)) (by kernel_rfl) rfl ?_
  refine og 1 [(0, (ptr b)), (2, (Value.slice none 0 0)), (3, (i64 ((r.pos : Nat) : Int))), (4, (Value.int IntKind.u64 ((r.uint.1 : Nat) : Int))), (51, (Value.bool (r.uint.2.why != 0)))] 5 ?_
  refine od ?_
  refine q_cond (o := .tmp 51) (b := (r.uint.2.why != 0)) (by kernel_rfl) rfl (fun h63 => ?_) (fun h63 => ?_)
  ·rw [h63]
   have p64 : ¬ (r.uint.2.why = 0) := of_bne_t h63
   refine qs ?_
   refine qg ?_
   refine og 4 [(0, (ptr b)), (2, (Value.slice none 0 0)), (4, (Value.int IntKind.u64 ((r.uint.1 : Nat) : Int))), (53, (i64 ((r.pos : Nat) : Int))), (55, (Value.pointer (some ⟨b, 1, none⟩)))] 4 ?_
   refine Ops.put (t := 3) (b := b) (off := 1) (v := (i64 ((r.pos : Nat) : Int))) (ys := [(Value.slice A r.uint.2.bs.length c), (i64 ((r.pos : Nat) : Int)), (i64 r.uint.2.why)]) (by kernel_rfl) (by kernel_rfl) H3 (by kernel_rfl) (d := none) (by kernel_rfl) rfl (fun w65 H66 K67 => ?_)
   clear H3
   replace K0 := K0.trans K67 (U := (fun i => i = b)) (fun i h1 h2 => h2) (fun i h1 h2 => by have h2 : i = b := h2; show i = b; omega)
   replace F6 := RdO.keep F6 K67 (fun i _ _ hi hs => by have hs : i = b := hs; have := hne i _ _ hi; omega)
   clear K67
   refine od ?_
   refine qs ?_
   refine qg ?_
   refine og 1 [(0, (ptr b)), (2, (Value.slice none 0 0)), (4, (Value.int IntKind.u64 ((r.uint.1 : Nat) : Int)))] 1 ?_
   refine od ?_
   refine q_ret (by kernel_rfl) ?_
   refine ⟨(Value.slice none 0 0), retv_tmp rfl rfl, ?_⟩
   have e : r.bytes = ([], (⟨r.uint.2.bs, r.pos, r.uint.2.why⟩ : Rdr)) := by by_cases hr0 : r.why = 0; (unfold Rdr.bytes Rdr.sized; (repeat' split) <;> first | (exfalso; omega) | rfl | (simp only [Rdr.uint_bs]; done) | (simp only [Rdr.uint_bs]; simp only [Nat.add_sub_cancel_left]; done) | (exfalso; simp only at *; omega)); (have hr1 := hw0 hr0; rw [Rdr.bytes_err hr0]; first | (exfalso; omega) | (rw [Rdr.uint_bs, hr1.2.2]; done))
   exact ⟨(Value.slice none 0 0), rfl, K0, by rw [e]; exact (World.ownsRow_nil _ _ _ _), by rw [e]; exact H66⟩
  ·rw [h63]
   have p68 : r.uint.2.why = 0 := of_bne_f h63
   refine q_skip (by kernel_rfl) ?_
   refine qs ?_
   refine qg ?_
   refine og 1 [(0, (ptr b)), (2, (Value.slice none 0 0)), (4, (Value.int IntKind.u64 ((r.uint.1 : Nat) : Int))), (5, (Value.slice none 0 0))] 1 ?_
   refine od ?_
   refine qs ?_
   refine q_draw (fun wz => Keeps none_ w61 wz) 19 (by kernel_rfl) (by kernel_rfl) (by kernel_rfl) (fun w69 K70 _ _ => ⟨K70, ?_⟩)
   replace K0 := K0.trans K70 (U := (fun i => i = b)) (fun i h1 h2 => h2) (fun i h1 h2 => by exact h2.elim)
   replace H3 := H3.keep K70 (fun h => h)
   replace F6 := RdO.keep0 F6 K70
   refine Dr.strong (S' := (fun wz => Keeps none_ w69 wz)) (Keeps.refl w69) (fun wz hx => K70.trans hx (fun i _ h => h) (fun _ _ h => h)) ?_
   clear K70
   refine Dr.takes (fuel' := 15) (is' := [3, 2, 1, 0]) [0, 1, 2, 3] [(0, (ptr b)), (2, (Value.slice none 0 0)), (4, (Value.int IntKind.u64 ((r.uint.1 : Nat) : Int))), (5, (Value.slice none 0 0)), (56, (Value.slice none 0 0)), (59, (ptr b))] (by kernel_rfl) rfl (by kernel_rfl) ?_
   refine Dr.take (i := 4) (v := (Value.slice A r.uint.2.bs.length c)) (by kernel_rfl) (by kernel_rfl) (fun wz hS => Runs.load (t := 28) (a := ⟨b, 0, none⟩) (by kernel_rfl) ((H3.keep hS (fun h => h)).loads (by kernel_rfl))) (d := (some 60)) (by kernel_rfl) rfl ?_
   refine Dr.takes (fuel' := 11) (is' := [7, 6, 5, 4, 3, 2, 1, 0]) [5, 6, 7] [(0, (ptr b)), (2, (Value.slice none 0 0)), (4, (Value.int IntKind.u64 ((r.uint.1 : Nat) : Int))), (5, (Value.slice none 0 0)), (56, (Value.slice none 0 0)), (60, (Value.slice A r.uint.2.bs.length c)), (63, (Value.pointer (some ⟨b, 1, none⟩)))] (by kernel_rfl) rfl (by kernel_rfl) ?_
   refine Dr.take (i := 8) (v := (i64 ((r.uint.2.pos : Nat) : Int))) (by kernel_rfl) (by kernel_rfl) (fun wz hS => Runs.load (t := 3) (a := ⟨b, 1, none⟩) (by kernel_rfl) ((H3.keep hS (fun h => h)).loads (by kernel_rfl))) (d := (some 64)) (by kernel_rfl) rfl ?_
   refine Dr.takes (fuel' := 7) (is' := [11, 10, 9, 8, 7, 6, 5, 4, 3, 2, 1, 0]) [9, 10, 11] [(0, (ptr b)), (2, (Value.slice none 0 0)), (4, (Value.int IntKind.u64 ((r.uint.1 : Nat) : Int))), (5, (Value.slice none 0 0)), (56, (Value.slice none 0 0)), (60, (Value.slice A r.uint.2.bs.length c)), (64, (i64 ((r.uint.2.pos : Nat) : Int))), (67, (Value.pointer (some ⟨b, 1, none⟩)))] (by kernel_rfl) rfl (by kernel_rfl) ?_
   refine Dr.take (i := 12) (v := (i64 ((r.uint.2.pos : Nat) : Int))) (by kernel_rfl) (by kernel_rfl) (fun wz hS => Runs.load (t := 3) (a := ⟨b, 1, none⟩) (by kernel_rfl) ((H3.keep hS (fun h => h)).loads (by kernel_rfl))) (d := (some 68)) (by kernel_rfl) rfl ?_
   refine Dr.takes (fuel' := 4) (is' := [14, 13, 12, 11, 10, 9, 8, 7, 6, 5, 4, 3, 2, 1, 0]) [13, 14] [(0, (ptr b)), (2, (Value.slice none 0 0)), (4, (Value.int IntKind.u64 ((r.uint.1 : Nat) : Int))), (5, (Value.slice none 0 0)), (56, (Value.slice none 0 0)), (60, (Value.slice A r.uint.2.bs.length c)), (64, (i64 ((r.uint.2.pos : Nat) : Int))), (68, (i64 ((r.uint.2.pos : Nat) : Int))), (70, (i64 (IntKind.i64.wrap (((r.uint.1 : Nat) : Int)))))] (by kernel_rfl) rfl (by kernel_rfl) ?_
   have e71 : IntKind.i64.wrap (((r.uint.1 : Nat) : Int)) = ((r.uint.1 : Nat) : Int) := wrap_i64 (by omega) (by omega)
   rw [e71]
   refine Dr.takes (fuel' := 3) (is' := [15, 14, 13, 12, 11, 10, 9, 8, 7, 6, 5, 4, 3, 2, 1, 0]) [15] [(0, (ptr b)), (2, (Value.slice none 0 0)), (4, (Value.int IntKind.u64 ((r.uint.1 : Nat) : Int))), (5, (Value.slice none 0 0)), (56, (Value.slice none 0 0)), (60, (Value.slice A r.uint.2.bs.length c)), (64, (i64 ((r.uint.2.pos : Nat) : Int))), (71, (i64 (IntKind.i64.wrap (((r.uint.2.pos : Nat) : Int) + ((r.uint.1 : Nat) : Int)))))] (by kernel_rfl) rfl (by kernel_rfl) ?_
   have e72 : IntKind.i64.wrap (((r.uint.2.pos : Nat) : Int) + ((r.uint.1 : Nat) : Int)) = ((r.uint.2.pos + r.uint.1 : Nat) : Int) := by rw [wrap_i64 (by omega) (by omega)]; omega
   rw [e72]
   clear e72
   have hslF73 := RdB.slice F6.1
   have F73 := RdB.cutlh F6.1 r.uint.2.pos (r.uint.2.pos + r.uint.1) (by omega) (by omega)
   have hlF73 : ((r.uint.2.bs.drop r.uint.2.pos).take ((r.uint.2.pos + r.uint.1) - r.uint.2.pos)).length = (r.uint.2.pos + r.uint.1) - r.uint.2.pos := by rw [List.length_take, List.length_drop]; omega
   refine Dr.take (i := 16) (v := (Value.slice (if c = r.uint.2.pos then A else Option.map (fun q => Addr.add q (r.uint.2.pos * 1)) A) ((r.uint.2.pos + r.uint.1) - r.uint.2.pos) (c - r.uint.2.pos))) (by kernel_rfl) (by kernel_rfl) (fun wz hS => Runs.slice (by kernel_rfl) (run_cut (sz := 1) (t := 28) (A := A) (n := r.uint.2.bs.length) (c := c) r.uint.2.pos (r.uint.2.pos + r.uint.1) c (lo := some (i64 ((r.uint.2.pos : Nat) : Int))) (hi := some (i64 ((r.uint.2.pos + r.uint.1 : Nat) : Int))) (mx := none) tyB.slice (by kernel_rfl) (.inr ⟨_, rfl⟩) (.inr ⟨_, rfl⟩) (.inl ⟨rfl, rfl⟩) (by omega) (by omega) (by omega))) (d := (some 72)) (by kernel_rfl) rfl ?_
   obtain ⟨v74, w75, hr76, hO77, hK78⟩ := OwnB.app (ty := 28) (base := w69.heap.size) tyB (show OwnB w69 w69.heap.size 5 (.slice none 0 0) [] from World.ownsRow_nil _ _ _ _) F73 (by simp only [List.length_nil]; omega) (Nat.le_refl _)
   have hO79 : OwnB w75 _ 5 v74 ((r.uint.2.bs.drop r.uint.2.pos).take ((r.uint.2.pos + r.uint.1) - r.uint.2.pos)) := hO77
   have ob82 : ∀ i, (v74).ownBlock = some i → i ≠ b := fun i hi => by have := (World.ownsRow.lt hO79 i hi).1; have := H3.lt; omega
   have oo83 : ∀ i o s, A = some ⟨i, o, s⟩ → (v74).ownBlock = some i → False := fun i o s hi hs => by have := (World.ownsRow.lt hO79 i hs).1; have := F6.2 i o s hi; omega
   have K81 := Keeps.new hK78
   have O80 := own_base hO79 K0.size
   replace K0 := K0.trans K81 (U := (fun i => i = b)) (fun i h1 h2 => h2) (fun i h1 h2 => by exact h2.elim)
   replace H3 := H3.keep K81 (fun h => h)
   replace F6 := RdO.keep0 F6 K81
   replace F73 := (Rd.keep0 (by omega) F73 K81)
   refine Dr.go (i := 17) (v := v74) (by kernel_rfl) (by kernel_rfl) (Runs.append (ts := #[28, 28]) (ty := 28) (vs := [(Value.slice none 0 0), (Value.slice (if c = r.uint.2.pos then A else Option.map (fun q => Addr.add q (r.uint.2.pos * 1)) A) ((r.uint.2.pos + r.uint.1) - r.uint.2.pos) (c - r.uint.2.pos))]) (by kernel_rfl) hr76) (d := (some 73)) (by kernel_rfl) rfl K81 ?_
   refine Dr.strong (S' := (fun wz => Keeps none_ w75 wz)) (Keeps.refl w75) (fun wz hx => K81.trans hx (fun i _ h => h) (fun _ _ h => h)) ?_
   clear K81 hr76 hK78 hO77 hO79
   refine Dr.takes (fuel' := 0) (is' := [18, 17, 16, 15, 14, 13, 12, 11, 10, 9, 8, 7, 6, 5, 4, 3, 2, 1, 0]) [18] [(0, (ptr b)), (2, (Value.slice none 0 0)), (4, (Value.int IntKind.u64 ((r.uint.1 : Nat) : Int))), (5, v74)] (by kernel_rfl) rfl (by kernel_rfl) ?_
   refine Dr.done (by kernel_rfl) ?_
   refine qs ?_
   refine qg ?_
   refine og 4 [(2, (Value.slice none 0 0)), (4, (Value.int IntKind.u64 ((r.uint.1 : Nat) : Int))), (5, v74), (74, (ptr b)), (77, (Value.pointer (some ⟨b, 1, none⟩)))] 4 ?_
   refine Ops.go (v := (i64 ((r.uint.2.pos : Nat) : Int))) (by kernel_rfl) (Runs.load (t := 3) (a := ⟨b, 1, none⟩) (by kernel_rfl) (H3.loads (by kernel_rfl))) (d := (some 78)) (by kernel_rfl) rfl ?_
   refine og 2 [(2, (Value.slice none 0 0)), (5, v74), (74, (ptr b)), (78, (i64 ((r.uint.2.pos : Nat) : Int))), (80, (i64 (IntKind.i64.wrap (((r.uint.1 : Nat) : Int)))))] 7 ?_
   have e85 : IntKind.i64.wrap (((r.uint.1 : Nat) : Int)) = ((r.uint.1 : Nat) : Int) := wrap_i64 (by omega) (by omega)
   rw [e85]
   refine og 1 [(2, (Value.slice none 0 0)), (5, v74), (74, (ptr b)), (81, (i64 (IntKind.i64.wrap (((r.uint.2.pos : Nat) : Int) + ((r.uint.1 : Nat) : Int)))))] 8 ?_
   have e86 : IntKind.i64.wrap (((r.uint.2.pos : Nat) : Int) + ((r.uint.1 : Nat) : Int)) = ((r.uint.2.pos + r.uint.1 : Nat) : Int) := by rw [wrap_i64 (by omega) (by omega)]; omega
   rw [e86]
   clear e86
   refine og 2 [(2, (Value.slice none 0 0)), (5, v74), (81, (i64 ((r.uint.2.pos + r.uint.1 : Nat) : Int))), (83, (Value.pointer (some ⟨b, 1, none⟩)))] 10 ?_
   refine Ops.put (t := 3) (b := b) (off := 1) (v := (i64 ((r.uint.2.pos + r.uint.1 : Nat) : Int))) (ys := [(Value.slice A r.uint.2.bs.length c), (i64 ((r.uint.2.pos + r.uint.1 : Nat) : Int)), (i64 r.uint.2.why)]) (by kernel_rfl) (by kernel_rfl) H3 (by kernel_rfl) (d := none) (by kernel_rfl) rfl (fun w87 H88 K89 => ?_)
   clear H3
   replace K0 := K0.trans K89 (U := (fun i => i = b)) (fun i h1 h2 => h2) (fun i h1 h2 => by have h2 : i = b := h2; show i = b; omega)
   replace F6 := RdO.keep F6 K89 (fun i _ _ hi hs => by have hs : i = b := hs; have := hne i _ _ hi; omega)
   clear F73
   replace O80 := own_keep O80 K89 (fun i hi hs => by have hs : i = b := hs; have := ob82 i hi; omega)
   clear K89
   refine od ?_
   refine qs ?_
   refine qg ?_
   refine og 2 [(2, v74)] 2 ?_
   refine od ?_
   refine q_ret (by kernel_rfl) ?_
   refine ⟨v74, retv_tmp rfl rfl, ?_⟩
   have e : r.bytes = ((r.uint.2.bs.drop r.uint.2.pos).take ((r.uint.2.pos + r.uint.1) - r.uint.2.pos), (⟨r.uint.2.bs, r.uint.2.pos + r.uint.1, r.uint.2.why⟩ : Rdr)) := by by_cases hr0 : r.why = 0; (unfold Rdr.bytes Rdr.sized; (repeat' split) <;> first | (exfalso; omega) | rfl | (simp only [Rdr.uint_bs]; done) | (simp only [Rdr.uint_bs]; simp only [Nat.add_sub_cancel_left]; done) | (exfalso; simp only at *; omega)); (have hr1 := hw0 hr0; rw [Rdr.bytes_err hr0]; first | (exfalso; omega) | (rw [Rdr.uint_bs, hr1.2.2]; done))
   exact ⟨v74, rfl, K0, by rw [e]; exact O80, by rw [e]; exact H88⟩

theorem RRText_calls (w : World) (b : Nat) (A : Option Addr) (c : Nat) (r : Rdr) (hok : r.Ok) (H0 : Has w b (rowL (rdrL A c r) 100)) (hR : RdO w A c r.bs) (hne : ∀ g o s, A = some ⟨g, o, s⟩ → g ≠ b) : Calls Try.prog 79 ⟨[(ptr b)]⟩ w (fun e w' => e = .returned (.string (str r.bytes.1)) ∧ Keeps (fun i => i = b) w w' ∧ Has w' b (rowL (rdrL A c (r.bytes).2) 100)) := by
 have hpos := hok.pos
 have hlen := hok.len
 have hsc := r.scan_le
 have hdl : (r.bs.drop r.pos).length = r.bs.length - r.pos := List.length_drop
 have hcap := hR.1.slice
 have Hb := H0.lt
 have K0 : Keeps (fun i => i = b) w w := (Keeps.refl w).mono (fun _ _ h => h.elim)
 refine q_calls Try.func79 (by kernel_rfl) (by kernel_rfl) ?_
 refine qs ?_
 refine qg ?_
 refine og 1 [(0, (ptr b)), (2, (Value.string (str ([] : List UInt8))))] 1 ?_
 refine od ?_
 refine qs ?_
 refine qg ?_
 refine og 1 [(2, (Value.string (str ([] : List UInt8)))), (3, (ptr b))] 1 ?_
 refine Ops.call (by kernel_rfl) (d := (some 4)) (by kernel_rfl) (RRBytes_calls _ b A c r hok H0 hR hne ) ?_
 rintro _ w1 ⟨v6, rfl, K2, hO7, H3⟩
 have hok4 : (r.bytes).2.Ok := Rdr.Ok.bytes hok
 have hu5 := Rdr.bytes_le hok
 have ob9 : ∀ i, (v6).ownBlock = some i → i ≠ b := fun i hi => by have := (World.ownsRow.lt hO7 i hi).1; have := H0.lt; omega
 have oo10 : ∀ i o s, A = some ⟨i, o, s⟩ → (v6).ownBlock = some i → False := fun i o s hi hs => by have := (World.ownsRow.lt hO7 i hs).1; have := hR.2 i o s hi; omega
 have O8 := own_base hO7 K0.size
 clear hO7
 refine ⟨_, _, rfl, rfl, ?_⟩
 replace K0 := K0.trans K2 (U := (fun i => i = b)) (fun i h1 h2 => h2) (fun i h1 h2 => by have h2 : i = b := h2; show i = b; omega)
 replace hR := RdO.keep hR K2 (fun i _ _ hi hs => by have hs : i = b := hs; have := hne i _ _ hi; omega)
 clear K2
 have F12 : RdO w1 A c (r.bytes).2.bs := by rw [Rdr.bytes_bs]; exact hR
 clear hR
 refine Ops.go (v := (Value.string (str ((r.bytes).1)))) (by kernel_rfl) (Runs.b2s (s := 28) (d := 9) (e := 5) (by kernel_rfl) (by kernel_rfl) (by kernel_rfl) (OwnB.rd O8)) (d := (some 5)) (by kernel_rfl) rfl ?_
 refine og 1 [(2, (Value.string (str ((r.bytes).1))))] 4 ?_
 refine od ?_
 refine q_ret (by kernel_rfl) ?_
 refine ⟨(Value.string (str ((r.bytes).1))), retv_tmp rfl rfl, ?_⟩
 exact ⟨rfl, K0, H3⟩
end Go.Proofs.Ytlnidnadpdpciaa
