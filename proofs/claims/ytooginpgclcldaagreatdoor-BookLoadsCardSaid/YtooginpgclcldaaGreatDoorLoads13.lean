/- What the claim stands on, part 13: rules of the walk, contracts of the functions, plain laws. -/
import Derived.Test.YtooginpgclcldaaGreatDoorProg
import Derived.Test.YtooginpgclcldaaGreatDoorLoads11
import Derived.Test.YtooginpgclcldaaGreatDoorLoads12
import Derived.Test.YtooginpgclcldaaGreatDoorLoads7
import Derived.Test.YtooginpgclcldaaGreatDoorLoads9
import Derived.SizedLaws
import Derived.Test.YtooginpgclcldaaGreatDoorLoads4
set_option linter.unusedVariables false
namespace Go.Proofs.YtooginpgclcldaaGreatDoor
open Go.Q Go.RowKit

theorem RRUint_calls (w : World) (b : Nat) (A : Option Addr) (c : Nat) (r : Rdr) (hok : r.Ok) (H0 : Has w b (rowL (rdrL A c r) 95)) (hR : RdO w A c r.bs) (hne : ∀ g o s, A = some ⟨g, o, s⟩ → g ≠ b) : Calls Tryz.prog 85 ⟨[(ptr b)]⟩ w (fun e w' => e = .returned (.int .u64 ((r.uint.1 : Nat) : Int)) ∧ Keeps (fun i => i = b) w w' ∧ Has w' b (rowL (rdrL A c r.uint.2) 95)) := by
 have hR0 := hR
 have hpos := hok.pos
 have hlen := hok.len
 have hsc := r.scan_le
 have hdl : (r.bs.drop r.pos).length = r.bs.length - r.pos := List.length_drop
 have hcap := hR.1.slice
 have Hb := H0.lt
 have K0 : Keeps (fun i => i = b) w w := (Keeps.refl w).mono (fun _ _ h => h.elim)
 refine q_calls Tryz.func85 (by kernel_rfl) (by kernel_rfl) ?_
 refine qs ?_
 refine qg ?_
 refine og 1 [(0, (ptr b)), (2, (Value.int IntKind.u64 0))] 1 ?_
 refine od ?_
 refine qs ?_
 refine qs ?_
 refine qg ?_
 refine og 3 [(0, (ptr b)), (2, (Value.int IntKind.u64 0)), (8, (Value.pointer (some ⟨b, 2, none⟩)))] 3 ?_
 refine Ops.go (v := (i64 r.why)) (by kernel_rfl) (Runs.load (t := 25) (a := ⟨b, 2, none⟩) (by kernel_rfl) (H0.loads (by kernel_rfl))) (d := (some 9)) (by kernel_rfl) rfl ?_
 refine og 1 [(0, (ptr b)), (2, (Value.int IntKind.u64 0)), (10, (Value.bool (r.why != 0)))] 5 ?_
 refine od ?_
 refine q_cond (o := .tmp 10) (b := (r.why != 0)) (by kernel_rfl) rfl (fun h1 => ?_) (fun h1 => ?_)
 ·rw [h1]
  have p2 : ¬ (r.why = 0) := of_bne_t h1
  refine qs ?_
  refine qg ?_
  refine og 1 [(0, (ptr b)), (2, (Value.int IntKind.u64 0))] 1 ?_
  refine od ?_
  refine q_ret (by kernel_rfl) ?_
  refine ⟨(Value.int IntKind.u64 0), retv_tmp rfl rfl, ?_⟩
  have e := uint_stay (r := r) (by omega)
  exact ⟨by first | (rw [e]; done) | (rw [e]; rfl), K0, by rw [e]; exact H0⟩
 ·rw [h1]
  have p3 : r.why = 0 := of_bne_f h1
  refine q_skip (by kernel_rfl) ?_
  refine qs ?_
  refine qg ?_
  refine og 1 [(0, (ptr b)), (2, (Value.int IntKind.u64 0)), (3, (Value.int IntKind.u64 0))] 1 ?_
  refine od ?_
  refine qs ?_
  refine qs ?_
  refine qg ?_
  refine og 1 [(0, (ptr b)), (2, (Value.int IntKind.u64 0)), (3, (Value.int IntKind.u64 0)), (4, (i64 0))] 1 ?_
  refine od ?_
  refine q_block (id := 0) (by kernel_rfl) ?_
  refine q_keep (R := [(0, (ptr b)), (3, (Value.int IntKind.u64 0)), (4, (i64 0))]) (by kernel_rfl) ?_
  refine q_loop (fun (gs : Nat × Nat) L (wx : World) => match gs with | (i, n) => L = [(0, (ptr b)), (3, (Value.int IntKind.u64 ((n : Nat) : Int))), (4, (i64 ((i : Nat) : Int)))] ∧ scanA (r.bs.drop (r.pos + i)) i n = scanB (r.bs.drop r.pos) ∧ i ≤ 9 ∧ r.pos + i ≤ r.bs.length ∧ n < p7 i ∧ Keeps (fun i => i = b) w wx ∧ Has wx b (rowL [(Value.slice A r.bs.length c), (i64 ((r.pos : Nat) : Int)), (i64 r.why)] 95)) (fun (gs : Nat × Nat) => match gs with | (i, n) => 10 - i) (0, 0) (by kernel_rfl) ⟨rfl, rfl, (by omega), (by omega), (p7_pos 0), K0, H0⟩ ?_
  clear H0 hR K0
  rintro ⟨i, n⟩ _ w4 ⟨rfl, hE, hi, hil, hn, K5, H6⟩
  refine qs ?_
  refine qs ?_
  refine qg ?_
  refine og 2 [(0, (ptr b)), (3, (Value.int IntKind.u64 ((n : Nat) : Int))), (4, (i64 ((i : Nat) : Int))), (12, (Value.bool (decide (((i : Nat) : Int) < 10))))] 2 ?_
  refine od ?_
  have h7 : (decide (((i : Nat) : Int) < 10)) = true := decide_eq_true (by omega)
  rw [h7]
  refine q_then (o := .tmp 12) (by kernel_rfl) rfl ?_
  refine q_skip (by kernel_rfl) ?_
  refine qs ?_
  refine q_block (id := 1) (by kernel_rfl) ?_
  refine qs ?_
  refine qs ?_
  refine q_draw (fun wz => Keeps none_ w4 wz) 12 (by kernel_rfl) (by kernel_rfl) (by kernel_rfl) (fun w8 K9 _ _ => ⟨K9, ?_⟩)
  replace K5 := K5.trans K9 (U := (fun i => i = b)) (fun i h1 h2 => h2) (fun i h1 h2 => by exact h2.elim)
  replace H6 := H6.keep K9 (fun h => h)
  refine Dr.strong (S' := (fun wz => Keeps none_ w8 wz)) (Keeps.refl w8) (fun wz hx => K9.trans hx (fun i _ h => h) (fun _ _ h => h)) ?_
  clear K9
  refine Dr.takes (fuel' := 9) (is' := [2, 1, 0]) [0, 1, 2] [(0, (ptr b)), (3, (Value.int IntKind.u64 ((n : Nat) : Int))), (4, (i64 ((i : Nat) : Int))), (12, (Value.bool true)), (17, (Value.pointer (some ⟨b, 1, none⟩)))] (by kernel_rfl) rfl (by kernel_rfl) ?_
  refine Dr.take (i := 3) (v := (i64 ((r.pos : Nat) : Int))) (by kernel_rfl) (by kernel_rfl) (fun wz hS => Runs.load (t := 3) (a := ⟨b, 1, none⟩) (by kernel_rfl) ((H6.keep hS (fun h => h)).loads (by kernel_rfl))) (d := (some 18)) (by kernel_rfl) rfl ?_
  refine Dr.takes (fuel' := 6) (is' := [5, 4, 3, 2, 1, 0]) [4, 5] [(0, (ptr b)), (3, (Value.int IntKind.u64 ((n : Nat) : Int))), (4, (i64 ((i : Nat) : Int))), (12, (Value.bool true)), (20, (i64 (IntKind.i64.wrap (((r.pos : Nat) : Int) + ((i : Nat) : Int)))))] (by kernel_rfl) rfl (by kernel_rfl) ?_
  have e10 : IntKind.i64.wrap (((r.pos : Nat) : Int) + ((i : Nat) : Int)) = ((r.pos + i : Nat) : Int) := by rw [wrap_i64 (by omega) (by omega)]; omega
  rw [e10]
  clear e10
  refine Dr.takes (fuel' := 3) (is' := [8, 7, 6, 5, 4, 3, 2, 1, 0]) [6, 7, 8] [(0, (ptr b)), (3, (Value.int IntKind.u64 ((n : Nat) : Int))), (4, (i64 ((i : Nat) : Int))), (12, (Value.bool true)), (20, (i64 ((r.pos + i : Nat) : Int))), (23, (ptr b))] (by kernel_rfl) rfl (by kernel_rfl) ?_
  refine Dr.take (i := 9) (v := (Value.slice A r.bs.length c)) (by kernel_rfl) (by kernel_rfl) (fun wz hS => Runs.load (t := 22) (a := ⟨b, 0, none⟩) (by kernel_rfl) ((H6.keep hS (fun h => h)).loads (by kernel_rfl))) (d := (some 24)) (by kernel_rfl) rfl ?_
  refine Dr.takes (fuel' := 0) (is' := [11, 10, 9, 8, 7, 6, 5, 4, 3, 2, 1, 0]) [10, 11] [(0, (ptr b)), (3, (Value.int IntKind.u64 ((n : Nat) : Int))), (4, (i64 ((i : Nat) : Int))), (12, (Value.bool true)), (26, (Value.bool (decide (((r.pos + i : Nat) : Int) ≥ ((r.bs.length : Nat) : Int)))))] (by kernel_rfl) rfl (by kernel_rfl) ?_
  refine Dr.done (by kernel_rfl) ?_
  refine q_cond (o := .tmp 26) (b := (decide (((r.pos + i : Nat) : Int) ≥ ((r.bs.length : Nat) : Int)))) (by kernel_rfl) rfl (fun h11 => ?_) (fun h11 => ?_)
  ·rw [h11]
   have p12 : ((r.pos + i : Nat) : Int) ≥ ((r.bs.length : Nat) : Int) := of_decide_eq_true h11
   refine qs ?_
   refine qg ?_
   refine og 3 [(0, (ptr b)), (3, (Value.int IntKind.u64 ((n : Nat) : Int))), (4, (i64 ((i : Nat) : Int))), (12, (Value.bool true)), (26, (Value.bool true)), (29, (Value.pointer (some ⟨b, 2, none⟩)))] 3 ?_
   refine Ops.put (t := 25) (b := b) (off := 2) (v := (i64 10)) (ys := [(Value.slice A r.bs.length c), (i64 ((r.pos : Nat) : Int)), (i64 10)]) (by kernel_rfl) (by kernel_rfl) H6 (by kernel_rfl) (d := none) (by kernel_rfl) rfl (fun w13 H14 K15 => ?_)
   clear H6
   replace K5 := K5.trans K15 (U := (fun i => i = b)) (fun i h1 h2 => h2) (fun i h1 h2 => by have h2 : i = b := h2; show i = b; omega)
   clear K15
   refine od ?_
   refine qs ?_
   refine qg ?_
   refine og 1 [(0, (ptr b)), (2, (Value.int IntKind.u64 0)), (3, (Value.int IntKind.u64 ((n : Nat) : Int))), (4, (i64 ((i : Nat) : Int))), (12, (Value.bool true)), (26, (Value.bool true))] 1 ?_
   refine od ?_
   refine q_ret (by kernel_rfl) ?_
   refine ⟨(Value.int IntKind.u64 0), retv_tmp rfl rfl, ?_⟩
   have es : scanB (r.bs.drop r.pos) = (n, 0, 10) := by rw [← hE, List.drop_eq_nil_of_le (by omega)]; rfl
   have e := uint_bad (by omega) es (by decide)
   exact ⟨by first | (rw [e]; done) | (rw [e]; rfl), K5, by rw [e]; exact H14⟩
  ·rw [h11]
   have p16 : ¬ (((r.pos + i : Nat) : Int) ≥ ((r.bs.length : Nat) : Int)) := of_decide_eq_false h11
   obtain ⟨x, lb, lo, hx, hA, hLd⟩ := RdB.at (P := Tryz.prog) (t := 5) hR0.1 (k := r.pos + i) (by kernel_rfl) (by omega)
   have hx256 : x.toNat < 256 := x.toNat_lt
   have hlb : lb ≠ b := hne _ _ _ hA
   refine q_skip (by kernel_rfl) ?_
   refine qs ?_
   refine q_draw (fun wz => Keeps none_ w8 wz) 13 (by kernel_rfl) (by kernel_rfl) (by kernel_rfl) (fun w17 K18 _ _ => ⟨K18, ?_⟩)
   replace K5 := K5.trans K18 (U := (fun i => i = b)) (fun i h1 h2 => h2) (fun i h1 h2 => by exact h2.elim)
   replace H6 := H6.keep K18 (fun h => h)
   refine Dr.strong (S' := (fun wz => Keeps none_ w17 wz)) (Keeps.refl w17) (fun wz hx => K18.trans hx (fun i _ h => h) (fun _ _ h => h)) ?_
   clear K18
   refine Dr.takes (fuel' := 10) (is' := [2, 1, 0]) [0, 1, 2] [(0, (ptr b)), (3, (Value.int IntKind.u64 ((n : Nat) : Int))), (4, (i64 ((i : Nat) : Int))), (12, (Value.bool true)), (26, (Value.bool false)), (32, (ptr b))] (by kernel_rfl) rfl (by kernel_rfl) ?_
   refine Dr.take (i := 3) (v := (Value.slice A r.bs.length c)) (by kernel_rfl) (by kernel_rfl) (fun wz hS => Runs.load (t := 22) (a := ⟨b, 0, none⟩) (by kernel_rfl) ((H6.keep hS (fun h => h)).loads (by kernel_rfl))) (d := (some 33)) (by kernel_rfl) rfl ?_
   refine Dr.takes (fuel' := 6) (is' := [6, 5, 4, 3, 2, 1, 0]) [4, 5, 6] [(0, (ptr b)), (3, (Value.int IntKind.u64 ((n : Nat) : Int))), (4, (i64 ((i : Nat) : Int))), (12, (Value.bool true)), (26, (Value.bool false)), (33, (Value.slice A r.bs.length c)), (36, (Value.pointer (some ⟨b, 1, none⟩)))] (by kernel_rfl) rfl (by kernel_rfl) ?_
   refine Dr.take (i := 7) (v := (i64 ((r.pos : Nat) : Int))) (by kernel_rfl) (by kernel_rfl) (fun wz hS => Runs.load (t := 3) (a := ⟨b, 1, none⟩) (by kernel_rfl) ((H6.keep hS (fun h => h)).loads (by kernel_rfl))) (d := (some 37)) (by kernel_rfl) rfl ?_
   refine Dr.takes (fuel' := 3) (is' := [9, 8, 7, 6, 5, 4, 3, 2, 1, 0]) [8, 9] [(0, (ptr b)), (3, (Value.int IntKind.u64 ((n : Nat) : Int))), (4, (i64 ((i : Nat) : Int))), (12, (Value.bool true)), (26, (Value.bool false)), (33, (Value.slice A r.bs.length c)), (39, (i64 (IntKind.i64.wrap (((r.pos : Nat) : Int) + ((i : Nat) : Int)))))] (by kernel_rfl) rfl (by kernel_rfl) ?_
   have e19 : IntKind.i64.wrap (((r.pos : Nat) : Int) + ((i : Nat) : Int)) = ((r.pos + i : Nat) : Int) := by rw [wrap_i64 (by omega) (by omega)]; omega
   rw [e19]
   clear e19
   refine Dr.take (i := 10) (v := (Value.pointer (some ⟨lb, lo + (r.pos + i), none⟩))) (by kernel_rfl) (by kernel_rfl) (fun wz hS => Runs.ixSliceE (k := IntKind.i64) (t := 22) (len := r.bs.length) (cap := c) (s := 1) (off' := lo + (r.pos + i)) (i := ((r.pos + i : Nat) : Int)) hA (by kernel_rfl) (by kernel_rfl) (by omega) (by omega) (by omega)) (d := (some 40)) (by kernel_rfl) rfl ?_
   refine Dr.take (i := 11) (v := (Value.int IntKind.u8 ((x.toNat : Nat) : Int))) (by kernel_rfl) (by kernel_rfl) (fun wz hS => Runs.load (t := 5) (a := ⟨lb, lo + (r.pos + i), none⟩) (by kernel_rfl) (hLd _ _ (K5.trans hS (fun _ _ h => h) (fun i h1 h2 => h2.elim)) (fun h => by have h : lb = b := h; omega))) (d := (some 41)) (by kernel_rfl) rfl ?_
   refine Dr.takes (fuel' := 0) (is' := [12, 11, 10, 9, 8, 7, 6, 5, 4, 3, 2, 1, 0]) [12] [(0, (ptr b)), (3, (Value.int IntKind.u64 ((n : Nat) : Int))), (4, (i64 ((i : Nat) : Int))), (5, (Value.int IntKind.u8 ((x.toNat : Nat) : Int))), (12, (Value.bool true)), (26, (Value.bool false))] (by kernel_rfl) rfl (by kernel_rfl) ?_
   refine Dr.done (by kernel_rfl) ?_
   refine qs ?_
   refine qs ?_
   refine qg ?_
   refine og 3 [(0, (ptr b)), (3, (Value.int IntKind.u64 ((n : Nat) : Int))), (4, (i64 ((i : Nat) : Int))), (5, (Value.int IntKind.u8 ((x.toNat : Nat) : Int))), (12, (Value.bool true)), (26, (Value.bool false)), (44, (Value.bool (((i : Nat) : Int) == 9)))] 3 ?_
   refine Ops.split (((i : Nat) : Int) == 9) (fun h20 => ?_) (fun h20 => ?_)
   ·rw [h20]
    have p21 : ((i : Nat) : Int) = 9 := of_beq_t h20
    refine og 4 [(0, (ptr b)), (3, (Value.int IntKind.u64 ((n : Nat) : Int))), (4, (i64 ((i : Nat) : Int))), (5, (Value.int IntKind.u8 ((x.toNat : Nat) : Int))), (12, (Value.bool true)), (26, (Value.bool false)), (48, (Value.bool (decide (((x.toNat : Nat) : Int) > 1))))] 7 ?_
    refine Ops.split (decide (((x.toNat : Nat) : Int) > 1)) (fun h22 => ?_) (fun h22 => ?_)
    ·rw [h22]
     have p23 : ((x.toNat : Nat) : Int) > 1 := of_decide_eq_true h22
     refine og 7 [(0, (ptr b)), (3, (Value.int IntKind.u64 ((n : Nat) : Int))), (4, (i64 ((i : Nat) : Int))), (5, (Value.int IntKind.u8 ((x.toNat : Nat) : Int))), (12, (Value.bool true)), (26, (Value.bool false)), (55, (Value.bool true))] 14 ?_
     refine od ?_
     refine q_then (o := .tmp 55) (by kernel_rfl) rfl ?_
     refine qs ?_
     refine qg ?_
     refine og 3 [(0, (ptr b)), (3, (Value.int IntKind.u64 ((n : Nat) : Int))), (4, (i64 ((i : Nat) : Int))), (5, (Value.int IntKind.u8 ((x.toNat : Nat) : Int))), (12, (Value.bool true)), (26, (Value.bool false)), (55, (Value.bool true)), (58, (Value.pointer (some ⟨b, 2, none⟩)))] 3 ?_
     refine Ops.put (t := 25) (b := b) (off := 2) (v := (i64 11)) (ys := [(Value.slice A r.bs.length c), (i64 ((r.pos : Nat) : Int)), (i64 11)]) (by kernel_rfl) (by kernel_rfl) H6 (by kernel_rfl) (d := none) (by kernel_rfl) rfl (fun w24 H25 K26 => ?_)
     clear H6
     replace K5 := K5.trans K26 (U := (fun i => i = b)) (fun i h1 h2 => h2) (fun i h1 h2 => by have h2 : i = b := h2; show i = b; omega)
     clear K26
     refine od ?_
     refine qs ?_
     refine qg ?_
     refine og 1 [(0, (ptr b)), (2, (Value.int IntKind.u64 0)), (3, (Value.int IntKind.u64 ((n : Nat) : Int))), (4, (i64 ((i : Nat) : Int))), (5, (Value.int IntKind.u8 ((x.toNat : Nat) : Int))), (12, (Value.bool true)), (26, (Value.bool false)), (55, (Value.bool true))] 1 ?_
     refine od ?_
     refine q_ret (by kernel_rfl) ?_
     refine ⟨(Value.int IntKind.u64 0), retv_tmp rfl rfl, ?_⟩
     have es : scanB (r.bs.drop r.pos) = (n, 0, 11) := by rw [← hE, hx, scanA_bad (by omega)]
     have e := uint_bad (by omega) es (by decide)
     exact ⟨by first | (rw [e]; done) | (rw [e]; rfl), K5, by rw [e]; exact H25⟩
    ·rw [h22]
     have p27 : ¬ (((x.toNat : Nat) : Int) > 1) := of_decide_eq_false h22
     refine og 3 [(0, (ptr b)), (3, (Value.int IntKind.u64 ((n : Nat) : Int))), (4, (i64 ((i : Nat) : Int))), (5, (Value.int IntKind.u8 ((x.toNat : Nat) : Int))), (12, (Value.bool true)), (26, (Value.bool false)), (48, (Value.bool false)), (51, (Value.bool (decide (((i : Nat) : Int) > 0))))] 10 ?_
     refine Ops.split (decide (((i : Nat) : Int) > 0)) (fun h28 => ?_) (fun h28 => ?_)
     ·rw [h28]
      have p29 : ((i : Nat) : Int) > 0 := of_decide_eq_true h28
      refine og 4 [(0, (ptr b)), (3, (Value.int IntKind.u64 ((n : Nat) : Int))), (4, (i64 ((i : Nat) : Int))), (5, (Value.int IntKind.u8 ((x.toNat : Nat) : Int))), (12, (Value.bool true)), (26, (Value.bool false)), (55, (Value.bool (((x.toNat : Nat) : Int) == 0)))] 14 ?_
      refine od ?_
      refine q_cond (o := .tmp 55) (b := (((x.toNat : Nat) : Int) == 0)) (by kernel_rfl) rfl (fun h30 => ?_) (fun h30 => ?_)
      ·rw [h30]
       have p31 : ((x.toNat : Nat) : Int) = 0 := of_beq_t h30
       refine qs ?_
       refine qg ?_
       refine og 3 [(0, (ptr b)), (3, (Value.int IntKind.u64 ((n : Nat) : Int))), (4, (i64 ((i : Nat) : Int))), (5, (Value.int IntKind.u8 ((x.toNat : Nat) : Int))), (12, (Value.bool true)), (26, (Value.bool false)), (55, (Value.bool true)), (58, (Value.pointer (some ⟨b, 2, none⟩)))] 3 ?_
       refine Ops.put (t := 25) (b := b) (off := 2) (v := (i64 11)) (ys := [(Value.slice A r.bs.length c), (i64 ((r.pos : Nat) : Int)), (i64 11)]) (by kernel_rfl) (by kernel_rfl) H6 (by kernel_rfl) (d := none) (by kernel_rfl) rfl (fun w32 H33 K34 => ?_)
       clear H6
       replace K5 := K5.trans K34 (U := (fun i => i = b)) (fun i h1 h2 => h2) (fun i h1 h2 => by have h2 : i = b := h2; show i = b; omega)
       clear K34
       refine od ?_
       refine qs ?_
       refine qg ?_
       refine og 1 [(0, (ptr b)), (2, (Value.int IntKind.u64 0)), (3, (Value.int IntKind.u64 ((n : Nat) : Int))), (4, (i64 ((i : Nat) : Int))), (5, (Value.int IntKind.u8 ((x.toNat : Nat) : Int))), (12, (Value.bool true)), (26, (Value.bool false)), (55, (Value.bool true))] 1 ?_
       refine od ?_
       refine q_ret (by kernel_rfl) ?_
       refine ⟨(Value.int IntKind.u64 0), retv_tmp rfl rfl, ?_⟩
       have es : scanB (r.bs.drop r.pos) = (n, 0, 11) := by rw [← hE, hx, scanA_bad (by omega)]
       have e := uint_bad (by omega) es (by decide)
       exact ⟨by first | (rw [e]; done) | (rw [e]; rfl), K5, by rw [e]; exact H33⟩
      ·rw [h30]
       have p35 : ¬ (((x.toNat : Nat) : Int) = 0) := of_beq_f h30
       refine q_skip (by kernel_rfl) ?_
       refine qs ?_
       refine qg ?_
       refine og 3 [(0, (ptr b)), (3, (Value.int IntKind.u64 ((n : Nat) : Int))), (4, (i64 ((i : Nat) : Int))), (5, (Value.int IntKind.u8 ((x.toNat : Nat) : Int))), (12, (Value.bool true)), (26, (Value.bool false)), (55, (Value.bool false)), (59, (Value.int IntKind.u64 ((n : Nat) : Int))), (61, (Value.int IntKind.u8 ((((x.toNat : Nat) : Int)).tmod 128)))] 3 ?_
       have e36 : (((x.toNat : Nat) : Int)).tmod 128 = ((x.toNat % 128 : Nat) : Int) := tmod_nat x.toNat 128
       rw [e36]
       clear e36
       refine og 1 [(0, (ptr b)), (3, (Value.int IntKind.u64 ((n : Nat) : Int))), (4, (i64 ((i : Nat) : Int))), (5, (Value.int IntKind.u8 ((x.toNat : Nat) : Int))), (12, (Value.bool true)), (26, (Value.bool false)), (55, (Value.bool false)), (59, (Value.int IntKind.u64 ((n : Nat) : Int))), (62, (Value.int IntKind.u64 (IntKind.u64.wrap (((x.toNat % 128 : Nat) : Int)))))] 4 ?_
       have e37 : IntKind.u64.wrap (((x.toNat % 128 : Nat) : Int)) = ((x.toNat % 128 : Nat) : Int) := wrap_u64 (by omega) (by omega)
       rw [e37]
       refine og 2 [(0, (ptr b)), (3, (Value.int IntKind.u64 ((n : Nat) : Int))), (4, (i64 ((i : Nat) : Int))), (5, (Value.int IntKind.u8 ((x.toNat : Nat) : Int))), (12, (Value.bool true)), (26, (Value.bool false)), (55, (Value.bool false)), (59, (Value.int IntKind.u64 ((n : Nat) : Int))), (62, (Value.int IntKind.u64 ((x.toNat % 128 : Nat) : Int))), (64, (i64 (IntKind.i64.wrap (7 * ((i : Nat) : Int)))))] 6 ?_
       have e38 : IntKind.i64.wrap (7 * ((i : Nat) : Int)) = ((7 * i : Nat) : Int) := by rw [wrap_i64 (by omega) (by omega)]; omega
       rw [e38]
       clear e38
       refine og 1 [(0, (ptr b)), (3, (Value.int IntKind.u64 ((n : Nat) : Int))), (4, (i64 ((i : Nat) : Int))), (5, (Value.int IntKind.u8 ((x.toNat : Nat) : Int))), (12, (Value.bool true)), (26, (Value.bool false)), (55, (Value.bool false)), (59, (Value.int IntKind.u64 ((n : Nat) : Int))), (62, (Value.int IntKind.u64 ((x.toNat % 128 : Nat) : Int))), (65, (Value.int IntKind.u64 (IntKind.u64.wrap (((7 * i : Nat) : Int)))))] 7 ?_
       have e39 : IntKind.u64.wrap (((7 * i : Nat) : Int)) = ((7 * i : Nat) : Int) := wrap_u64 (by omega) (by omega)
       rw [e39]
       have hr := scan_round (c := x) hi hn (by omega)
       refine Ops.go (v := (Value.int IntKind.u64 ((x.toNat % 128 * p7 i : Nat) : Int))) (by kernel_rfl) (Runs.int (op := .shl) (t := 63) (by kernel_rfl) (run_shl7 (k := IntKind.u64) (i := i) (s := ((7 * i : Nat) : Int)) (by omega) (by omega) hr.1)) (d := (some 66)) (by kernel_rfl) rfl ?_
       refine Ops.go (v := (Value.int IntKind.u64 ((n + x.toNat % 128 * p7 i : Nat) : Int))) (by kernel_rfl) (Runs.int (op := .or) (t := 63) (by kernel_rfl) (run_or7 hn hr.2.1)) (d := (some 67)) (by kernel_rfl) rfl ?_
       refine og 1 [(0, (ptr b)), (3, (Value.int IntKind.u64 ((n + x.toNat % 128 * p7 i : Nat) : Int))), (4, (i64 ((i : Nat) : Int))), (5, (Value.int IntKind.u8 ((x.toNat : Nat) : Int))), (12, (Value.bool true)), (26, (Value.bool false)), (55, (Value.bool false))] 10 ?_
       refine od ?_
       refine qs ?_
       refine qg ?_
       refine og 2 [(0, (ptr b)), (3, (Value.int IntKind.u64 ((n + x.toNat % 128 * p7 i : Nat) : Int))), (4, (i64 ((i : Nat) : Int))), (5, (Value.int IntKind.u8 ((x.toNat : Nat) : Int))), (12, (Value.bool true)), (26, (Value.bool false)), (55, (Value.bool false)), (69, (Value.bool (decide (((x.toNat : Nat) : Int) < 128))))] 2 ?_
       refine od ?_
       refine q_cond (o := .tmp 69) (b := (decide (((x.toNat : Nat) : Int) < 128))) (by kernel_rfl) rfl (fun h40 => ?_) (fun h40 => ?_)
       ·rw [h40]
        have p41 : ((x.toNat : Nat) : Int) < 128 := of_decide_eq_true h40
        refine qs ?_
        refine qg ?_
        refine og 4 [(0, (ptr b)), (3, (Value.int IntKind.u64 ((n + x.toNat % 128 * p7 i : Nat) : Int))), (4, (i64 ((i : Nat) : Int))), (5, (Value.int IntKind.u8 ((x.toNat : Nat) : Int))), (12, (Value.bool true)), (26, (Value.bool false)), (55, (Value.bool false)), (69, (Value.bool true)), (70, (ptr b)), (73, (Value.pointer (some ⟨b, 1, none⟩)))] 4 ?_
        refine Ops.go (v := (i64 ((r.pos : Nat) : Int))) (by kernel_rfl) (Runs.load (t := 3) (a := ⟨b, 1, none⟩) (by kernel_rfl) (H6.loads (by kernel_rfl))) (d := (some 74)) (by kernel_rfl) rfl ?_
        refine og 2 [(0, (ptr b)), (3, (Value.int IntKind.u64 ((n + x.toNat % 128 * p7 i : Nat) : Int))), (4, (i64 ((i : Nat) : Int))), (5, (Value.int IntKind.u8 ((x.toNat : Nat) : Int))), (12, (Value.bool true)), (26, (Value.bool false)), (55, (Value.bool false)), (69, (Value.bool true)), (70, (ptr b)), (76, (i64 (IntKind.i64.wrap (((r.pos : Nat) : Int) + ((i : Nat) : Int)))))] 7 ?_
        have e42 : IntKind.i64.wrap (((r.pos : Nat) : Int) + ((i : Nat) : Int)) = ((r.pos + i : Nat) : Int) := by rw [wrap_i64 (by omega) (by omega)]; omega
        rw [e42]
        clear e42
        refine og 1 [(0, (ptr b)), (3, (Value.int IntKind.u64 ((n + x.toNat % 128 * p7 i : Nat) : Int))), (4, (i64 ((i : Nat) : Int))), (5, (Value.int IntKind.u8 ((x.toNat : Nat) : Int))), (12, (Value.bool true)), (26, (Value.bool false)), (55, (Value.bool false)), (69, (Value.bool true)), (70, (ptr b)), (77, (i64 (IntKind.i64.wrap (((r.pos + i : Nat) : Int) + 1))))] 8 ?_
        have e43 : IntKind.i64.wrap (((r.pos + i : Nat) : Int) + 1) = (((r.pos + i) + 1 : Nat) : Int) := by rw [wrap_i64 (by omega) (by omega)]; omega
        rw [e43]
        clear e43
        refine og 2 [(0, (ptr b)), (3, (Value.int IntKind.u64 ((n + x.toNat % 128 * p7 i : Nat) : Int))), (4, (i64 ((i : Nat) : Int))), (5, (Value.int IntKind.u8 ((x.toNat : Nat) : Int))), (12, (Value.bool true)), (26, (Value.bool false)), (55, (Value.bool false)), (69, (Value.bool true)), (77, (i64 (((r.pos + i) + 1 : Nat) : Int))), (79, (Value.pointer (some ⟨b, 1, none⟩)))] 10 ?_
        refine Ops.put (t := 3) (b := b) (off := 1) (v := (i64 (((r.pos + i) + 1 : Nat) : Int))) (ys := [(Value.slice A r.bs.length c), (i64 (((r.pos + i) + 1 : Nat) : Int)), (i64 r.why)]) (by kernel_rfl) (by kernel_rfl) H6 (by kernel_rfl) (d := none) (by kernel_rfl) rfl (fun w44 H45 K46 => ?_)
        clear H6
        replace K5 := K5.trans K46 (U := (fun i => i = b)) (fun i h1 h2 => h2) (fun i h1 h2 => by have h2 : i = b := h2; show i = b; omega)
        clear K46
        refine od ?_
        refine qs ?_
        refine qg ?_
        refine og 2 [(0, (ptr b)), (2, (Value.int IntKind.u64 ((n + x.toNat % 128 * p7 i : Nat) : Int))), (3, (Value.int IntKind.u64 ((n + x.toNat % 128 * p7 i : Nat) : Int))), (4, (i64 ((i : Nat) : Int))), (5, (Value.int IntKind.u8 ((x.toNat : Nat) : Int))), (12, (Value.bool true)), (26, (Value.bool false)), (55, (Value.bool false)), (69, (Value.bool true))] 2 ?_
        refine od ?_
        refine q_ret (by kernel_rfl) ?_
        refine ⟨(Value.int IntKind.u64 ((n + x.toNat % 128 * p7 i : Nat) : Int)), retv_tmp rfl rfl, ?_⟩
        have es : scanB (r.bs.drop r.pos) = (n + x.toNat % 128 * p7 i, i + 1, 0) := by rw [← hE, hx]; exact scanA_end (by omega) (by omega)
        have e := uint_good (by omega) es
        exact ⟨by first | (rw [e]; done) | (rw [e]; rfl), K5, by rw [e]; exact H45⟩
       ·rw [h40]
        have p47 : ¬ (((x.toNat : Nat) : Int) < 128) := of_decide_eq_false h40
        refine q_skip (by kernel_rfl) ?_
        refine qg ?_
        refine og 2 [(0, (ptr b)), (3, (Value.int IntKind.u64 ((n + x.toNat % 128 * p7 i : Nat) : Int))), (4, (i64 ((i : Nat) : Int))), (5, (Value.int IntKind.u8 ((x.toNat : Nat) : Int))), (12, (Value.bool true)), (14, (i64 (IntKind.i64.wrap (((i : Nat) : Int) + 1)))), (26, (Value.bool false)), (55, (Value.bool false)), (69, (Value.bool false))] 2 ?_
        have e48 : IntKind.i64.wrap (((i : Nat) : Int) + 1) = ((i + 1 : Nat) : Int) := by rw [wrap_i64 (by omega) (by omega)]; omega
        rw [e48]
        clear e48
        refine og 1 [(0, (ptr b)), (3, (Value.int IntKind.u64 ((n + x.toNat % 128 * p7 i : Nat) : Int))), (4, (i64 ((i + 1 : Nat) : Int))), (5, (Value.int IntKind.u8 ((x.toNat : Nat) : Int))), (12, (Value.bool true)), (26, (Value.bool false)), (55, (Value.bool false)), (69, (Value.bool false))] 3 ?_
        refine Ops.keep (R := [(0, (ptr b)), (3, (Value.int IntKind.u64 ((n + x.toNat % 128 * p7 i : Nat) : Int))), (4, (i64 ((i + 1 : Nat) : Int)))]) (by kernel_rfl) ?_
        refine od ?_
        exact ⟨(i + 1, n + x.toNat % 128 * p7 i), ⟨rfl, ((show scanA (r.bs.drop (r.pos + i)) i n = scanA (r.bs.drop (r.pos + i + 1)) (i + 1) (n + x.toNat % 128 * p7 i) from by rw [hx, scanA_more (by omega) (by omega)]).symm.trans hE), (by omega), (by omega), (hr.2.2 (by omega)), K5, H6⟩, (show 10 - (i + 1) < 10 - i from by omega)⟩
     ·rw [h28]
      have p49 : ¬ (((i : Nat) : Int) > 0) := of_decide_eq_false h28
      refine og 4 [(0, (ptr b)), (3, (Value.int IntKind.u64 ((n : Nat) : Int))), (4, (i64 ((i : Nat) : Int))), (5, (Value.int IntKind.u8 ((x.toNat : Nat) : Int))), (12, (Value.bool true)), (26, (Value.bool false)), (55, (Value.bool false))] 14 ?_
      refine od ?_
      refine q_else (o := .tmp 55) (by kernel_rfl) rfl ?_
      refine q_skip (by kernel_rfl) ?_
      refine qs ?_
      refine qg ?_
      refine og 3 [(0, (ptr b)), (3, (Value.int IntKind.u64 ((n : Nat) : Int))), (4, (i64 ((i : Nat) : Int))), (5, (Value.int IntKind.u8 ((x.toNat : Nat) : Int))), (12, (Value.bool true)), (26, (Value.bool false)), (55, (Value.bool false)), (59, (Value.int IntKind.u64 ((n : Nat) : Int))), (61, (Value.int IntKind.u8 ((((x.toNat : Nat) : Int)).tmod 128)))] 3 ?_
      have e50 : (((x.toNat : Nat) : Int)).tmod 128 = ((x.toNat % 128 : Nat) : Int) := tmod_nat x.toNat 128
      rw [e50]
      clear e50
      refine og 1 [(0, (ptr b)), (3, (Value.int IntKind.u64 ((n : Nat) : Int))), (4, (i64 ((i : Nat) : Int))), (5, (Value.int IntKind.u8 ((x.toNat : Nat) : Int))), (12, (Value.bool true)), (26, (Value.bool false)), (55, (Value.bool false)), (59, (Value.int IntKind.u64 ((n : Nat) : Int))), (62, (Value.int IntKind.u64 (IntKind.u64.wrap (((x.toNat % 128 : Nat) : Int)))))] 4 ?_
      have e51 : IntKind.u64.wrap (((x.toNat % 128 : Nat) : Int)) = ((x.toNat % 128 : Nat) : Int) := wrap_u64 (by omega) (by omega)
      rw [e51]
      refine og 2 [(0, (ptr b)), (3, (Value.int IntKind.u64 ((n : Nat) : Int))), (4, (i64 ((i : Nat) : Int))), (5, (Value.int IntKind.u8 ((x.toNat : Nat) : Int))), (12, (Value.bool true)), (26, (Value.bool false)), (55, (Value.bool false)), (59, (Value.int IntKind.u64 ((n : Nat) : Int))), (62, (Value.int IntKind.u64 ((x.toNat % 128 : Nat) : Int))), (64, (i64 (IntKind.i64.wrap (7 * ((i : Nat) : Int)))))] 6 ?_
      have e52 : IntKind.i64.wrap (7 * ((i : Nat) : Int)) = ((7 * i : Nat) : Int) := by rw [wrap_i64 (by omega) (by omega)]; omega
      rw [e52]
      clear e52
      refine og 1 [(0, (ptr b)), (3, (Value.int IntKind.u64 ((n : Nat) : Int))), (4, (i64 ((i : Nat) : Int))), (5, (Value.int IntKind.u8 ((x.toNat : Nat) : Int))), (12, (Value.bool true)), (26, (Value.bool false)), (55, (Value.bool false)), (59, (Value.int IntKind.u64 ((n : Nat) : Int))), (62, (Value.int IntKind.u64 ((x.toNat % 128 : Nat) : Int))), (65, (Value.int IntKind.u64 (IntKind.u64.wrap (((7 * i : Nat) : Int)))))] 7 ?_
      have e53 : IntKind.u64.wrap (((7 * i : Nat) : Int)) = ((7 * i : Nat) : Int) := wrap_u64 (by omega) (by omega)
      rw [e53]
      have hr := scan_round (c := x) hi hn (by omega)
      refine Ops.go (v := (Value.int IntKind.u64 ((x.toNat % 128 * p7 i : Nat) : Int))) (by kernel_rfl) (Runs.int (op := .shl) (t := 63) (by kernel_rfl) (run_shl7 (k := IntKind.u64) (i := i) (s := ((7 * i : Nat) : Int)) (by omega) (by omega) hr.1)) (d := (some 66)) (by kernel_rfl) rfl ?_
      refine Ops.go (v := (Value.int IntKind.u64 ((n + x.toNat % 128 * p7 i : Nat) : Int))) (by kernel_rfl) (Runs.int (op := .or) (t := 63) (by kernel_rfl) (run_or7 hn hr.2.1)) (d := (some 67)) (by kernel_rfl) rfl ?_
      refine og 1 [(0, (ptr b)), (3, (Value.int IntKind.u64 ((n + x.toNat % 128 * p7 i : Nat) : Int))), (4, (i64 ((i : Nat) : Int))), (5, (Value.int IntKind.u8 ((x.toNat : Nat) : Int))), (12, (Value.bool true)), (26, (Value.bool false)), (55, (Value.bool false))] 10 ?_
      refine od ?_
      refine qs ?_
      refine qg ?_
      refine og 2 [(0, (ptr b)), (3, (Value.int IntKind.u64 ((n + x.toNat % 128 * p7 i : Nat) : Int))), (4, (i64 ((i : Nat) : Int))), (5, (Value.int IntKind.u8 ((x.toNat : Nat) : Int))), (12, (Value.bool true)), (26, (Value.bool false)), (55, (Value.bool false)), (69, (Value.bool (decide (((x.toNat : Nat) : Int) < 128))))] 2 ?_
      refine od ?_
      refine q_cond (o := .tmp 69) (b := (decide (((x.toNat : Nat) : Int) < 128))) (by kernel_rfl) rfl (fun h54 => ?_) (fun h54 => ?_)
      ·rw [h54]
       have p55 : ((x.toNat : Nat) : Int) < 128 := of_decide_eq_true h54
       refine qs ?_
       refine qg ?_
       refine og 4 [(0, (ptr b)), (3, (Value.int IntKind.u64 ((n + x.toNat % 128 * p7 i : Nat) : Int))), (4, (i64 ((i : Nat) : Int))), (5, (Value.int IntKind.u8 ((x.toNat : Nat) : Int))), (12, (Value.bool true)), (26, (Value.bool false)), (55, (Value.bool false)), (69, (Value.bool true)), (70, (ptr b)), (73, (Value.pointer (some ⟨b, 1, none⟩)))] 4 ?_
       refine Ops.go (v := (i64 ((r.pos : Nat) : Int))) (by kernel_rfl) (Runs.load (t := 3) (a := ⟨b, 1, none⟩) (by kernel_rfl) (H6.loads (by kernel_rfl))) (d := (some 74)) (by kernel_rfl) rfl ?_
       refine og 2 [(0, (ptr b)), (3, (Value.int IntKind.u64 ((n + x.toNat % 128 * p7 i : Nat) : Int))), (4, (i64 ((i : Nat) : Int))), (5, (Value.int IntKind.u8 ((x.toNat : Nat) : Int))), (12, (Value.bool true)), (26, (Value.bool false)), (55, (Value.bool false)), (69, (Value.bool true)), (70, (ptr b)), (76, (i64 (IntKind.i64.wrap (((r.pos : Nat) : Int) + ((i : Nat) : Int)))))] 7 ?_
       have e56 : IntKind.i64.wrap (((r.pos : Nat) : Int) + ((i : Nat) : Int)) = ((r.pos + i : Nat) : Int) := by rw [wrap_i64 (by omega) (by omega)]; omega
       rw [e56]
       clear e56
       refine og 1 [(0, (ptr b)), (3, (Value.int IntKind.u64 ((n + x.toNat % 128 * p7 i : Nat) : Int))), (4, (i64 ((i : Nat) : Int))), (5, (Value.int IntKind.u8 ((x.toNat : Nat) : Int))), (12, (Value.bool true)), (26, (Value.bool false)), (55, (Value.bool false)), (69, (Value.bool true)), (70, (ptr b)), (77, (i64 (IntKind.i64.wrap (((r.pos + i : Nat) : Int) + 1))))] 8 ?_
       have e57 : IntKind.i64.wrap (((r.pos + i : Nat) : Int) + 1) = (((r.pos + i) + 1 : Nat) : Int) := by rw [wrap_i64 (by omega) (by omega)]; omega
       rw [e57]
       clear e57
       refine og 2 [(0, (ptr b)), (3, (Value.int IntKind.u64 ((n + x.toNat % 128 * p7 i : Nat) : Int))), (4, (i64 ((i : Nat) : Int))), (5, (Value.int IntKind.u8 ((x.toNat : Nat) : Int))), (12, (Value.bool true)), (26, (Value.bool false)), (55, (Value.bool false)), (69, (Value.bool true)), (77, (i64 (((r.pos + i) + 1 : Nat) : Int))), (79, (Value.pointer (some ⟨b, 1, none⟩)))] 10 ?_
       refine Ops.put (t := 3) (b := b) (off := 1) (v := (i64 (((r.pos + i) + 1 : Nat) : Int))) (ys := [(Value.slice A r.bs.length c), (i64 (((r.pos + i) + 1 : Nat) : Int)), (i64 r.why)]) (by kernel_rfl) (by kernel_rfl) H6 (by kernel_rfl) (d := none) (by kernel_rfl) rfl (fun w58 H59 K60 => ?_)
       clear H6
       replace K5 := K5.trans K60 (U := (fun i => i = b)) (fun i h1 h2 => h2) (fun i h1 h2 => by have h2 : i = b := h2; show i = b; omega)
       clear K60
       refine od ?_
       refine qs ?_
       refine qg ?_
       refine og 2 [(0, (ptr b)), (2, (Value.int IntKind.u64 ((n + x.toNat % 128 * p7 i : Nat) : Int))), (3, (Value.int IntKind.u64 ((n + x.toNat % 128 * p7 i : Nat) : Int))), (4, (i64 ((i : Nat) : Int))), (5, (Value.int IntKind.u8 ((x.toNat : Nat) : Int))), (12, (Value.bool true)), (26, (Value.bool false)), (55, (Value.bool false)), (69, (Value.bool true))] 2 ?_
       refine od ?_
       refine q_ret (by kernel_rfl) ?_
       refine ⟨(Value.int IntKind.u64 ((n + x.toNat % 128 * p7 i : Nat) : Int)), retv_tmp rfl rfl, ?_⟩
       have es : scanB (r.bs.drop r.pos) = (n + x.toNat % 128 * p7 i, i + 1, 0) := by rw [← hE, hx]; exact scanA_end (by omega) (by omega)
       have e := uint_good (by omega) es
       exact ⟨by first | (rw [e]; done) | (rw [e]; rfl), K5, by rw [e]; exact H59⟩
      ·rw [h54]
       have p61 : ¬ (((x.toNat : Nat) : Int) < 128) := of_decide_eq_false h54
       refine q_skip (by kernel_rfl) ?_
       refine qg ?_
       refine og 2 [(0, (ptr b)), (3, (Value.int IntKind.u64 ((n + x.toNat % 128 * p7 i : Nat) : Int))), (4, (i64 ((i : Nat) : Int))), (5, (Value.int IntKind.u8 ((x.toNat : Nat) : Int))), (12, (Value.bool true)), (14, (i64 (IntKind.i64.wrap (((i : Nat) : Int) + 1)))), (26, (Value.bool false)), (55, (Value.bool false)), (69, (Value.bool false))] 2 ?_
       have e62 : IntKind.i64.wrap (((i : Nat) : Int) + 1) = ((i + 1 : Nat) : Int) := by rw [wrap_i64 (by omega) (by omega)]; omega
       rw [e62]
       clear e62
       refine og 1 [(0, (ptr b)), (3, (Value.int IntKind.u64 ((n + x.toNat % 128 * p7 i : Nat) : Int))), (4, (i64 ((i + 1 : Nat) : Int))), (5, (Value.int IntKind.u8 ((x.toNat : Nat) : Int))), (12, (Value.bool true)), (26, (Value.bool false)), (55, (Value.bool false)), (69, (Value.bool false))] 3 ?_
       refine Ops.keep (R := [(0, (ptr b)), (3, (Value.int IntKind.u64 ((n + x.toNat % 128 * p7 i : Nat) : Int))), (4, (i64 ((i + 1 : Nat) : Int)))]) (by kernel_rfl) ?_
       refine od ?_
       exact ⟨(i + 1, n + x.toNat % 128 * p7 i), ⟨rfl, ((show scanA (r.bs.drop (r.pos + i)) i n = scanA (r.bs.drop (r.pos + i + 1)) (i + 1) (n + x.toNat % 128 * p7 i) from by rw [hx, scanA_more (by omega) (by omega)]).symm.trans hE), (by omega), (by omega), (hr.2.2 (by omega)), K5, H6⟩, (show 10 - (i + 1) < 10 - i from by omega)⟩
   ·rw [h20]
    have p63 : ¬ (((i : Nat) : Int) = 9) := of_beq_f h20
    refine og 7 [(0, (ptr b)), (3, (Value.int IntKind.u64 ((n : Nat) : Int))), (4, (i64 ((i : Nat) : Int))), (5, (Value.int IntKind.u8 ((x.toNat : Nat) : Int))), (12, (Value.bool true)), (26, (Value.bool false)), (48, (Value.bool false)), (51, (Value.bool (decide (((i : Nat) : Int) > 0))))] 10 ?_
    refine Ops.split (decide (((i : Nat) : Int) > 0)) (fun h64 => ?_) (fun h64 => ?_)
    ·rw [h64]
     have p65 : ((i : Nat) : Int) > 0 := of_decide_eq_true h64
     refine og 4 [(0, (ptr b)), (3, (Value.int IntKind.u64 ((n : Nat) : Int))), (4, (i64 ((i : Nat) : Int))), (5, (Value.int IntKind.u8 ((x.toNat : Nat) : Int))), (12, (Value.bool true)), (26, (Value.bool false)), (55, (Value.bool (((x.toNat : Nat) : Int) == 0)))] 14 ?_
     refine od ?_
     refine q_cond (o := .tmp 55) (b := (((x.toNat : Nat) : Int) == 0)) (by kernel_rfl) rfl (fun h66 => ?_) (fun h66 => ?_)
     ·rw [h66]
      have p67 : ((x.toNat : Nat) : Int) = 0 := of_beq_t h66
      refine qs ?_
      refine qg ?_
      refine og 3 [(0, (ptr b)), (3, (Value.int IntKind.u64 ((n : Nat) : Int))), (4, (i64 ((i : Nat) : Int))), (5, (Value.int IntKind.u8 ((x.toNat : Nat) : Int))), (12, (Value.bool true)), (26, (Value.bool false)), (55, (Value.bool true)), (58, (Value.pointer (some ⟨b, 2, none⟩)))] 3 ?_
      refine Ops.put (t := 25) (b := b) (off := 2) (v := (i64 11)) (ys := [(Value.slice A r.bs.length c), (i64 ((r.pos : Nat) : Int)), (i64 11)]) (by kernel_rfl) (by kernel_rfl) H6 (by kernel_rfl) (d := none) (by kernel_rfl) rfl (fun w68 H69 K70 => ?_)
      clear H6
      replace K5 := K5.trans K70 (U := (fun i => i = b)) (fun i h1 h2 => h2) (fun i h1 h2 => by have h2 : i = b := h2; show i = b; omega)
      clear K70
      refine od ?_
      refine qs ?_
      refine qg ?_
      refine og 1 [(0, (ptr b)), (2, (Value.int IntKind.u64 0)), (3, (Value.int IntKind.u64 ((n : Nat) : Int))), (4, (i64 ((i : Nat) : Int))), (5, (Value.int IntKind.u8 ((x.toNat : Nat) : Int))), (12, (Value.bool true)), (26, (Value.bool false)), (55, (Value.bool true))] 1 ?_
      refine od ?_
      refine q_ret (by kernel_rfl) ?_
      refine ⟨(Value.int IntKind.u64 0), retv_tmp rfl rfl, ?_⟩
      have es : scanB (r.bs.drop r.pos) = (n, 0, 11) := by rw [← hE, hx, scanA_bad (by omega)]
      have e := uint_bad (by omega) es (by decide)
      exact ⟨by first | (rw [e]; done) | (rw [e]; rfl), K5, by rw [e]; exact H69⟩
     ·rw [h66]
      have p71 : ¬ (((x.toNat : Nat) : Int) = 0) := of_beq_f h66
      refine q_skip (by kernel_rfl) ?_
      refine qs ?_
      refine qg ?_
      refine og 3 [(0, (ptr b)), (3, (Value.int IntKind.u64 ((n : Nat) : Int))), (4, (i64 ((i : Nat) : Int))), (5, (Value.int IntKind.u8 ((x.toNat : Nat) : Int))), (12, (Value.bool true)), (26, (Value.bool false)), (55, (Value.bool false)), (59, (Value.int IntKind.u64 ((n : Nat) : Int))), (61, (Value.int IntKind.u8 ((((x.toNat : Nat) : Int)).tmod 128)))] 3 ?_
      have e72 : (((x.toNat : Nat) : Int)).tmod 128 = ((x.toNat % 128 : Nat) : Int) := tmod_nat x.toNat 128
      rw [e72]
      clear e72
      refine og 1 [(0, (ptr b)), (3, (Value.int IntKind.u64 ((n : Nat) : Int))), (4, (i64 ((i : Nat) : Int))), (5, (Value.int IntKind.u8 ((x.toNat : Nat) : Int))), (12, (Value.bool true)), (26, (Value.bool false)), (55, (Value.bool false)), (59, (Value.int IntKind.u64 ((n : Nat) : Int))), (62, (Value.int IntKind.u64 (IntKind.u64.wrap (((x.toNat % 128 : Nat) : Int)))))] 4 ?_
      have e73 : IntKind.u64.wrap (((x.toNat % 128 : Nat) : Int)) = ((x.toNat % 128 : Nat) : Int) := wrap_u64 (by omega) (by omega)
      rw [e73]
      refine og 2 [(0, (ptr b)), (3, (Value.int IntKind.u64 ((n : Nat) : Int))), (4, (i64 ((i : Nat) : Int))), (5, (Value.int IntKind.u8 ((x.toNat : Nat) : Int))), (12, (Value.bool true)), (26, (Value.bool false)), (55, (Value.bool false)), (59, (Value.int IntKind.u64 ((n : Nat) : Int))), (62, (Value.int IntKind.u64 ((x.toNat % 128 : Nat) : Int))), (64, (i64 (IntKind.i64.wrap (7 * ((i : Nat) : Int)))))] 6 ?_
      have e74 : IntKind.i64.wrap (7 * ((i : Nat) : Int)) = ((7 * i : Nat) : Int) := by rw [wrap_i64 (by omega) (by omega)]; omega
      rw [e74]
      clear e74
      refine og 1 [(0, (ptr b)), (3, (Value.int IntKind.u64 ((n : Nat) : Int))), (4, (i64 ((i : Nat) : Int))), (5, (Value.int IntKind.u8 ((x.toNat : Nat) : Int))), (12, (Value.bool true)), (26, (Value.bool false)), (55, (Value.bool false)), (59, (Value.int IntKind.u64 ((n : Nat) : Int))), (62, (Value.int IntKind.u64 ((x.toNat % 128 : Nat) : Int))), (65, (Value.int IntKind.u64 (IntKind.u64.wrap (((7 * i : Nat) : Int)))))] 7 ?_
      have e75 : IntKind.u64.wrap (((7 * i : Nat) : Int)) = ((7 * i : Nat) : Int) := wrap_u64 (by omega) (by omega)
      rw [e75]
      have hr := scan_round (c := x) hi hn (by omega)
      refine Ops.go (v := (Value.int IntKind.u64 ((x.toNat % 128 * p7 i : Nat) : Int))) (by kernel_rfl) (Runs.int (op := .shl) (t := 63) (by kernel_rfl) (run_shl7 (k := IntKind.u64) (i := i) (s := ((7 * i : Nat) : Int)) (by omega) (by omega) hr.1)) (d := (some 66)) (by kernel_rfl) rfl ?_
      refine Ops.go (v := (Value.int IntKind.u64 ((n + x.toNat % 128 * p7 i : Nat) : Int))) (by kernel_rfl) (Runs.int (op := .or) (t := 63) (by kernel_rfl) (run_or7 hn hr.2.1)) (d := (some 67)) (by kernel_rfl) rfl ?_
      refine og 1 [(0, (ptr b)), (3, (Value.int IntKind.u64 ((n + x.toNat % 128 * p7 i : Nat) : Int))), (4, (i64 ((i : Nat) : Int))), (5, (Value.int IntKind.u8 ((x.toNat : Nat) : Int))), (12, (Value.bool true)), (26, (Value.bool false)), (55, (Value.bool false))] 10 ?_
      refine od ?_
      refine qs ?_
      refine qg ?_
      refine og 2 [(0, (ptr b)), (3, (Value.int IntKind.u64 ((n + x.toNat % 128 * p7 i : Nat) : Int))), (4, (i64 ((i : Nat) : Int))), (5, (Value.int IntKind.u8 ((x.toNat : Nat) : Int))), (12, (Value.bool true)), (26, (Value.bool false)), (55, (Value.bool false)), (69, (Value.bool (decide (((x.toNat : Nat) : Int) < 128))))] 2 ?_
      refine od ?_
      refine q_cond (o := .tmp 69) (b := (decide (((x.toNat : Nat) : Int) < 128))) (by kernel_rfl) rfl (fun h76 => ?_) (fun h76 => ?_)
      ·rw [h76]
       have p77 : ((x.toNat : Nat) : Int) < 128 := of_decide_eq_true h76
       refine qs ?_
       refine qg ?_
       refine og 4 [(0, (ptr b)), (3, (Value.int IntKind.u64 ((n + x.toNat % 128 * p7 i : Nat) : Int))), (4, (i64 ((i : Nat) : Int))), (5, (Value.int IntKind.u8 ((x.toNat : Nat) : Int))), (12, (Value.bool true)), (26, (Value.bool false)), (55, (Value.bool false)), (69, (Value.bool true)), (70, (ptr b)), (73, (Value.pointer (some ⟨b, 1, none⟩)))] 4 ?_
       refine Ops.go (v := (i64 ((r.pos : Nat) : Int))) (by kernel_rfl) (Runs.load (t := 3) (a := ⟨b, 1, none⟩) (by kernel_rfl) (H6.loads (by kernel_rfl))) (d := (some 74)) (by kernel_rfl) rfl ?_
       refine og 2 [(0, (ptr b)), (3, (Value.int IntKind.u64 ((n + x.toNat % 128 * p7 i : Nat) : Int))), (4, (i64 ((i : Nat) : Int))), (5, (Value.int IntKind.u8 ((x.toNat : Nat) : Int))), (12, (Value.bool true)), (26, (Value.bool false)), (55, (Value.bool false)), (69, (Value.bool true)), (70, (ptr b)), (76, (i64 (IntKind.i64.wrap (((r.pos : Nat) : Int) + ((i : Nat) : Int)))))] 7 ?_
       have e78 : IntKind.i64.wrap (((r.pos : Nat) : Int) + ((i : Nat) : Int)) = ((r.pos + i : Nat) : Int) := by rw [wrap_i64 (by omega) (by omega)]; omega
       rw [e78]
       clear e78
       refine og 1 [(0, (ptr b)), (3, (Value.int IntKind.u64 ((n + x.toNat % 128 * p7 i : Nat) : Int))), (4, (i64 ((i : Nat) : Int))), (5, (Value.int IntKind.u8 ((x.toNat : Nat) : Int))), (12, (Value.bool true)), (26, (Value.bool false)), (55, (Value.bool false)), (69, (Value.bool true)), (70, (ptr b)), (77, (i64 (IntKind.i64.wrap (((r.pos + i : Nat) : Int) + 1))))] 8 ?_
       have e79 : IntKind.i64.wrap (((r.pos + i : Nat) : Int) + 1) = (((r.pos + i) + 1 : Nat) : Int) := by rw [wrap_i64 (by omega) (by omega)]; omega
       rw [e79]
       clear e79
       refine og 2 [(0, (ptr b)), (3, (Value.int IntKind.u64 ((n + x.toNat % 128 * p7 i : Nat) : Int))), (4, (i64 ((i : Nat) : Int))), (5, (Value.int IntKind.u8 ((x.toNat : Nat) : Int))), (12, (Value.bool true)), (26, (Value.bool false)), (55, (Value.bool false)), (69, (Value.bool true)), (77, (i64 (((r.pos + i) + 1 : Nat) : Int))), (79, (Value.pointer (some ⟨b, 1, none⟩)))] 10 ?_
       refine Ops.put (t := 3) (b := b) (off := 1) (v := (i64 (((r.pos + i) + 1 : Nat) : Int))) (ys := [(Value.slice A r.bs.length c), (i64 (((r.pos + i) + 1 : Nat) : Int)), (i64 r.why)]) (by kernel_rfl) (by kernel_rfl) H6 (by kernel_rfl) (d := none) (by kernel_rfl) rfl (fun w80 H81 K82 => ?_)
       clear H6
       replace K5 := K5.trans K82 (U := (fun i => i = b)) (fun i h1 h2 => h2) (fun i h1 h2 => by have h2 : i = b := h2; show i = b; omega)
       clear K82
       refine od ?_
       refine qs ?_
       refine qg ?_
       refine og 2 [(0, (ptr b)), (2, (Value.int IntKind.u64 ((n + x.toNat % 128 * p7 i : Nat) : Int))), (3, (Value.int IntKind.u64 ((n + x.toNat % 128 * p7 i : Nat) : Int))), (4, (i64 ((i : Nat) : Int))), (5, (Value.int IntKind.u8 ((x.toNat : Nat) : Int))), (12, (Value.bool true)), (26, (Value.bool false)), (55, (Value.bool false)), (69, (Value.bool true))] 2 ?_
       refine od ?_
       refine q_ret (by kernel_rfl) ?_
       refine ⟨(Value.int IntKind.u64 ((n + x.toNat % 128 * p7 i : Nat) : Int)), retv_tmp rfl rfl, ?_⟩
       have es : scanB (r.bs.drop r.pos) = (n + x.toNat % 128 * p7 i, i + 1, 0) := by rw [← hE, hx]; exact scanA_end (by omega) (by omega)
       have e := uint_good (by omega) es
       exact ⟨by first | (rw [e]; done) | (rw [e]; rfl), K5, by rw [e]; exact H81⟩
      ·rw [h76]
       have p83 : ¬ (((x.toNat : Nat) : Int) < 128) := of_decide_eq_false h76
       refine q_skip (by kernel_rfl) ?_
       refine qg ?_
       refine og 2 [(0, (ptr b)), (3, (Value.int IntKind.u64 ((n + x.toNat % 128 * p7 i : Nat) : Int))), (4, (i64 ((i : Nat) : Int))), (5, (Value.int IntKind.u8 ((x.toNat : Nat) : Int))), (12, (Value.bool true)), (14, (i64 (IntKind.i64.wrap (((i : Nat) : Int) + 1)))), (26, (Value.bool false)), (55, (Value.bool false)), (69, (Value.bool false))] 2 ?_
       have e84 : IntKind.i64.wrap (((i : Nat) : Int) + 1) = ((i + 1 : Nat) : Int) := by rw [wrap_i64 (by omega) (by omega)]; omega
       rw [e84]
       clear e84
       refine og 1 [(0, (ptr b)), (3, (Value.int IntKind.u64 ((n + x.toNat % 128 * p7 i : Nat) : Int))), (4, (i64 ((i + 1 : Nat) : Int))), (5, (Value.int IntKind.u8 ((x.toNat : Nat) : Int))), (12, (Value.bool true)), (26, (Value.bool false)), (55, (Value.bool false)), (69, (Value.bool false))] 3 ?_
       refine Ops.keep (R := [(0, (ptr b)), (3, (Value.int IntKind.u64 ((n + x.toNat % 128 * p7 i : Nat) : Int))), (4, (i64 ((i + 1 : Nat) : Int)))]) (by kernel_rfl) ?_
       refine od ?_
       exact ⟨(i + 1, n + x.toNat % 128 * p7 i), ⟨rfl, ((show scanA (r.bs.drop (r.pos + i)) i n = scanA (r.bs.drop (r.pos + i + 1)) (i + 1) (n + x.toNat % 128 * p7 i) from by rw [hx, scanA_more (by omega) (by omega)]).symm.trans hE), (by omega), (by omega), (hr.2.2 (by omega)), K5, H6⟩, (show 10 - (i + 1) < 10 - i from by omega)⟩
    ·rw [h64]
     have p85 : ¬ (((i : Nat) : Int) > 0) := of_decide_eq_false h64
     refine og 4 [(0, (ptr b)), (3, (Value.int IntKind.u64 ((n : Nat) : Int))), (4, (i64 ((i : Nat) : Int))), (5, (Value.int IntKind.u8 ((x.toNat : Nat) : Int))), (12, (Value.bool true)), (26, (Value.bool false)), (55, (Value.bool false))] 14 ?_
     refine od ?_
     refine q_else (o := .tmp 55) (by kernel_rfl) rfl ?_
     refine q_skip (by kernel_rfl) ?_
     refine qs ?_
     refine qg ?_
     refine og 3 [(0, (ptr b)), (3, (Value.int IntKind.u64 ((n : Nat) : Int))), (4, (i64 ((i : Nat) : Int))), (5, (Value.int IntKind.u8 ((x.toNat : Nat) : Int))), (12, (Value.bool true)), (26, (Value.bool false)), (55, (Value.bool false)), (59, (Value.int IntKind.u64 ((n : Nat) : Int))), (61, (Value.int IntKind.u8 ((((x.toNat : Nat) : Int)).tmod 128)))] 3 ?_
     have e86 : (((x.toNat : Nat) : Int)).tmod 128 = ((x.toNat % 128 : Nat) : Int) := tmod_nat x.toNat 128
     rw [e86]
     clear e86
     refine og 1 [(0, (ptr b)), (3, (Value.int IntKind.u64 ((n : Nat) : Int))), (4, (i64 ((i : Nat) : Int))), (5, (Value.int IntKind.u8 ((x.toNat : Nat) : Int))), (12, (Value.bool true)), (26, (Value.bool false)), (55, (Value.bool false)), (59, (Value.int IntKind.u64 ((n : Nat) : Int))), (62, (Value.int IntKind.u64 (IntKind.u64.wrap (((x.toNat % 128 : Nat) : Int)))))] 4 ?_
     have e87 : IntKind.u64.wrap (((x.toNat % 128 : Nat) : Int)) = ((x.toNat % 128 : Nat) : Int) := wrap_u64 (by omega) (by omega)
     rw [e87]
     refine og 2 [(0, (ptr b)), (3, (Value.int IntKind.u64 ((n : Nat) : Int))), (4, (i64 ((i : Nat) : Int))), (5, (Value.int IntKind.u8 ((x.toNat : Nat) : Int))), (12, (Value.bool true)), (26, (Value.bool false)), (55, (Value.bool false)), (59, (Value.int IntKind.u64 ((n : Nat) : Int))), (62, (Value.int IntKind.u64 ((x.toNat % 128 : Nat) : Int))), (64, (i64 (IntKind.i64.wrap (7 * ((i : Nat) : Int)))))] 6 ?_
     have e88 : IntKind.i64.wrap (7 * ((i : Nat) : Int)) = ((7 * i : Nat) : Int) := by rw [wrap_i64 (by omega) (by omega)]; omega
     rw [e88]
     clear e88
     refine og 1 [(0, (ptr b)), (3, (Value.int IntKind.u64 ((n : Nat) : Int))), (4, (i64 ((i : Nat) : Int))), (5, (Value.int IntKind.u8 ((x.toNat : Nat) : Int))), (12, (Value.bool true)), (26, (Value.bool false)), (55, (Value.bool false)), (59, (Value.int IntKind.u64 ((n : Nat) : Int))), (62, (Value.int IntKind.u64 ((x.toNat % 128 : Nat) : Int))), (65, (Value.int IntKind.u64 (IntKind.u64.wrap (((7 * i : Nat) : Int)))))] 7 ?_
     have e89 : IntKind.u64.wrap (((7 * i : Nat) : Int)) = ((7 * i : Nat) : Int) := wrap_u64 (by omega) (by omega)
     rw [e89]
     have hr := scan_round (c := x) hi hn (by omega)
     refine Ops.go (v := (Value.int IntKind.u64 ((x.toNat % 128 * p7 i : Nat) : Int))) (by kernel_rfl) (Runs.int (op := .shl) (t := 63) (by kernel_rfl) (run_shl7 (k := IntKind.u64) (i := i) (s := ((7 * i : Nat) : Int)) (by omega) (by omega) hr.1)) (d := (some 66)) (by kernel_rfl) rfl ?_
     refine Ops.go (v := (Value.int IntKind.u64 ((n + x.toNat % 128 * p7 i : Nat) : Int))) (by kernel_rfl) (Runs.int (op := .or) (t := 63) (by kernel_rfl) (run_or7 hn hr.2.1)) (d := (some 67)) (by kernel_rfl) rfl ?_
     refine og 1 [(0, (ptr b)), (3, (Value.int IntKind.u64 ((n + x.toNat % 128 * p7 i : Nat) : Int))), (4, (i64 ((i : Nat) : Int))), (5, (Value.int IntKind.u8 ((x.toNat : Nat) : Int))), (12, (Value.bool true)), (26, (Value.bool false)), (55, (Value.bool false))] 10 ?_
     refine od ?_
     refine qs ?_
     refine qg ?_
     refine og 2 [(0, (ptr b)), (3, (Value.int IntKind.u64 ((n + x.toNat % 128 * p7 i : Nat) : Int))), (4, (i64 ((i : Nat) : Int))), (5, (Value.int IntKind.u8 ((x.toNat : Nat) : Int))), (12, (Value.bool true)), (26, (Value.bool false)), (55, (Value.bool false)), (69, (Value.bool (decide (((x.toNat : Nat) : Int) < 128))))] 2 ?_
     refine od ?_
     refine q_cond (o := .tmp 69) (b := (decide (((x.toNat : Nat) : Int) < 128))) (by kernel_rfl) rfl (fun h90 => ?_) (fun h90 => ?_)
     ·rw [h90]
      have p91 : ((x.toNat : Nat) : Int) < 128 := of_decide_eq_true h90
      refine qs ?_
      refine qg ?_
      refine og 4 [(0, (ptr b)), (3, (Value.int IntKind.u64 ((n + x.toNat % 128 * p7 i : Nat) : Int))), (4, (i64 ((i : Nat) : Int))), (5, (Value.int IntKind.u8 ((x.toNat : Nat) : Int))), (12, (Value.bool true)), (26, (Value.bool false)), (55, (Value.bool false)), (69, (Value.bool true)), (70, (ptr b)), (73, (Value.pointer (some ⟨b, 1, none⟩)))] 4 ?_
      refine Ops.go (v := (i64 ((r.pos : Nat) : Int))) (by kernel_rfl) (Runs.load (t := 3) (a := ⟨b, 1, none⟩) (by kernel_rfl) (H6.loads (by kernel_rfl))) (d := (some 74)) (by kernel_rfl) rfl ?_
      refine og 2 [(0, (ptr b)), (3, (Value.int IntKind.u64 ((n + x.toNat % 128 * p7 i : Nat) : Int))), (4, (i64 ((i : Nat) : Int))), (5, (Value.int IntKind.u8 ((x.toNat : Nat) : Int))), (12, (Value.bool true)), (26, (Value.bool false)), (55, (Value.bool false)), (69, (Value.bool true)), (70, (ptr b)), (76, (i64 (IntKind.i64.wrap (((r.pos : Nat) : Int) + ((i : Nat) : Int)))))] 7 ?_
      have e92 : IntKind.i64.wrap (((r.pos : Nat) : Int) + ((i : Nat) : Int)) = ((r.pos + i : Nat) : Int) := by rw [wrap_i64 (by omega) (by omega)]; omega
      rw [e92]
      clear e92
      refine og 1 [(0, (ptr b)), (3, (Value.int IntKind.u64 ((n + x.toNat % 128 * p7 i : Nat) : Int))), (4, (i64 ((i : Nat) : Int))), (5, (Value.int IntKind.u8 ((x.toNat : Nat) : Int))), (12, (Value.bool true)), (26, (Value.bool false)), (55, (Value.bool false)), (69, (Value.bool true)), (70, (ptr b)), (77, (i64 (IntKind.i64.wrap (((r.pos + i : Nat) : Int) + 1))))] 8 ?_
      have e93 : IntKind.i64.wrap (((r.pos + i : Nat) : Int) + 1) = (((r.pos + i) + 1 : Nat) : Int) := by rw [wrap_i64 (by omega) (by omega)]; omega
      rw [e93]
      clear e93
      refine og 2 [(0, (ptr b)), (3, (Value.int IntKind.u64 ((n + x.toNat % 128 * p7 i : Nat) : Int))), (4, (i64 ((i : Nat) : Int))), (5, (Value.int IntKind.u8 ((x.toNat : Nat) : Int))), (12, (Value.bool true)), (26, (Value.bool false)), (55, (Value.bool false)), (69, (Value.bool true)), (77, (i64 (((r.pos + i) + 1 : Nat) : Int))), (79, (Value.pointer (some ⟨b, 1, none⟩)))] 10 ?_
      refine Ops.put (t := 3) (b := b) (off := 1) (v := (i64 (((r.pos + i) + 1 : Nat) : Int))) (ys := [(Value.slice A r.bs.length c), (i64 (((r.pos + i) + 1 : Nat) : Int)), (i64 r.why)]) (by kernel_rfl) (by kernel_rfl) H6 (by kernel_rfl) (d := none) (by kernel_rfl) rfl (fun w94 H95 K96 => ?_)
      clear H6
      replace K5 := K5.trans K96 (U := (fun i => i = b)) (fun i h1 h2 => h2) (fun i h1 h2 => by have h2 : i = b := h2; show i = b; omega)
      clear K96
      refine od ?_
      refine qs ?_
      refine qg ?_
      refine og 2 [(0, (ptr b)), (2, (Value.int IntKind.u64 ((n + x.toNat % 128 * p7 i : Nat) : Int))), (3, (Value.int IntKind.u64 ((n + x.toNat % 128 * p7 i : Nat) : Int))), (4, (i64 ((i : Nat) : Int))), (5, (Value.int IntKind.u8 ((x.toNat : Nat) : Int))), (12, (Value.bool true)), (26, (Value.bool false)), (55, (Value.bool false)), (69, (Value.bool true))] 2 ?_
      refine od ?_
      refine q_ret (by kernel_rfl) ?_
      refine ⟨(Value.int IntKind.u64 ((n + x.toNat % 128 * p7 i : Nat) : Int)), retv_tmp rfl rfl, ?_⟩
      have es : scanB (r.bs.drop r.pos) = (n + x.toNat % 128 * p7 i, i + 1, 0) := by rw [← hE, hx]; exact scanA_end (by omega) (by omega)
      have e := uint_good (by omega) es
      exact ⟨by first | (rw [e]; done) | (rw [e]; rfl), K5, by rw [e]; exact H95⟩
     ·rw [h90]
      have p97 : ¬ (((x.toNat : Nat) : Int) < 128) := of_decide_eq_false h90
      refine q_skip (by kernel_rfl) ?_
      refine qg ?_
      refine og 2 [(0, (ptr b)), (3, (Value.int IntKind.u64 ((n + x.toNat % 128 * p7 i : Nat) : Int))), (4, (i64 ((i : Nat) : Int))), (5, (Value.int IntKind.u8 ((x.toNat : Nat) : Int))), (12, (Value.bool true)), (14, (i64 (IntKind.i64.wrap (((i : Nat) : Int) + 1)))), (26, (Value.bool false)), (55, (Value.bool false)), (69, (Value.bool false))] 2 ?_
      have e98 : IntKind.i64.wrap (((i : Nat) : Int) + 1) = ((i + 1 : Nat) : Int) := by rw [wrap_i64 (by omega) (by omega)]; omega
      rw [e98]
      clear e98
      refine og 1 [(0, (ptr b)), (3, (Value.int IntKind.u64 ((n + x.toNat % 128 * p7 i : Nat) : Int))), (4, (i64 ((i + 1 : Nat) : Int))), (5, (Value.int IntKind.u8 ((x.toNat : Nat) : Int))), (12, (Value.bool true)), (26, (Value.bool false)), (55, (Value.bool false)), (69, (Value.bool false))] 3 ?_
      refine Ops.keep (R := [(0, (ptr b)), (3, (Value.int IntKind.u64 ((n + x.toNat % 128 * p7 i : Nat) : Int))), (4, (i64 ((i + 1 : Nat) : Int)))]) (by kernel_rfl) ?_
      refine od ?_
      exact ⟨(i + 1, n + x.toNat % 128 * p7 i), ⟨rfl, ((show scanA (r.bs.drop (r.pos + i)) i n = scanA (r.bs.drop (r.pos + i + 1)) (i + 1) (n + x.toNat % 128 * p7 i) from by rw [hx, scanA_more (by omega) (by omega)]).symm.trans hE), (by omega), (by omega), (hr.2.2 (by omega)), K5, H6⟩, (show 10 - (i + 1) < 10 - i from by omega)⟩

theorem RRInt_calls (w : World) (b : Nat) (A : Option Addr) (c : Nat) (r : Rdr) (hok : r.Ok) (H0 : Has w b (rowL (rdrL A c r) 95)) (hR : RdO w A c r.bs) (hne : ∀ g o s, A = some ⟨g, o, s⟩ → g ≠ b) : Calls Tryz.prog 67 ⟨[(ptr b)]⟩ w (fun e w' => e = .returned (i64 r.int.1) ∧ Keeps (fun i => i = b) w w' ∧ Has w' b (rowL (rdrL A c r.int.2) 95)) := by
 have hpos := hok.pos
 have hlen := hok.len
 have hsc := r.scan_le
 have hdl : (r.bs.drop r.pos).length = r.bs.length - r.pos := List.length_drop
 have hcap := hR.1.slice
 have Hb := H0.lt
 have K0 : Keeps (fun i => i = b) w w := (Keeps.refl w).mono (fun _ _ h => h.elim)
 refine q_calls Tryz.func67 (by kernel_rfl) (by kernel_rfl) ?_
 refine qs ?_
 refine qg ?_
 refine og 1 [(0, (ptr b)), (2, (i64 0))] 1 ?_
 refine od ?_
 refine qs ?_
 refine qg ?_
 refine og 1 [(2, (i64 0)), (4, (ptr b))] 1 ?_
 refine Ops.call (by kernel_rfl) (d := (some 5)) (by kernel_rfl) (RRUint_calls _ b A c r hok H0 hR hne) ?_
 rintro _ w1 ⟨rfl, K2, H3⟩
 have hok4 := Rdr.Ok.uint hok
 have hu5 := Rdr.uint_lt r
 refine ⟨_, _, rfl, rfl, ?_⟩
 replace K0 := K0.trans K2 (U := (fun i => i = b)) (fun i h1 h2 => h2) (fun i h1 h2 => by have h2 : i = b := h2; show i = b; omega)
 replace hR := RdO.keep hR K2 (fun i _ _ hi hs => by have hs : i = b := hs; have := hne i _ _ hi; omega)
 clear K2
 have F6 : RdO w1 A c (r.uint.2).bs := by rw [Rdr.uint_bs]; exact hR
 clear hR
 refine og 1 [(2, (i64 0)), (3, (Value.int IntKind.u64 ((r.uint.1 : Nat) : Int)))] 3 ?_
 refine od ?_
 refine qs ?_
 refine qs ?_
 refine qg ?_
 refine og 2 [(2, (i64 0)), (3, (Value.int IntKind.u64 ((r.uint.1 : Nat) : Int))), (7, (Value.int IntKind.u64 ((((r.uint.1 : Nat) : Int)).tmod 2)))] 2 ?_
 have e7 : (((r.uint.1 : Nat) : Int)).tmod 2 = ((r.uint.1 % 2 : Nat) : Int) := tmod_nat r.uint.1 2
 rw [e7]
 clear e7
 refine og 1 [(2, (i64 0)), (3, (Value.int IntKind.u64 ((r.uint.1 : Nat) : Int))), (8, (Value.bool (((r.uint.1 % 2 : Nat) : Int) == 1)))] 3 ?_
 refine od ?_
 refine q_cond (o := .tmp 8) (b := (((r.uint.1 % 2 : Nat) : Int) == 1)) (by kernel_rfl) rfl (fun h8 => ?_) (fun h8 => ?_)
 ·rw [h8]
  have p9 : ((r.uint.1 % 2 : Nat) : Int) = 1 := of_beq_t h8
  refine qs ?_
  refine qg ?_
  refine og 2 [(2, (i64 0)), (3, (Value.int IntKind.u64 ((r.uint.1 : Nat) : Int))), (10, (Value.int IntKind.u64 (IntKind.u64.wrap ((((r.uint.1 : Nat) : Int)).tdiv 2))))] 2 ?_
  have e10 : IntKind.u64.wrap ((((r.uint.1 : Nat) : Int)).tdiv 2) = ((r.uint.1 / 2 : Nat) : Int) := (congrArg (IntKind.u64.wrap ·) (tdiv_nat r.uint.1 2)).trans (wrap_u64 (by omega) (by omega))
  rw [e10]
  clear e10
  refine og 1 [(2, (i64 0)), (3, (Value.int IntKind.u64 ((r.uint.1 : Nat) : Int))), (11, (i64 (IntKind.i64.wrap (((r.uint.1 / 2 : Nat) : Int)))))] 3 ?_
  have e11 : IntKind.i64.wrap (((r.uint.1 / 2 : Nat) : Int)) = ((r.uint.1 / 2 : Nat) : Int) := wrap_i64 (by omega) (by omega)
  rw [e11]
  refine og 1 [(2, (i64 0)), (3, (Value.int IntKind.u64 ((r.uint.1 : Nat) : Int))), (12, (i64 (IntKind.i64.wrap (0 - ((r.uint.1 / 2 : Nat) : Int)))))] 4 ?_
  have e12 : IntKind.i64.wrap (0 - ((r.uint.1 / 2 : Nat) : Int)) = 0 - ((r.uint.1 / 2 : Nat) : Int) := wrap_i64 (by omega) (by omega)
  rw [e12]
  refine og 1 [(2, (i64 0)), (3, (Value.int IntKind.u64 ((r.uint.1 : Nat) : Int))), (13, (i64 (IntKind.i64.wrap ((0 - ((r.uint.1 / 2 : Nat) : Int)) - 1))))] 5 ?_
  have e13 : IntKind.i64.wrap ((0 - ((r.uint.1 / 2 : Nat) : Int)) - 1) = (0 - ((r.uint.1 / 2 : Nat) : Int)) - 1 := wrap_i64 (by omega) (by omega)
  rw [e13]
  refine og 1 [(2, (i64 ((0 - ((r.uint.1 / 2 : Nat) : Int)) - 1))), (3, (Value.int IntKind.u64 ((r.uint.1 : Nat) : Int)))] 6 ?_
  refine od ?_
  refine q_ret (by kernel_rfl) ?_
  refine ⟨(i64 ((0 - ((r.uint.1 / 2 : Nat) : Int)) - 1)), retv_tmp rfl rfl, ?_⟩
  have e : r.int.1 = (0 - ((r.uint.1 / 2 : Nat) : Int)) - 1 := by first | exact unzz_odd (by omega) | exact unzz_even (by omega)
  exact ⟨by rw [e], K0, H3⟩
 ·rw [h8]
  have p14 : ¬ (((r.uint.1 % 2 : Nat) : Int) = 1) := of_beq_f h8
  refine q_skip (by kernel_rfl) ?_
  refine qs ?_
  refine qg ?_
  refine og 2 [(2, (i64 0)), (15, (Value.int IntKind.u64 (IntKind.u64.wrap ((((r.uint.1 : Nat) : Int)).tdiv 2))))] 2 ?_
  have e15 : IntKind.u64.wrap ((((r.uint.1 : Nat) : Int)).tdiv 2) = ((r.uint.1 / 2 : Nat) : Int) := (congrArg (IntKind.u64.wrap ·) (tdiv_nat r.uint.1 2)).trans (wrap_u64 (by omega) (by omega))
  rw [e15]
  clear e15
  refine og 1 [(2, (i64 0)), (16, (i64 (IntKind.i64.wrap (((r.uint.1 / 2 : Nat) : Int)))))] 3 ?_
  have e16 : IntKind.i64.wrap (((r.uint.1 / 2 : Nat) : Int)) = ((r.uint.1 / 2 : Nat) : Int) := wrap_i64 (by omega) (by omega)
  rw [e16]
  refine og 1 [(2, (i64 ((r.uint.1 / 2 : Nat) : Int)))] 4 ?_
  refine od ?_
  refine q_ret (by kernel_rfl) ?_
  refine ⟨(i64 ((r.uint.1 / 2 : Nat) : Int)), retv_tmp rfl rfl, ?_⟩
  have e : r.int.1 = ((r.uint.1 / 2 : Nat) : Int) := by first | exact unzz_odd (by omega) | exact unzz_even (by omega)
  exact ⟨by rw [e], K0, H3⟩

theorem RREnd_calls (w : World) (b : Nat) (A : Option Addr) (c : Nat) (r : Rdr) (hok : r.Ok) (H0 : Has w b (rowL (rdrL A c r) 95)) (hR : RdO w A c r.bs) (hne : ∀ g o s, A = some ⟨g, o, s⟩ → g ≠ b) : Calls Tryz.prog 27 ⟨[(ptr b)]⟩ w (fun e w' => e = .returned (i64 r.end_) ∧ Keeps none_ w w') := by
 have hpos := hok.pos
 have hlen := hok.len
 have hsc := r.scan_le
 have hdl : (r.bs.drop r.pos).length = r.bs.length - r.pos := List.length_drop
 have hcap := hR.1.slice
 have Hb := H0.lt
 have K0 : Keeps none_ w w := Keeps.refl w
 refine q_calls Tryz.func27 (by kernel_rfl) (by kernel_rfl) ?_
 refine qs ?_
 refine qg ?_
 refine og 1 [(0, (ptr b)), (2, (i64 0))] 1 ?_
 refine od ?_
 refine qs ?_
 refine qs ?_
 refine q_draw (fun wz => Keeps none_ w wz) 17 (by kernel_rfl) (by kernel_rfl) (by kernel_rfl) (fun w1 K2 _ _ => ⟨K2, ?_⟩)
 replace K0 := K0.t0 K2
 replace H0 := H0.keep K2 (fun h => h)
 replace hR := RdO.keep0 hR K2
 refine Dr.strong (S' := (fun wz => Keeps none_ w1 wz)) (Keeps.refl w1) (fun wz hx => K2.trans hx (fun i _ h => h) (fun _ _ h => h)) ?_
 clear K2
 refine Dr.takes (fuel' := 14) (is' := [2, 1, 0]) [0, 1, 2] [(0, (ptr b)), (2, (i64 0)), (5, (Value.pointer (some ⟨b, 2, none⟩)))] (by kernel_rfl) rfl (by kernel_rfl) ?_
 refine Dr.take (i := 3) (v := (i64 r.why)) (by kernel_rfl) (by kernel_rfl) (fun wz hS => Runs.load (t := 25) (a := ⟨b, 2, none⟩) (by kernel_rfl) ((H0.keep hS (fun h => h)).loads (by kernel_rfl))) (d := (some 6)) (by kernel_rfl) rfl ?_
 refine Dr.takes (fuel' := 11) (is' := [5, 4, 3, 2, 1, 0]) [4, 5] [(0, (ptr b)), (2, (i64 0)), (8, (Value.bool (r.why == 0)))] (by kernel_rfl) rfl (by kernel_rfl) ?_
 refine Dr.split (r.why == 0) (fun h3 => ?_) (fun h3 => ?_)
 ·rw [h3]
  have p4 : r.why = 0 := of_beq_t h3
  refine Dr.takes (fuel' := 8) (is' := [8, 7, 6, 5, 4, 3, 2, 1, 0]) [6, 7, 8] [(0, (ptr b)), (2, (i64 0)), (8, (Value.bool true)), (11, (Value.pointer (some ⟨b, 1, none⟩)))] (by kernel_rfl) rfl (by kernel_rfl) ?_
  refine Dr.take (i := 9) (v := (i64 ((r.pos : Nat) : Int))) (by kernel_rfl) (by kernel_rfl) (fun wz hS => Runs.load (t := 3) (a := ⟨b, 1, none⟩) (by kernel_rfl) ((H0.keep hS (fun h => h)).loads (by kernel_rfl))) (d := (some 12)) (by kernel_rfl) rfl ?_
  refine Dr.takes (fuel' := 4) (is' := [12, 11, 10, 9, 8, 7, 6, 5, 4, 3, 2, 1, 0]) [10, 11, 12] [(0, (ptr b)), (2, (i64 0)), (8, (Value.bool true)), (12, (i64 ((r.pos : Nat) : Int))), (15, (ptr b))] (by kernel_rfl) rfl (by kernel_rfl) ?_
  refine Dr.take (i := 13) (v := (Value.slice A r.bs.length c)) (by kernel_rfl) (by kernel_rfl) (fun wz hS => Runs.load (t := 22) (a := ⟨b, 0, none⟩) (by kernel_rfl) ((H0.keep hS (fun h => h)).loads (by kernel_rfl))) (d := (some 16)) (by kernel_rfl) rfl ?_
  refine Dr.takes (fuel' := 0) (is' := [16, 15, 14, 13, 12, 11, 10, 9, 8, 7, 6, 5, 4, 3, 2, 1, 0]) [14, 15, 16] [(0, (ptr b)), (2, (i64 0)), (19, (Value.bool (decide (((r.pos : Nat) : Int) < ((r.bs.length : Nat) : Int)))))] (by kernel_rfl) rfl (by kernel_rfl) ?_
  refine Dr.done (by kernel_rfl) ?_
  refine q_cond (o := .tmp 19) (b := (decide (((r.pos : Nat) : Int) < ((r.bs.length : Nat) : Int)))) (by kernel_rfl) rfl (fun h5 => ?_) (fun h5 => ?_)
  ·rw [h5]
   have p6 : ((r.pos : Nat) : Int) < ((r.bs.length : Nat) : Int) := of_decide_eq_true h5
   refine qs ?_
   refine qg ?_
   refine og 1 [(0, (ptr b)), (2, (i64 11))] 1 ?_
   refine od ?_
   refine q_ret (by kernel_rfl) ?_
   refine ⟨(i64 11), retv_tmp rfl rfl, ?_⟩
   have e : r.end_ = 11 := by unfold Rdr.end_; (split <;> first | (exfalso; omega) | rfl | omega)
   exact ⟨by rw [e], K0⟩
  ·rw [h5]
   have p7 : ¬ (((r.pos : Nat) : Int) < ((r.bs.length : Nat) : Int)) := of_decide_eq_false h5
   refine q_skip (by kernel_rfl) ?_
   refine qs ?_
   refine qg ?_
   refine og 3 [(2, (i64 0)), (22, (Value.pointer (some ⟨b, 2, none⟩)))] 3 ?_
   refine Ops.go (v := (i64 r.why)) (by kernel_rfl) (Runs.load (t := 25) (a := ⟨b, 2, none⟩) (by kernel_rfl) (H0.loads (by kernel_rfl))) (d := (some 23)) (by kernel_rfl) rfl ?_
   refine og 1 [(2, (i64 r.why))] 5 ?_
   refine od ?_
   refine q_ret (by kernel_rfl) ?_
   refine ⟨(i64 r.why), retv_tmp rfl rfl, ?_⟩
   have e : r.end_ = r.why := by unfold Rdr.end_; (split <;> first | (exfalso; omega) | rfl | omega)
   exact ⟨by rw [e], K0⟩
 ·rw [h3]
  have p8 : ¬ (r.why = 0) := of_beq_f h3
  refine Dr.takes (fuel' := 0) (is' := [16, 15, 14, 13, 12, 11, 10, 9, 8, 7, 6, 5, 4, 3, 2, 1, 0]) [6, 7, 8, 9, 10, 11, 12, 13, 14, 15, 16] [(0, (ptr b)), (2, (i64 0)), (19, (Value.bool false))] (by kernel_rfl) rfl (by kernel_rfl) ?_
  refine Dr.done (by kernel_rfl) ?_
  refine q_else (o := .tmp 19) (by kernel_rfl) rfl ?_
  refine q_skip (by kernel_rfl) ?_
  refine qs ?_
  refine qg ?_
  refine og 3 [(2, (i64 0)), (22, (Value.pointer (some ⟨b, 2, none⟩)))] 3 ?_
  refine Ops.go (v := (i64 r.why)) (by kernel_rfl) (Runs.load (t := 25) (a := ⟨b, 2, none⟩) (by kernel_rfl) (H0.loads (by kernel_rfl))) (d := (some 23)) (by kernel_rfl) rfl ?_
  refine og 1 [(2, (i64 r.why))] 5 ?_
  refine od ?_
  refine q_ret (by kernel_rfl) ?_
  refine ⟨(i64 r.why), retv_tmp rfl rfl, ?_⟩
  have e : r.end_ = r.why := by unfold Rdr.end_; (split <;> first | (exfalso; omega) | rfl | omega)
  exact ⟨by rw [e], K0⟩

theorem Of_calls (w : World) (v : Value) (bs : List UInt8) (hv : RdB w v bs) (hl : bs.length ≤ 140737488351232) : Calls Tryz.prog 25 ⟨[v]⟩ w (fun e w' => ∃ b A c, e = .returned (.pointer (some ⟨b, 0, none⟩)) ∧ w.heap.size ≤ b ∧ Keeps none_ w w' ∧ Has w' b (rowL (rdrL A c ⟨bs, 0, 0⟩) 95) ∧ RdO w' A c bs ∧ (∀ g o s, A = some ⟨g, o, s⟩ → g ≠ b) ∧ (∀ g o s, A = some ⟨g, o, s⟩ → w.heap.size ≤ g)) := by
 have K0 : Keeps none_ w w := Keeps.refl w
 refine q_calls Tryz.func25 (by kernel_rfl) (by kernel_rfl) ?_
 refine qs ?_
 refine qg ?_
 refine og 1 [(0, v), (2, (Value.pointer none))] 1 ?_
 refine od ?_
 refine qs ?_
 refine qg ?_
 refine og 1 [(0, v), (2, (Value.pointer none)), (4, (agg [(Value.slice none 0 0), (i64 0), (i64 0)]))] 1 ?_
 refine Ops.new (o := rowL [(Value.slice none 0 0), (i64 0), (i64 0)] 95) (V := fun b => (ptr b)) (by kernel_rfl) (d := (some 5)) (by kernel_rfl) (fun b => rfl) (fun b1 w2 hb3 H4 K5 hs6 => ?_)
 have nb1 : w.heap.size ≤ b1 := by have := K0.size; omega
 replace K0 := K0.t0 K5
 clear K5 hs6
 refine og 1 [(0, v), (2, (Value.pointer none)), (3, (ptr b1))] 3 ?_
 refine od ?_
 refine qs ?_
 refine qg ?_
 refine og 4 [(0, v), (2, (Value.pointer none)), (3, (ptr b1)), (6, (ptr b1)), (9, (ptr b1))] 4 ?_
 refine Ops.go (v := (Value.slice none 0 0)) (by kernel_rfl) (Runs.load (t := 22) (a := ⟨b1, 0, none⟩) (by kernel_rfl) (H4.loads (by kernel_rfl))) (d := (some 10)) (by kernel_rfl) rfl ?_
 refine og 1 [(2, (Value.pointer none)), (3, (ptr b1)), (6, (ptr b1)), (10, (Value.slice none 0 0)), (11, v)] 6 ?_
 obtain ⟨v7, w8, hr9, hO10, hK11⟩ := OwnB.app (ty := 22) (base := w2.heap.size) tyB (show OwnB w2 w2.heap.size 5 (.slice none 0 0) [] from World.ownsRow_nil _ _ _ _) (hv.keep0 (by omega) K0) (by simp only [List.length_nil]; omega) (Nat.le_refl _)
 have hO12 : OwnB w8 _ 5 v7 bs := hO10
 obtain ⟨A13, c14, rfl, hrd15, hge16⟩ := OwnB.rdo hO12
 have K17 := Keeps.new hK11
 have hszK17 := K0.size
 have ob18 : ∀ i o s, A13 = some ⟨i, o, s⟩ → i ≠ b1 := fun i o s hi => by have := hge16 i o s hi; have := H4.lt; omega
 refine Ops.go (v := (Value.slice A13 bs.length c14)) (by kernel_rfl) (Runs.append (ts := #[22, 22]) (ty := 22) (vs := [(Value.slice none 0 0), v]) (by kernel_rfl) hr9) (d := (some 12)) (by kernel_rfl) rfl ?_
 replace K0 := K0.t0 K17
 replace H4 := H4.keep K17 (fun h => h)
 clear K17 hr9 hK11 hO10 hO12
 refine og 2 [(2, (Value.pointer none)), (3, (ptr b1)), (12, (Value.slice A13 bs.length c14)), (14, (ptr b1))] 9 ?_
 refine Ops.put (t := 22) (b := b1) (off := 0) (v := (Value.slice A13 bs.length c14)) (ys := [(Value.slice A13 bs.length c14), (i64 0), (i64 0)]) (by kernel_rfl) (by kernel_rfl) H4 (by kernel_rfl) (d := none) (by kernel_rfl) rfl (fun w19 H20 K21 => ?_)
 clear H4
 replace K0 := K0.trans K21 (U := none_) (fun i h1 h2 => h2) (fun i h1 h2 => by have h2 : i = b1 := h2; exfalso; omega)
 replace hrd15 := RdO.keep hrd15 K21 (fun i _ _ hi hs => by have hs : i = b1 := hs; have := ob18 i _ _ hi; omega)
 clear K21
 refine od ?_
 refine qs ?_
 refine qg ?_
 refine og 2 [(2, (ptr b1))] 2 ?_
 refine od ?_
 refine q_ret (by kernel_rfl) ?_
 refine ⟨(ptr b1), retv_tmp rfl rfl, ?_⟩
 exact ⟨b1, A13, c14, rfl, nb1, K0, H20, hrd15, ob18, fun g o s hi => by have := hge16 g o s hi; omega⟩

theorem RRCount_calls (w : World) (b : Nat) (A : Option Addr) (c : Nat) (r : Rdr) (hok : r.Ok) (H0 : Has w b (rowL (rdrL A c r) 95)) (hR : RdO w A c r.bs) (hne : ∀ g o s, A = some ⟨g, o, s⟩ → g ≠ b) (most : Int) (hm : -9223372036854775808 ≤ most ∧ most ≤ 9223372036854775807) : Calls Tryz.prog 65 ⟨[(ptr b), (i64 most)]⟩ w (fun e w' => e = .returned (i64 (((r.sized most).1 : Nat) : Int)) ∧ Keeps (fun i => i = b) w w' ∧ Has w' b (rowL (rdrL A c (r.sized most).2) 95)) := by
 have hpos := hok.pos
 have hlen := hok.len
 have hsc := r.scan_le
 have hdl : (r.bs.drop r.pos).length = r.bs.length - r.pos := List.length_drop
 have hcap := hR.1.slice
 have Hb := H0.lt
 have K0 : Keeps (fun i => i = b) w w := (Keeps.refl w).mono (fun _ _ h => h.elim)
 have hub := r.uint_bs
 have hubl := congrArg List.length hub
 have hul := r.uint_lt
 have hw0 : r.why ≠ 0 → r.uint.1 = 0 ∧ r.uint.2.pos = r.pos ∧ r.uint.2.why = r.why := fun h => by rw [Rdr.uint_err h]; exact ⟨rfl, rfl, rfl⟩
 have hup := hok.uint.pos
 refine q_calls Tryz.func65 (by kernel_rfl) (by kernel_rfl) ?_
 refine qs ?_
 refine qg ?_
 refine og 1 [(0, (ptr b)), (1, (i64 most)), (4, (i64 0))] 1 ?_
 refine od ?_
 refine qs ?_
 refine qg ?_
 refine og 3 [(0, (ptr b)), (1, (i64 most)), (4, (i64 0)), (9, (Value.pointer (some ⟨b, 1, none⟩)))] 3 ?_
 refine Ops.go (v := (i64 ((r.pos : Nat) : Int))) (by kernel_rfl) (Runs.load (t := 3) (a := ⟨b, 1, none⟩) (by kernel_rfl) (H0.loads (by kernel_rfl))) (d := (some 10)) (by kernel_rfl) rfl ?_
 refine og 1 [(0, (ptr b)), (1, (i64 most)), (4, (i64 0)), (5, (i64 ((r.pos : Nat) : Int)))] 5 ?_
 refine od ?_
 refine qs ?_
 refine qg ?_
 refine og 1 [(0, (ptr b)), (1, (i64 most)), (4, (i64 0)), (5, (i64 ((r.pos : Nat) : Int))), (11, (ptr b))] 1 ?_
 refine Ops.call (by kernel_rfl) (d := (some 12)) (by kernel_rfl) (RRUint_calls _ b A c r hok H0 hR hne) ?_
 rintro _ w1 ⟨rfl, K2, H3⟩
 have hok4 := Rdr.Ok.uint hok
 have hu5 := Rdr.uint_lt r
 refine ⟨_, _, rfl, rfl, ?_⟩
 replace K0 := K0.trans K2 (U := (fun i => i = b)) (fun i h1 h2 => h2) (fun i h1 h2 => by have h2 : i = b := h2; show i = b; omega)
 replace hR := RdO.keep hR K2 (fun i _ _ hi hs => by have hs : i = b := hs; have := hne i _ _ hi; omega)
 clear K2
 have F6 : RdO w1 A c (r.uint.2).bs := by rw [Rdr.uint_bs]; exact hR
 clear hR
 refine og 1 [(0, (ptr b)), (1, (i64 most)), (4, (i64 0)), (5, (i64 ((r.pos : Nat) : Int))), (6, (Value.int IntKind.u64 ((r.uint.1 : Nat) : Int)))] 3 ?_
 refine od ?_
 refine qs ?_
 refine qs ?_
 refine qg ?_
 refine og 3 [(0, (ptr b)), (1, (i64 most)), (4, (i64 0)), (5, (i64 ((r.pos : Nat) : Int))), (6, (Value.int IntKind.u64 ((r.uint.1 : Nat) : Int))), (15, (Value.pointer (some ⟨b, 2, none⟩)))] 3 ?_
 refine Ops.go (v := (i64 r.uint.2.why)) (by kernel_rfl) (Runs.load (t := 25) (a := ⟨b, 2, none⟩) (by kernel_rfl) (H3.loads (by kernel_rfl))) (d := (some 16)) (by kernel_rfl) rfl ?_
 refine og 2 [(0, (ptr b)), (1, (i64 most)), (4, (i64 0)), (5, (i64 ((r.pos : Nat) : Int))), (6, (Value.int IntKind.u64 ((r.uint.1 : Nat) : Int))), (18, (Value.bool (r.uint.2.why == 0)))] 6 ?_
 refine Ops.split (r.uint.2.why == 0) (fun h7 => ?_) (fun h7 => ?_)
 ·rw [h7]
  have p8 : r.uint.2.why = 0 := of_beq_t h7
  refine og 3 [(0, (ptr b)), (1, (i64 most)), (4, (i64 0)), (5, (i64 ((r.pos : Nat) : Int))), (6, (Value.int IntKind.u64 ((r.uint.1 : Nat) : Int))), (18, (Value.bool true)), (21, (Value.bool (decide (most < 0))))] 9 ?_
  refine Ops.split (decide (most < 0)) (fun h9 => ?_) (fun h9 => ?_)
  ·rw [h9]
   have p10 : most < 0 := of_decide_eq_true h9
   refine og 6 [(0, (ptr b)), (4, (i64 0)), (5, (i64 ((r.pos : Nat) : Int))), (6, (Value.int IntKind.u64 ((r.uint.1 : Nat) : Int))), (27, (Value.bool true))] 15 ?_
   refine od ?_
   refine q_then (o := .tmp 27) (by kernel_rfl) rfl ?_
   refine qg ?_
   refine og 3 [(0, (ptr b)), (4, (i64 0)), (5, (i64 ((r.pos : Nat) : Int))), (6, (Value.int IntKind.u64 ((r.uint.1 : Nat) : Int))), (30, (Value.pointer (some ⟨b, 2, none⟩)))] 3 ?_
   refine Ops.put (t := 25) (b := b) (off := 2) (v := (i64 3)) (ys := [(Value.slice A r.uint.2.bs.length c), (i64 ((r.uint.2.pos : Nat) : Int)), (i64 3)]) (by kernel_rfl) (by kernel_rfl) H3 (by kernel_rfl) (d := none) (by kernel_rfl) rfl (fun w11 H12 K13 => ?_)
   clear H3
   replace K0 := K0.trans K13 (U := (fun i => i = b)) (fun i h1 h2 => h2) (fun i h1 h2 => by have h2 : i = b := h2; show i = b; omega)
   replace F6 := RdO.keep F6 K13 (fun i _ _ hi hs => by have hs : i = b := hs; have := hne i _ _ hi; omega)
   clear K13
   refine od ?_
   refine qs ?_
   refine qs ?_
   refine q_draw (fun wz => Keeps none_ w11 wz) 20 (by kernel_rfl) (by kernel_rfl) (by kernel_rfl) (fun w14 K15 _ _ => ⟨K15, ?_⟩)
   replace K0 := K0.trans K15 (U := (fun i => i = b)) (fun i h1 h2 => h2) (fun i h1 h2 => by exact h2.elim)
   replace H12 := H12.keep K15 (fun h => h)
   replace F6 := RdO.keep0 F6 K15
   refine Dr.strong (S' := (fun wz => Keeps none_ w14 wz)) (Keeps.refl w14) (fun wz hx => K15.trans hx (fun i _ h => h) (fun _ _ h => h)) ?_
   clear K15
   refine Dr.takes (fuel' := 17) (is' := [2, 1, 0]) [0, 1, 2] [(0, (ptr b)), (4, (i64 0)), (5, (i64 ((r.pos : Nat) : Int))), (6, (Value.int IntKind.u64 ((r.uint.1 : Nat) : Int))), (33, (Value.pointer (some ⟨b, 2, none⟩)))] (by kernel_rfl) rfl (by kernel_rfl) ?_
   refine Dr.take (i := 3) (v := (i64 3)) (by kernel_rfl) (by kernel_rfl) (fun wz hS => Runs.load (t := 25) (a := ⟨b, 2, none⟩) (by kernel_rfl) ((H12.keep hS (fun h => h)).loads (by kernel_rfl))) (d := (some 34)) (by kernel_rfl) rfl ?_
   refine Dr.takes (fuel' := 0) (is' := [19, 18, 17, 16, 15, 14, 13, 12, 11, 10, 9, 8, 7, 6, 5, 4, 3, 2, 1, 0]) [4, 5, 6, 7, 8, 9, 10, 11, 12, 13, 14, 15, 16, 17, 18, 19] [(0, (ptr b)), (4, (i64 0)), (5, (i64 ((r.pos : Nat) : Int))), (6, (Value.int IntKind.u64 ((r.uint.1 : Nat) : Int))), (50, (Value.bool false))] (by kernel_rfl) rfl (by kernel_rfl) ?_
   refine Dr.done (by kernel_rfl) ?_
   refine q_else (o := .tmp 50) (by kernel_rfl) rfl ?_
   refine q_skip (by kernel_rfl) ?_
   refine qs ?_
   refine qs ?_
   refine qg ?_
   refine og 3 [(0, (ptr b)), (4, (i64 0)), (5, (i64 ((r.pos : Nat) : Int))), (6, (Value.int IntKind.u64 ((r.uint.1 : Nat) : Int))), (56, (Value.pointer (some ⟨b, 2, none⟩)))] 3 ?_
   refine Ops.go (v := (i64 3)) (by kernel_rfl) (Runs.load (t := 25) (a := ⟨b, 2, none⟩) (by kernel_rfl) (H12.loads (by kernel_rfl))) (d := (some 57)) (by kernel_rfl) rfl ?_
   refine og 1 [(0, (ptr b)), (4, (i64 0)), (5, (i64 ((r.pos : Nat) : Int))), (6, (Value.int IntKind.u64 ((r.uint.1 : Nat) : Int))), (58, (Value.bool true))] 5 ?_
   refine od ?_
   refine q_then (o := .tmp 58) (by kernel_rfl) rfl ?_
   refine qs ?_
   refine qg ?_
   refine og 4 [(4, (i64 0)), (6, (Value.int IntKind.u64 ((r.uint.1 : Nat) : Int))), (60, (i64 ((r.pos : Nat) : Int))), (62, (Value.pointer (some ⟨b, 1, none⟩)))] 4 ?_
   refine Ops.put (t := 3) (b := b) (off := 1) (v := (i64 ((r.pos : Nat) : Int))) (ys := [(Value.slice A r.uint.2.bs.length c), (i64 ((r.pos : Nat) : Int)), (i64 3)]) (by kernel_rfl) (by kernel_rfl) H12 (by kernel_rfl) (d := none) (by kernel_rfl) rfl (fun w16 H17 K18 => ?_)
   clear H12
   replace K0 := K0.trans K18 (U := (fun i => i = b)) (fun i h1 h2 => h2) (fun i h1 h2 => by have h2 : i = b := h2; show i = b; omega)
   replace F6 := RdO.keep F6 K18 (fun i _ _ hi hs => by have hs : i = b := hs; have := hne i _ _ hi; omega)
   clear K18
   refine od ?_
   refine qs ?_
   refine qg ?_
   refine og 1 [(4, (i64 0)), (6, (Value.int IntKind.u64 ((r.uint.1 : Nat) : Int)))] 1 ?_
   refine od ?_
   refine q_ret (by kernel_rfl) ?_
   refine ⟨(i64 0), retv_tmp rfl rfl, ?_⟩
   have e : r.sized most = (0, (⟨r.uint.2.bs, r.pos, 3⟩ : Rdr)) := by by_cases hr0 : r.why = 0; (unfold Rdr.sized; (repeat' split) <;> first | (exfalso; omega) | rfl | (simp only [Rdr.uint_bs]; done) | (rw [Rdr.uint_bs]; done)); (have hr1 := hw0 hr0; rw [Rdr.sized_err hr0]; first | (exfalso; omega) | (rw [Rdr.uint_bs, hr1.2.2]; done))
   exact ⟨by first | (rw [e]; done) | (rw [e]; rfl), K0, by rw [e]; exact H17⟩
  ·rw [h9]
   have p19 : ¬ (most < 0) := of_decide_eq_false h9
   refine og 3 [(0, (ptr b)), (4, (i64 0)), (5, (i64 ((r.pos : Nat) : Int))), (6, (Value.int IntKind.u64 ((r.uint.1 : Nat) : Int))), (18, (Value.bool true)), (21, (Value.bool false)), (22, (Value.int IntKind.u64 ((r.uint.1 : Nat) : Int))), (24, (Value.int IntKind.u64 (IntKind.u64.wrap (most))))] 12 ?_
   have e20 : IntKind.u64.wrap (most) = most := wrap_u64 (by omega) (by omega)
   rw [e20]
   refine og 3 [(0, (ptr b)), (4, (i64 0)), (5, (i64 ((r.pos : Nat) : Int))), (6, (Value.int IntKind.u64 ((r.uint.1 : Nat) : Int))), (27, (Value.bool (decide (((r.uint.1 : Nat) : Int) > most))))] 15 ?_
   refine od ?_
   refine q_cond (o := .tmp 27) (b := (decide (((r.uint.1 : Nat) : Int) > most))) (by kernel_rfl) rfl (fun h21 => ?_) (fun h21 => ?_)
   ·rw [h21]
    have p22 : ((r.uint.1 : Nat) : Int) > most := of_decide_eq_true h21
    refine qg ?_
    refine og 3 [(0, (ptr b)), (4, (i64 0)), (5, (i64 ((r.pos : Nat) : Int))), (6, (Value.int IntKind.u64 ((r.uint.1 : Nat) : Int))), (30, (Value.pointer (some ⟨b, 2, none⟩)))] 3 ?_
    refine Ops.put (t := 25) (b := b) (off := 2) (v := (i64 3)) (ys := [(Value.slice A r.uint.2.bs.length c), (i64 ((r.uint.2.pos : Nat) : Int)), (i64 3)]) (by kernel_rfl) (by kernel_rfl) H3 (by kernel_rfl) (d := none) (by kernel_rfl) rfl (fun w23 H24 K25 => ?_)
    clear H3
    replace K0 := K0.trans K25 (U := (fun i => i = b)) (fun i h1 h2 => h2) (fun i h1 h2 => by have h2 : i = b := h2; show i = b; omega)
    replace F6 := RdO.keep F6 K25 (fun i _ _ hi hs => by have hs : i = b := hs; have := hne i _ _ hi; omega)
    clear K25
    refine od ?_
    refine qs ?_
    refine qs ?_
    refine q_draw (fun wz => Keeps none_ w23 wz) 20 (by kernel_rfl) (by kernel_rfl) (by kernel_rfl) (fun w26 K27 _ _ => ⟨K27, ?_⟩)
    replace K0 := K0.trans K27 (U := (fun i => i = b)) (fun i h1 h2 => h2) (fun i h1 h2 => by exact h2.elim)
    replace H24 := H24.keep K27 (fun h => h)
    replace F6 := RdO.keep0 F6 K27
    refine Dr.strong (S' := (fun wz => Keeps none_ w26 wz)) (Keeps.refl w26) (fun wz hx => K27.trans hx (fun i _ h => h) (fun _ _ h => h)) ?_
    clear K27
    refine Dr.takes (fuel' := 17) (is' := [2, 1, 0]) [0, 1, 2] [(0, (ptr b)), (4, (i64 0)), (5, (i64 ((r.pos : Nat) : Int))), (6, (Value.int IntKind.u64 ((r.uint.1 : Nat) : Int))), (33, (Value.pointer (some ⟨b, 2, none⟩)))] (by kernel_rfl) rfl (by kernel_rfl) ?_
    refine Dr.take (i := 3) (v := (i64 3)) (by kernel_rfl) (by kernel_rfl) (fun wz hS => Runs.load (t := 25) (a := ⟨b, 2, none⟩) (by kernel_rfl) ((H24.keep hS (fun h => h)).loads (by kernel_rfl))) (d := (some 34)) (by kernel_rfl) rfl ?_
    refine Dr.takes (fuel' := 0) (is' := [19, 18, 17, 16, 15, 14, 13, 12, 11, 10, 9, 8, 7, 6, 5, 4, 3, 2, 1, 0]) [4, 5, 6, 7, 8, 9, 10, 11, 12, 13, 14, 15, 16, 17, 18, 19] [(0, (ptr b)), (4, (i64 0)), (5, (i64 ((r.pos : Nat) : Int))), (6, (Value.int IntKind.u64 ((r.uint.1 : Nat) : Int))), (50, (Value.bool false))] (by kernel_rfl) rfl (by kernel_rfl) ?_
    refine Dr.done (by kernel_rfl) ?_
    refine q_else (o := .tmp 50) (by kernel_rfl) rfl ?_
    refine q_skip (by kernel_rfl) ?_
    refine qs ?_
    refine qs ?_
    refine qg ?_
    refine og 3 [(0, (ptr b)), (4, (i64 0)), (5, (i64 ((r.pos : Nat) : Int))), (6, (Value.int IntKind.u64 ((r.uint.1 : Nat) : Int))), (56, (Value.pointer (some ⟨b, 2, none⟩)))] 3 ?_
    refine Ops.go (v := (i64 3)) (by kernel_rfl) (Runs.load (t := 25) (a := ⟨b, 2, none⟩) (by kernel_rfl) (H24.loads (by kernel_rfl))) (d := (some 57)) (by kernel_rfl) rfl ?_
    refine og 1 [(0, (ptr b)), (4, (i64 0)), (5, (i64 ((r.pos : Nat) : Int))), (6, (Value.int IntKind.u64 ((r.uint.1 : Nat) : Int))), (58, (Value.bool true))] 5 ?_
    refine od ?_
    refine q_then (o := .tmp 58) (by kernel_rfl) rfl ?_
    refine qs ?_
    refine qg ?_
    refine og 4 [(4, (i64 0)), (6, (Value.int IntKind.u64 ((r.uint.1 : Nat) : Int))), (60, (i64 ((r.pos : Nat) : Int))), (62, (Value.pointer (some ⟨b, 1, none⟩)))] 4 ?_
    refine Ops.put (t := 3) (b := b) (off := 1) (v := (i64 ((r.pos : Nat) : Int))) (ys := [(Value.slice A r.uint.2.bs.length c), (i64 ((r.pos : Nat) : Int)), (i64 3)]) (by kernel_rfl) (by kernel_rfl) H24 (by kernel_rfl) (d := none) (by kernel_rfl) rfl (fun w28 H29 K30 => ?_)
    clear H24
    replace K0 := K0.trans K30 (U := (fun i => i = b)) (fun i h1 h2 => h2) (fun i h1 h2 => by have h2 : i = b := h2; show i = b; omega)
    replace F6 := RdO.keep F6 K30 (fun i _ _ hi hs => by have hs : i = b := hs; have := hne i _ _ hi; omega)
    clear K30
    refine od ?_
    refine qs ?_
    refine qg ?_
    refine og 1 [(4, (i64 0)), (6, (Value.int IntKind.u64 ((r.uint.1 : Nat) : Int)))] 1 ?_
    refine od ?_
    refine q_ret (by kernel_rfl) ?_
    refine ⟨(i64 0), retv_tmp rfl rfl, ?_⟩
    have e : r.sized most = (0, (⟨r.uint.2.bs, r.pos, 3⟩ : Rdr)) := by by_cases hr0 : r.why = 0; (unfold Rdr.sized; (repeat' split) <;> first | (exfalso; omega) | rfl | (simp only [Rdr.uint_bs]; done) | (rw [Rdr.uint_bs]; done)); (have hr1 := hw0 hr0; rw [Rdr.sized_err hr0]; first | (exfalso; omega) | (rw [Rdr.uint_bs, hr1.2.2]; done))
    exact ⟨by first | (rw [e]; done) | (rw [e]; rfl), K0, by rw [e]; exact H29⟩
   ·rw [h21]
    have p31 : ¬ (((r.uint.1 : Nat) : Int) > most) := of_decide_eq_false h21
    refine q_skip (by kernel_rfl) ?_
    refine qs ?_
    refine qs ?_
    refine q_draw (fun wz => Keeps none_ w1 wz) 20 (by kernel_rfl) (by kernel_rfl) (by kernel_rfl) (fun w32 K33 _ _ => ⟨K33, ?_⟩)
    replace K0 := K0.trans K33 (U := (fun i => i = b)) (fun i h1 h2 => h2) (fun i h1 h2 => by exact h2.elim)
    replace H3 := H3.keep K33 (fun h => h)
    replace F6 := RdO.keep0 F6 K33
    refine Dr.strong (S' := (fun wz => Keeps none_ w32 wz)) (Keeps.refl w32) (fun wz hx => K33.trans hx (fun i _ h => h) (fun _ _ h => h)) ?_
    clear K33
    refine Dr.takes (fuel' := 17) (is' := [2, 1, 0]) [0, 1, 2] [(0, (ptr b)), (4, (i64 0)), (5, (i64 ((r.pos : Nat) : Int))), (6, (Value.int IntKind.u64 ((r.uint.1 : Nat) : Int))), (33, (Value.pointer (some ⟨b, 2, none⟩)))] (by kernel_rfl) rfl (by kernel_rfl) ?_
    refine Dr.take (i := 3) (v := (i64 r.uint.2.why)) (by kernel_rfl) (by kernel_rfl) (fun wz hS => Runs.load (t := 25) (a := ⟨b, 2, none⟩) (by kernel_rfl) ((H3.keep hS (fun h => h)).loads (by kernel_rfl))) (d := (some 34)) (by kernel_rfl) rfl ?_
    refine Dr.takes (fuel' := 14) (is' := [5, 4, 3, 2, 1, 0]) [4, 5] [(0, (ptr b)), (4, (i64 0)), (5, (i64 ((r.pos : Nat) : Int))), (6, (Value.int IntKind.u64 ((r.uint.1 : Nat) : Int))), (36, (Value.bool (r.uint.2.why == 0)))] (by kernel_rfl) rfl (by kernel_rfl) ?_
    rw [h7]
    refine Dr.takes (fuel' := 10) (is' := [9, 8, 7, 6, 5, 4, 3, 2, 1, 0]) [6, 7, 8, 9] [(0, (ptr b)), (4, (i64 0)), (5, (i64 ((r.pos : Nat) : Int))), (6, (Value.int IntKind.u64 ((r.uint.1 : Nat) : Int))), (36, (Value.bool true)), (37, (Value.int IntKind.u64 ((r.uint.1 : Nat) : Int))), (40, (ptr b))] (by kernel_rfl) rfl (by kernel_rfl) ?_
    refine Dr.take (i := 10) (v := (Value.slice A r.uint.2.bs.length c)) (by kernel_rfl) (by kernel_rfl) (fun wz hS => Runs.load (t := 22) (a := ⟨b, 0, none⟩) (by kernel_rfl) ((H3.keep hS (fun h => h)).loads (by kernel_rfl))) (d := (some 41)) (by kernel_rfl) rfl ?_
    refine Dr.takes (fuel' := 5) (is' := [14, 13, 12, 11, 10, 9, 8, 7, 6, 5, 4, 3, 2, 1, 0]) [11, 12, 13, 14] [(0, (ptr b)), (4, (i64 0)), (5, (i64 ((r.pos : Nat) : Int))), (6, (Value.int IntKind.u64 ((r.uint.1 : Nat) : Int))), (36, (Value.bool true)), (37, (Value.int IntKind.u64 ((r.uint.1 : Nat) : Int))), (42, (i64 ((r.uint.2.bs.length : Nat) : Int))), (45, (Value.pointer (some ⟨b, 1, none⟩)))] (by kernel_rfl) rfl (by kernel_rfl) ?_
    refine Dr.take (i := 15) (v := (i64 ((r.uint.2.pos : Nat) : Int))) (by kernel_rfl) (by kernel_rfl) (fun wz hS => Runs.load (t := 3) (a := ⟨b, 1, none⟩) (by kernel_rfl) ((H3.keep hS (fun h => h)).loads (by kernel_rfl))) (d := (some 46)) (by kernel_rfl) rfl ?_
    refine Dr.takes (fuel' := 3) (is' := [16, 15, 14, 13, 12, 11, 10, 9, 8, 7, 6, 5, 4, 3, 2, 1, 0]) [16] [(0, (ptr b)), (4, (i64 0)), (5, (i64 ((r.pos : Nat) : Int))), (6, (Value.int IntKind.u64 ((r.uint.1 : Nat) : Int))), (36, (Value.bool true)), (37, (Value.int IntKind.u64 ((r.uint.1 : Nat) : Int))), (47, (i64 (IntKind.i64.wrap (((r.uint.2.bs.length : Nat) : Int) - ((r.uint.2.pos : Nat) : Int)))))] (by kernel_rfl) rfl (by kernel_rfl) ?_
    have e34 : IntKind.i64.wrap (((r.uint.2.bs.length : Nat) : Int) - ((r.uint.2.pos : Nat) : Int)) = ((r.uint.2.bs.length : Nat) : Int) - ((r.uint.2.pos : Nat) : Int) := wrap_i64 (by omega) (by omega)
    rw [e34]
    refine Dr.takes (fuel' := 2) (is' := [17, 16, 15, 14, 13, 12, 11, 10, 9, 8, 7, 6, 5, 4, 3, 2, 1, 0]) [17] [(0, (ptr b)), (4, (i64 0)), (5, (i64 ((r.pos : Nat) : Int))), (6, (Value.int IntKind.u64 ((r.uint.1 : Nat) : Int))), (36, (Value.bool true)), (37, (Value.int IntKind.u64 ((r.uint.1 : Nat) : Int))), (48, (Value.int IntKind.u64 (IntKind.u64.wrap (((r.uint.2.bs.length : Nat) : Int) - ((r.uint.2.pos : Nat) : Int)))))] (by kernel_rfl) rfl (by kernel_rfl) ?_
    have e35 : IntKind.u64.wrap (((r.uint.2.bs.length : Nat) : Int) - ((r.uint.2.pos : Nat) : Int)) = ((r.uint.2.bs.length : Nat) : Int) - ((r.uint.2.pos : Nat) : Int) := wrap_u64 (by omega) (by omega)
    rw [e35]
    refine Dr.takes (fuel' := 0) (is' := [19, 18, 17, 16, 15, 14, 13, 12, 11, 10, 9, 8, 7, 6, 5, 4, 3, 2, 1, 0]) [18, 19] [(0, (ptr b)), (4, (i64 0)), (5, (i64 ((r.pos : Nat) : Int))), (6, (Value.int IntKind.u64 ((r.uint.1 : Nat) : Int))), (50, (Value.bool (decide (((r.uint.1 : Nat) : Int) > ((r.uint.2.bs.length : Nat) : Int) - ((r.uint.2.pos : Nat) : Int)))))] (by kernel_rfl) rfl (by kernel_rfl) ?_
    refine Dr.done (by kernel_rfl) ?_
    refine q_cond (o := .tmp 50) (b := (decide (((r.uint.1 : Nat) : Int) > ((r.uint.2.bs.length : Nat) : Int) - ((r.uint.2.pos : Nat) : Int)))) (by kernel_rfl) rfl (fun h36 => ?_) (fun h36 => ?_)
    ·rw [h36]
     have p37 : ((r.uint.1 : Nat) : Int) > ((r.uint.2.bs.length : Nat) : Int) - ((r.uint.2.pos : Nat) : Int) := of_decide_eq_true h36
     refine qg ?_
     refine og 3 [(0, (ptr b)), (4, (i64 0)), (5, (i64 ((r.pos : Nat) : Int))), (6, (Value.int IntKind.u64 ((r.uint.1 : Nat) : Int))), (53, (Value.pointer (some ⟨b, 2, none⟩)))] 3 ?_
     refine Ops.put (t := 25) (b := b) (off := 2) (v := (i64 10)) (ys := [(Value.slice A r.uint.2.bs.length c), (i64 ((r.uint.2.pos : Nat) : Int)), (i64 10)]) (by kernel_rfl) (by kernel_rfl) H3 (by kernel_rfl) (d := none) (by kernel_rfl) rfl (fun w38 H39 K40 => ?_)
     clear H3
     replace K0 := K0.trans K40 (U := (fun i => i = b)) (fun i h1 h2 => h2) (fun i h1 h2 => by have h2 : i = b := h2; show i = b; omega)
     replace F6 := RdO.keep F6 K40 (fun i _ _ hi hs => by have hs : i = b := hs; have := hne i _ _ hi; omega)
     clear K40
     refine od ?_
     refine qs ?_
     refine qs ?_
     refine qg ?_
     refine og 3 [(0, (ptr b)), (4, (i64 0)), (5, (i64 ((r.pos : Nat) : Int))), (6, (Value.int IntKind.u64 ((r.uint.1 : Nat) : Int))), (56, (Value.pointer (some ⟨b, 2, none⟩)))] 3 ?_
     refine Ops.go (v := (i64 10)) (by kernel_rfl) (Runs.load (t := 25) (a := ⟨b, 2, none⟩) (by kernel_rfl) (H39.loads (by kernel_rfl))) (d := (some 57)) (by kernel_rfl) rfl ?_
     refine og 1 [(0, (ptr b)), (4, (i64 0)), (5, (i64 ((r.pos : Nat) : Int))), (6, (Value.int IntKind.u64 ((r.uint.1 : Nat) : Int))), (58, (Value.bool true))] 5 ?_
     refine od ?_
     refine q_then (o := .tmp 58) (by kernel_rfl) rfl ?_
     refine qs ?_
     refine qg ?_
     refine og 4 [(4, (i64 0)), (6, (Value.int IntKind.u64 ((r.uint.1 : Nat) : Int))), (60, (i64 ((r.pos : Nat) : Int))), (62, (Value.pointer (some ⟨b, 1, none⟩)))] 4 ?_
     refine Ops.put (t := 3) (b := b) (off := 1) (v := (i64 ((r.pos : Nat) : Int))) (ys := [(Value.slice A r.uint.2.bs.length c), (i64 ((r.pos : Nat) : Int)), (i64 10)]) (by kernel_rfl) (by kernel_rfl) H39 (by kernel_rfl) (d := none) (by kernel_rfl) rfl (fun w41 H42 K43 => ?_)
     clear H39
     replace K0 := K0.trans K43 (U := (fun i => i = b)) (fun i h1 h2 => h2) (fun i h1 h2 => by have h2 : i = b := h2; show i = b; omega)
     replace F6 := RdO.keep F6 K43 (fun i _ _ hi hs => by have hs : i = b := hs; have := hne i _ _ hi; omega)
     clear K43
     refine od ?_
     refine qs ?_
     refine qg ?_
     refine og 1 [(4, (i64 0)), (6, (Value.int IntKind.u64 ((r.uint.1 : Nat) : Int)))] 1 ?_
     refine od ?_
     refine q_ret (by kernel_rfl) ?_
     refine ⟨(i64 0), retv_tmp rfl rfl, ?_⟩
     have e : r.sized most = (0, (⟨r.uint.2.bs, r.pos, 10⟩ : Rdr)) := by by_cases hr0 : r.why = 0; (unfold Rdr.sized; (repeat' split) <;> first | (exfalso; omega) | rfl | (simp only [Rdr.uint_bs]; done) | (rw [Rdr.uint_bs]; done)); (have hr1 := hw0 hr0; rw [Rdr.sized_err hr0]; first | (exfalso; omega) | (rw [Rdr.uint_bs, hr1.2.2]; done))
     exact ⟨by first | (rw [e]; done) | (rw [e]; rfl), K0, by rw [e]; exact H42⟩
    ·rw [h36]
     have p44 : ¬ (((r.uint.1 : Nat) : Int) > ((r.uint.2.bs.length : Nat) : Int) - ((r.uint.2.pos : Nat) : Int)) := of_decide_eq_false h36
     refine q_skip (by kernel_rfl) ?_
     refine qs ?_
     refine qs ?_
     refine qg ?_
     refine og 3 [(0, (ptr b)), (4, (i64 0)), (5, (i64 ((r.pos : Nat) : Int))), (6, (Value.int IntKind.u64 ((r.uint.1 : Nat) : Int))), (56, (Value.pointer (some ⟨b, 2, none⟩)))] 3 ?_
     refine Ops.go (v := (i64 r.uint.2.why)) (by kernel_rfl) (Runs.load (t := 25) (a := ⟨b, 2, none⟩) (by kernel_rfl) (H3.loads (by kernel_rfl))) (d := (some 57)) (by kernel_rfl) rfl ?_
     refine og 1 [(0, (ptr b)), (4, (i64 0)), (5, (i64 ((r.pos : Nat) : Int))), (6, (Value.int IntKind.u64 ((r.uint.1 : Nat) : Int))), (58, (Value.bool (r.uint.2.why != 0)))] 5 ?_
     refine od ?_
     refine q_cond (o := .tmp 58) (b := (r.uint.2.why != 0)) (by kernel_rfl) rfl (fun h45 => ?_) (fun h45 => ?_)
     ·rw [h45]
      have p46 : ¬ (r.uint.2.why = 0) := of_bne_t h45
      refine qs ?_
      refine qg ?_
      refine og 4 [(4, (i64 0)), (6, (Value.int IntKind.u64 ((r.uint.1 : Nat) : Int))), (60, (i64 ((r.pos : Nat) : Int))), (62, (Value.pointer (some ⟨b, 1, none⟩)))] 4 ?_
      refine Ops.put (t := 3) (b := b) (off := 1) (v := (i64 ((r.pos : Nat) : Int))) (ys := [(Value.slice A r.uint.2.bs.length c), (i64 ((r.pos : Nat) : Int)), (i64 r.uint.2.why)]) (by kernel_rfl) (by kernel_rfl) H3 (by kernel_rfl) (d := none) (by kernel_rfl) rfl (fun w47 H48 K49 => ?_)
      clear H3
      replace K0 := K0.trans K49 (U := (fun i => i = b)) (fun i h1 h2 => h2) (fun i h1 h2 => by have h2 : i = b := h2; show i = b; omega)
      replace F6 := RdO.keep F6 K49 (fun i _ _ hi hs => by have hs : i = b := hs; have := hne i _ _ hi; omega)
      clear K49
      refine od ?_
      refine qs ?_
      refine qg ?_
      refine og 1 [(4, (i64 0)), (6, (Value.int IntKind.u64 ((r.uint.1 : Nat) : Int)))] 1 ?_
      refine od ?_
      refine q_ret (by kernel_rfl) ?_
      refine ⟨(i64 0), retv_tmp rfl rfl, ?_⟩
      have e : r.sized most = (0, (⟨r.uint.2.bs, r.pos, r.uint.2.why⟩ : Rdr)) := by by_cases hr0 : r.why = 0; (unfold Rdr.sized; (repeat' split) <;> first | (exfalso; omega) | rfl | (simp only [Rdr.uint_bs]; done) | (rw [Rdr.uint_bs]; done)); (have hr1 := hw0 hr0; rw [Rdr.sized_err hr0]; first | (exfalso; omega) | (rw [Rdr.uint_bs, hr1.2.2]; done))
      exact ⟨by first | (rw [e]; done) | (rw [e]; rfl), K0, by rw [e]; exact H48⟩
     ·rw [h45]
      have p50 : r.uint.2.why = 0 := of_bne_f h45
      refine q_skip (by kernel_rfl) ?_
      refine qs ?_
      refine qg ?_
      refine og 2 [(4, (i64 0)), (64, (i64 (IntKind.i64.wrap (((r.uint.1 : Nat) : Int)))))] 2 ?_
      have e51 : IntKind.i64.wrap (((r.uint.1 : Nat) : Int)) = ((r.uint.1 : Nat) : Int) := wrap_i64 (by omega) (by omega)
      rw [e51]
      refine og 1 [(4, (i64 ((r.uint.1 : Nat) : Int)))] 3 ?_
      refine od ?_
      refine q_ret (by kernel_rfl) ?_
      refine ⟨(i64 ((r.uint.1 : Nat) : Int)), retv_tmp rfl rfl, ?_⟩
      have e : r.sized most = (r.uint.1, r.uint.2) := by by_cases hr0 : r.why = 0; (unfold Rdr.sized; (repeat' split) <;> first | (exfalso; omega) | rfl | (simp only [Rdr.uint_bs]; done) | (rw [Rdr.uint_bs]; done)); (have hr1 := hw0 hr0; rw [Rdr.sized_err hr0]; first | (exfalso; omega) | (rw [Rdr.uint_bs, hr1.2.2]; done))
      exact ⟨by first | (rw [e]; done) | (rw [e]; rfl), K0, by rw [e]; exact H3⟩
 ·rw [h7]
  have p52 : ¬ (r.uint.2.why = 0) := of_beq_f h7
  refine og 9 [(0, (ptr b)), (4, (i64 0)), (5, (i64 ((r.pos : Nat) : Int))), (6, (Value.int IntKind.u64 ((r.uint.1 : Nat) : Int))), (27, (Value.bool false))] 15 ?_
  refine od ?_
  refine q_else (o := .tmp 27) (by kernel_rfl) rfl ?_
  refine q_skip (by kernel_rfl) ?_
  refine qs ?_
  refine qs ?_
  refine q_draw (fun wz => Keeps none_ w1 wz) 20 (by kernel_rfl) (by kernel_rfl) (by kernel_rfl) (fun w53 K54 _ _ => ⟨K54, ?_⟩)
  replace K0 := K0.trans K54 (U := (fun i => i = b)) (fun i h1 h2 => h2) (fun i h1 h2 => by exact h2.elim)
  replace H3 := H3.keep K54 (fun h => h)
  replace F6 := RdO.keep0 F6 K54
  refine Dr.strong (S' := (fun wz => Keeps none_ w53 wz)) (Keeps.refl w53) (fun wz hx => K54.trans hx (fun i _ h => h) (fun _ _ h => h)) ?_
  clear K54
  refine Dr.takes (fuel' := 17) (is' := [2, 1, 0]) [0, 1, 2] [(0, (ptr b)), (4, (i64 0)), (5, (i64 ((r.pos : Nat) : Int))), (6, (Value.int IntKind.u64 ((r.uint.1 : Nat) : Int))), (33, (Value.pointer (some ⟨b, 2, none⟩)))] (by kernel_rfl) rfl (by kernel_rfl) ?_
  refine Dr.take (i := 3) (v := (i64 r.uint.2.why)) (by kernel_rfl) (by kernel_rfl) (fun wz hS => Runs.load (t := 25) (a := ⟨b, 2, none⟩) (by kernel_rfl) ((H3.keep hS (fun h => h)).loads (by kernel_rfl))) (d := (some 34)) (by kernel_rfl) rfl ?_
  refine Dr.takes (fuel' := 14) (is' := [5, 4, 3, 2, 1, 0]) [4, 5] [(0, (ptr b)), (4, (i64 0)), (5, (i64 ((r.pos : Nat) : Int))), (6, (Value.int IntKind.u64 ((r.uint.1 : Nat) : Int))), (36, (Value.bool (r.uint.2.why == 0)))] (by kernel_rfl) rfl (by kernel_rfl) ?_
  rw [h7]
  refine Dr.takes (fuel' := 0) (is' := [19, 18, 17, 16, 15, 14, 13, 12, 11, 10, 9, 8, 7, 6, 5, 4, 3, 2, 1, 0]) [6, 7, 8, 9, 10, 11, 12, 13, 14, 15, 16, 17, 18, 19] [(0, (ptr b)), (4, (i64 0)), (5, (i64 ((r.pos : Nat) : Int))), (6, (Value.int IntKind.u64 ((r.uint.1 : Nat) : Int))), (50, (Value.bool false))] (by kernel_rfl) rfl (by kernel_rfl) ?_
  refine Dr.done (by kernel_rfl) ?_
  refine q_else (o := .tmp 50) (by kernel_rfl) rfl ?_
  refine q_skip (by kernel_rfl) ?_
  refine qs ?_
  refine qs ?_
  refine qg ?_
  refine og 3 [(0, (ptr b)), (4, (i64 0)), (5, (i64 ((r.pos : Nat) : Int))), (6, (Value.int IntKind.u64 ((r.uint.1 : Nat) : Int))), (56, (Value.pointer (some ⟨b, 2, none⟩)))] 3 ?_
  refine Ops.go (v := (i64 r.uint.2.why)) (by kernel_rfl) (Runs.load (t := 25) (a := ⟨b, 2, none⟩) (by kernel_rfl) (H3.loads (by kernel_rfl))) (d := (some 57)) (by kernel_rfl) rfl ?_
  refine og 1 [(0, (ptr b)), (4, (i64 0)), (5, (i64 ((r.pos : Nat) : Int))), (6, (Value.int IntKind.u64 ((r.uint.1 : Nat) : Int))), (58, (Value.bool (r.uint.2.why != 0)))] 5 ?_
  refine od ?_
  refine q_cond (o := .tmp 58) (b := (r.uint.2.why != 0)) (by kernel_rfl) rfl (fun h55 => ?_) (fun h55 => ?_)
  ·rw [h55]
   have p56 : ¬ (r.uint.2.why = 0) := of_bne_t h55
   refine qs ?_
   refine qg ?_
   refine og 4 [(4, (i64 0)), (6, (Value.int IntKind.u64 ((r.uint.1 : Nat) : Int))), (60, (i64 ((r.pos : Nat) : Int))), (62, (Value.pointer (some ⟨b, 1, none⟩)))] 4 ?_
   refine Ops.put (t := 3) (b := b) (off := 1) (v := (i64 ((r.pos : Nat) : Int))) (ys := [(Value.slice A r.uint.2.bs.length c), (i64 ((r.pos : Nat) : Int)), (i64 r.uint.2.why)]) (by kernel_rfl) (by kernel_rfl) H3 (by kernel_rfl) (d := none) (by kernel_rfl) rfl (fun w57 H58 K59 => ?_)
   clear H3
   replace K0 := K0.trans K59 (U := (fun i => i = b)) (fun i h1 h2 => h2) (fun i h1 h2 => by have h2 : i = b := h2; show i = b; omega)
   replace F6 := RdO.keep F6 K59 (fun i _ _ hi hs => by have hs : i = b := hs; have := hne i _ _ hi; omega)
   clear K59
   refine od ?_
   refine qs ?_
   refine qg ?_
   refine og 1 [(4, (i64 0)), (6, (Value.int IntKind.u64 ((r.uint.1 : Nat) : Int)))] 1 ?_
   refine od ?_
   refine q_ret (by kernel_rfl) ?_
   refine ⟨(i64 0), retv_tmp rfl rfl, ?_⟩
   have e : r.sized most = (0, (⟨r.uint.2.bs, r.pos, r.uint.2.why⟩ : Rdr)) := by by_cases hr0 : r.why = 0; (unfold Rdr.sized; (repeat' split) <;> first | (exfalso; omega) | rfl | (simp only [Rdr.uint_bs]; done) | (rw [Rdr.uint_bs]; done)); (have hr1 := hw0 hr0; rw [Rdr.sized_err hr0]; first | (exfalso; omega) | (rw [Rdr.uint_bs, hr1.2.2]; done))
   exact ⟨by first | (rw [e]; done) | (rw [e]; rfl), K0, by rw [e]; exact H58⟩
  ·rw [h55]
   have p60 : r.uint.2.why = 0 := of_bne_f h55
   refine q_skip (by kernel_rfl) ?_
   refine qs ?_
   refine qg ?_
   refine og 2 [(4, (i64 0)), (64, (i64 (IntKind.i64.wrap (((r.uint.1 : Nat) : Int)))))] 2 ?_
   have e61 : IntKind.i64.wrap (((r.uint.1 : Nat) : Int)) = ((r.uint.1 : Nat) : Int) := wrap_i64 (by omega) (by omega)
   rw [e61]
   refine og 1 [(4, (i64 ((r.uint.1 : Nat) : Int)))] 3 ?_
   refine od ?_
   refine q_ret (by kernel_rfl) ?_
   refine ⟨(i64 ((r.uint.1 : Nat) : Int)), retv_tmp rfl rfl, ?_⟩
   have e : r.sized most = (r.uint.1, r.uint.2) := by by_cases hr0 : r.why = 0; (unfold Rdr.sized; (repeat' split) <;> first | (exfalso; omega) | rfl | (simp only [Rdr.uint_bs]; done) | (rw [Rdr.uint_bs]; done)); (have hr1 := hw0 hr0; rw [Rdr.sized_err hr0]; first | (exfalso; omega) | (rw [Rdr.uint_bs, hr1.2.2]; done))
   exact ⟨by first | (rw [e]; done) | (rw [e]; rfl), K0, by rw [e]; exact H3⟩

theorem RRBytes_calls (w : World) (b : Nat) (A : Option Addr) (c : Nat) (r : Rdr) (hok : r.Ok) (H0 : Has w b (rowL (rdrL A c r) 95)) (hR : RdO w A c r.bs) (hne : ∀ g o s, A = some ⟨g, o, s⟩ → g ≠ b) : Calls Tryz.prog 86 ⟨[(ptr b)]⟩ w (fun e w' => ∃ v', e = .returned v' ∧ Keeps (fun i => i = b) w w' ∧ OwnB w' w.heap.size 5 v' (r.bytes.1) ∧ Has w' b (rowL (rdrL A c (r.bytes).2) 95)) := by
 have hpos := hok.pos
 have hlen := hok.len
 have hsc := r.scan_le
 have hdl : (r.bs.drop r.pos).length = r.bs.length - r.pos := List.length_drop
 have hcap := hR.1.slice
 have Hb := H0.lt
 have K0 : Keeps (fun i => i = b) w w := (Keeps.refl w).mono (fun _ _ h => h.elim)
 have hub := r.uint_bs
 have hubl := congrArg List.length hub
 have hul := r.uint_lt
 have hw0 : r.why ≠ 0 → r.uint.1 = 0 ∧ r.uint.2.pos = r.pos ∧ r.uint.2.why = r.why := fun h => by rw [Rdr.uint_err h]; exact ⟨rfl, rfl, rfl⟩
 have hup := hok.uint.pos
 refine q_calls Tryz.func86 (by kernel_rfl) (by kernel_rfl) ?_
 refine qs ?_
 refine qg ?_
 refine og 1 [(0, (ptr b)), (2, (Value.slice none 0 0))] 1 ?_
 refine od ?_
 refine qs ?_
 refine qg ?_
 refine og 3 [(0, (ptr b)), (2, (Value.slice none 0 0)), (8, (Value.pointer (some ⟨b, 1, none⟩)))] 3 ?_
 refine Ops.go (v := (i64 ((r.pos : Nat) : Int))) (by kernel_rfl) (Runs.load (t := 3) (a := ⟨b, 1, none⟩) (by kernel_rfl) (H0.loads (by kernel_rfl))) (d := (some 9)) (by kernel_rfl) rfl ?_
 refine og 1 [(0, (ptr b)), (2, (Value.slice none 0 0)), (3, (i64 ((r.pos : Nat) : Int)))] 5 ?_
 refine od ?_
 refine qs ?_
 refine qg ?_
 refine og 1 [(0, (ptr b)), (2, (Value.slice none 0 0)), (3, (i64 ((r.pos : Nat) : Int))), (10, (ptr b))] 1 ?_
 refine Ops.call (by kernel_rfl) (d := (some 11)) (by kernel_rfl) (RRUint_calls _ b A c r hok H0 hR hne) ?_
 rintro _ w1 ⟨rfl, K2, H3⟩
 have hok4 := Rdr.Ok.uint hok
 have hu5 := Rdr.uint_lt r
 refine ⟨_, _, rfl, rfl, ?_⟩
 replace K0 := K0.trans K2 (U := (fun i => i = b)) (fun i h1 h2 => h2) (fun i h1 h2 => by have h2 : i = b := h2; show i = b; omega)
 replace hR := RdO.keep hR K2 (fun i _ _ hi hs => by have hs : i = b := hs; have := hne i _ _ hi; omega)
 clear K2
 have F6 : RdO w1 A c (r.uint.2).bs := by rw [Rdr.uint_bs]; exact hR
 clear hR
 refine og 1 [(0, (ptr b)), (2, (Value.slice none 0 0)), (3, (i64 ((r.pos : Nat) : Int))), (4, (Value.int IntKind.u64 ((r.uint.1 : Nat) : Int)))] 3 ?_
 refine od ?_
 refine qs ?_
 refine qs ?_
 refine qg ?_
 refine og 3 [(0, (ptr b)), (2, (Value.slice none 0 0)), (3, (i64 ((r.pos : Nat) : Int))), (4, (Value.int IntKind.u64 ((r.uint.1 : Nat) : Int))), (14, (Value.pointer (some ⟨b, 2, none⟩)))] 3 ?_
 refine Ops.go (v := (i64 r.uint.2.why)) (by kernel_rfl) (Runs.load (t := 25) (a := ⟨b, 2, none⟩) (by kernel_rfl) (H3.loads (by kernel_rfl))) (d := (some 15)) (by kernel_rfl) rfl ?_
 refine og 2 [(0, (ptr b)), (2, (Value.slice none 0 0)), (3, (i64 ((r.pos : Nat) : Int))), (4, (Value.int IntKind.u64 ((r.uint.1 : Nat) : Int))), (17, (Value.bool (r.uint.2.why == 0)))] 6 ?_
 refine Ops.split (r.uint.2.why == 0) (fun h7 => ?_) (fun h7 => ?_)
 ·rw [h7]
  have p8 : r.uint.2.why = 0 := of_beq_t h7
  refine og 3 [(0, (ptr b)), (2, (Value.slice none 0 0)), (3, (i64 ((r.pos : Nat) : Int))), (4, (Value.int IntKind.u64 ((r.uint.1 : Nat) : Int))), (20, (Value.bool (decide (((r.uint.1 : Nat) : Int) > 65536))))] 9 ?_
  refine od ?_
  refine q_cond (o := .tmp 20) (b := (decide (((r.uint.1 : Nat) : Int) > 65536))) (by kernel_rfl) rfl (fun h9 => ?_) (fun h9 => ?_)
  ·rw [h9]
   have p10 : ((r.uint.1 : Nat) : Int) > 65536 := of_decide_eq_true h9
   refine qg ?_
   refine og 3 [(0, (ptr b)), (2, (Value.slice none 0 0)), (3, (i64 ((r.pos : Nat) : Int))), (4, (Value.int IntKind.u64 ((r.uint.1 : Nat) : Int))), (23, (Value.pointer (some ⟨b, 2, none⟩)))] 3 ?_
   refine Ops.put (t := 25) (b := b) (off := 2) (v := (i64 3)) (ys := [(Value.slice A r.uint.2.bs.length c), (i64 ((r.uint.2.pos : Nat) : Int)), (i64 3)]) (by kernel_rfl) (by kernel_rfl) H3 (by kernel_rfl) (d := none) (by kernel_rfl) rfl (fun w11 H12 K13 => ?_)
   clear H3
   replace K0 := K0.trans K13 (U := (fun i => i = b)) (fun i h1 h2 => h2) (fun i h1 h2 => by have h2 : i = b := h2; show i = b; omega)
   replace F6 := RdO.keep F6 K13 (fun i _ _ hi hs => by have hs : i = b := hs; have := hne i _ _ hi; omega)
   clear K13
   refine od ?_
   refine qs ?_
   refine qs ?_
   refine q_draw (fun wz => Keeps none_ w11 wz) 20 (by kernel_rfl) (by kernel_rfl) (by kernel_rfl) (fun w14 K15 _ _ => ⟨K15, ?_⟩)
   replace K0 := K0.trans K15 (U := (fun i => i = b)) (fun i h1 h2 => h2) (fun i h1 h2 => by exact h2.elim)
   replace H12 := H12.keep K15 (fun h => h)
   replace F6 := RdO.keep0 F6 K15
   refine Dr.strong (S' := (fun wz => Keeps none_ w14 wz)) (Keeps.refl w14) (fun wz hx => K15.trans hx (fun i _ h => h) (fun _ _ h => h)) ?_
   clear K15
   refine Dr.takes (fuel' := 17) (is' := [2, 1, 0]) [0, 1, 2] [(0, (ptr b)), (2, (Value.slice none 0 0)), (3, (i64 ((r.pos : Nat) : Int))), (4, (Value.int IntKind.u64 ((r.uint.1 : Nat) : Int))), (26, (Value.pointer (some ⟨b, 2, none⟩)))] (by kernel_rfl) rfl (by kernel_rfl) ?_
   refine Dr.take (i := 3) (v := (i64 3)) (by kernel_rfl) (by kernel_rfl) (fun wz hS => Runs.load (t := 25) (a := ⟨b, 2, none⟩) (by kernel_rfl) ((H12.keep hS (fun h => h)).loads (by kernel_rfl))) (d := (some 27)) (by kernel_rfl) rfl ?_
   refine Dr.takes (fuel' := 0) (is' := [19, 18, 17, 16, 15, 14, 13, 12, 11, 10, 9, 8, 7, 6, 5, 4, 3, 2, 1, 0]) [4, 5, 6, 7, 8, 9, 10, 11, 12, 13, 14, 15, 16, 17, 18, 19] [(0, (ptr b)), (2, (Value.slice none 0 0)), (3, (i64 ((r.pos : Nat) : Int))), (4, (Value.int IntKind.u64 ((r.uint.1 : Nat) : Int))), (43, (Value.bool false))] (by kernel_rfl) rfl (by kernel_rfl) ?_
   refine Dr.done (by kernel_rfl) ?_
   refine q_else (o := .tmp 43) (by kernel_rfl) rfl ?_
   refine q_skip (by kernel_rfl) ?_
   refine qs ?_
   refine qs ?_
   refine qg ?_
   refine og 3 [(0, (ptr b)), (2, (Value.slice none 0 0)), (3, (i64 ((r.pos : Nat) : Int))), (4, (Value.int IntKind.u64 ((r.uint.1 : Nat) : Int))), (49, (Value.pointer (some ⟨b, 2, none⟩)))] 3 ?_
   refine Ops.go (v := (i64 3)) (by kernel_rfl) (Runs.load (t := 25) (a := ⟨b, 2, none⟩) (by kernel_rfl) (H12.loads (by kernel_rfl))) (d := (some 50)) (by kernel_rfl) rfl ?_
   refine og 1 [(0, (ptr b)), (2, (Value.slice none 0 0)), (3, (i64 ((r.pos : Nat) : Int))), (4, (Value.int IntKind.u64 ((r.uint.1 : Nat) : Int))), (51, (Value.bool true))] 5 ?_
   refine od ?_
   refine q_then (o := .tmp 51) (by kernel_rfl) rfl ?_
   refine qs ?_
   refine qg ?_
   refine og 4 [(0, (ptr b)), (2, (Value.slice none 0 0)), (4, (Value.int IntKind.u64 ((r.uint.1 : Nat) : Int))), (53, (i64 ((r.pos : Nat) : Int))), (55, (Value.pointer (some ⟨b, 1, none⟩)))] 4 ?_
   refine Ops.put (t := 3) (b := b) (off := 1) (v := (i64 ((r.pos : Nat) : Int))) (ys := [(Value.slice A r.uint.2.bs.length c), (i64 ((r.pos : Nat) : Int)), (i64 3)]) (by kernel_rfl) (by kernel_rfl) H12 (by kernel_rfl) (d := none) (by kernel_rfl) rfl (fun w16 H17 K18 => ?_)
   clear H12
   replace K0 := K0.trans K18 (U := (fun i => i = b)) (fun i h1 h2 => h2) (fun i h1 h2 => by have h2 : i = b := h2; show i = b; omega)
   replace F6 := RdO.keep F6 K18 (fun i _ _ hi hs => by have hs : i = b := hs; have := hne i _ _ hi; omega)
   clear K18
   refine od ?_
   refine qs ?_
   refine qg ?_
   refine og 1 [(0, (ptr b)), (2, (Value.slice none 0 0)), (4, (Value.int IntKind.u64 ((r.uint.1 : Nat) : Int)))] 1 ?_
   refine od ?_
   refine q_ret (by kernel_rfl) ?_
   refine ⟨(Value.slice none 0 0), retv_tmp rfl rfl, ?_⟩
   have e : r.bytes = ([], (⟨r.uint.2.bs, r.pos, 3⟩ : Rdr)) := by by_cases hr0 : r.why = 0; (unfold Rdr.bytes Rdr.sized; (repeat' split) <;> first | (exfalso; omega) | rfl | (simp only [Rdr.uint_bs]; done) | (simp only [Rdr.uint_bs]; simp only [Nat.add_sub_cancel_left]; done) | (exfalso; simp only at *; omega)); (have hr1 := hw0 hr0; rw [Rdr.bytes_err hr0]; first | (exfalso; omega) | (rw [Rdr.uint_bs, hr1.2.2]; done))
   exact ⟨(Value.slice none 0 0), rfl, K0, by rw [e]; exact (World.ownsRow_nil _ _ _ _), by rw [e]; exact H17⟩
  ·rw [h9]
   have p19 : ¬ (((r.uint.1 : Nat) : Int) > 65536) := of_decide_eq_false h9
   refine q_skip (by kernel_rfl) ?_
   refine qs ?_
   refine qs ?_
   refine q_draw (fun wz => Keeps none_ w1 wz) 20 (by kernel_rfl) (by kernel_rfl) (by kernel_rfl) (fun w20 K21 _ _ => ⟨K21, ?_⟩)
   replace K0 := K0.trans K21 (U := (fun i => i = b)) (fun i h1 h2 => h2) (fun i h1 h2 => by exact h2.elim)
   replace H3 := H3.keep K21 (fun h => h)
   replace F6 := RdO.keep0 F6 K21
   refine Dr.strong (S' := (fun wz => Keeps none_ w20 wz)) (Keeps.refl w20) (fun wz hx => K21.trans hx (fun i _ h => h) (fun _ _ h => h)) ?_
   clear K21
   refine Dr.takes (fuel' := 17) (is' := [2, 1, 0]) [0, 1, 2] [(0, (ptr b)), (2, (Value.slice none 0 0)), (3, (i64 ((r.pos : Nat) : Int))), (4, (Value.int IntKind.u64 ((r.uint.1 : Nat) : Int))), (26, (Value.pointer (some ⟨b, 2, none⟩)))] (by kernel_rfl) rfl (by kernel_rfl) ?_
   refine Dr.take (i := 3) (v := (i64 r.uint.2.why)) (by kernel_rfl) (by kernel_rfl) (fun wz hS => Runs.load (t := 25) (a := ⟨b, 2, none⟩) (by kernel_rfl) ((H3.keep hS (fun h => h)).loads (by kernel_rfl))) (d := (some 27)) (by kernel_rfl) rfl ?_
   refine Dr.takes (fuel' := 14) (is' := [5, 4, 3, 2, 1, 0]) [4, 5] [(0, (ptr b)), (2, (Value.slice none 0 0)), (3, (i64 ((r.pos : Nat) : Int))), (4, (Value.int IntKind.u64 ((r.uint.1 : Nat) : Int))), (29, (Value.bool (r.uint.2.why == 0)))] (by kernel_rfl) rfl (by kernel_rfl) ?_
   rw [h7]
   refine Dr.takes (fuel' := 11) (is' := [8, 7, 6, 5, 4, 3, 2, 1, 0]) [6, 7, 8] [(0, (ptr b)), (2, (Value.slice none 0 0)), (3, (i64 ((r.pos : Nat) : Int))), (4, (Value.int IntKind.u64 ((r.uint.1 : Nat) : Int))), (29, (Value.bool true)), (32, (ptr b))] (by kernel_rfl) rfl (by kernel_rfl) ?_
   refine Dr.take (i := 9) (v := (Value.slice A r.uint.2.bs.length c)) (by kernel_rfl) (by kernel_rfl) (fun wz hS => Runs.load (t := 22) (a := ⟨b, 0, none⟩) (by kernel_rfl) ((H3.keep hS (fun h => h)).loads (by kernel_rfl))) (d := (some 33)) (by kernel_rfl) rfl ?_
   refine Dr.takes (fuel' := 6) (is' := [13, 12, 11, 10, 9, 8, 7, 6, 5, 4, 3, 2, 1, 0]) [10, 11, 12, 13] [(0, (ptr b)), (2, (Value.slice none 0 0)), (3, (i64 ((r.pos : Nat) : Int))), (4, (Value.int IntKind.u64 ((r.uint.1 : Nat) : Int))), (29, (Value.bool true)), (34, (i64 ((r.uint.2.bs.length : Nat) : Int))), (37, (Value.pointer (some ⟨b, 1, none⟩)))] (by kernel_rfl) rfl (by kernel_rfl) ?_
   refine Dr.take (i := 14) (v := (i64 ((r.uint.2.pos : Nat) : Int))) (by kernel_rfl) (by kernel_rfl) (fun wz hS => Runs.load (t := 3) (a := ⟨b, 1, none⟩) (by kernel_rfl) ((H3.keep hS (fun h => h)).loads (by kernel_rfl))) (d := (some 38)) (by kernel_rfl) rfl ?_
   refine Dr.takes (fuel' := 4) (is' := [15, 14, 13, 12, 11, 10, 9, 8, 7, 6, 5, 4, 3, 2, 1, 0]) [15] [(0, (ptr b)), (2, (Value.slice none 0 0)), (3, (i64 ((r.pos : Nat) : Int))), (4, (Value.int IntKind.u64 ((r.uint.1 : Nat) : Int))), (29, (Value.bool true)), (39, (i64 (IntKind.i64.wrap (((r.uint.2.bs.length : Nat) : Int) - ((r.uint.2.pos : Nat) : Int)))))] (by kernel_rfl) rfl (by kernel_rfl) ?_
   have e22 : IntKind.i64.wrap (((r.uint.2.bs.length : Nat) : Int) - ((r.uint.2.pos : Nat) : Int)) = ((r.uint.2.bs.length : Nat) : Int) - ((r.uint.2.pos : Nat) : Int) := wrap_i64 (by omega) (by omega)
   rw [e22]
   refine Dr.takes (fuel' := 3) (is' := [16, 15, 14, 13, 12, 11, 10, 9, 8, 7, 6, 5, 4, 3, 2, 1, 0]) [16] [(0, (ptr b)), (2, (Value.slice none 0 0)), (3, (i64 ((r.pos : Nat) : Int))), (4, (Value.int IntKind.u64 ((r.uint.1 : Nat) : Int))), (29, (Value.bool true)), (40, (Value.int IntKind.u64 (IntKind.u64.wrap (((r.uint.2.bs.length : Nat) : Int) - ((r.uint.2.pos : Nat) : Int)))))] (by kernel_rfl) rfl (by kernel_rfl) ?_
   have e23 : IntKind.u64.wrap (((r.uint.2.bs.length : Nat) : Int) - ((r.uint.2.pos : Nat) : Int)) = ((r.uint.2.bs.length : Nat) : Int) - ((r.uint.2.pos : Nat) : Int) := wrap_u64 (by omega) (by omega)
   rw [e23]
   refine Dr.takes (fuel' := 0) (is' := [19, 18, 17, 16, 15, 14, 13, 12, 11, 10, 9, 8, 7, 6, 5, 4, 3, 2, 1, 0]) [17, 18, 19] [(0, (ptr b)), (2, (Value.slice none 0 0)), (3, (i64 ((r.pos : Nat) : Int))), (4, (Value.int IntKind.u64 ((r.uint.1 : Nat) : Int))), (43, (Value.bool (decide (((r.uint.2.bs.length : Nat) : Int) - ((r.uint.2.pos : Nat) : Int) < ((r.uint.1 : Nat) : Int)))))] (by kernel_rfl) rfl (by kernel_rfl) ?_
   refine Dr.done (by kernel_rfl) ?_
   refine q_cond (o := .tmp 43) (b := (decide (((r.uint.2.bs.length : Nat) : Int) - ((r.uint.2.pos : Nat) : Int) < ((r.uint.1 : Nat) : Int)))) (by kernel_rfl) rfl (fun h24 => ?_) (fun h24 => ?_)
   ·rw [h24]
    have p25 : ((r.uint.2.bs.length : Nat) : Int) - ((r.uint.2.pos : Nat) : Int) < ((r.uint.1 : Nat) : Int) := of_decide_eq_true h24
    refine qg ?_
    refine og 3 [(0, (ptr b)), (2, (Value.slice none 0 0)), (3, (i64 ((r.pos : Nat) : Int))), (4, (Value.int IntKind.u64 ((r.uint.1 : Nat) : Int))), (46, (Value.pointer (some ⟨b, 2, none⟩)))] 3 ?_
    refine Ops.put (t := 25) (b := b) (off := 2) (v := (i64 10)) (ys := [(Value.slice A r.uint.2.bs.length c), (i64 ((r.uint.2.pos : Nat) : Int)), (i64 10)]) (by kernel_rfl) (by kernel_rfl) H3 (by kernel_rfl) (d := none) (by kernel_rfl) rfl (fun w26 H27 K28 => ?_)
    clear H3
    replace K0 := K0.trans K28 (U := (fun i => i = b)) (fun i h1 h2 => h2) (fun i h1 h2 => by have h2 : i = b := h2; show i = b; omega)
    replace F6 := RdO.keep F6 K28 (fun i _ _ hi hs => by have hs : i = b := hs; have := hne i _ _ hi; omega)
    clear K28
    refine od ?_
    refine qs ?_
    refine qs ?_
    refine qg ?_
    refine og 3 [(0, (ptr b)), (2, (Value.slice none 0 0)), (3, (i64 ((r.pos : Nat) : Int))), (4, (Value.int IntKind.u64 ((r.uint.1 : Nat) : Int))), (49, (Value.pointer (some ⟨b, 2, none⟩)))] 3 ?_
    refine Ops.go (v := (i64 10)) (by kernel_rfl) (Runs.load (t := 25) (a := ⟨b, 2, none⟩) (by kernel_rfl) (H27.loads (by kernel_rfl))) (d := (some 50)) (by kernel_rfl) rfl ?_
    refine og 1 [(0, (ptr b)), (2, (Value.slice none 0 0)), (3, (i64 ((r.pos : Nat) : Int))), (4, (Value.int IntKind.u64 ((r.uint.1 : Nat) : Int))), (51, (Value.bool true))] 5 ?_
    refine od ?_
    refine q_then (o := .tmp 51) (by kernel_rfl) rfl ?_
    refine qs ?_
    refine qg ?_
    refine og 4 [(0, (ptr b)), (2, (Value.slice none 0 0)), (4, (Value.int IntKind.u64 ((r.uint.1 : Nat) : Int))), (53, (i64 ((r.pos : Nat) : Int))), (55, (Value.pointer (some ⟨b, 1, none⟩)))] 4 ?_
    refine Ops.put (t := 3) (b := b) (off := 1) (v := (i64 ((r.pos : Nat) : Int))) (ys := [(Value.slice A r.uint.2.bs.length c), (i64 ((r.pos : Nat) : Int)), (i64 10)]) (by kernel_rfl) (by kernel_rfl) H27 (by kernel_rfl) (d := none) (by kernel_rfl) rfl (fun w29 H30 K31 => ?_)
    clear H27
    replace K0 := K0.trans K31 (U := (fun i => i = b)) (fun i h1 h2 => h2) (fun i h1 h2 => by have h2 : i = b := h2; show i = b; omega)
    replace F6 := RdO.keep F6 K31 (fun i _ _ hi hs => by have hs : i = b := hs; have := hne i _ _ hi; omega)
    clear K31
    refine od ?_
    refine qs ?_
    refine qg ?_
    refine og 1 [(0, (ptr b)), (2, (Value.slice none 0 0)), (4, (Value.int IntKind.u64 ((r.uint.1 : Nat) : Int)))] 1 ?_
    refine od ?_
    refine q_ret (by kernel_rfl) ?_
    refine ⟨(Value.slice none 0 0), retv_tmp rfl rfl, ?_⟩
    have e : r.bytes = ([], (⟨r.uint.2.bs, r.pos, 10⟩ : Rdr)) := by by_cases hr0 : r.why = 0; (unfold Rdr.bytes Rdr.sized; (repeat' split) <;> first | (exfalso; omega) | rfl | (simp only [Rdr.uint_bs]; done) | (simp only [Rdr.uint_bs]; simp only [Nat.add_sub_cancel_left]; done) | (exfalso; simp only at *; omega)); (have hr1 := hw0 hr0; rw [Rdr.bytes_err hr0]; first | (exfalso; omega) | (rw [Rdr.uint_bs, hr1.2.2]; done))
    exact ⟨(Value.slice none 0 0), rfl, K0, by rw [e]; exact (World.ownsRow_nil _ _ _ _), by rw [e]; exact H30⟩
   ·rw [h24]
    have p32 : ¬ (((r.uint.2.bs.length : Nat) : Int) - ((r.uint.2.pos : Nat) : Int) < ((r.uint.1 : Nat) : Int)) := of_decide_eq_false h24
    refine q_skip (by kernel_rfl) ?_
    refine qs ?_
    refine qs ?_
    refine qg ?_
    refine og 3 [(0, (ptr b)), (2, (Value.slice none 0 0)), (3, (i64 ((r.pos : Nat) : Int))), (4, (Value.int IntKind.u64 ((r.uint.1 : Nat) : Int))), (49, (Value.pointer (some ⟨b, 2, none⟩)))] 3 ?_
    refine Ops.go (v := (i64 r.uint.2.why)) (by kernel_rfl) (Runs.load (t := 25) (a := ⟨b, 2, none⟩) (by kernel_rfl) (H3.loads (by kernel_rfl))) (d := (some 50)) (by kernel_rfl) rfl ?_
    refine og 1 [(0, (ptr b)), (2, (Value.slice none 0 0)), (3, (i64 ((r.pos : Nat) : Int))), (4, (Value.int IntKind.u64 ((r.uint.1 : Nat) : Int))), (51, (Value.bool (r.uint.2.why != 0)))] 5 ?_
    refine od ?_
    refine q_cond (o := .tmp 51) (b := (r.uint.2.why != 0)) (by kernel_rfl) rfl (fun h33 => ?_) (fun h33 => ?_)
    ·rw [h33]
     have p34 : ¬ (r.uint.2.why = 0) := of_bne_t h33
     refine qs ?_
     refine qg ?_
     refine og 4 [(0, (ptr b)), (2, (Value.slice none 0 0)), (4, (Value.int IntKind.u64 ((r.uint.1 : Nat) : Int))), (53, (i64 ((r.pos : Nat) : Int))), (55, (Value.pointer (some ⟨b, 1, none⟩)))] 4 ?_
     refine Ops.put (t := 3) (b := b) (off := 1) (v := (i64 ((r.pos : Nat) : Int))) (ys := [(Value.slice A r.uint.2.bs.length c), (i64 ((r.pos : Nat) : Int)), (i64 r.uint.2.why)]) (by kernel_rfl) (by kernel_rfl) H3 (by kernel_rfl) (d := none) (by kernel_rfl) rfl (fun w35 H36 K37 => ?_)
     clear H3
     replace K0 := K0.trans K37 (U := (fun i => i = b)) (fun i h1 h2 => h2) (fun i h1 h2 => by have h2 : i = b := h2; show i = b; omega)
     replace F6 := RdO.keep F6 K37 (fun i _ _ hi hs => by have hs : i = b := hs; have := hne i _ _ hi; omega)
     clear K37
     refine od ?_
     refine qs ?_
     refine qg ?_
     refine og 1 [(0, (ptr b)), (2, (Value.slice none 0 0)), (4, (Value.int IntKind.u64 ((r.uint.1 : Nat) : Int)))] 1 ?_
     refine od ?_
     refine q_ret (by kernel_rfl) ?_
     refine ⟨(Value.slice none 0 0), retv_tmp rfl rfl, ?_⟩
     have e : r.bytes = ([], (⟨r.uint.2.bs, r.pos, r.uint.2.why⟩ : Rdr)) := by by_cases hr0 : r.why = 0; (unfold Rdr.bytes Rdr.sized; (repeat' split) <;> first | (exfalso; omega) | rfl | (simp only [Rdr.uint_bs]; done) | (simp only [Rdr.uint_bs]; simp only [Nat.add_sub_cancel_left]; done) | (exfalso; simp only at *; omega)); (have hr1 := hw0 hr0; rw [Rdr.bytes_err hr0]; first | (exfalso; omega) | (rw [Rdr.uint_bs, hr1.2.2]; done))
     exact ⟨(Value.slice none 0 0), rfl, K0, by rw [e]; exact (World.ownsRow_nil _ _ _ _), by rw [e]; exact H36⟩
    ·rw [h33]
     have p38 : r.uint.2.why = 0 := of_bne_f h33
     refine q_skip (by kernel_rfl) ?_
     refine qs ?_
     refine qg ?_
     refine og 1 [(0, (ptr b)), (2, (Value.slice none 0 0)), (4, (Value.int IntKind.u64 ((r.uint.1 : Nat) : Int))), (5, (Value.slice none 0 0))] 1 ?_
     refine od ?_
     refine qs ?_
     refine q_draw (fun wz => Keeps none_ w20 wz) 19 (by kernel_rfl) (by kernel_rfl) (by kernel_rfl) (fun w39 K40 _ _ => ⟨K40, ?_⟩)
     replace K0 := K0.trans K40 (U := (fun i => i = b)) (fun i h1 h2 => h2) (fun i h1 h2 => by exact h2.elim)
     replace H3 := H3.keep K40 (fun h => h)
     replace F6 := RdO.keep0 F6 K40
     refine Dr.strong (S' := (fun wz => Keeps none_ w39 wz)) (Keeps.refl w39) (fun wz hx => K40.trans hx (fun i _ h => h) (fun _ _ h => h)) ?_
     clear K40
     refine Dr.takes (fuel' := 15) (is' := [3, 2, 1, 0]) [0, 1, 2, 3] [(0, (ptr b)), (2, (Value.slice none 0 0)), (4, (Value.int IntKind.u64 ((r.uint.1 : Nat) : Int))), (5, (Value.slice none 0 0)), (56, (Value.slice none 0 0)), (59, (ptr b))] (by kernel_rfl) rfl (by kernel_rfl) ?_
     refine Dr.take (i := 4) (v := (Value.slice A r.uint.2.bs.length c)) (by kernel_rfl) (by kernel_rfl) (fun wz hS => Runs.load (t := 22) (a := ⟨b, 0, none⟩) (by kernel_rfl) ((H3.keep hS (fun h => h)).loads (by kernel_rfl))) (d := (some 60)) (by kernel_rfl) rfl ?_
     refine Dr.takes (fuel' := 11) (is' := [7, 6, 5, 4, 3, 2, 1, 0]) [5, 6, 7] [(0, (ptr b)), (2, (Value.slice none 0 0)), (4, (Value.int IntKind.u64 ((r.uint.1 : Nat) : Int))), (5, (Value.slice none 0 0)), (56, (Value.slice none 0 0)), (60, (Value.slice A r.uint.2.bs.length c)), (63, (Value.pointer (some ⟨b, 1, none⟩)))] (by kernel_rfl) rfl (by kernel_rfl) ?_
     refine Dr.take (i := 8) (v := (i64 ((r.uint.2.pos : Nat) : Int))) (by kernel_rfl) (by kernel_rfl) (fun wz hS => Runs.load (t := 3) (a := ⟨b, 1, none⟩) (by kernel_rfl) ((H3.keep hS (fun h => h)).loads (by kernel_rfl))) (d := (some 64)) (by kernel_rfl) rfl ?_
     refine Dr.takes (fuel' := 7) (is' := [11, 10, 9, 8, 7, 6, 5, 4, 3, 2, 1, 0]) [9, 10, 11] [(0, (ptr b)), (2, (Value.slice none 0 0)), (4, (Value.int IntKind.u64 ((r.uint.1 : Nat) : Int))), (5, (Value.slice none 0 0)), (56, (Value.slice none 0 0)), (60, (Value.slice A r.uint.2.bs.length c)), (64, (i64 ((r.uint.2.pos : Nat) : Int))), (67, (Value.pointer (some ⟨b, 1, none⟩)))] (by kernel_rfl) rfl (by kernel_rfl) ?_
     refine Dr.take (i := 12) (v := (i64 ((r.uint.2.pos : Nat) : Int))) (by kernel_rfl) (by kernel_rfl) (fun wz hS => Runs.load (t := 3) (a := ⟨b, 1, none⟩) (by kernel_rfl) ((H3.keep hS (fun h => h)).loads (by kernel_rfl))) (d := (some 68)) (by kernel_rfl) rfl ?_
     refine Dr.takes (fuel' := 4) (is' := [14, 13, 12, 11, 10, 9, 8, 7, 6, 5, 4, 3, 2, 1, 0]) [13, 14] [(0, (ptr b)), (2, (Value.slice none 0 0)), (4, (Value.int IntKind.u64 ((r.uint.1 : Nat) : Int))), (5, (Value.slice none 0 0)), (56, (Value.slice none 0 0)), (60, (Value.slice A r.uint.2.bs.length c)), (64, (i64 ((r.uint.2.pos : Nat) : Int))), (68, (i64 ((r.uint.2.pos : Nat) : Int))), (70, (i64 (IntKind.i64.wrap (((r.uint.1 : Nat) : Int)))))] (by kernel_rfl) rfl (by kernel_rfl) ?_
     have e41 : IntKind.i64.wrap (((r.uint.1 : Nat) : Int)) = ((r.uint.1 : Nat) : Int) := wrap_i64 (by omega) (by omega)
     rw [e41]
     refine Dr.takes (fuel' := 3) (is' := [15, 14, 13, 12, 11, 10, 9, 8, 7, 6, 5, 4, 3, 2, 1, 0]) [15] [(0, (ptr b)), (2, (Value.slice none 0 0)), (4, (Value.int IntKind.u64 ((r.uint.1 : Nat) : Int))), (5, (Value.slice none 0 0)), (56, (Value.slice none 0 0)), (60, (Value.slice A r.uint.2.bs.length c)), (64, (i64 ((r.uint.2.pos : Nat) : Int))), (71, (i64 (IntKind.i64.wrap (((r.uint.2.pos : Nat) : Int) + ((r.uint.1 : Nat) : Int)))))] (by kernel_rfl) rfl (by kernel_rfl) ?_
     have e42 : IntKind.i64.wrap (((r.uint.2.pos : Nat) : Int) + ((r.uint.1 : Nat) : Int)) = ((r.uint.2.pos + r.uint.1 : Nat) : Int) := by rw [wrap_i64 (by omega) (by omega)]; omega
     rw [e42]
     clear e42
     have hslF43 := RdB.slice F6.1
     have F43 := RdB.cutlh F6.1 r.uint.2.pos (r.uint.2.pos + r.uint.1) (by omega) (by omega)
     have hlF43 : ((r.uint.2.bs.drop r.uint.2.pos).take ((r.uint.2.pos + r.uint.1) - r.uint.2.pos)).length = (r.uint.2.pos + r.uint.1) - r.uint.2.pos := by rw [List.length_take, List.length_drop]; omega
     refine Dr.take (i := 16) (v := (Value.slice (if c = r.uint.2.pos then A else Option.map (fun q => Addr.add q (r.uint.2.pos * 1)) A) ((r.uint.2.pos + r.uint.1) - r.uint.2.pos) (c - r.uint.2.pos))) (by kernel_rfl) (by kernel_rfl) (fun wz hS => Runs.slice (by kernel_rfl) (run_cut (sz := 1) (t := 22) (A := A) (n := r.uint.2.bs.length) (c := c) r.uint.2.pos (r.uint.2.pos + r.uint.1) c (lo := some (i64 ((r.uint.2.pos : Nat) : Int))) (hi := some (i64 ((r.uint.2.pos + r.uint.1 : Nat) : Int))) (mx := none) tyB.slice (by kernel_rfl) (.inr ⟨_, rfl⟩) (.inr ⟨_, rfl⟩) (.inl ⟨rfl, rfl⟩) (by omega) (by omega) (by omega))) (d := (some 72)) (by kernel_rfl) rfl ?_
     obtain ⟨v44, w45, hr46, hO47, hK48⟩ := OwnB.app (ty := 22) (base := w39.heap.size) tyB (show OwnB w39 w39.heap.size 5 (.slice none 0 0) [] from World.ownsRow_nil _ _ _ _) F43 (by simp only [List.length_nil]; omega) (Nat.le_refl _)
     have hO49 : OwnB w45 _ 5 v44 ((r.uint.2.bs.drop r.uint.2.pos).take ((r.uint.2.pos + r.uint.1) - r.uint.2.pos)) := hO47
     have ob52 : ∀ i, (v44).ownBlock = some i → i ≠ b := fun i hi => by have := (World.ownsRow.lt hO49 i hi).1; have := H3.lt; omega
     have oo53 : ∀ i o s, A = some ⟨i, o, s⟩ → (v44).ownBlock = some i → False := fun i o s hi hs => by have := (World.ownsRow.lt hO49 i hs).1; have := F6.2 i o s hi; omega
     have K51 := Keeps.new hK48
     have O50 := own_base hO49 K0.size
     replace K0 := K0.trans K51 (U := (fun i => i = b)) (fun i h1 h2 => h2) (fun i h1 h2 => by exact h2.elim)
     replace H3 := H3.keep K51 (fun h => h)
     replace F6 := RdO.keep0 F6 K51
     replace F43 := (Rd.keep0 (by omega) F43 K51)
     refine Dr.go (i := 17) (v := v44) (by kernel_rfl) (by kernel_rfl) (Runs.append (ts := #[22, 22]) (ty := 22) (vs := [(Value.slice none 0 0), (Value.slice (if c = r.uint.2.pos then A else Option.map (fun q => Addr.add q (r.uint.2.pos * 1)) A) ((r.uint.2.pos + r.uint.1) - r.uint.2.pos) (c - r.uint.2.pos))]) (by kernel_rfl) hr46) (d := (some 73)) (by kernel_rfl) rfl K51 ?_
     refine Dr.strong (S' := (fun wz => Keeps none_ w45 wz)) (Keeps.refl w45) (fun wz hx => K51.trans hx (fun i _ h => h) (fun _ _ h => h)) ?_
     clear K51 hr46 hK48 hO47 hO49
     refine Dr.takes (fuel' := 0) (is' := [18, 17, 16, 15, 14, 13, 12, 11, 10, 9, 8, 7, 6, 5, 4, 3, 2, 1, 0]) [18] [(0, (ptr b)), (2, (Value.slice none 0 0)), (4, (Value.int IntKind.u64 ((r.uint.1 : Nat) : Int))), (5, v44)] (by kernel_rfl) rfl (by kernel_rfl) ?_
     refine Dr.done (by kernel_rfl) ?_
     refine qs ?_
     refine qg ?_
     refine og 4 [(2, (Value.slice none 0 0)), (4, (Value.int IntKind.u64 ((r.uint.1 : Nat) : Int))), (5, v44), (74, (ptr b)), (77, (Value.pointer (some ⟨b, 1, none⟩)))] 4 ?_
     refine Ops.go (v := (i64 ((r.uint.2.pos : Nat) : Int))) (by kernel_rfl) (Runs.load (t := 3) (a := ⟨b, 1, none⟩) (by kernel_rfl) (H3.loads (by kernel_rfl))) (d := (some 78)) (by kernel_rfl) rfl ?_
     refine og 2 [(2, (Value.slice none 0 0)), (5, v44), (74, (ptr b)), (78, (i64 ((r.uint.2.pos : Nat) : Int))), (80, (i64 (IntKind.i64.wrap (((r.uint.1 : Nat) : Int)))))] 7 ?_
     have e55 : IntKind.i64.wrap (((r.uint.1 : Nat) : Int)) = ((r.uint.1 : Nat) : Int) := wrap_i64 (by omega) (by omega)
     rw [e55]
     refine og 1 [(2, (Value.slice none 0 0)), (5, v44), (74, (ptr b)), (81, (i64 (IntKind.i64.wrap (((r.uint.2.pos : Nat) : Int) + ((r.uint.1 : Nat) : Int)))))] 8 ?_
     have e56 : IntKind.i64.wrap (((r.uint.2.pos : Nat) : Int) + ((r.uint.1 : Nat) : Int)) = ((r.uint.2.pos + r.uint.1 : Nat) : Int) := by rw [wrap_i64 (by omega) (by omega)]; omega
     rw [e56]
     clear e56
     refine og 2 [(2, (Value.slice none 0 0)), (5, v44), (81, (i64 ((r.uint.2.pos + r.uint.1 : Nat) : Int))), (83, (Value.pointer (some ⟨b, 1, none⟩)))] 10 ?_
     refine Ops.put (t := 3) (b := b) (off := 1) (v := (i64 ((r.uint.2.pos + r.uint.1 : Nat) : Int))) (ys := [(Value.slice A r.uint.2.bs.length c), (i64 ((r.uint.2.pos + r.uint.1 : Nat) : Int)), (i64 r.uint.2.why)]) (by kernel_rfl) (by kernel_rfl) H3 (by kernel_rfl) (d := none) (by kernel_rfl) rfl (fun w57 H58 K59 => ?_)
     clear H3
     replace K0 := K0.trans K59 (U := (fun i => i = b)) (fun i h1 h2 => h2) (fun i h1 h2 => by have h2 : i = b := h2; show i = b; omega)
     replace F6 := RdO.keep F6 K59 (fun i _ _ hi hs => by have hs : i = b := hs; have := hne i _ _ hi; omega)
     clear F43
     replace O50 := own_keep O50 K59 (fun i hi hs => by have hs : i = b := hs; have := ob52 i hi; omega)
     clear K59
     refine od ?_
     refine qs ?_
     refine qg ?_
     refine og 2 [(2, v44)] 2 ?_
     refine od ?_
     refine q_ret (by kernel_rfl) ?_
     refine ⟨v44, retv_tmp rfl rfl, ?_⟩
     have e : r.bytes = ((r.uint.2.bs.drop r.uint.2.pos).take ((r.uint.2.pos + r.uint.1) - r.uint.2.pos), (⟨r.uint.2.bs, r.uint.2.pos + r.uint.1, r.uint.2.why⟩ : Rdr)) := by by_cases hr0 : r.why = 0; (unfold Rdr.bytes Rdr.sized; (repeat' split) <;> first | (exfalso; omega) | rfl | (simp only [Rdr.uint_bs]; done) | (simp only [Rdr.uint_bs]; simp only [Nat.add_sub_cancel_left]; done) | (exfalso; simp only at *; omega)); (have hr1 := hw0 hr0; rw [Rdr.bytes_err hr0]; first | (exfalso; omega) | (rw [Rdr.uint_bs, hr1.2.2]; done))
     exact ⟨v44, rfl, K0, by rw [e]; exact O50, by rw [e]; exact H58⟩
 ·rw [h7]
  have p60 : ¬ (r.uint.2.why = 0) := of_beq_f h7
  refine og 3 [(0, (ptr b)), (2, (Value.slice none 0 0)), (3, (i64 ((r.pos : Nat) : Int))), (4, (Value.int IntKind.u64 ((r.uint.1 : Nat) : Int))), (20, (Value.bool false))] 9 ?_
  refine od ?_
  refine q_else (o := .tmp 20) (by kernel_rfl) rfl ?_
  refine q_skip (by kernel_rfl) ?_
  refine qs ?_
  refine qs ?_
  refine q_draw (fun wz => Keeps none_ w1 wz) 20 (by kernel_rfl) (by kernel_rfl) (by kernel_rfl) (fun w61 K62 _ _ => ⟨K62, ?_⟩)
  replace K0 := K0.trans K62 (U := (fun i => i = b)) (fun i h1 h2 => h2) (fun i h1 h2 => by exact h2.elim)
  replace H3 := H3.keep K62 (fun h => h)
  replace F6 := RdO.keep0 F6 K62
  refine Dr.strong (S' := (fun wz => Keeps none_ w61 wz)) (Keeps.refl w61) (fun wz hx => K62.trans hx (fun i _ h => h) (fun _ _ h => h)) ?_
  clear K62
  refine Dr.takes (fuel' := 17) (is' := [2, 1, 0]) [0, 1, 2] [(0, (ptr b)), (2, (Value.slice none 0 0)), (3, (i64 ((r.pos : Nat) : Int))), (4, (Value.int IntKind.u64 ((r.uint.1 : Nat) : Int))), (26, (Value.pointer (some ⟨b, 2, none⟩)))] (by kernel_rfl) rfl (by kernel_rfl) ?_
  refine Dr.take (i := 3) (v := (i64 r.uint.2.why)) (by kernel_rfl) (by kernel_rfl) (fun wz hS => Runs.load (t := 25) (a := ⟨b, 2, none⟩) (by kernel_rfl) ((H3.keep hS (fun h => h)).loads (by kernel_rfl))) (d := (some 27)) (by kernel_rfl) rfl ?_
  refine Dr.takes (fuel' := 14) (is' := [5, 4, 3, 2, 1, 0]) [4, 5] [(0, (ptr b)), (2, (Value.slice none 0 0)), (3, (i64 ((r.pos : Nat) : Int))), (4, (Value.int IntKind.u64 ((r.uint.1 : Nat) : Int))), (29, (Value.bool (r.uint.2.why == 0)))] (by kernel_rfl) rfl (by kernel_rfl) ?_
  rw [h7]
  refine Dr.takes (fuel' := 0) (is' := [19, 18, 17, 16, 15, 14, 13, 12, 11, 10, 9, 8, 7, 6, 5, 4, 3, 2, 1, 0]) [6, 7, 8, 9, 10, 11, 12, 13, 14, 15, 16, 17, 18, 19] [(0, (ptr b)), (2, (Value.slice none 0 0)), (3, (i64 ((r.pos : Nat) : Int))), (4, (Value.int IntKind.u64 ((r.uint.1 : Nat) : Int))), (43, (Value.bool false))] (by kernel_rfl) rfl (by kernel_rfl) ?_
  refine Dr.done (by kernel_rfl) ?_
  refine q_else (o := .tmp 43) (by kernel_rfl) rfl ?_
  refine q_skip (by kernel_rfl) ?_
  refine qs ?_
  refine qs ?_
  refine qg ?_
  refine og 3 [(0, (ptr b)), (2, (Value.slice none 0 0)), (3, (i64 ((r.pos : Nat) : Int))), (4, (Value.int IntKind.u64 ((r.uint.1 : Nat) : Int))), (49, (Value.pointer (some ⟨b, 2, none⟩)))] 3 ?_
  refine Ops.go (v := (i64 r.uint.2.why)) (by kernel_rfl) (Runs.load (t := 25) (a := ⟨b, 2, none⟩) (by kernel_rfl) (H3.loads (by kernel_rfl))) (d := (some 50)) (by kernel_rfl) rfl ?_
  refine og 1 [(0, (ptr b)), (2, (Value.slice none 0 0)), (3, (i64 ((r.pos : Nat) : Int))), (4, (Value.int IntKind.u64 ((r.uint.1 : Nat) : Int))), (51, (Value.bool (r.uint.2.why != 0)))] 5 ?_
  refine od ?_
  refine q_cond (o := .tmp 51) (b := (r.uint.2.why != 0)) (by kernel_rfl) rfl (fun h63 => ?_) (fun h63 => ?_)
  ·rw [h63]
   have p64 : ¬ (r.uint.2.why = 0) := of_bne_t h63
   refine qs ?_
   refine qg ?_
   refine og 4 [(0, (ptr b)), (2, (Value.slice none 0 0)), (4, (Value.int IntKind.u64 ((r.uint.1 : Nat) : Int))), (53, (i64 ((r.pos : Nat) : Int))), (55, (Value.pointer (some ⟨b, 1, none⟩)))] 4 ?_
   refine Ops.put (t := 3) (b := b) (off := 1) (v := (i64 ((r.pos : Nat) : Int))) (ys := [(Value.slice A r.uint.2.bs.length c), (i64 ((r.pos : Nat) : Int)), (i64 r.uint.2.why)]) (by kernel_rfl) (by kernel_rfl) H3 (by kernel_rfl) (d := none) (by kernel_rfl) rfl (fun w65 H66 K67 => ?_)
   clear H3
   replace K0 := K0.trans K67 (U := (fun i => i = b)) (fun i h1 h2 => h2) (fun i h1 h2 => by have h2 : i = b := h2; show i = b; omega)
   replace F6 := RdO.keep F6 K67 (fun i _ _ hi hs => by have hs : i = b := hs; have := hne i _ _ hi; omega)
   clear K67
   refine od ?_
   refine qs ?_
   refine qg ?_
   refine og 1 [(0, (ptr b)), (2, (Value.slice none 0 0)), (4, (Value.int IntKind.u64 ((r.uint.1 : Nat) : Int)))] 1 ?_
   refine od ?_
   refine q_ret (by kernel_rfl) ?_
   refine ⟨(Value.slice none 0 0), retv_tmp rfl rfl, ?_⟩
   have e : r.bytes = ([], (⟨r.uint.2.bs, r.pos, r.uint.2.why⟩ : Rdr)) := by by_cases hr0 : r.why = 0; (unfold Rdr.bytes Rdr.sized; (repeat' split) <;> first | (exfalso; omega) | rfl | (simp only [Rdr.uint_bs]; done) | (simp only [Rdr.uint_bs]; simp only [Nat.add_sub_cancel_left]; done) | (exfalso; simp only at *; omega)); (have hr1 := hw0 hr0; rw [Rdr.bytes_err hr0]; first | (exfalso; omega) | (rw [Rdr.uint_bs, hr1.2.2]; done))
   exact ⟨(Value.slice none 0 0), rfl, K0, by rw [e]; exact (World.ownsRow_nil _ _ _ _), by rw [e]; exact H66⟩
  ·rw [h63]
   have p68 : r.uint.2.why = 0 := of_bne_f h63
   refine q_skip (by kernel_rfl) ?_
   refine qs ?_
   refine qg ?_
   refine og 1 [(0, (ptr b)), (2, (Value.slice none 0 0)), (4, (Value.int IntKind.u64 ((r.uint.1 : Nat) : Int))), (5, (Value.slice none 0 0))] 1 ?_
   refine od ?_
   refine qs ?_
   refine q_draw (fun wz => Keeps none_ w61 wz) 19 (by kernel_rfl) (by kernel_rfl) (by kernel_rfl) (fun w69 K70 _ _ => ⟨K70, ?_⟩)
   replace K0 := K0.trans K70 (U := (fun i => i = b)) (fun i h1 h2 => h2) (fun i h1 h2 => by exact h2.elim)
   replace H3 := H3.keep K70 (fun h => h)
   replace F6 := RdO.keep0 F6 K70
   refine Dr.strong (S' := (fun wz => Keeps none_ w69 wz)) (Keeps.refl w69) (fun wz hx => K70.trans hx (fun i _ h => h) (fun _ _ h => h)) ?_
   clear K70
   refine Dr.takes (fuel' := 15) (is' := [3, 2, 1, 0]) [0, 1, 2, 3] [(0, (ptr b)), (2, (Value.slice none 0 0)), (4, (Value.int IntKind.u64 ((r.uint.1 : Nat) : Int))), (5, (Value.slice none 0 0)), (56, (Value.slice none 0 0)), (59, (ptr b))] (by kernel_rfl) rfl (by kernel_rfl) ?_
   refine Dr.take (i := 4) (v := (Value.slice A r.uint.2.bs.length c)) (by kernel_rfl) (by kernel_rfl) (fun wz hS => Runs.load (t := 22) (a := ⟨b, 0, none⟩) (by kernel_rfl) ((H3.keep hS (fun h => h)).loads (by kernel_rfl))) (d := (some 60)) (by kernel_rfl) rfl ?_
   refine Dr.takes (fuel' := 11) (is' := [7, 6, 5, 4, 3, 2, 1, 0]) [5, 6, 7] [(0, (ptr b)), (2, (Value.slice none 0 0)), (4, (Value.int IntKind.u64 ((r.uint.1 : Nat) : Int))), (5, (Value.slice none 0 0)), (56, (Value.slice none 0 0)), (60, (Value.slice A r.uint.2.bs.length c)), (63, (Value.pointer (some ⟨b, 1, none⟩)))] (by kernel_rfl) rfl (by kernel_rfl) ?_
   refine Dr.take (i := 8) (v := (i64 ((r.uint.2.pos : Nat) : Int))) (by kernel_rfl) (by kernel_rfl) (fun wz hS => Runs.load (t := 3) (a := ⟨b, 1, none⟩) (by kernel_rfl) ((H3.keep hS (fun h => h)).loads (by kernel_rfl))) (d := (some 64)) (by kernel_rfl) rfl ?_
   refine Dr.takes (fuel' := 7) (is' := [11, 10, 9, 8, 7, 6, 5, 4, 3, 2, 1, 0]) [9, 10, 11] [(0, (ptr b)), (2, (Value.slice none 0 0)), (4, (Value.int IntKind.u64 ((r.uint.1 : Nat) : Int))), (5, (Value.slice none 0 0)), (56, (Value.slice none 0 0)), (60, (Value.slice A r.uint.2.bs.length c)), (64, (i64 ((r.uint.2.pos : Nat) : Int))), (67, (Value.pointer (some ⟨b, 1, none⟩)))] (by kernel_rfl) rfl (by kernel_rfl) ?_
   refine Dr.take (i := 12) (v := (i64 ((r.uint.2.pos : Nat) : Int))) (by kernel_rfl) (by kernel_rfl) (fun wz hS => Runs.load (t := 3) (a := ⟨b, 1, none⟩) (by kernel_rfl) ((H3.keep hS (fun h => h)).loads (by kernel_rfl))) (d := (some 68)) (by kernel_rfl) rfl ?_
   refine Dr.takes (fuel' := 4) (is' := [14, 13, 12, 11, 10, 9, 8, 7, 6, 5, 4, 3, 2, 1, 0]) [13, 14] [(0, (ptr b)), (2, (Value.slice none 0 0)), (4, (Value.int IntKind.u64 ((r.uint.1 : Nat) : Int))), (5, (Value.slice none 0 0)), (56, (Value.slice none 0 0)), (60, (Value.slice A r.uint.2.bs.length c)), (64, (i64 ((r.uint.2.pos : Nat) : Int))), (68, (i64 ((r.uint.2.pos : Nat) : Int))), (70, (i64 (IntKind.i64.wrap (((r.uint.1 : Nat) : Int)))))] (by kernel_rfl) rfl (by kernel_rfl) ?_
   have e71 : IntKind.i64.wrap (((r.uint.1 : Nat) : Int)) = ((r.uint.1 : Nat) : Int) := wrap_i64 (by omega) (by omega)
   rw [e71]
   refine Dr.takes (fuel' := 3) (is' := [15, 14, 13, 12, 11, 10, 9, 8, 7, 6, 5, 4, 3, 2, 1, 0]) [15] [(0, (ptr b)), (2, (Value.slice none 0 0)), (4, (Value.int IntKind.u64 ((r.uint.1 : Nat) : Int))), (5, (Value.slice none 0 0)), (56, (Value.slice none 0 0)), (60, (Value.slice A r.uint.2.bs.length c)), (64, (i64 ((r.uint.2.pos : Nat) : Int))), (71, (i64 (IntKind.i64.wrap (((r.uint.2.pos : Nat) : Int) + ((r.uint.1 : Nat) : Int)))))] (by kernel_rfl) rfl (by kernel_rfl) ?_
   have e72 : IntKind.i64.wrap (((r.uint.2.pos : Nat) : Int) + ((r.uint.1 : Nat) : Int)) = ((r.uint.2.pos + r.uint.1 : Nat) : Int) := by rw [wrap_i64 (by omega) (by omega)]; omega
   rw [e72]
   clear e72
   have hslF73 := RdB.slice F6.1
   have F73 := RdB.cutlh F6.1 r.uint.2.pos (r.uint.2.pos + r.uint.1) (by omega) (by omega)
   have hlF73 : ((r.uint.2.bs.drop r.uint.2.pos).take ((r.uint.2.pos + r.uint.1) - r.uint.2.pos)).length = (r.uint.2.pos + r.uint.1) - r.uint.2.pos := by rw [List.length_take, List.length_drop]; omega
   refine Dr.take (i := 16) (v := (Value.slice (if c = r.uint.2.pos then A else Option.map (fun q => Addr.add q (r.uint.2.pos * 1)) A) ((r.uint.2.pos + r.uint.1) - r.uint.2.pos) (c - r.uint.2.pos))) (by kernel_rfl) (by kernel_rfl) (fun wz hS => Runs.slice (by kernel_rfl) (run_cut (sz := 1) (t := 22) (A := A) (n := r.uint.2.bs.length) (c := c) r.uint.2.pos (r.uint.2.pos + r.uint.1) c (lo := some (i64 ((r.uint.2.pos : Nat) : Int))) (hi := some (i64 ((r.uint.2.pos + r.uint.1 : Nat) : Int))) (mx := none) tyB.slice (by kernel_rfl) (.inr ⟨_, rfl⟩) (.inr ⟨_, rfl⟩) (.inl ⟨rfl, rfl⟩) (by omega) (by omega) (by omega))) (d := (some 72)) (by kernel_rfl) rfl ?_
   obtain ⟨v74, w75, hr76, hO77, hK78⟩ := OwnB.app (ty := 22) (base := w69.heap.size) tyB (show OwnB w69 w69.heap.size 5 (.slice none 0 0) [] from World.ownsRow_nil _ _ _ _) F73 (by simp only [List.length_nil]; omega) (Nat.le_refl _)
   have hO79 : OwnB w75 _ 5 v74 ((r.uint.2.bs.drop r.uint.2.pos).take ((r.uint.2.pos + r.uint.1) - r.uint.2.pos)) := hO77
   have ob82 : ∀ i, (v74).ownBlock = some i → i ≠ b := fun i hi => by have := (World.ownsRow.lt hO79 i hi).1; have := H3.lt; omega
   have oo83 : ∀ i o s, A = some ⟨i, o, s⟩ → (v74).ownBlock = some i → False := fun i o s hi hs => by have := (World.ownsRow.lt hO79 i hs).1; have := F6.2 i o s hi; omega
   have K81 := Keeps.new hK78
   have O80 := own_base hO79 K0.size
   replace K0 := K0.trans K81 (U := (fun i => i = b)) (fun i h1 h2 => h2) (fun i h1 h2 => by exact h2.elim)
   replace H3 := H3.keep K81 (fun h => h)
   replace F6 := RdO.keep0 F6 K81
   replace F73 := (Rd.keep0 (by omega) F73 K81)
   refine Dr.go (i := 17) (v := v74) (by kernel_rfl) (by kernel_rfl) (Runs.append (ts := #[22, 22]) (ty := 22) (vs := [(Value.slice none 0 0), (Value.slice (if c = r.uint.2.pos then A else Option.map (fun q => Addr.add q (r.uint.2.pos * 1)) A) ((r.uint.2.pos + r.uint.1) - r.uint.2.pos) (c - r.uint.2.pos))]) (by kernel_rfl) hr76) (d := (some 73)) (by kernel_rfl) rfl K81 ?_
   refine Dr.strong (S' := (fun wz => Keeps none_ w75 wz)) (Keeps.refl w75) (fun wz hx => K81.trans hx (fun i _ h => h) (fun _ _ h => h)) ?_
   clear K81 hr76 hK78 hO77 hO79
   refine Dr.takes (fuel' := 0) (is' := [18, 17, 16, 15, 14, 13, 12, 11, 10, 9, 8, 7, 6, 5, 4, 3, 2, 1, 0]) [18] [(0, (ptr b)), (2, (Value.slice none 0 0)), (4, (Value.int IntKind.u64 ((r.uint.1 : Nat) : Int))), (5, v74)] (by kernel_rfl) rfl (by kernel_rfl) ?_
   refine Dr.done (by kernel_rfl) ?_
   refine qs ?_
   refine qg ?_
   refine og 4 [(2, (Value.slice none 0 0)), (4, (Value.int IntKind.u64 ((r.uint.1 : Nat) : Int))), (5, v74), (74, (ptr b)), (77, (Value.pointer (some ⟨b, 1, none⟩)))] 4 ?_
   refine Ops.go (v := (i64 ((r.uint.2.pos : Nat) : Int))) (by kernel_rfl) (Runs.load (t := 3) (a := ⟨b, 1, none⟩) (by kernel_rfl) (H3.loads (by kernel_rfl))) (d := (some 78)) (by kernel_rfl) rfl ?_
   refine og 2 [(2, (Value.slice none 0 0)), (5, v74), (74, (ptr b)), (78, (i64 ((r.uint.2.pos : Nat) : Int))), (80, (i64 (IntKind.i64.wrap (((r.uint.1 : Nat) : Int)))))] 7 ?_
   have e85 : IntKind.i64.wrap (((r.uint.1 : Nat) : Int)) = ((r.uint.1 : Nat) : Int) := wrap_i64 (by omega) (by omega)
   rw [e85]
   refine og 1 [(2, (Value.slice none 0 0)), (5, v74), (74, (ptr b)), (81, (i64 (IntKind.i64.wrap (((r.uint.2.pos : Nat) : Int) + ((r.uint.1 : Nat) : Int)))))] 8 ?_
   have e86 : IntKind.i64.wrap (((r.uint.2.pos : Nat) : Int) + ((r.uint.1 : Nat) : Int)) = ((r.uint.2.pos + r.uint.1 : Nat) : Int) := by rw [wrap_i64 (by omega) (by omega)]; omega
   rw [e86]
   clear e86
   refine og 2 [(2, (Value.slice none 0 0)), (5, v74), (81, (i64 ((r.uint.2.pos + r.uint.1 : Nat) : Int))), (83, (Value.pointer (some ⟨b, 1, none⟩)))] 10 ?_
   refine Ops.put (t := 3) (b := b) (off := 1) (v := (i64 ((r.uint.2.pos + r.uint.1 : Nat) : Int))) (ys := [(Value.slice A r.uint.2.bs.length c), (i64 ((r.uint.2.pos + r.uint.1 : Nat) : Int)), (i64 r.uint.2.why)]) (by kernel_rfl) (by kernel_rfl) H3 (by kernel_rfl) (d := none) (by kernel_rfl) rfl (fun w87 H88 K89 => ?_)
   clear H3
   replace K0 := K0.trans K89 (U := (fun i => i = b)) (fun i h1 h2 => h2) (fun i h1 h2 => by have h2 : i = b := h2; show i = b; omega)
   replace F6 := RdO.keep F6 K89 (fun i _ _ hi hs => by have hs : i = b := hs; have := hne i _ _ hi; omega)
   clear F73
   replace O80 := own_keep O80 K89 (fun i hi hs => by have hs : i = b := hs; have := ob82 i hi; omega)
   clear K89
   refine od ?_
   refine qs ?_
   refine qg ?_
   refine og 2 [(2, v74)] 2 ?_
   refine od ?_
   refine q_ret (by kernel_rfl) ?_
   refine ⟨v74, retv_tmp rfl rfl, ?_⟩
   have e : r.bytes = ((r.uint.2.bs.drop r.uint.2.pos).take ((r.uint.2.pos + r.uint.1) - r.uint.2.pos), (⟨r.uint.2.bs, r.uint.2.pos + r.uint.1, r.uint.2.why⟩ : Rdr)) := by by_cases hr0 : r.why = 0; (unfold Rdr.bytes Rdr.sized; (repeat' split) <;> first | (exfalso; omega) | rfl | (simp only [Rdr.uint_bs]; done) | (simp only [Rdr.uint_bs]; simp only [Nat.add_sub_cancel_left]; done) | (exfalso; simp only at *; omega)); (have hr1 := hw0 hr0; rw [Rdr.bytes_err hr0]; first | (exfalso; omega) | (rw [Rdr.uint_bs, hr1.2.2]; done))
   exact ⟨v74, rfl, K0, by rw [e]; exact O80, by rw [e]; exact H88⟩

theorem RRText_calls (w : World) (b : Nat) (A : Option Addr) (c : Nat) (r : Rdr) (hok : r.Ok) (H0 : Has w b (rowL (rdrL A c r) 95)) (hR : RdO w A c r.bs) (hne : ∀ g o s, A = some ⟨g, o, s⟩ → g ≠ b) : Calls Tryz.prog 66 ⟨[(ptr b)]⟩ w (fun e w' => e = .returned (.string (str r.bytes.1)) ∧ Keeps (fun i => i = b) w w' ∧ Has w' b (rowL (rdrL A c (r.bytes).2) 95)) := by
 have hpos := hok.pos
 have hlen := hok.len
 have hsc := r.scan_le
 have hdl : (r.bs.drop r.pos).length = r.bs.length - r.pos := List.length_drop
 have hcap := hR.1.slice
 have Hb := H0.lt
 have K0 : Keeps (fun i => i = b) w w := (Keeps.refl w).mono (fun _ _ h => h.elim)
 refine q_calls Tryz.func66 (by kernel_rfl) (by kernel_rfl) ?_
 refine qs ?_
 refine qg ?_
 refine og 1 [(0, (ptr b)), (2, (Value.string (str ([] : List UInt8))))] 1 ?_
 refine od ?_
 refine qs ?_
 refine qg ?_
 refine og 1 [(2, (Value.string (str ([] : List UInt8)))), (3, (ptr b))] 1 ?_
 refine Ops.call (by kernel_rfl) (d := (some 4)) (by kernel_rfl) (RRBytes_calls _ b A c r hok H0 hR hne ) ?_
 rintro _ w1 ⟨v6, rfl, K2, hO7, H3⟩
 have hok4 : (r.bytes).2.Ok := Rdr.Ok.bytes hok
 have hu5 := Rdr.bytes_le hok
 have ob9 : ∀ i, (v6).ownBlock = some i → i ≠ b := fun i hi => by have := (World.ownsRow.lt hO7 i hi).1; have := H0.lt; omega
 have oo10 : ∀ i o s, A = some ⟨i, o, s⟩ → (v6).ownBlock = some i → False := fun i o s hi hs => by have := (World.ownsRow.lt hO7 i hs).1; have := hR.2 i o s hi; omega
 have O8 := own_base hO7 K0.size
 clear hO7
 refine ⟨_, _, rfl, rfl, ?_⟩
 replace K0 := K0.trans K2 (U := (fun i => i = b)) (fun i h1 h2 => h2) (fun i h1 h2 => by have h2 : i = b := h2; show i = b; omega)
 replace hR := RdO.keep hR K2 (fun i _ _ hi hs => by have hs : i = b := hs; have := hne i _ _ hi; omega)
 clear K2
 have F12 : RdO w1 A c (r.bytes).2.bs := by rw [Rdr.bytes_bs]; exact hR
 clear hR
 refine Ops.go (v := (Value.string (str ((r.bytes).1)))) (by kernel_rfl) (Runs.b2s (s := 22) (d := 9) (e := 5) (by kernel_rfl) (by kernel_rfl) (by kernel_rfl) (OwnB.rd O8)) (d := (some 5)) (by kernel_rfl) rfl ?_
 refine og 1 [(2, (Value.string (str ((r.bytes).1))))] 4 ?_
 refine od ?_
 refine q_ret (by kernel_rfl) ?_
 refine ⟨(Value.string (str ((r.bytes).1))), retv_tmp rfl rfl, ?_⟩
 exact ⟨rfl, K0, H3⟩

theorem Kept_calls (w : World) (A : Option Addr) (c : Nat) (bs : List UInt8) (base : Nat) (B : Option Addr) (bc : Nat) (hO : OwnB w base 5 (.slice A (bs ++ [byte 167]).length c) (bs ++ [byte 167])) (hB : RdB w (.slice B bs.length bc) bs) (hbl : bs.length ≤ 140737488351232) : Calls Tryz.prog 8 ⟨[(Value.slice A bs.length c), (Value.slice B bs.length bc)]⟩ w (fun e w' => e = .returned (.bool true) ∧ Keeps none_ w w') := by
 have hsl := (OwnB.rd hO).slice
 rw [List.length_append] at hsl
 simp only [List.length_cons] at hsl
 simp only [List.length_nil] at hsl
 have K0 : Keeps none_ w w := Keeps.refl w
 refine q_calls Tryz.func8 (by kernel_rfl) (by kernel_rfl) ?_
 refine qs ?_
 refine qg ?_
 refine og 1 [(0, (Value.slice A bs.length c)), (1, (Value.slice B bs.length bc)), (4, (Value.bool false))] 1 ?_
 refine od ?_
 refine qs ?_
 refine qg ?_
 refine og 1 [(0, (Value.slice A bs.length c)), (1, (Value.slice B bs.length bc)), (4, (Value.bool false)), (5, (Value.slice A bs.length c))] 1 ?_
 refine Ops.go (v := (Value.string (str bs))) (by kernel_rfl) (Runs.b2s (s := 22) (d := 9) (e := 5) (by kernel_rfl) (by kernel_rfl) (by kernel_rfl) ((OwnB.rd (OwnB.cut hO (by simp))).keep0 (by omega) K0)) (d := (some 6)) (by kernel_rfl) rfl ?_
 refine og 1 [(0, (Value.slice A bs.length c)), (1, (Value.slice B bs.length bc)), (4, (Value.bool false)), (6, (Value.string (str bs))), (7, (Value.slice B bs.length bc))] 3 ?_
 refine Ops.go (v := (Value.string (str bs))) (by kernel_rfl) (Runs.b2s (s := 22) (d := 9) (e := 5) (by kernel_rfl) (by kernel_rfl) (by kernel_rfl) (hB.keep0 (by omega) K0)) (d := (some 8)) (by kernel_rfl) rfl ?_
 refine Ops.go (v := (Value.bool (bs == bs))) (by kernel_rfl) (Runs.streq (t := 9) (by kernel_rfl)) (d := (some 9)) (by kernel_rfl) rfl ?_
 refine og 1 [(0, (Value.slice A bs.length c)), (1, (Value.slice B bs.length bc)), (4, (Value.bool false)), (10, (Value.bool (bs == bs)))] 6 ?_
 have h1 : (bs == bs) = true := by simp
 rw [h1]
 refine og 4 [(1, (Value.slice B bs.length bc)), (4, (Value.bool false)), (10, (Value.bool true)), (11, (Value.slice A bs.length c)), (14, (i64 (IntKind.i64.wrap (((bs.length : Nat) : Int) + 1))))] 10 ?_
 have e2 : IntKind.i64.wrap (((bs.length : Nat) : Int) + 1) = ((bs.length + 1 : Nat) : Int) := by rw [wrap_i64 (by omega) (by omega)]; omega
 rw [e2]
 clear e2
 have hcut := run_cut (sz := 1) (P := Tryz.prog) (w := w) (t := 22) (A := A) (n := bs.length) (c := c) 0 (bs.length + 1) c (lo := none) (hi := some (i64 ((bs.length + 1 : Nat) : Int))) (mx := none) tyB.slice (by kernel_rfl) (.inl ⟨rfl, rfl⟩) (.inr ⟨_, rfl⟩) (.inl ⟨rfl, rfl⟩) (by omega) (by omega) (by omega)
 have hA0 : (if c = 0 then A else Option.map (fun q => Addr.add q (0 * 1)) A) = A := by cases A <;> simp [Addr.add]
 rw [hA0, Nat.sub_zero, Nat.sub_zero] at hcut
 refine Ops.go (v := (Value.slice A (bs.length + 1) c)) (by kernel_rfl) (Runs.slice (by kernel_rfl) hcut) (d := (some 15)) (by kernel_rfl) rfl ?_
 clear hcut hA0
 obtain ⟨lb, lo, hA⟩ := RdB.addr (OwnB.rd hO) (by simp)
 have hx : (bs ++ [byte 167])[bs.length]? = some (byte 167) := by simp
 refine og 2 [(4, (Value.bool false)), (10, (Value.bool true)), (15, (Value.slice A (bs.length + 1) c)), (17, (i64 ((bs.length : Nat) : Int)))] 13 ?_
 refine Ops.go (by kernel_rfl) (Runs.ixSliceE (k := IntKind.i64) (t := 22) (len := (bs.length + 1)) (cap := c) (s := 1) (off' := lo + bs.length) (i := ((bs.length : Nat) : Int)) hA (by kernel_rfl) (by kernel_rfl) (by omega) (by omega) (by omega)) (d := (some 18)) (by kernel_rfl) rfl ?_
 refine Ops.go (v := (Value.int IntKind.u8 (((byte 167).toNat : Nat) : Int))) (by kernel_rfl) (Runs.load (t := 5) (a := ⟨lb, lo + bs.length, none⟩) (by kernel_rfl) (RdB.ld (Rd.keep0 (by omega) (OwnB.rd hO) K0) (by kernel_rfl) hA hx)) (d := (some 19)) (by kernel_rfl) rfl ?_
 refine og 3 [(4, (Value.bool ((((byte 167).toNat : Nat) : Int) == 167)))] 18 ?_
 refine od ?_
 refine q_ret (by kernel_rfl) ?_
 refine ⟨(Value.bool ((((byte 167).toNat : Nat) : Int) == 167)), retv_tmp rfl rfl, ?_⟩
 exact ⟨by rw [show ((((byte 167).toNat : Nat) : Int) == 167) = true from beq_t (by decide)], K0⟩
end Go.Proofs.YtooginpgclcldaaGreatDoor
namespace Go.Proofs.YtooginpgclcldaaGreatDoor
open Go.Q Go.RowKit

theorem RHold_none (w : World) (base r : Nat) (A : Option Addr) (c : Nat) (S : List AccM) (n : List UInt8) (x : List UInt8) (Hr : Has w r (rowL [.slice A S.length c] 43)) (hO : OwnT w base 97 3 AccM.cells (.slice A S.length c) S) (hne : ∀ i, (Value.slice A S.length c).ownBlock = some i → i ≠ r) (hS : Accs S) (hg : getS S n = none) : Calls Tryz.prog 50 ⟨[(ptr r), (Value.string (str n)), (Value.string (str x))]⟩ w (fun e w' => ∃ A' c', e = .returned (i64 (chgE (holdF x) S n)) ∧ Keeps (fun i => i = r ∨ (Value.slice A S.length c).ownBlock = some i) w w' ∧ Has w' r (rowL [.slice A' (chgS (holdF x) S n).length c'] 43) ∧ OwnT w' base 97 3 AccM.cells (.slice A' (chgS (holdF x) S n).length c') (chgS (holdF x) S n) ∧ ∀ i, (Value.slice A' (chgS (holdF x) S n).length c').ownBlock = some i → (Value.slice A S.length c).ownBlock = some i ∨ w.heap.size ≤ i) := by
 have hR := OwnT.rd hO
 have Hrl := Hr.lt
 have hcap := RdT.len AccM.three (by decide) hR
 unfold maxLen at hcap
 have hfn := find_none hg
 have K0 : Keeps none_ w w := Keeps.refl w
 refine q_calls Tryz.func50 (by kernel_rfl) (by kernel_rfl) ?_
 refine qs ?_
 refine qg ?_
 refine og 1 [(0, (ptr r)), (1, (Value.string (str n))), (2, (Value.string (str x))), (6, (i64 0))] 1 ?_
 refine od ?_
 refine qs ?_
 refine qg ?_
 refine og 2 [(0, (ptr r)), (2, (Value.string (str x))), (6, (i64 0)), (10, (ptr r)), (11, (Value.string (str n)))] 2 ?_
 refine Ops.call (by kernel_rfl) (d := (some 12)) (by kernel_rfl) (find_calls _ r A c S n Hr (OwnT.rd hO)) ?_
 rintro _ w2 ⟨rfl, K1⟩
 refine ⟨_, _, rfl, rfl, ?_⟩
 replace K0 := K0.t0 K1
 replace Hr := Hr.keep K1 (fun h => h)
 replace hO := own_keep0 hO K1
 clear K1
 refine og 5 [(0, (ptr r)), (2, (Value.string (str x))), (6, (i64 0)), (7, (i64 ((posS S n : Nat) : Int))), (8, (Value.bool (hasS S n)))] 8 ?_
 refine od ?_
 refine qs ?_
 refine q_block (id := 0) (by kernel_rfl) ?_
 refine qs ?_
 refine qg ?_
 refine og 3 [(0, (ptr r)), (2, (Value.string (str x))), (6, (i64 0)), (7, (i64 ((posS S n : Nat) : Int))), (15, (Value.bool (!(hasS S n))))] 3 ?_
 refine od ?_
 have h3 : (!(hasS S n)) = true := by rw [show (hasS S n) = false from hfn]; rfl
 rw [h3]
 refine q_then (o := .tmp 15) (by kernel_rfl) rfl ?_
 refine qs ?_
 refine qg ?_
 refine og 1 [(0, (ptr r)), (2, (Value.string (str x))), (6, (i64 40)), (7, (i64 ((posS S n : Nat) : Int)))] 1 ?_
 refine od ?_
 refine q_ret (by kernel_rfl) ?_
 refine ⟨(i64 40), retv_tmp rfl rfl, ?_⟩
 have e1 : chgE (holdF x) S n = 40 := by unfold chgE; rw [hg]
 have e2 : chgS (holdF x) S n = S := by unfold chgS; rw [hg]
 rw [e1, e2]
 exact ⟨A, c, rfl, K0.mono fun _ _ h => h.elim, Hr, hO, fun i h => .inl h⟩

theorem RHold_some (w : World) (base r : Nat) (A : Option Addr) (c : Nat) (S : List AccM) (n : List UInt8) (x : List UInt8) (Hr : Has w r (rowL [.slice A S.length c] 43)) (hO : OwnT w base 97 3 AccM.cells (.slice A S.length c) S) (hne : ∀ i, (Value.slice A S.length c).ownBlock = some i → i ≠ r) (hS : Accs S) (a : AccM) (hg : getS S n = some a) : Calls Tryz.prog 50 ⟨[(ptr r), (Value.string (str n)), (Value.string (str x))]⟩ w (fun e w' => ∃ A' c', e = .returned (i64 (chgE (holdF x) S n)) ∧ Keeps (fun i => i = r ∨ (Value.slice A S.length c).ownBlock = some i) w w' ∧ Has w' r (rowL [.slice A' (chgS (holdF x) S n).length c'] 43) ∧ OwnT w' base 97 3 AccM.cells (.slice A' (chgS (holdF x) S n).length c') (chgS (holdF x) S n) ∧ ∀ i, (Value.slice A' (chgS (holdF x) S n).length c').ownBlock = some i → (Value.slice A S.length c).ownBlock = some i ∨ w.heap.size ≤ i) := by
 have hR := OwnT.rd hO
 have Hrl := Hr.lt
 have hcap := RdT.len AccM.three (by decide) hR
 unfold maxLen at hcap
 have hfs := find_some hS hg
 have hf2 := hfs.2
 have hfl := (List.getElem?_eq_some_iff.1 hf2).1
 have hao := hS.ok a (getS_some hg).1
 have ha1 := hao.lo
 have ha2 := hao.hi
 obtain ⟨gb, cur, hA, hgb, Hg, hcl, hca, hput⟩ := OwnT.open AccM.three (by decide) hf2 hO
 have c0 : cur[posS S n * 3]? = some (.string (str a.name)) := hca 0 _ rfl
 have c1 : cur[posS S n * 3 + 1]? = some (i64 a.amt) := hca 1 _ rfl
 have c2 : cur[posS S n * 3 + 2]? = some (.string (str a.own)) := hca 2 _ rfl
 have hgr : gb ≠ r := hne gb (by rw [hA]; rfl)
 have Hgl := Hg.lt
 have K0 : Keeps (fun i => i = gb) w w := (Keeps.refl w).mono (fun _ _ h => h.elim)
 refine q_calls Tryz.func50 (by kernel_rfl) (by kernel_rfl) ?_
 refine qs ?_
 refine qg ?_
 refine og 1 [(0, (ptr r)), (1, (Value.string (str n))), (2, (Value.string (str x))), (6, (i64 0))] 1 ?_
 refine od ?_
 refine qs ?_
 refine qg ?_
 refine og 2 [(0, (ptr r)), (2, (Value.string (str x))), (6, (i64 0)), (10, (ptr r)), (11, (Value.string (str n)))] 2 ?_
 refine Ops.call (by kernel_rfl) (d := (some 12)) (by kernel_rfl) (find_calls _ r A c S n Hr (OwnT.rd hO)) ?_
 rintro _ w2 ⟨rfl, K1⟩
 refine ⟨_, _, rfl, rfl, ?_⟩
 replace K0 := K0.trans K1 (U := (fun i => i = gb)) (fun i h1 h2 => h2) (fun i h1 h2 => by exact h2.elim)
 replace Hr := Hr.keep K1 (fun h => h)
 replace Hg := Hg.keep K1 (fun h => h)
 replace hO := own_keep0 hO K1
 clear K1
 refine og 5 [(0, (ptr r)), (2, (Value.string (str x))), (6, (i64 0)), (7, (i64 ((posS S n : Nat) : Int))), (8, (Value.bool (hasS S n)))] 8 ?_
 refine od ?_
 refine qs ?_
 refine q_block (id := 0) (by kernel_rfl) ?_
 refine qs ?_
 refine qg ?_
 refine og 3 [(0, (ptr r)), (2, (Value.string (str x))), (6, (i64 0)), (7, (i64 ((posS S n : Nat) : Int))), (15, (Value.bool (!(hasS S n))))] 3 ?_
 refine od ?_
 have h3 : (!(hasS S n)) = false := by rw [show (hasS S n) = true from hfs.1]; rfl
 rw [h3]
 refine q_else (o := .tmp 15) (by kernel_rfl) rfl ?_
 refine qs ?_
 refine qg ?_
 refine og 1 [(0, (ptr r)), (2, (Value.string (str x))), (6, (i64 0)), (7, (i64 ((posS S n : Nat) : Int))), (19, (Value.string (str x)))] 1 ?_
 refine Ops.go (v := (Value.bool (x == ([] : List UInt8)))) (by kernel_rfl) (Runs.streq (t := 9) (by kernel_rfl)) (d := (some 20)) (by kernel_rfl) rfl ?_
 refine og 1 [(0, (ptr r)), (2, (Value.string (str x))), (6, (i64 0)), (7, (i64 ((posS S n : Nat) : Int))), (21, (Value.bool (x == ([] : List UInt8))))] 3 ?_
 refine Ops.split (x == ([] : List UInt8)) (fun h4 => ?_) (fun h4 => ?_)
 ·rw [h4]
  have p5 : (x == ([] : List UInt8)) = true := h4
  refine og 5 [(0, (ptr r)), (2, (Value.string (str x))), (6, (i64 0)), (7, (i64 ((posS S n : Nat) : Int))), (18, (Value.bool true))] 8 ?_
  refine od ?_
  refine q_then (o := .tmp 18) (by kernel_rfl) rfl ?_
  refine qs ?_
  refine qg ?_
  refine og 1 [(0, (ptr r)), (2, (Value.string (str x))), (6, (i64 1)), (7, (i64 ((posS S n : Nat) : Int)))] 1 ?_
  refine od ?_
  refine q_ret (by kernel_rfl) ?_
  refine ⟨(i64 1), retv_tmp rfl rfl, ?_⟩
  have e : (holdF x) (a.amt, a.own) = (1, a.amt, a.own) := by unfold holdF; simp only; first | (rw [if_pos (by first | omega | (simp_all; done) | (simp_all; omega))]; done) | (rw [if_neg (by first | omega | (simp_all; done) | (simp_all; omega)), if_pos (by first | omega | (simp_all; done) | (simp_all; omega))]; done) | (rw [if_neg (by first | omega | (simp_all; done) | (simp_all; omega)), if_neg (by first | omega | (simp_all; done) | (simp_all; omega))]; done) | (rw [if_neg (by first | omega | (simp_all; done) | (simp_all; omega))]; done)
  have e1 : chgE (holdF x) S n = 1 := by unfold chgE; rw [hg]; show ((holdF x) (a.amt, a.own)).1 = _; rw [e]
  have e2 : chgS (holdF x) S n = S := by unfold chgS; rw [hg]; show setS S n ((holdF x) (a.amt, a.own)).2 = _; rw [e]; exact set_same hS hg
  rw [e1, e2]
  exact ⟨A, c, rfl, K0.mono fun i _ h => .inr (by rw [hA]; exact congrArg some (Eq.symm h)), Hr, hO, fun i h => .inl h⟩
 ·rw [h4]
  have p6 : (x == ([] : List UInt8)) = false := h4
  refine og 5 [(0, (ptr r)), (2, (Value.string (str x))), (6, (i64 0)), (7, (i64 ((posS S n : Nat) : Int))), (18, (Value.bool (decide (((x.length : Nat) : Int) > 65536))))] 8 ?_
  refine od ?_
  refine q_cond (o := .tmp 18) (b := (decide (((x.length : Nat) : Int) > 65536))) (by kernel_rfl) rfl (fun h7 => ?_) (fun h7 => ?_)
  ·rw [h7]
   have p8 : ((x.length : Nat) : Int) > 65536 := of_decide_eq_true h7
   refine qs ?_
   refine qg ?_
   refine og 1 [(0, (ptr r)), (2, (Value.string (str x))), (6, (i64 1)), (7, (i64 ((posS S n : Nat) : Int)))] 1 ?_
   refine od ?_
   refine q_ret (by kernel_rfl) ?_
   refine ⟨(i64 1), retv_tmp rfl rfl, ?_⟩
   have e : (holdF x) (a.amt, a.own) = (1, a.amt, a.own) := by unfold holdF; simp only; first | (rw [if_pos (by first | omega | (simp_all; done) | (simp_all; omega))]; done) | (rw [if_neg (by first | omega | (simp_all; done) | (simp_all; omega)), if_pos (by first | omega | (simp_all; done) | (simp_all; omega))]; done) | (rw [if_neg (by first | omega | (simp_all; done) | (simp_all; omega)), if_neg (by first | omega | (simp_all; done) | (simp_all; omega))]; done) | (rw [if_neg (by first | omega | (simp_all; done) | (simp_all; omega))]; done)
   have e1 : chgE (holdF x) S n = 1 := by unfold chgE; rw [hg]; show ((holdF x) (a.amt, a.own)).1 = _; rw [e]
   have e2 : chgS (holdF x) S n = S := by unfold chgS; rw [hg]; show setS S n ((holdF x) (a.amt, a.own)).2 = _; rw [e]; exact set_same hS hg
   rw [e1, e2]
   exact ⟨A, c, rfl, K0.mono fun i _ h => .inr (by rw [hA]; exact congrArg some (Eq.symm h)), Hr, hO, fun i h => .inl h⟩
  ·rw [h7]
   have p9 : ¬ (((x.length : Nat) : Int) > 65536) := of_decide_eq_false h7
   refine qs ?_
   refine qg ?_
   refine og 3 [(0, (ptr r)), (2, (Value.string (str x))), (6, (i64 0)), (7, (i64 ((posS S n : Nat) : Int))), (29, (ptr r))] 3 ?_
   refine Ops.go (v := (Value.slice A S.length c)) (by kernel_rfl) (Runs.load (t := 41) (a := ⟨r, 0, none⟩) (by kernel_rfl) (Hr.loads (by kernel_rfl))) (d := (some 30)) (by kernel_rfl) rfl ?_
   refine og 1 [(0, (ptr r)), (2, (Value.string (str x))), (6, (i64 0)), (7, (i64 ((posS S n : Nat) : Int))), (30, (Value.slice A S.length c)), (31, (i64 ((posS S n : Nat) : Int)))] 5 ?_
   refine Ops.go (by kernel_rfl) (Runs.ixSliceE (k := IntKind.i64) (t := 41) (len := S.length) (cap := c) (s := 3) (off' := (posS S n) * 3) (i := ((posS S n : Nat) : Int)) hA (by kernel_rfl) (by kernel_rfl) (by omega) (by omega) (by omega)) (d := (some 32)) (by kernel_rfl) rfl ?_
   refine og 1 [(0, (ptr r)), (2, (Value.string (str x))), (6, (i64 0)), (7, (i64 ((posS S n : Nat) : Int))), (33, (Value.pointer (some ⟨gb, (posS S n) * 3 + 2, none⟩)))] 7 ?_
   refine Ops.go (v := (Value.string (str a.own))) (by kernel_rfl) (Runs.load (t := 9) (a := ⟨gb, (posS S n) * 3 + 2, none⟩) (by kernel_rfl) (Hg.loads (loadC1 (by kernel_rfl) c2))) (d := (some 34)) (by kernel_rfl) rfl ?_
   refine Ops.go (v := (Value.bool (!(a.own == ([] : List UInt8))))) (by kernel_rfl) (Runs.strne (t := 9) (by kernel_rfl)) (d := (some 35)) (by kernel_rfl) rfl ?_
   refine og 1 [(0, (ptr r)), (2, (Value.string (str x))), (6, (i64 0)), (7, (i64 ((posS S n : Nat) : Int))), (36, (Value.bool (!(a.own == ([] : List UInt8)))))] 10 ?_
   refine Ops.split (!(a.own == ([] : List UInt8))) (fun h10 => ?_) (fun h10 => ?_)
   ·rw [h10]
    have p11 : (a.own == ([] : List UInt8)) = false := (bnot_true h10)
    refine og 3 [(0, (ptr r)), (2, (Value.string (str x))), (6, (i64 0)), (7, (i64 ((posS S n : Nat) : Int))), (36, (Value.bool true)), (39, (ptr r))] 13 ?_
    refine Ops.go (v := (Value.slice A S.length c)) (by kernel_rfl) (Runs.load (t := 41) (a := ⟨r, 0, none⟩) (by kernel_rfl) (Hr.loads (by kernel_rfl))) (d := (some 40)) (by kernel_rfl) rfl ?_
    refine og 1 [(0, (ptr r)), (2, (Value.string (str x))), (6, (i64 0)), (7, (i64 ((posS S n : Nat) : Int))), (36, (Value.bool true)), (40, (Value.slice A S.length c)), (41, (i64 ((posS S n : Nat) : Int)))] 15 ?_
    refine Ops.go (by kernel_rfl) (Runs.ixSliceE (k := IntKind.i64) (t := 41) (len := S.length) (cap := c) (s := 3) (off' := (posS S n) * 3) (i := ((posS S n : Nat) : Int)) hA (by kernel_rfl) (by kernel_rfl) (by omega) (by omega) (by omega)) (d := (some 42)) (by kernel_rfl) rfl ?_
    refine og 1 [(0, (ptr r)), (2, (Value.string (str x))), (6, (i64 0)), (7, (i64 ((posS S n : Nat) : Int))), (36, (Value.bool true)), (43, (Value.pointer (some ⟨gb, (posS S n) * 3 + 2, none⟩)))] 17 ?_
    refine Ops.go (v := (Value.string (str a.own))) (by kernel_rfl) (Runs.load (t := 9) (a := ⟨gb, (posS S n) * 3 + 2, none⟩) (by kernel_rfl) (Hg.loads (loadC1 (by kernel_rfl) c2))) (d := (some 44)) (by kernel_rfl) rfl ?_
    refine og 1 [(0, (ptr r)), (2, (Value.string (str x))), (6, (i64 0)), (7, (i64 ((posS S n : Nat) : Int))), (36, (Value.bool true)), (44, (Value.string (str a.own))), (45, (Value.string (str x)))] 19 ?_
    refine Ops.go (v := (Value.bool (!(a.own == x)))) (by kernel_rfl) (Runs.strne (t := 9) (by kernel_rfl)) (d := (some 46)) (by kernel_rfl) rfl ?_
    refine og 2 [(0, (ptr r)), (2, (Value.string (str x))), (6, (i64 0)), (7, (i64 ((posS S n : Nat) : Int))), (26, (Value.bool (!(a.own == x))))] 22 ?_
    refine od ?_
    refine q_cond (o := .tmp 26) (b := (!(a.own == x))) (by kernel_rfl) rfl (fun h12 => ?_) (fun h12 => ?_)
    ·rw [h12]
     have p13 : (a.own == x) = false := (bnot_true h12)
     refine qs ?_
     refine qg ?_
     refine og 1 [(0, (ptr r)), (2, (Value.string (str x))), (6, (i64 5)), (7, (i64 ((posS S n : Nat) : Int)))] 1 ?_
     refine od ?_
     refine q_ret (by kernel_rfl) ?_
     refine ⟨(i64 5), retv_tmp rfl rfl, ?_⟩
     have e : (holdF x) (a.amt, a.own) = (5, a.amt, a.own) := by unfold holdF; simp only; first | (rw [if_pos (by first | omega | (simp_all; done) | (simp_all; omega))]; done) | (rw [if_neg (by first | omega | (simp_all; done) | (simp_all; omega)), if_pos (by first | omega | (simp_all; done) | (simp_all; omega))]; done) | (rw [if_neg (by first | omega | (simp_all; done) | (simp_all; omega)), if_neg (by first | omega | (simp_all; done) | (simp_all; omega))]; done) | (rw [if_neg (by first | omega | (simp_all; done) | (simp_all; omega))]; done)
     have e1 : chgE (holdF x) S n = 5 := by unfold chgE; rw [hg]; show ((holdF x) (a.amt, a.own)).1 = _; rw [e]
     have e2 : chgS (holdF x) S n = S := by unfold chgS; rw [hg]; show setS S n ((holdF x) (a.amt, a.own)).2 = _; rw [e]; exact set_same hS hg
     rw [e1, e2]
     exact ⟨A, c, rfl, K0.mono fun i _ h => .inr (by rw [hA]; exact congrArg some (Eq.symm h)), Hr, hO, fun i h => .inl h⟩
    ·rw [h12]
     have p14 : (a.own == x) = true := (bnot_false h12)
     refine q_skip (by kernel_rfl) ?_
     refine qs ?_
     refine qg ?_
     refine og 3 [(2, (Value.string (str x))), (6, (i64 0)), (7, (i64 ((posS S n : Nat) : Int))), (50, (ptr r))] 3 ?_
     refine Ops.go (v := (Value.slice A S.length c)) (by kernel_rfl) (Runs.load (t := 41) (a := ⟨r, 0, none⟩) (by kernel_rfl) (Hr.loads (by kernel_rfl))) (d := (some 51)) (by kernel_rfl) rfl ?_
     refine og 2 [(6, (i64 0)), (51, (Value.slice A S.length c)), (52, (i64 ((posS S n : Nat) : Int))), (53, (Value.string (str x)))] 6 ?_
     refine Ops.go (by kernel_rfl) (Runs.ixSliceE (k := IntKind.i64) (t := 41) (len := S.length) (cap := c) (s := 3) (off' := (posS S n) * 3) (i := ((posS S n : Nat) : Int)) hA (by kernel_rfl) (by kernel_rfl) (by omega) (by omega) (by omega)) (d := (some 54)) (by kernel_rfl) rfl ?_
     refine og 1 [(6, (i64 0)), (53, (Value.string (str x))), (55, (Value.pointer (some ⟨gb, (posS S n) * 3 + 2, none⟩)))] 8 ?_
     refine Ops.put (t := 9) (b := gb) (off := (posS S n) * 3 + 2) (v := (Value.string (str x))) (ys := (cur.set ((posS S n) * 3 + 2) (Value.string (str x)))) (by kernel_rfl) (by kernel_rfl) Hg (storeC1 (by kernel_rfl) rfl (by omega) rfl) (d := none) (by kernel_rfl) rfl (fun w15 H16 K17 => ?_)
     clear Hg
     replace K0 := K0.trans K17 (U := (fun i => i = gb)) (fun i h1 h2 => h2) (fun i h1 h2 => by have h2 : i = gb := h2; show i = gb; omega)
     replace Hr := Hr.keep K17 (by intro h; change r = gb at h; omega)
     clear hO
     clear K17
     refine od ?_
     refine qs ?_
     refine qg ?_
     refine og 1 [(6, (i64 0))] 1 ?_
     refine od ?_
     refine q_ret (by kernel_rfl) ?_
     refine ⟨(i64 0), retv_tmp rfl rfl, ?_⟩
     have e : (holdF x) (a.amt, a.own) = (0, a.amt, x) := by unfold holdF; simp only; first | (rw [if_pos (by first | omega | (simp_all; done) | (simp_all; omega))]; done) | (rw [if_neg (by first | omega | (simp_all; done) | (simp_all; omega)), if_pos (by first | omega | (simp_all; done) | (simp_all; omega))]; done) | (rw [if_neg (by first | omega | (simp_all; done) | (simp_all; omega)), if_neg (by first | omega | (simp_all; done) | (simp_all; omega))]; done) | (rw [if_neg (by first | omega | (simp_all; done) | (simp_all; omega))]; done)
     have e1 : chgE (holdF x) S n = 0 := by unfold chgE; rw [hg]; show ((holdF x) (a.amt, a.own)).1 = _; rw [e]
     have e2 : chgS (holdF x) S n = S.set (posS S n) ⟨n, a.amt, x⟩ := by unfold chgS; rw [hg]; show setS S n ((holdF x) (a.amt, a.own)).2 = _; rw [e]; exact set_at hS hg _
     have hq := hput 2 (Value.string (str x)) ⟨n, a.amt, x⟩ (by decide) (by rw [← (getS_some hg).2]; rfl) _ H16
     rw [e1, e2, List.length_set]
     exact ⟨A, c, rfl, K0.mono fun i _ h => .inr (by rw [hA]; exact congrArg some (Eq.symm h)), Hr, hq, fun i h => .inl h⟩
   ·rw [h10]
    have p18 : (a.own == ([] : List UInt8)) = true := (bnot_false h10)
    refine og 12 [(0, (ptr r)), (2, (Value.string (str x))), (6, (i64 0)), (7, (i64 ((posS S n : Nat) : Int))), (26, (Value.bool false))] 22 ?_
    refine od ?_
    refine q_else (o := .tmp 26) (by kernel_rfl) rfl ?_
    refine q_skip (by kernel_rfl) ?_
    refine qs ?_
    refine qg ?_
    refine og 3 [(2, (Value.string (str x))), (6, (i64 0)), (7, (i64 ((posS S n : Nat) : Int))), (50, (ptr r))] 3 ?_
    refine Ops.go (v := (Value.slice A S.length c)) (by kernel_rfl) (Runs.load (t := 41) (a := ⟨r, 0, none⟩) (by kernel_rfl) (Hr.loads (by kernel_rfl))) (d := (some 51)) (by kernel_rfl) rfl ?_
    refine og 2 [(6, (i64 0)), (51, (Value.slice A S.length c)), (52, (i64 ((posS S n : Nat) : Int))), (53, (Value.string (str x)))] 6 ?_
    refine Ops.go (by kernel_rfl) (Runs.ixSliceE (k := IntKind.i64) (t := 41) (len := S.length) (cap := c) (s := 3) (off' := (posS S n) * 3) (i := ((posS S n : Nat) : Int)) hA (by kernel_rfl) (by kernel_rfl) (by omega) (by omega) (by omega)) (d := (some 54)) (by kernel_rfl) rfl ?_
    refine og 1 [(6, (i64 0)), (53, (Value.string (str x))), (55, (Value.pointer (some ⟨gb, (posS S n) * 3 + 2, none⟩)))] 8 ?_
    refine Ops.put (t := 9) (b := gb) (off := (posS S n) * 3 + 2) (v := (Value.string (str x))) (ys := (cur.set ((posS S n) * 3 + 2) (Value.string (str x)))) (by kernel_rfl) (by kernel_rfl) Hg (storeC1 (by kernel_rfl) rfl (by omega) rfl) (d := none) (by kernel_rfl) rfl (fun w19 H20 K21 => ?_)
    clear Hg
    replace K0 := K0.trans K21 (U := (fun i => i = gb)) (fun i h1 h2 => h2) (fun i h1 h2 => by have h2 : i = gb := h2; show i = gb; omega)
    replace Hr := Hr.keep K21 (by intro h; change r = gb at h; omega)
    clear hO
    clear K21
    refine od ?_
    refine qs ?_
    refine qg ?_
    refine og 1 [(6, (i64 0))] 1 ?_
    refine od ?_
    refine q_ret (by kernel_rfl) ?_
    refine ⟨(i64 0), retv_tmp rfl rfl, ?_⟩
    have e : (holdF x) (a.amt, a.own) = (0, a.amt, x) := by unfold holdF; simp only; first | (rw [if_pos (by first | omega | (simp_all; done) | (simp_all; omega))]; done) | (rw [if_neg (by first | omega | (simp_all; done) | (simp_all; omega)), if_pos (by first | omega | (simp_all; done) | (simp_all; omega))]; done) | (rw [if_neg (by first | omega | (simp_all; done) | (simp_all; omega)), if_neg (by first | omega | (simp_all; done) | (simp_all; omega))]; done) | (rw [if_neg (by first | omega | (simp_all; done) | (simp_all; omega))]; done)
    have e1 : chgE (holdF x) S n = 0 := by unfold chgE; rw [hg]; show ((holdF x) (a.amt, a.own)).1 = _; rw [e]
    have e2 : chgS (holdF x) S n = S.set (posS S n) ⟨n, a.amt, x⟩ := by unfold chgS; rw [hg]; show setS S n ((holdF x) (a.amt, a.own)).2 = _; rw [e]; exact set_at hS hg _
    have hq := hput 2 (Value.string (str x)) ⟨n, a.amt, x⟩ (by decide) (by rw [← (getS_some hg).2]; rfl) _ H20
    rw [e1, e2, List.length_set]
    exact ⟨A, c, rfl, K0.mono fun i _ h => .inr (by rw [hA]; exact congrArg some (Eq.symm h)), Hr, hq, fun i h => .inl h⟩

theorem RHold_calls (w : World) (base r : Nat) (A : Option Addr) (c : Nat) (S : List AccM) (n : List UInt8) (x : List UInt8) (Hr : Has w r (rowL [.slice A S.length c] 43)) (hO : OwnT w base 97 3 AccM.cells (.slice A S.length c) S) (hne : ∀ i, (Value.slice A S.length c).ownBlock = some i → i ≠ r) (hS : Accs S) : Calls Tryz.prog 50 ⟨[(ptr r), (Value.string (str n)), (Value.string (str x))]⟩ w (fun e w' => ∃ A' c', e = .returned (i64 (chgE (holdF x) S n)) ∧ Keeps (fun i => i = r ∨ (Value.slice A S.length c).ownBlock = some i) w w' ∧ Has w' r (rowL [.slice A' (chgS (holdF x) S n).length c'] 43) ∧ OwnT w' base 97 3 AccM.cells (.slice A' (chgS (holdF x) S n).length c') (chgS (holdF x) S n) ∧ ∀ i, (Value.slice A' (chgS (holdF x) S n).length c').ownBlock = some i → (Value.slice A S.length c).ownBlock = some i ∨ w.heap.size ≤ i) := by
 cases hg : getS S n with
 | none => exact RHold_none w base r A c S n x Hr hO hne hS hg
 | some a => exact RHold_some w base r A c S n x Hr hO hne hS a hg

end Go.Proofs.YtooginpgclcldaaGreatDoor
namespace Go.Proofs.YtooginpgclcldaaGreatDoor
open Go.Q Go.RowKit

theorem RName_calls (w : World) (n : List UInt8)  : Calls Tryz.prog 80 ⟨[(Value.string (str n))]⟩ w (fun e w' => e = .returned (.bool (nameOk n)) ∧ Keeps none_ w w') := by
 have K0 : Keeps none_ w w := Keeps.refl w
 refine q_calls Tryz.func80 (by kernel_rfl) (by kernel_rfl) ?_
 refine qs ?_
 refine qg ?_
 refine og 1 [(0, (Value.string (str n))), (2, (Value.bool false))] 1 ?_
 refine od ?_
 refine qs ?_
 refine qs ?_
 refine qg ?_
 refine og 4 [(0, (Value.string (str n))), (2, (Value.bool false)), (8, (Value.bool (decide (((n.length : Nat) : Int) < 1))))] 4 ?_
 refine Ops.split (decide (((n.length : Nat) : Int) < 1)) (fun h1 => ?_) (fun h1 => ?_)
 ·rw [h1]
  have p2 : ((n.length : Nat) : Int) < 1 := of_decide_eq_true h1
  refine og 4 [(0, (Value.string (str n))), (2, (Value.bool false)), (12, (Value.bool true))] 8 ?_
  refine od ?_
  refine q_then (o := .tmp 12) (by kernel_rfl) rfl ?_
  refine qs ?_
  refine qg ?_
  refine og 1 [(0, (Value.string (str n))), (2, (Value.bool false))] 1 ?_
  refine od ?_
  refine q_ret (by kernel_rfl) ?_
  refine ⟨(Value.bool false), retv_tmp rfl rfl, ?_⟩
  have e : nameOk n = false := by exact name_short (by omega)
  exact ⟨by rw [e], K0⟩
 ·rw [h1]
  have p3 : ¬ (((n.length : Nat) : Int) < 1) := of_decide_eq_false h1
  refine og 4 [(0, (Value.string (str n))), (2, (Value.bool false)), (12, (Value.bool (decide (((n.length : Nat) : Int) > 24))))] 8 ?_
  refine od ?_
  refine q_cond (o := .tmp 12) (b := (decide (((n.length : Nat) : Int) > 24))) (by kernel_rfl) rfl (fun h4 => ?_) (fun h4 => ?_)
  ·rw [h4]
   have p5 : ((n.length : Nat) : Int) > 24 := of_decide_eq_true h4
   refine qs ?_
   refine qg ?_
   refine og 1 [(0, (Value.string (str n))), (2, (Value.bool false))] 1 ?_
   refine od ?_
   refine q_ret (by kernel_rfl) ?_
   refine ⟨(Value.bool false), retv_tmp rfl rfl, ?_⟩
   have e : nameOk n = false := by exact name_short (by omega)
   exact ⟨by rw [e], K0⟩
  ·rw [h4]
   have p6 : ¬ (((n.length : Nat) : Int) > 24) := of_decide_eq_false h4
   refine q_skip (by kernel_rfl) ?_
   refine qs ?_
   refine qs ?_
   refine qg ?_
   refine og 1 [(0, (Value.string (str n))), (2, (Value.bool false)), (3, (i64 0))] 1 ?_
   refine od ?_
   refine q_block (id := 0) (by kernel_rfl) ?_
   refine q_keep (R := [(0, (Value.string (str n))), (3, (i64 0))]) (by kernel_rfl) ?_
   refine q_loop (fun (i : Nat) L (wx : World) => L = [(0, (Value.string (str n))), (3, (i64 ((i : Nat) : Int)))] ∧ (n.drop i).all letterB = n.all letterB ∧ i ≤ n.length ∧ Keeps none_ w wx) (fun (i : Nat) => n.length - i) 0 (by kernel_rfl) ⟨rfl, rfl, Nat.zero_le _, K0⟩ ?_
   clear K0
   rintro i _ w7 ⟨rfl, hE, hi, K8⟩
   refine qs ?_
   refine qs ?_
   refine qg ?_
   refine og 4 [(0, (Value.string (str n))), (3, (i64 ((i : Nat) : Int))), (16, (Value.bool (decide (((i : Nat) : Int) < ((n.length : Nat) : Int)))))] 4 ?_
   refine od ?_
   refine q_cond (o := .tmp 16) (b := (decide (((i : Nat) : Int) < ((n.length : Nat) : Int)))) (by kernel_rfl) rfl (fun h9 => ?_) (fun h9 => ?_)
   ·rw [h9]
    have p10 : ((i : Nat) : Int) < ((n.length : Nat) : Int) := of_decide_eq_true h9
    obtain ⟨x, hx⟩ : ∃ y, n[i]? = some y := ⟨_, List.getElem?_eq_getElem (by omega)⟩
    have had := all_drop hx
    refine q_skip (by kernel_rfl) ?_
    refine qs ?_
    refine q_block (id := 1) (by kernel_rfl) ?_
    refine qs ?_
    refine qg ?_
    refine og 2 [(0, (Value.string (str n))), (3, (i64 ((i : Nat) : Int))), (16, (Value.bool true)), (19, (Value.string (str n))), (20, (i64 ((i : Nat) : Int)))] 2 ?_
    refine Ops.go (v := (Value.int IntKind.u8 ((x.toNat : Nat) : Int))) (by kernel_rfl) (Runs.of_index (by kernel_rfl) (run_index_str Tryz.underlying9 hx .i64)) (d := (some 21)) (by kernel_rfl) rfl ?_
    refine og 1 [(0, (Value.string (str n))), (3, (i64 ((i : Nat) : Int))), (4, (Value.int IntKind.u8 ((x.toNat : Nat) : Int))), (16, (Value.bool true))] 4 ?_
    refine od ?_
    refine qs ?_
    refine qg ?_
    refine og 3 [(0, (Value.string (str n))), (3, (i64 ((i : Nat) : Int))), (4, (Value.int IntKind.u8 ((x.toNat : Nat) : Int))), (16, (Value.bool true)), (24, (Value.bool (decide (((x.toNat : Nat) : Int) ≥ 97))))] 3 ?_
    refine Ops.split (decide (((x.toNat : Nat) : Int) ≥ 97)) (fun h11 => ?_) (fun h11 => ?_)
    ·rw [h11]
     have p12 : ((x.toNat : Nat) : Int) ≥ 97 := of_decide_eq_true h11
     refine og 4 [(0, (Value.string (str n))), (3, (i64 ((i : Nat) : Int))), (4, (Value.int IntKind.u8 ((x.toNat : Nat) : Int))), (16, (Value.bool true)), (28, (Value.bool (decide (((x.toNat : Nat) : Int) ≤ 122))))] 7 ?_
     refine Ops.split (decide (((x.toNat : Nat) : Int) ≤ 122)) (fun h13 => ?_) (fun h13 => ?_)
     ·rw [h13]
      have p14 : ((x.toNat : Nat) : Int) ≤ 122 := of_decide_eq_true h13
      refine og 12 [(0, (Value.string (str n))), (3, (i64 ((i : Nat) : Int))), (4, (Value.int IntKind.u8 ((x.toNat : Nat) : Int))), (16, (Value.bool true)), (40, (Value.bool false))] 19 ?_
      refine od ?_
      refine q_else (o := .tmp 40) (by kernel_rfl) rfl ?_
      refine q_skip (by kernel_rfl) ?_
      refine qg ?_
      refine og 2 [(0, (Value.string (str n))), (3, (i64 ((i : Nat) : Int))), (4, (Value.int IntKind.u8 ((x.toNat : Nat) : Int))), (16, (Value.bool true)), (18, (i64 (IntKind.i64.wrap (((i : Nat) : Int) + 1)))), (40, (Value.bool false))] 2 ?_
      have e15 : IntKind.i64.wrap (((i : Nat) : Int) + 1) = ((i + 1 : Nat) : Int) := by rw [wrap_i64 (by omega) (by omega)]; omega
      rw [e15]
      clear e15
      refine og 1 [(0, (Value.string (str n))), (3, (i64 ((i + 1 : Nat) : Int))), (4, (Value.int IntKind.u8 ((x.toNat : Nat) : Int))), (16, (Value.bool true)), (40, (Value.bool false))] 3 ?_
      refine Ops.keep (R := [(0, (Value.string (str n))), (3, (i64 ((i + 1 : Nat) : Int)))]) (by kernel_rfl) ?_
      refine od ?_
      exact ⟨i + 1, ⟨rfl, (by rw [← hE, had, letterB_t (by omega), Bool.true_and]), (by omega), K8⟩, (show n.length - (i + 1) < n.length - i from by omega)⟩
     ·rw [h13]
      have p16 : ¬ (((x.toNat : Nat) : Int) ≤ 122) := of_decide_eq_false h13
      refine og 3 [(0, (Value.string (str n))), (3, (i64 ((i : Nat) : Int))), (4, (Value.int IntKind.u8 ((x.toNat : Nat) : Int))), (16, (Value.bool true)), (28, (Value.bool false)), (31, (Value.bool (decide (((x.toNat : Nat) : Int) ≥ 48))))] 10 ?_
      refine Ops.split (decide (((x.toNat : Nat) : Int) ≥ 48)) (fun h17 => ?_) (fun h17 => ?_)
      ·rw [h17]
       have p18 : ((x.toNat : Nat) : Int) ≥ 48 := of_decide_eq_true h17
       refine og 5 [(0, (Value.string (str n))), (3, (i64 ((i : Nat) : Int))), (4, (Value.int IntKind.u8 ((x.toNat : Nat) : Int))), (16, (Value.bool true)), (36, (Value.bool (decide (((x.toNat : Nat) : Int) ≤ 57))))] 15 ?_
       refine Ops.split (decide (((x.toNat : Nat) : Int) ≤ 57)) (fun h19 => ?_) (fun h19 => ?_)
       ·rw [h19]
        have p20 : ((x.toNat : Nat) : Int) ≤ 57 := of_decide_eq_true h19
        refine og 4 [(0, (Value.string (str n))), (3, (i64 ((i : Nat) : Int))), (4, (Value.int IntKind.u8 ((x.toNat : Nat) : Int))), (16, (Value.bool true)), (40, (Value.bool false))] 19 ?_
        refine od ?_
        refine q_else (o := .tmp 40) (by kernel_rfl) rfl ?_
        refine q_skip (by kernel_rfl) ?_
        refine qg ?_
        refine og 2 [(0, (Value.string (str n))), (3, (i64 ((i : Nat) : Int))), (4, (Value.int IntKind.u8 ((x.toNat : Nat) : Int))), (16, (Value.bool true)), (18, (i64 (IntKind.i64.wrap (((i : Nat) : Int) + 1)))), (40, (Value.bool false))] 2 ?_
        have e21 : IntKind.i64.wrap (((i : Nat) : Int) + 1) = ((i + 1 : Nat) : Int) := by rw [wrap_i64 (by omega) (by omega)]; omega
        rw [e21]
        clear e21
        refine og 1 [(0, (Value.string (str n))), (3, (i64 ((i + 1 : Nat) : Int))), (4, (Value.int IntKind.u8 ((x.toNat : Nat) : Int))), (16, (Value.bool true)), (40, (Value.bool false))] 3 ?_
        refine Ops.keep (R := [(0, (Value.string (str n))), (3, (i64 ((i + 1 : Nat) : Int)))]) (by kernel_rfl) ?_
        refine od ?_
        exact ⟨i + 1, ⟨rfl, (by rw [← hE, had, letterB_t (by omega), Bool.true_and]), (by omega), K8⟩, (show n.length - (i + 1) < n.length - i from by omega)⟩
       ·rw [h19]
        have p22 : ¬ (((x.toNat : Nat) : Int) ≤ 57) := of_decide_eq_false h19
        refine og 4 [(0, (Value.string (str n))), (3, (i64 ((i : Nat) : Int))), (4, (Value.int IntKind.u8 ((x.toNat : Nat) : Int))), (16, (Value.bool true)), (40, (Value.bool (!(((x.toNat : Nat) : Int) == 95))))] 19 ?_
        refine od ?_
        refine q_cond (o := .tmp 40) (b := (!(((x.toNat : Nat) : Int) == 95))) (by kernel_rfl) rfl (fun h23 => ?_) (fun h23 => ?_)
        ·rw [h23]
         have p24 : ¬ (((x.toNat : Nat) : Int) = 95) := of_beq_f (bnot_true h23)
         refine qs ?_
         refine qg ?_
         refine og 1 [(0, (Value.string (str n))), (2, (Value.bool false)), (3, (i64 ((i : Nat) : Int))), (4, (Value.int IntKind.u8 ((x.toNat : Nat) : Int))), (16, (Value.bool true)), (40, (Value.bool true))] 1 ?_
         refine od ?_
         refine q_ret (by kernel_rfl) ?_
         refine ⟨(Value.bool false), retv_tmp rfl rfl, ?_⟩
         have e : nameOk n = false := by rw [name_all (by omega), ← hE, had, letterB_f (by omega), Bool.false_and]
         exact ⟨by rw [e], K8⟩
        ·rw [h23]
         have p25 : ((x.toNat : Nat) : Int) = 95 := of_beq_t (bnot_false h23)
         refine q_skip (by kernel_rfl) ?_
         refine qg ?_
         refine og 2 [(0, (Value.string (str n))), (3, (i64 ((i : Nat) : Int))), (4, (Value.int IntKind.u8 ((x.toNat : Nat) : Int))), (16, (Value.bool true)), (18, (i64 (IntKind.i64.wrap (((i : Nat) : Int) + 1)))), (40, (Value.bool false))] 2 ?_
         have e26 : IntKind.i64.wrap (((i : Nat) : Int) + 1) = ((i + 1 : Nat) : Int) := by rw [wrap_i64 (by omega) (by omega)]; omega
         rw [e26]
         clear e26
         refine og 1 [(0, (Value.string (str n))), (3, (i64 ((i + 1 : Nat) : Int))), (4, (Value.int IntKind.u8 ((x.toNat : Nat) : Int))), (16, (Value.bool true)), (40, (Value.bool false))] 3 ?_
         refine Ops.keep (R := [(0, (Value.string (str n))), (3, (i64 ((i + 1 : Nat) : Int)))]) (by kernel_rfl) ?_
         refine od ?_
         exact ⟨i + 1, ⟨rfl, (by rw [← hE, had, letterB_t (by omega), Bool.true_and]), (by omega), K8⟩, (show n.length - (i + 1) < n.length - i from by omega)⟩
      ·rw [h17]
       have p27 : ¬ (((x.toNat : Nat) : Int) ≥ 48) := of_decide_eq_false h17
       refine og 9 [(0, (Value.string (str n))), (3, (i64 ((i : Nat) : Int))), (4, (Value.int IntKind.u8 ((x.toNat : Nat) : Int))), (16, (Value.bool true)), (40, (Value.bool (!(((x.toNat : Nat) : Int) == 95))))] 19 ?_
       refine od ?_
       refine q_cond (o := .tmp 40) (b := (!(((x.toNat : Nat) : Int) == 95))) (by kernel_rfl) rfl (fun h28 => ?_) (fun h28 => ?_)
       ·rw [h28]
        have p29 : ¬ (((x.toNat : Nat) : Int) = 95) := of_beq_f (bnot_true h28)
        refine qs ?_
        refine qg ?_
        refine og 1 [(0, (Value.string (str n))), (2, (Value.bool false)), (3, (i64 ((i : Nat) : Int))), (4, (Value.int IntKind.u8 ((x.toNat : Nat) : Int))), (16, (Value.bool true)), (40, (Value.bool true))] 1 ?_
        refine od ?_
        refine q_ret (by kernel_rfl) ?_
        refine ⟨(Value.bool false), retv_tmp rfl rfl, ?_⟩
        have e : nameOk n = false := by rw [name_all (by omega), ← hE, had, letterB_f (by omega), Bool.false_and]
        exact ⟨by rw [e], K8⟩
       ·rw [h28]
        have p30 : ((x.toNat : Nat) : Int) = 95 := of_beq_t (bnot_false h28)
        refine q_skip (by kernel_rfl) ?_
        refine qg ?_
        refine og 2 [(0, (Value.string (str n))), (3, (i64 ((i : Nat) : Int))), (4, (Value.int IntKind.u8 ((x.toNat : Nat) : Int))), (16, (Value.bool true)), (18, (i64 (IntKind.i64.wrap (((i : Nat) : Int) + 1)))), (40, (Value.bool false))] 2 ?_
        have e31 : IntKind.i64.wrap (((i : Nat) : Int) + 1) = ((i + 1 : Nat) : Int) := by rw [wrap_i64 (by omega) (by omega)]; omega
        rw [e31]
        clear e31
        refine og 1 [(0, (Value.string (str n))), (3, (i64 ((i + 1 : Nat) : Int))), (4, (Value.int IntKind.u8 ((x.toNat : Nat) : Int))), (16, (Value.bool true)), (40, (Value.bool false))] 3 ?_
        refine Ops.keep (R := [(0, (Value.string (str n))), (3, (i64 ((i + 1 : Nat) : Int)))]) (by kernel_rfl) ?_
        refine od ?_
        exact ⟨i + 1, ⟨rfl, (by rw [← hE, had, letterB_t (by omega), Bool.true_and]), (by omega), K8⟩, (show n.length - (i + 1) < n.length - i from by omega)⟩
    ·rw [h11]
     have p32 : ¬ (((x.toNat : Nat) : Int) ≥ 97) := of_decide_eq_false h11
     refine og 7 [(0, (Value.string (str n))), (3, (i64 ((i : Nat) : Int))), (4, (Value.int IntKind.u8 ((x.toNat : Nat) : Int))), (16, (Value.bool true)), (28, (Value.bool false)), (31, (Value.bool (decide (((x.toNat : Nat) : Int) ≥ 48))))] 10 ?_
     refine Ops.split (decide (((x.toNat : Nat) : Int) ≥ 48)) (fun h33 => ?_) (fun h33 => ?_)
     ·rw [h33]
      have p34 : ((x.toNat : Nat) : Int) ≥ 48 := of_decide_eq_true h33
      refine og 5 [(0, (Value.string (str n))), (3, (i64 ((i : Nat) : Int))), (4, (Value.int IntKind.u8 ((x.toNat : Nat) : Int))), (16, (Value.bool true)), (36, (Value.bool (decide (((x.toNat : Nat) : Int) ≤ 57))))] 15 ?_
      refine Ops.split (decide (((x.toNat : Nat) : Int) ≤ 57)) (fun h35 => ?_) (fun h35 => ?_)
      ·rw [h35]
       have p36 : ((x.toNat : Nat) : Int) ≤ 57 := of_decide_eq_true h35
       refine og 4 [(0, (Value.string (str n))), (3, (i64 ((i : Nat) : Int))), (4, (Value.int IntKind.u8 ((x.toNat : Nat) : Int))), (16, (Value.bool true)), (40, (Value.bool false))] 19 ?_
       refine od ?_
       refine q_else (o := .tmp 40) (by kernel_rfl) rfl ?_
       refine q_skip (by kernel_rfl) ?_
       refine qg ?_
       refine og 2 [(0, (Value.string (str n))), (3, (i64 ((i : Nat) : Int))), (4, (Value.int IntKind.u8 ((x.toNat : Nat) : Int))), (16, (Value.bool true)), (18, (i64 (IntKind.i64.wrap (((i : Nat) : Int) + 1)))), (40, (Value.bool false))] 2 ?_
       have e37 : IntKind.i64.wrap (((i : Nat) : Int) + 1) = ((i + 1 : Nat) : Int) := by rw [wrap_i64 (by omega) (by omega)]; omega
       rw [e37]
       clear e37
       refine og 1 [(0, (Value.string (str n))), (3, (i64 ((i + 1 : Nat) : Int))), (4, (Value.int IntKind.u8 ((x.toNat : Nat) : Int))), (16, (Value.bool true)), (40, (Value.bool false))] 3 ?_
       refine Ops.keep (R := [(0, (Value.string (str n))), (3, (i64 ((i + 1 : Nat) : Int)))]) (by kernel_rfl) ?_
       refine od ?_
       exact ⟨i + 1, ⟨rfl, (by rw [← hE, had, letterB_t (by omega), Bool.true_and]), (by omega), K8⟩, (show n.length - (i + 1) < n.length - i from by omega)⟩
      ·rw [h35]
       have p38 : ¬ (((x.toNat : Nat) : Int) ≤ 57) := of_decide_eq_false h35
       refine og 4 [(0, (Value.string (str n))), (3, (i64 ((i : Nat) : Int))), (4, (Value.int IntKind.u8 ((x.toNat : Nat) : Int))), (16, (Value.bool true)), (40, (Value.bool (!(((x.toNat : Nat) : Int) == 95))))] 19 ?_
       refine od ?_
       refine q_cond (o := .tmp 40) (b := (!(((x.toNat : Nat) : Int) == 95))) (by kernel_rfl) rfl (fun h39 => ?_) (fun h39 => ?_)
       ·rw [h39]
        have p40 : ¬ (((x.toNat : Nat) : Int) = 95) := of_beq_f (bnot_true h39)
        refine qs ?_
        refine qg ?_
        refine og 1 [(0, (Value.string (str n))), (2, (Value.bool false)), (3, (i64 ((i : Nat) : Int))), (4, (Value.int IntKind.u8 ((x.toNat : Nat) : Int))), (16, (Value.bool true)), (40, (Value.bool true))] 1 ?_
        refine od ?_
        refine q_ret (by kernel_rfl) ?_
        refine ⟨(Value.bool false), retv_tmp rfl rfl, ?_⟩
        have e : nameOk n = false := by rw [name_all (by omega), ← hE, had, letterB_f (by omega), Bool.false_and]
        exact ⟨by rw [e], K8⟩
       ·rw [h39]
        have p41 : ((x.toNat : Nat) : Int) = 95 := of_beq_t (bnot_false h39)
        refine q_skip (by kernel_rfl) ?_
        refine qg ?_
        refine og 2 [(0, (Value.string (str n))), (3, (i64 ((i : Nat) : Int))), (4, (Value.int IntKind.u8 ((x.toNat : Nat) : Int))), (16, (Value.bool true)), (18, (i64 (IntKind.i64.wrap (((i : Nat) : Int) + 1)))), (40, (Value.bool false))] 2 ?_
        have e42 : IntKind.i64.wrap (((i : Nat) : Int) + 1) = ((i + 1 : Nat) : Int) := by rw [wrap_i64 (by omega) (by omega)]; omega
        rw [e42]
        clear e42
        refine og 1 [(0, (Value.string (str n))), (3, (i64 ((i + 1 : Nat) : Int))), (4, (Value.int IntKind.u8 ((x.toNat : Nat) : Int))), (16, (Value.bool true)), (40, (Value.bool false))] 3 ?_
        refine Ops.keep (R := [(0, (Value.string (str n))), (3, (i64 ((i + 1 : Nat) : Int)))]) (by kernel_rfl) ?_
        refine od ?_
        exact ⟨i + 1, ⟨rfl, (by rw [← hE, had, letterB_t (by omega), Bool.true_and]), (by omega), K8⟩, (show n.length - (i + 1) < n.length - i from by omega)⟩
     ·rw [h33]
      have p43 : ¬ (((x.toNat : Nat) : Int) ≥ 48) := of_decide_eq_false h33
      refine og 9 [(0, (Value.string (str n))), (3, (i64 ((i : Nat) : Int))), (4, (Value.int IntKind.u8 ((x.toNat : Nat) : Int))), (16, (Value.bool true)), (40, (Value.bool (!(((x.toNat : Nat) : Int) == 95))))] 19 ?_
      refine od ?_
      refine q_cond (o := .tmp 40) (b := (!(((x.toNat : Nat) : Int) == 95))) (by kernel_rfl) rfl (fun h44 => ?_) (fun h44 => ?_)
      ·rw [h44]
       have p45 : ¬ (((x.toNat : Nat) : Int) = 95) := of_beq_f (bnot_true h44)
       refine qs ?_
       refine qg ?_
       refine og 1 [(0, (Value.string (str n))), (2, (Value.bool false)), (3, (i64 ((i : Nat) : Int))), (4, (Value.int IntKind.u8 ((x.toNat : Nat) : Int))), (16, (Value.bool true)), (40, (Value.bool true))] 1 ?_
       refine od ?_
       refine q_ret (by kernel_rfl) ?_
       refine ⟨(Value.bool false), retv_tmp rfl rfl, ?_⟩
       have e : nameOk n = false := by rw [name_all (by omega), ← hE, had, letterB_f (by omega), Bool.false_and]
       exact ⟨by rw [e], K8⟩
      ·rw [h44]
       have p46 : ((x.toNat : Nat) : Int) = 95 := of_beq_t (bnot_false h44)
       refine q_skip (by kernel_rfl) ?_
       refine qg ?_
       refine og 2 [(0, (Value.string (str n))), (3, (i64 ((i : Nat) : Int))), (4, (Value.int IntKind.u8 ((x.toNat : Nat) : Int))), (16, (Value.bool true)), (18, (i64 (IntKind.i64.wrap (((i : Nat) : Int) + 1)))), (40, (Value.bool false))] 2 ?_
       have e47 : IntKind.i64.wrap (((i : Nat) : Int) + 1) = ((i + 1 : Nat) : Int) := by rw [wrap_i64 (by omega) (by omega)]; omega
       rw [e47]
       clear e47
       refine og 1 [(0, (Value.string (str n))), (3, (i64 ((i + 1 : Nat) : Int))), (4, (Value.int IntKind.u8 ((x.toNat : Nat) : Int))), (16, (Value.bool true)), (40, (Value.bool false))] 3 ?_
       refine Ops.keep (R := [(0, (Value.string (str n))), (3, (i64 ((i + 1 : Nat) : Int)))]) (by kernel_rfl) ?_
       refine od ?_
       exact ⟨i + 1, ⟨rfl, (by rw [← hE, had, letterB_t (by omega), Bool.true_and]), (by omega), K8⟩, (show n.length - (i + 1) < n.length - i from by omega)⟩
   ·rw [h9]
    have p48 : ¬ (((i : Nat) : Int) < ((n.length : Nat) : Int)) := of_decide_eq_false h9
    refine q_exit (id := 0) (by kernel_rfl) ?_
    refine qs ?_
    refine qg ?_
    refine og 1 [(2, (Value.bool true))] 1 ?_
    refine od ?_
    refine q_ret (by kernel_rfl) ?_
    refine ⟨(Value.bool true), retv_tmp rfl rfl, ?_⟩
    have e : nameOk n = true := by rw [name_all (by omega), ← hE, List.drop_of_length_le (by omega)]; rfl
    exact ⟨by rw [e], K8⟩
end Go.Proofs.YtooginpgclcldaaGreatDoor
namespace Go.Proofs.YtooginpgclcldaaGreatDoor
open Go.Q Go.RowKit

end Go.Proofs.YtooginpgclcldaaGreatDoor
namespace Go.Q
open Go.ChangeShapes Go.WideShapes Go.ChangeAt Go.RowKit Go.Deep

/-- An entry: what is in it, and where its bytes stand. -/
structure EntP where
  term : Int
  A : Option Addr
  c : Nat
  cmd : List UInt8
def EntP.cells (x : EntP) : List Value := [i64 x.term, .slice x.A x.cmd.length x.c]
def EntP.key (x : EntP) : Int × List UInt8 := (x.term, x.cmd)
theorem EntP.two (x : EntP) : x.cells.length = 2 := rfl
theorem EntP.one (x : EntP) : oneCells x.cells = true := rfl
abbrev RdE (w : World) (v : Value) (l : List EntP) : Prop := RdT w 2 EntP.cells v l
abbrev OwnE (w : World) (base e : Nat) (v : Value) (l : List EntP) : Prop := OwnT w base e 2 EntP.cells v l
def EntsIn (w : World) (l : List EntP) : Prop := ∀ x ∈ l, RdB w (.slice x.A x.cmd.length x.c) x.cmd
def EntsOk (l : List EntP) : Prop := ∀ x ∈ l, -9223372036854775808 ≤ x.term ∧ x.term ≤ 9223372036854775807
structure MsgP where
  kind : Int
  group : Int
  frm : Int
  to : Int
  term : Int
  index : Int
  logTerm : Int
  commit : Int
  ok : Bool
  entries : List EntP
  data : List UInt8
def MsgP.ints (m : MsgP) : List Int := [m.kind, m.group, m.frm, m.to, m.term, m.index, m.logTerm, m.commit]
structure MsgP.Ok (m : MsgP) : Prop where
  kind : -9223372036854775808 ≤ m.kind ∧ m.kind ≤ 9223372036854775807
  group : -9223372036854775808 ≤ m.group ∧ m.group ≤ 9223372036854775807
  frm : -9223372036854775808 ≤ m.frm ∧ m.frm ≤ 9223372036854775807
  to : -9223372036854775808 ≤ m.to ∧ m.to ≤ 9223372036854775807
  term : -9223372036854775808 ≤ m.term ∧ m.term ≤ 9223372036854775807
  index : -9223372036854775808 ≤ m.index ∧ m.index ≤ 9223372036854775807
  logTerm : -9223372036854775808 ≤ m.logTerm ∧ m.logTerm ≤ 9223372036854775807
  commit : -9223372036854775808 ≤ m.commit ∧ m.commit ≤ 9223372036854775807
  ents : EntsOk m.entries
def entsv : List EntP → List UInt8
  | [] => []
  | x :: l => iv x.term ++ (tv x.cmd ++ entsv l)
def headv (m : MsgP) : List UInt8 := iv m.kind ++ (iv m.group ++ (iv m.frm ++ (iv m.to ++ (iv m.term ++ (iv m.index ++ (iv m.logTerm ++ (iv m.commit ++ uv m.ok.toNat)))))))
def msgv (m : MsgP) : List UInt8 := headv m ++ (uv m.entries.length ++ (entsv m.entries ++ tv m.data))
def sumc : List EntP → Nat
  | [] => 0
  | x :: l => x.cmd.length + sumc l
structure MsgP.Fits (m : MsgP) : Prop where
  count : m.entries.length ≤ 4096
  data : m.data.length ≤ 65536
  cmds : ∀ x ∈ m.entries, x.cmd.length ≤ 65536
  size : (msgv m).length ≤ 1048576

theorem sumc_append : ∀ (l m : List EntP), sumc (l ++ m) = sumc l + sumc m
  | [], m => by simp [sumc]
  | x :: l, m => by simp only [List.cons_append, sumc, sumc_append l m]; omega
theorem sumc_take_le (l : List EntP) (i : Nat) : sumc (l.take i) ≤ sumc l := by
  have := sumc_append (l.take i) (l.drop i)
  rw [List.take_append_drop] at this
  omega
theorem entsv_sum : ∀ (l : List EntP), sumc l ≤ (entsv l).length
  | [] => Nat.le_refl _
  | x :: l => by
    have h1 := entsv_sum l
    have h2 := tv_ge x.cmd
    simp only [entsv, sumc, List.length_append]
    omega
theorem msgv_len (m : MsgP) : (msgv m).length = (headv m).length + (uv m.entries.length).length + (entsv m.entries).length + (tv m.data).length := by
  unfold msgv
  simp only [List.length_append]
  omega
/-- What the reference asks ahead of writing: all up to i is short enough. -/
def MsgP.Pre (m : MsgP) (i : Nat) : Prop := m.entries.length ≤ 4096 ∧ m.data.length ≤ 65536 ∧ (∀ x ∈ m.entries.take i, x.cmd.length ≤ 65536) ∧ (i = 0 ∨ m.data.length + sumc (m.entries.take i) ≤ 1048576)
theorem MsgP.Fits.pre {m : MsgP} (h : m.Fits) (i : Nat) : m.Pre i := by
  refine ⟨h.count, h.data, fun x hx => h.cmds x (List.mem_of_mem_take hx), .inr ?_⟩
  have h1 := h.size
  rw [msgv_len] at h1
  have h2 := entsv_sum m.entries
  have h3 := sumc_take_le m.entries i
  have h4 := tv_ge m.data
  omega
section
variable {H : Type} {enc : TypeId × Value → H} {P : Program} {w : World} {base : Nat} {spare : Nat → Bool} {held : Bool}
end
end Go.Q
namespace Go.Q
theorem EntsIn.keep {w w' : World} {l : List EntP} (h : EntsIn w l) (K : Keeps none_ w w') : EntsIn w' l := fun x hx => (h x hx).keep0 (by omega) K
end Go.Q
namespace Go.Q
end Go.Q
namespace Go.Q
end Go.Q
namespace Go.Q
open Go.ChangeShapes Go.WideShapes Go.ChangeAt Go.RowKit Go.Deep

/-- A measure of what is read: at least its letters, its elements, its parts. -/
structure Bulk {H : Type} (B : DataW H → Nat) : Prop where
  str : ∀ s, s.length ≤ B (.lit (.string s))
  agg : ∀ ps z, z ∈ ps → B z ≤ B (.agg ps)
  el : ∀ es sp z, z ∈ es → B z ≤ B (.slice es sp)
  len : ∀ es sp, es.length ≤ B (.slice es sp)

section
variable {H : Type} {enc : TypeId × Value → H} {P : Program} {w : World} {base : Nat} {spare : Nat → Bool} {held : Bool} {B : DataW H → Nat}

def i64s (P : Program) (fs : Array Field) : Nat → Bool
  | 0 => true
  | j + 1 => (match fieldOf? P fs j with | some (.int .i64) => true | _ => false) && i64s P fs j
end
end Go.Q
namespace Go.Q
open Go.RowKit

structure MsgP.Same (a b : MsgP) : Prop where
  kind : a.kind = b.kind
  group : a.group = b.group
  frm : a.frm = b.frm
  to : a.to = b.to
  term : a.term = b.term
  index : a.index = b.index
  logTerm : a.logTerm = b.logTerm
  commit : a.commit = b.commit
  ok : a.ok = b.ok
  ents : a.entries.map EntP.key = b.entries.map EntP.key
  data : a.data = b.data
end Go.Q
namespace Go.Q
open Go.ChangeShapes Go.WideShapes Go.ChangeAt Go.RowKit Go.Deep

structure LetP where
  kind : Int
  n : Int
  group : Int
  op : Opm
  rep : ReplyM
  body : List UInt8
structure LetP.Ok (x : LetP) : Prop where
  kind : -9223372036854775808 ≤ x.kind ∧ x.kind ≤ 9223372036854775807
  n : -9223372036854775808 ≤ x.n ∧ x.n ≤ 9223372036854775807
  group : -9223372036854775808 ≤ x.group ∧ x.group ≤ 9223372036854775807
  op : x.op.Ok
  rep : x.rep.Ok
/-- The cells of a letter whose rows and bytes stand at V and D. -/
def LetP.cells (x : LetP) (V : Option Addr) (c : Nat) (D : Option Addr) (dc : Nat) : List Value :=
  [i64 x.kind, i64 x.n, i64 x.group, i64 x.op.kind, .string (str x.op.frm), .string (str x.op.to), i64 x.op.amount, .string (str x.op.key), i64 x.op.slot, i64 x.op.shard, i64 x.rep.why, i64 x.rep.amount, .slice V x.rep.rows.length c, .slice D x.body.length dc]
section
variable {H : Type} {enc : TypeId × Value → H} {P : Program} {w : World} {base : Nat} {spare : Nat → Bool} {held : Bool}
/-- A field: where it begins, how many cells it has, its type. -/
def fieldAt? (P : Program) (fs : Array Field) (j : Nat) : Option (Nat × Nat × TypeId) := match fs[j]? with
  | some f => some (f.offset, P.cellsOf f.type, f.type)
  | none => none
end
/-! ### as bytes -/
/-- Can it be packed? -/
def LetP.Fits (x : LetP) : Prop :=
  (x.kind = 2 → x.op.frm.length ≤ 65536 ∧ x.op.to.length ≤ 65536 ∧ x.op.key.length ≤ 65536) ∧ (x.kind = 3 → x.rep.rows.length ≤ 600 ∧ ∀ r ∈ x.rep.rows, r.name.length ≤ 65536) ∧ (x.kind ≠ 2 → x.kind ≠ 3 → x.body.length ≤ 65536)
instance (x : LetP) : Decidable x.Fits := by unfold LetP.Fits; infer_instance
def letv (x : LetP) : List UInt8 :=
  iv x.kind ++ (if x.kind = 2 then iv x.n ++ opv x.op else if x.kind = 3 then iv x.n ++ rpv x.rep else if x.kind = 5 then iv x.n ++ (iv x.group ++ tv x.body) else if x.kind = 4 then iv x.n ++ tv x.body else tv x.body)
/-- A letter as bytes, and the error. -/
def packB (x : LetP) : List UInt8 × Int :=
  if x.kind < 1 ∨ 5 < x.kind then ([], 1) else if ¬ x.Fits then ([], 3) else if 1048576 < (letv x).length then ([], 3) else (letv x, 0)
/-- The group that an operation goes to. -/
def groupI (k : Int) : Int := if k = 6 ∨ k = 7 then 0 else -1
/-- What counts of a letter. -/
def LetP.just (x : LetP) : LetP :=
  ⟨x.kind, if x.kind = 1 then 0 else x.n, if x.kind = 5 then x.group else 0, if x.kind = 2 then x.op else ⟨0, [], [], 0, [], 0, 0⟩, if x.kind = 3 then x.rep else ⟨0, 0, []⟩, if x.kind = 2 ∨ x.kind = 3 then [] else x.body⟩
end Go.Q
namespace Go.Q
open Go.RowKit

/-- r2 is r behind the bytes x. -/
def Rdr.Ate (r : Rdr) (x : List UInt8) (r2 : Rdr) : Prop := r2.bs = r.bs ∧ r.bs.drop r.pos = x ++ r2.bs.drop r2.pos
theorem Rdr.Ate.trans {r r2 r3 : Rdr} {x y : List UInt8} (h : r.Ate x r2) (k : r2.Ate y r3) : r.Ate (x ++ y) r3 := ⟨k.1.trans h.1, by rw [h.2, k.2, List.append_assoc]⟩
theorem Rdr.Goes.ok {r r2 : Rdr} (h : r.Goes r2) (h0 : r2.why = 0) : r.why = 0 := Classical.byContradiction fun q => by have := h.why q; omega
theorem byte_self {c : UInt8} {n : Nat} (h : n = c.toNat) : byte n = c := by
  have := c.toNat_lt
  exact UInt8.toNat_inj.1 (by rw [byte_toNat n (by omega), h])
theorem scanA_canon : ∀ (bs : List UInt8) (i n m e : Nat), i ≤ 9 → n < p7 i → scanA bs i n = (m, e, 0) → ∃ v, m = n + v * p7 i ∧ (0 < i → v ≠ 0) ∧ e = i + (uv v).length ∧ bs = uv v ++ bs.drop (e - i)
  | [], i, n, m, e, _, _, h => by rw [scanA_nil] at h; simp at h
  | c :: cs, i, n, m, e, hi, hn, h => by
    have hc := c.toNat_lt
    by_cases hb : (i = 9 ∧ 1 < c.toNat) ∨ (0 < i ∧ c.toNat = 0)
    · rw [scanA_bad hb] at h; simp at h
    · by_cases h1 : c.toNat < 128
      · rw [scanA_end hb h1] at h
        simp only [Prod.mk.injEq, and_true] at h
        refine ⟨c.toNat, by rw [← h.1, Nat.mod_eq_of_lt h1], fun _ => by omega, by rw [uv_lt h1]; simp; omega, ?_⟩
        rw [uv_lt h1, byte_self rfl, ← h.2, Nat.add_sub_cancel_left]
        rfl
      · rw [scanA_more hb h1] at h
        have hr := scan_round (c := c) hi hn hb
        obtain ⟨v, hm, hv, he, hbs⟩ := scanA_canon cs (i + 1) _ m e (by omega) (hr.2.2 h1) h
        have hv0 := hv (by omega)
        have hg : 128 ≤ c.toNat % 128 + 128 * v := by omega
        refine ⟨c.toNat % 128 + 128 * v, ?_, fun _ => by omega, ?_, ?_⟩
        · rw [hm, p7_succ, Nat.add_mul, Nat.add_assoc, Nat.mul_comm 128 v, Nat.mul_assoc]
        · rw [uv_ge hg, show (c.toNat % 128 + 128 * v) / 128 = v from by omega, List.length_cons, he]; omega
        · rw [uv_ge hg, show (c.toNat % 128 + 128 * v) / 128 = v from by omega, byte_self (show (c.toNat % 128 + 128 * v) % 128 + 128 = c.toNat from by omega), List.cons_append]
          have : e - i = (e - (i + 1)) + 1 := by omega
          rw [this, List.drop_succ_cons, ← hbs]
theorem uint_canon {r : Rdr} (h : r.uint.2.why = 0) : r.why = 0 ∧ r.Ate (uv r.uint.1) r.uint.2 ∧ r.pos < r.uint.2.pos := by
  have h0 := r.goes_uint.ok h
  refine ⟨h0, ?_⟩
  unfold Rdr.uint at h ⊢
  rw [if_neg (by omega)] at h ⊢
  by_cases hs : (scanB (r.bs.drop r.pos)).2.2 ≠ 0
  · rw [if_pos hs] at h; exact absurd h hs
  · rw [if_neg hs]
    obtain ⟨v, hm, _, he, hb⟩ := scanA_canon (r.bs.drop r.pos) 0 0 (scanB (r.bs.drop r.pos)).1 (scanB (r.bs.drop r.pos)).2.1 (by omega) (p7_pos 0) (Prod.ext rfl (Prod.ext rfl (Classical.not_not.1 hs)))
    have hm2 : (scanB (r.bs.drop r.pos)).1 = v := by rw [hm]; simp [p7]
    have hp := uv_pos v
    simp only
    rw [hm2]
    refine ⟨⟨rfl, ?_⟩, by omega⟩
    rw [Nat.sub_zero, List.drop_drop] at hb
    exact hb
theorem zz_unzz {n : Nat} : zz (unzz n) = n := by unfold zz unzz; split <;> split <;> omega
theorem int_canon {r : Rdr} (h : r.int.2.why = 0) : r.why = 0 ∧ r.Ate (iv r.int.1) r.int.2 := by
  obtain ⟨h0, ha, _⟩ := uint_canon (r := r) h
  refine ⟨h0, ?_⟩
  unfold Rdr.int iv
  rw [zz_unzz]
  exact ha
theorem sized_canon {r : Rdr} {m : Int} (h : (r.sized m).2.why = 0) : r.why = 0 ∧ r.Ate (uv (r.sized m).1) (r.sized m).2 ∧ (r.sized m).1 ≤ r.bs.length - (r.sized m).2.pos := by
  have h0 := (r.goes_sized m).ok h
  refine ⟨h0, ?_⟩
  unfold Rdr.sized at h ⊢
  rw [if_neg (by omega)] at h ⊢
  by_cases h1 : r.uint.2.why ≠ 0
  · rw [if_pos h1] at h; exact absurd h h1
  · rw [if_neg h1] at h ⊢
    by_cases h2 : m < 0 ∨ m < ((r.uint.1 : Nat) : Int)
    · rw [if_pos h2] at h; cases h
    · rw [if_neg h2] at h ⊢
      by_cases h3 : r.bs.length - r.uint.2.pos < r.uint.1
      · rw [if_pos h3] at h; cases h
      · rw [if_neg h3] at h ⊢
        exact ⟨(uint_canon h).2.1, by omega⟩
theorem bytes_canon {r : Rdr} (h : r.bytes.2.why = 0) : r.why = 0 ∧ r.Ate (tv r.bytes.1) r.bytes.2 ∧ r.bytes.1.length ≤ 65536 := by
  have h0 := r.goes_bytes.ok h
  have hm := Rdr.sized_most r 65536
  have hb := r.sized_bs 65536
  unfold Rdr.bytes at h ⊢
  by_cases h1 : (r.sized 65536).2.why ≠ 0
  · rw [if_pos h1] at h; exact absurd h h1
  · rw [if_neg h1]
    obtain ⟨_, ha, hl⟩ := sized_canon (r := r) (m := 65536) (Classical.not_not.1 h1)
    have hlen : ((r.bs.drop (r.sized 65536).2.pos).take (r.sized 65536).1).length = (r.sized 65536).1 := by rw [List.length_take, List.length_drop]; omega
    simp only
    refine ⟨h0, ⟨rfl, ?_⟩, by rw [hlen]; omega⟩
    unfold tv
    rw [hlen, ha.2, hb, List.append_assoc, ← List.drop_drop, List.take_append_drop]
/-! ### letters that are read -/
def opZ : Opm := ⟨0, [], [], 0, [], 0, 0⟩
def repZ : ReplyM := ⟨0, 0, []⟩
def LetP.zero : LetP := ⟨0, 0, 0, opZ, repZ, []⟩
/-- What stands behind a letter's kind, read. -/
def letR (k : Int) (r : Rdr) : LetP × Rdr :=
  if k = 1 then (⟨k, 0, 0, opZ, repZ, r.bytes.1⟩, r.bytes.2)
  else if k = 2 then (⟨k, r.int.1, 0, r.int.2.op.1, repZ, []⟩, r.int.2.op.2)
  else if k = 3 then (⟨k, r.int.1, 0, opZ, r.int.2.reply.1, []⟩, r.int.2.reply.2)
  else if k = 4 then (⟨k, r.int.1, 0, opZ, repZ, r.int.2.bytes.1⟩, r.int.2.bytes.2)
  else (⟨k, r.int.1, r.int.2.int.1, opZ, repZ, r.int.2.int.2.bytes.1⟩, r.int.2.int.2.bytes.2)
/-- Bytes as a letter, and the error. -/
def unpackB (bs : List UInt8) : LetP × Int :=
  if 1048576 < bs.length then (LetP.zero, 3)
  else if (⟨bs, 0, 0⟩ : Rdr).int.2.why ≠ 0 then (LetP.zero, (⟨bs, 0, 0⟩ : Rdr).int.2.why)
  else if (⟨bs, 0, 0⟩ : Rdr).int.1 < 1 ∨ 5 < (⟨bs, 0, 0⟩ : Rdr).int.1 then (LetP.zero, 1)
  else if (letR (⟨bs, 0, 0⟩ : Rdr).int.1 (⟨bs, 0, 0⟩ : Rdr).int.2).2.end_ ≠ 0 then (LetP.zero, (letR (⟨bs, 0, 0⟩ : Rdr).int.1 (⟨bs, 0, 0⟩ : Rdr).int.2).2.end_)
  else ((letR (⟨bs, 0, 0⟩ : Rdr).int.1 (⟨bs, 0, 0⟩ : Rdr).int.2).1, 0)
end Go.Q
namespace Go.Q
def okS (S : List AccM) (n : List UInt8) : Prop := ∀ a, S.getLast? = some a → a.name < n
open Classical in
noncomputable def refStep (s : Rdr × Option (List AccM)) : Rdr × Option (List AccM) :=
  (s.1.bytes.2.int.2.bytes.2,
    if s.1.bytes.2.int.2.bytes.2.why ≠ 0 then s.2
    else match s.2 with
      | none => none
      | some S => if okS S s.1.bytes.1 ∧ putE S s.1.bytes.1 s.1.bytes.2.int.1 = 0 then some (loadStep (s.1, S, 0)).2.1 else none)
noncomputable def refR : Nat → Rdr × Option (List AccM) → Rdr × Option (List AccM)
  | 0, s => s
  | n + 1, s => refR n (refStep s)
noncomputable def refE (bs : List UInt8) : Rdr × Option (List AccM) := refR (loadN bs).1 ((loadN bs).2, some [])
theorem ref_reader : ∀ (n : Nat) (R : Rdr) (S : List AccM) (e : Int) (T : Option (List AccM)), (refR n (R, T)).1 = (loadR n (R, S, e)).1
  | 0, _, _, _, _ => rfl
  | n + 1, R, S, e, T => ref_reader n _ _ _ _
theorem refE_reader (bs : List UInt8) : (refE bs).1 = (loadE bs).1 := ref_reader _ _ _ _ _
theorem ref_stuck : ∀ (n : Nat) {R : Rdr} (T : Option (List AccM)), R.why ≠ 0 → (refR n (R, T)) = (R, T)
  | 0, _, _, _ => rfl
  | n + 1, R, T, h => by
    have h1 := Rdr.bytes_err h
    have h2 := Rdr.int_err h
    have hs : refStep (R, T) = (R, T) := by
      unfold refStep
      simp only [h1, h2]
      rw [if_pos h]
    show refR n (refStep (R, T)) = _
    rw [hs]
    exact ref_stuck n T h
theorem ref_none : ∀ (n : Nat) (R : Rdr), (refR n (R, none)).2 = none
  | 0, _ => rfl
  | n + 1, R => by
    show (refR n (refStep (R, none))).2 = none
    have : (refStep (R, none)) = ((refStep (R, none)).1, none) := by
      unfold refStep
      simp
    rw [this]
    exact ref_none n _
theorem okS_all {S : List AccM} {n : List UInt8} (hS : Accs S) (h : okS S n) : ∀ b ∈ S, b.name < n := by
  intro b hb
  obtain ⟨a, ha⟩ : ∃ a, S.getLast? = some a := by
    cases hl : S.getLast? with
    | none => rw [List.getLast?_eq_none_iff] at hl; rw [hl] at hb; cases hb
    | some a => exact ⟨a, rfl⟩
  have hn := h a ha
  obtain ⟨S', rfl⟩ := List.getLast?_eq_some_iff.1 ha
  rcases List.mem_append.1 hb with hb | hb
  · exact ltN_trans ((List.pairwise_append.1 hS.sorted).2.2 b hb a (List.mem_singleton.2 rfl)) hn
  · rw [List.mem_singleton.1 hb]; exact hn
theorem Accs.snoc {S : List AccM} {a : AccM} (hS : Accs S) (ha : a.Ok) (hl : S.length < 200) (h : ∀ b ∈ S, b.name < a.name) : Accs (S ++ [a]) := by
  rw [← ins_last h]
  exact hS.ins ha (get_new h) hl
theorem Rdr.Ate.refl (r : Rdr) : r.Ate [] r := ⟨rfl, by simp⟩
theorem ref_fw : ∀ (n : Nat) {R : Rdr} {S S' : List AccM}, Accs S → (refR n (R, some S)).2 = some S' → (refR n (R, some S)).1.why = 0 →
    loadR n (R, S, 0) = ((refR n (R, some S)).1, S', 0) ∧ Accs S' ∧ ∃ l, S' = S ++ l ∧ l.length = n ∧ R.Ate (l.flatMap accB) (refR n (R, some S)).1
  | 0, R, S, S', hS, h, hw => by
    obtain rfl : S = S' := Option.some.inj h
    exact ⟨rfl, hS, [], by simp, rfl, Rdr.Ate.refl _⟩
  | n + 1, R, S, S', hS, h, hw => by
    by_cases hR : R.bytes.2.int.2.bytes.2.why = 0
    · obtain ⟨h3, a3, l3⟩ := bytes_canon hR
      obtain ⟨h2, a2⟩ := int_canon h3
      obtain ⟨h1, a1, l1⟩ := bytes_canon h2
      by_cases hc : okS S R.bytes.1 ∧ putE S R.bytes.1 R.bytes.2.int.1 = 0
      · obtain ⟨p1, p2, p3, p4⟩ := putE_zero hc.2
        have hir := Rdr.int_range R.bytes.2
        have hlt := okS_all hS hc.1
        have hao : (⟨R.bytes.1, R.bytes.2.int.1, R.bytes.2.int.2.bytes.1⟩ : AccM).Ok := ⟨p1, p2, hir.2, l3⟩
        obtain ⟨e0, e1, e2⟩ := load_one hao p4 hlt
        have hls : loadStep (R, S, 0) = (R.bytes.2.int.2.bytes.2, S ++ [⟨R.bytes.1, R.bytes.2.int.1, R.bytes.2.int.2.bytes.1⟩], 0) := by
          unfold loadStep
          simp only
          rw [e1, if_neg]
          rintro (q | ⟨q1, q2⟩)
          · exact q e0
          · exact q2 (e2 q1)
        have hrs : refStep (R, some S) = (R.bytes.2.int.2.bytes.2, some (S ++ [⟨R.bytes.1, R.bytes.2.int.1, R.bytes.2.int.2.bytes.1⟩])) := by
          unfold refStep
          simp only
          rw [if_neg (fun q => q hR), if_pos hc, hls]
        have hr : refR (n + 1) (R, some S) = refR n (R.bytes.2.int.2.bytes.2, some (S ++ [⟨R.bytes.1, R.bytes.2.int.1, R.bytes.2.int.2.bytes.1⟩])) := by
          show refR n (refStep (R, some S)) = _
          rw [hrs]
        rw [hr] at h hw ⊢
        obtain ⟨q1, q2, l, q3, q4, q5⟩ := ref_fw n (hS.snoc hao p4 hlt) h hw
        refine ⟨?_, q2, ⟨R.bytes.1, R.bytes.2.int.1, R.bytes.2.int.2.bytes.1⟩ :: l, by rw [q3, List.append_assoc]; rfl, by rw [List.length_cons, q4], ?_⟩
        · show loadR n (loadStep (R, S, 0)) = _
          rw [hls]; exact q1
        · have := ((a1.trans a2).trans a3).trans q5
          rw [List.flatMap_cons]
          show R.Ate ((tv R.bytes.1 ++ (iv R.bytes.2.int.1 ++ tv R.bytes.2.int.2.bytes.1)) ++ l.flatMap accB) _
          simpa using this
      · have hrs : refStep (R, some S) = (R.bytes.2.int.2.bytes.2, none) := by
          unfold refStep
          simp only
          rw [if_neg (fun q => q hR), if_neg hc]
        have hr : refR (n + 1) (R, some S) = refR n (R.bytes.2.int.2.bytes.2, none) := by
          show refR n (refStep (R, some S)) = _
          rw [hrs]
        rw [hr, ref_none] at h
        cases h
    · exfalso
      have hrs : (refStep (R, some S)) = (R.bytes.2.int.2.bytes.2, some S) := by
        unfold refStep
        simp only
        rw [if_pos hR]
      have hr : refR (n + 1) (R, some S) = refR n (R.bytes.2.int.2.bytes.2, some S) := by
        show refR n (refStep (R, some S)) = _
        rw [hrs]
      rw [hr, ref_stuck n _ hR] at hw
      exact hR hw
theorem ref_good {bs : List UInt8} (hbl : bs.length ≤ 140737488351232) {S' : List AccM} (h0 : (loadE bs).1.end_ = 0) (h : (refE bs).2 = some S') : loadX bs = 0 ∧ (loadE bs).2.1 = S' ∧ Accs S' := by
  have hok : (loadN bs).2.Ok := Rdr.Ok.sized (r := ⟨bs, 0, 0⟩) ⟨Nat.zero_le _, hbl⟩ 200
  have hw : (refE bs).1.why = 0 := by
    rw [refE_reader]
    refine Classical.byContradiction fun q => q ?_
    rw [← (Rdr.end_spec (loadE bs).1).2 q]; exact h0
  obtain ⟨q1, q2, l, q3, q4, q5⟩ := ref_fw (loadN bs).1 Accs.nil h hw
  have hE : loadE bs = ((refE bs).1, S', 0) := q1
  rw [List.nil_append] at q3
  subst q3
  have hn0 : (loadN bs).2.why = 0 := Classical.byContradiction fun q => by
    have := congrArg (fun z => Rdr.why z.1) (ref_stuck (loadN bs).1 (some []) q)
    have h2 : (refE bs).1.why = (loadN bs).2.why := this
    rw [hw] at h2
    exact q h2.symm
  obtain ⟨_, a0, _⟩ := sized_canon (r := ⟨bs, 0, 0⟩) (m := 200) hn0
  have ha := a0.trans q5
  have hd := ha.2
  have hz : (loadE bs).1.bs.drop (loadE bs).1.pos = [] := by
    have hr : (refE bs).1.bs = bs := ha.1
    rw [hE]
    have hend : (refE bs).1.end_ = 0 := by rw [refE_reader]; exact h0
    unfold Rdr.end_ at hend
    show (refE bs).1.bs.drop (refE bs).1.pos = []
    refine List.drop_eq_nil_of_le (Classical.byContradiction fun q => ?_)
    rw [if_pos ⟨hw, by omega⟩] at hend
    cases hend
  rw [hE] at hz
  have hbb : bookB S' = bs := by
    have hx : bs = uv (loadN bs).1 ++ S'.flatMap accB ++ (refE bs).1.bs.drop (refE bs).1.pos := hd
    have hz' : (refE bs).1.bs.drop (refE bs).1.pos = [] := hz
    rw [hz', List.append_nil, ← q4] at hx
    exact hx.symm
  refine ⟨?_, by rw [hE], q2⟩
  unfold loadX
  rw [if_neg (fun q => q h0), hE, if_neg]
  rintro (q | q)
  · exact q rfl
  · exact q hbb
theorem ref_loop {T : List AccM} (hT : Accs T) (bs : List UInt8) : ∀ (l S : List AccM) (k : Nat), S ++ l = T → bs.drop k = l.flatMap accB → (refR l.length (⟨bs, k, 0⟩, some S)).2 = some T
  | [], S, k, h, hd => by
    rw [List.append_nil] at h
    rw [h]
    rfl
  | a :: l, S, k, h, hd => by
    have haT : a ∈ T := by rw [← h]; simp
    have hao := hT.ok a haT
    have hlt : ∀ b ∈ S, b.name < a.name := fun b hb => by
      have hs := hT.sorted
      rw [← h] at hs
      exact (List.pairwise_append.1 hs).2.2 b hb a (List.mem_cons_self ..)
    have hl : S.length < 200 := by
      have := hT.len
      rw [← h, List.length_append, List.length_cons] at this
      omega
    obtain ⟨e0, e1, e2⟩ := load_one hao hl hlt
    rw [List.flatMap_cons] at hd
    have hd1 : bs.drop k = tv a.name ++ (iv a.amt ++ (tv a.own ++ l.flatMap accB)) := by rw [hd]; unfold accB; simp
    have hn := hao.len
    have r1 := bytes_at hd1 (by omega)
    have hd2 := drop_next hd1
    have r2 := int_at hd2 ⟨by have := hao.lo; omega, hao.hi⟩
    have hd3 := drop_next hd2
    have r3 := bytes_at hd3 hao.own
    have hd4 := drop_next hd3
    have hok : okS S a.name := fun b hb => hlt b (List.mem_of_getLast? hb)
    have hstep : refStep (⟨bs, k, 0⟩, some S) = (⟨bs, k + (tv a.name).length + (iv a.amt).length + (tv a.own).length, 0⟩, some (S ++ [a])) := by
      unfold refStep loadStep
      simp only [r1, r2, r3]
      rw [if_neg (fun q => q rfl), if_pos ⟨by first | exact hok | (rw [r1]; exact hok), by first | exact e0 | (rw [r1, r2]; exact e0)⟩, e1]
    show (refR l.length (refStep _)).2 = _
    rw [hstep]
    exact ref_loop hT bs l (S ++ [a]) _ (by rw [List.append_assoc]; exact h) hd4
theorem ref_back {S : List AccM} (hS : Accs S) : (refE (bookB S)).2 = some S := by
  have hl := hS.len
  have hge : ∀ l : List AccM, l.length ≤ (l.flatMap accB).length := fun l => by
    induction l with
    | nil => exact Nat.le_refl _
    | cons a l ih =>
      rw [List.flatMap_cons, List.length_append, List.length_cons]
      have : 0 < (accB a).length := by unfold accB; have := iv_pos a.amt; simp only [List.length_append]; omega
      omega
  have hd : (bookB S).drop 0 = uv S.length ++ S.flatMap accB := rfl
  have hn : loadN (bookB S) = (S.length, ⟨bookB S, 0 + (uv S.length).length, 0⟩) := sized_at hd (by omega) (by omega) (hge S)
  unfold refE
  rw [hn]
  exact ref_loop hS (bookB S) S [] _ rfl (drop_next hd)
/-- Both answer alike. -/
theorem ref_law {bs : List UInt8} (hbl : bs.length ≤ 140737488351232) (hA : loadX bs = 0 → Accs (loadE bs).2.1) : (refE bs).1.end_ = (loadE bs).1.end_ ∧ ((loadE bs).1.end_ = 0 → (loadX bs = 0 → (refE bs).2 = some (loadE bs).2.1) ∧ (loadX bs ≠ 0 → (refE bs).2 = none)) := by
  refine ⟨by rw [refE_reader], fun h0 => ⟨fun hx => ?_, fun hx => ?_⟩⟩
  · have hb : bookB (loadE bs).2.1 = bs := by
      unfold loadX at hx
      rw [if_neg (fun q => q h0)] at hx
      refine Classical.byContradiction fun q => ?_
      rw [if_pos (.inr q)] at hx
      cases hx
    have := ref_back (hA hx)
    rw [hb] at this
    exact this
  · cases hr : (refE bs).2 with
    | none => rfl
    | some S => exact absurd (ref_good hbl h0 hr).1 hx
def optS : Bool → List AccM → Option (List AccM)
  | true, l => some l
  | false, _ => none
theorem refR_step {n i : Nat} (h : i < n) (s : Rdr × Option (List AccM)) : refR (n - i) s = refR (n - (i + 1)) (refStep s) := by
  rw [show n - i = (n - (i + 1)) + 1 from by omega]
  rfl
theorem gt_of {x y : List UInt8} (h : (decide (x < y) || x == y) = false) : y < x := by
  simp only [Bool.or_eq_false_iff, decide_eq_false_iff_not, beq_eq_false_iff_ne] at h
  exact (ltN_or x y).resolve_left h.1 |>.resolve_left h.2
theorem not_gt {x y : List UInt8} (h : (decide (x < y) || x == y) = true) : ¬ y < x := by
  simp only [Bool.or_eq_true, decide_eq_true_eq, beq_iff_eq] at h
  rcases h with h | h
  · exact fun q => ltN_irrefl _ (ltN_trans h q)
  · rw [h]; exact ltN_irrefl _
theorem last_at {S : List AccM} {a : AccM} (h : S[S.length - 1]? = some a) : S.getLast? = some a := by rw [List.getLast?_eq_getElem?]; exact h
theorem okS_nil {S : List AccM} {n : List UInt8} (h : S.length = 0) : okS S n := fun a ha => by
  rw [List.eq_nil_of_length_eq_zero h] at ha; cases ha
theorem okS_t {S : List AccM} {a : AccM} {n : List UInt8} (h : S[S.length - 1]? = some a) (hn : a.name < n) : okS S n := fun b hb => by
  rw [last_at h] at hb; obtain rfl := Option.some.inj hb; exact hn
theorem okS_f {S : List AccM} {a : AccM} {n : List UInt8} (h : S[S.length - 1]? = some a) (hn : ¬ a.name < n) : ¬ okS S n := fun q => hn (q a (last_at h))
theorem step_err {R : Rdr} {T : Option (List AccM)} (h : R.bytes.2.int.2.bytes.2.why ≠ 0) : refStep (R, T) = (R.bytes.2.int.2.bytes.2, T) := by
  unfold refStep; simp only; rw [if_pos h]
theorem step_none {R : Rdr} : refStep (R, none) = (R.bytes.2.int.2.bytes.2, none) := by unfold refStep; simp
theorem step_bad {R : Rdr} {S : List AccM} (h : R.bytes.2.int.2.bytes.2.why = 0) (hb : ¬ (okS S R.bytes.1 ∧ putE S R.bytes.1 R.bytes.2.int.1 = 0)) : refStep (R, some S) = (R.bytes.2.int.2.bytes.2, none) := by
  unfold refStep; simp only; rw [if_neg (fun q => q h), if_neg hb]
theorem step_good {R : Rdr} {S : List AccM} (h : R.bytes.2.int.2.bytes.2.why = 0) (h1 : okS S R.bytes.1) (h2 : putE S R.bytes.1 R.bytes.2.int.1 = 0) : refStep (R, some S) = (R.bytes.2.int.2.bytes.2, some (loadStep (R, S, 0)).2.1) := by
  unfold refStep; simp only; rw [if_neg (fun q => q h), if_pos ⟨h1, h2⟩]
theorem load_a {R : Rdr} {S : List AccM} (h : R.bytes.2.int.2.bytes.1 = []) : (loadStep (R, S, 0)).2.1 = putS S R.bytes.1 R.bytes.2.int.1 := by
  unfold loadStep; simp only; rw [if_neg (fun q => q.2 h)]
theorem load_b {R : Rdr} {S : List AccM} (h2 : putE S R.bytes.1 R.bytes.2.int.1 = 0) (h : R.bytes.2.int.2.bytes.1 ≠ []) : (loadStep (R, S, 0)).2.1 = chgS (holdF R.bytes.2.int.2.bytes.1) (putS S R.bytes.1 R.bytes.2.int.1) R.bytes.1 := by
  unfold loadStep; simp only; rw [if_pos ⟨h2, h⟩]
theorem put_len1 {S : List AccM} {n : List UInt8} {k : Int} (h : putE S n k = 0) : (putS S n k).length = S.length + 1 := by
  unfold putS
  rw [if_pos h, (insS_perm S _).length_eq, List.length_append]
  rfl
theorem chg_len {S : List AccM} {n : List UInt8} (f : AccV → Int × AccV) : (chgS f S n).length = S.length := by
  unfold chgS
  split
  · rfl
  · unfold setS; rw [List.length_map]
theorem put_le (S : List AccM) (n : List UInt8) (k : Int) : (putS S n k).length ≤ S.length + 1 ∧ (¬ putE S n k = 0 → (putS S n k).length = S.length) := by
  by_cases h : putE S n k = 0
  · exact ⟨by rw [put_len1 h]; exact Nat.le_refl _, fun q => absurd h q⟩
  · rw [put_same h]; exact ⟨by omega, fun _ => rfl⟩
theorem sized_200 (r : Rdr) : (r.sized 200).1 ≤ 200 := by
  have := Rdr.sized_most r 200
  omega
end Go.Q
namespace Go.Q
open Go.RowKit

section
variable {P : Program} {n : Nat} {os : Array Oper} {K : Loc → World → Prop} {L L' : Loc} {w : World} {i j : Nat} {d di dj : Option Tmp} {S : World → Prop} {fuel : Nat} {is : List Nat}

theorem DrB.load {t t2 : TypeId} {a a2 : Addr} {v v2 : Value} {L1 La Lb : Loc} {l : List Nat}
    (hr : Region.ready .any os (marks os.size is) = l) (hl2 : l = [i, j] ∨ l = [j, i]) (hij : Region.ready .any os (marks os.size (i :: is)) = [j]) (hm : marks os.size (i :: j :: is) = marks os.size (j :: i :: is))
    (hi0 : okAt os L i = true) (hld : ld? L (opn os i) = some (t, a)) (hdi : dst? os i = some di) (hsi : (match setL n di v L with | some Lx => restrict Lx (L1.map Prod.fst) | none => none) = some L1)
    (hj0 : okAt os L j = true) (hj1 : okAt os L1 j = true) (hk0 : ld? L (opn os j) = some (t2, a2)) (hk1 : ld? L1 (opn os j) = some (t2, a2)) (hdj : dst? os j = some dj) (hsj0 : setL n dj v2 L = some La) (hsj1 : setL n dj v2 L1 = some Lb)
    (hl : Loads P w t a v) (hlj : Loads P w t2 a2 v2) (hS : S w)
    (h : DrB P n os S fuel (j :: is) i K La Lb w) : DrB P n os S (fuel + 1) is i K L L1 w := by
  have h2 : Dr P n os S (fuel + 1) (i :: is) K L1 w := Dr.go hij hj1 (Runs.load hk1 hlj) hdj hsj1 hS (Dr.swap hm h.2)
  refine ⟨?_, h2⟩
  intro hS0 act ha
  refine wpAnyH_all hr (by rcases hl2 with rfl | rfl <;> simp) fun q hq => ?_
  have hq : q = i ∨ q = j := by rcases hl2 with rfl | rfl <;> simp at hq <;> omega
  rcases hq with rfl | rfl
  · cases hx : setL n di v L with
    | none => rw [hx] at hsi; cases hsi
    | some Lx =>
      rw [hx] at hsi
      exact Dr.opStep hi0 (Runs.load hld hl) hdi hx hS (Dr.keep hsi h2) ha
  · exact Dr.opStep hj0 (Runs.load hk0 hlj) hdj hsj0 hS h.1 ha
end
end Go.Q
