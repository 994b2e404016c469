/- chapter 18: ClientNil returns true -/
import Derived.Test.YtlnidnadpdpciaaProg
import Derived.Test.YtlnidnadpdpciaaKI
set_option linter.unusedVariables false
namespace Go.Proofs.Ytlnidnadpdpciaa
open Go.Q Go.RowKit

set_option maxHeartbeats 4000000 in
theorem Nil_calls (w : World) (n : Int) (o : Opm)  : Calls Try.prog 4 ⟨[(i64 n), (agg [(i64 o.kind), (Value.string (str o.frm)), (Value.string (str o.to)), (i64 o.amount), (Value.string (str o.key)), (i64 o.slot), (i64 o.shard)])]⟩ w (fun e w' => e = .returned (.bool true) ∧ Keeps none_ w w') := by
  have K0 : Keeps none_ w w := Keeps.refl w
  refine qr_calls 11 Try.func4 (by kernel_rfl) (by kernel_rfl) ?_
  refine qr_seq (by kernel_rfl) ?_
  refine qr_region Open.wide (by kernel_rfl) (by kernel_rfl) ?_
  refine Ops.new (o := rowL [(i64 o.kind), (Value.string (str o.frm)), (Value.string (str o.to)), (i64 o.amount), (Value.string (str o.key)), (i64 o.slot), (i64 o.shard)] 23) (V := fun b => (ptr b)) (by kernel_rfl) (d := (some 3)) (by kernel_rfl) (fun b => rfl) (fun b1 w2 hb3 H4 K5 hs6 => ?_)
  have nb1 : w.heap.size ≤ b1 := by have := K0.size; omega
  replace K0 := K0.trans K5 (U := none_) (fun i h1 h2 => h2) (fun i h1 h2 => by exact h2)
  clear K5 hs6
  refine Ops.regs 1 [(0, (i64 n)), (3, (ptr b1)), (4, (Value.bool false))] (j := 2) (by kernel_rfl) (by kernel_rfl) ?_
  refine Ops.done (by kernel_rfl) ?_
  refine qr_seq (by kernel_rfl) ?_
  refine qr_region Open.wide (by kernel_rfl) (by kernel_rfl) ?_
  refine Ops.regs 1 [(0, (i64 n)), (3, (ptr b1)), (4, (Value.bool false)), (5, (Value.pointer none))] (j := 1) (by kernel_rfl) (by kernel_rfl) ?_
  refine Ops.done (by kernel_rfl) ?_
  refine qr_seq (by kernel_rfl) ?_
  refine qr_region Open.wide (by kernel_rfl) (by kernel_rfl) ?_
  refine Ops.regs 2 [(0, (i64 n)), (3, (ptr b1)), (4, (Value.bool false)), (5, (Value.pointer none)), (12, (Value.pointer none)), (13, (i64 n))] (j := 2) (by kernel_rfl) (by kernel_rfl) ?_
  refine Ops.call (by kernel_rfl) (d := (some 14)) (by kernel_rfl) (Get_nil _ n) ?_
  rintro _ w8 ⟨rfl, K7⟩
  refine ⟨_, _, rfl, rfl, ?_⟩
  replace K0 := K0.trans K7 (U := none_) (fun i h1 h2 => h2) (fun i h1 h2 => by exact h2)
  replace H4 := H4.keep K7 (fun h => h)
  clear K7
  refine Ops.regs 4 [(0, (i64 n)), (3, (ptr b1)), (4, (Value.bool false)), (5, (Value.pointer none)), (15, (agg [(i64 0), (Value.string ByteArray.empty), (Value.string ByteArray.empty), (i64 0), (Value.string ByteArray.empty), (i64 0), (i64 0)])), (16, (agg [(i64 0), (i64 0), (Value.slice none 0 0)])), (17, (Value.bool false))] (j := 7) (by kernel_rfl) (by kernel_rfl) ?_
  refine Ops.new (o := rowL [(i64 0), (Value.string ByteArray.empty), (Value.string ByteArray.empty), (i64 0), (Value.string ByteArray.empty), (i64 0), (i64 0)] 23) (V := fun b => (ptr b)) (by kernel_rfl) (d := (some 6)) (by kernel_rfl) (fun b => rfl) (fun b9 w10 hb11 H12 K13 hs14 => ?_)
  have lb9b1 : b1 < b9 := by have := H4.lt; omega
  have nb9 : w.heap.size ≤ b9 := by have := K0.size; omega
  replace K0 := K0.trans K13 (U := none_) (fun i h1 h2 => h2) (fun i h1 h2 => by exact h2)
  replace H4 := H4.keep K13 (fun h => h)
  clear K13 hs14
  refine Ops.new (o := rowL [(i64 0), (i64 0), (Value.slice none 0 0)] 27) (V := fun b => (ptr b)) (by kernel_rfl) (d := (some 7)) (by kernel_rfl) (fun b => rfl) (fun b15 w16 hb17 H18 K19 hs20 => ?_)
  have lb15b1 : b1 < b15 := by have := H4.lt; omega
  have lb15b9 : b9 < b15 := by have := H12.lt; omega
  have nb15 : w.heap.size ≤ b15 := by have := K0.size; omega
  replace K0 := K0.trans K19 (U := none_) (fun i h1 h2 => h2) (fun i h1 h2 => by exact h2)
  replace H4 := H4.keep K19 (fun h => h)
  replace H12 := H12.keep K19 (fun h => h)
  clear K19 hs20
  refine Ops.put (t := 23) (b := b9) (off := 0) (v := (agg [(i64 0), (Value.string ByteArray.empty), (Value.string ByteArray.empty), (i64 0), (Value.string ByteArray.empty), (i64 0), (i64 0)])) (ys := [(i64 0), (Value.string ByteArray.empty), (Value.string ByteArray.empty), (i64 0), (Value.string ByteArray.empty), (i64 0), (i64 0)]) (by kernel_rfl) (by kernel_rfl) H12 (by kernel_rfl) (d := none) (by kernel_rfl) rfl (fun w21 H22 K23 => ?_)
  clear H12
  replace K0 := K0.trans K23 (U := none_) (fun i h1 h2 => h2) (fun i h1 h2 => by have h2 : i = b9 := h2; exfalso; omega)
  replace H4 := H4.keep K23 (by intro h; change b1 = b9 at h; omega)
  replace H18 := H18.keep K23 (by intro h; change b15 = b9 at h; omega)
  clear K23
  refine Ops.put (t := 27) (b := b15) (off := 0) (v := (agg [(i64 0), (i64 0), (Value.slice none 0 0)])) (ys := [(i64 0), (i64 0), (Value.slice none 0 0)]) (by kernel_rfl) (by kernel_rfl) H18 (by kernel_rfl) (d := none) (by kernel_rfl) rfl (fun w24 H25 K26 => ?_)
  clear H18
  replace K0 := K0.trans K26 (U := none_) (fun i h1 h2 => h2) (fun i h1 h2 => by have h2 : i = b15 := h2; exfalso; omega)
  replace H4 := H4.keep K26 (by intro h; change b1 = b15 at h; omega)
  replace H22 := H22.keep K26 (by intro h; change b9 = b15 at h; omega)
  clear K26
  refine Ops.regs 1 [(0, (i64 n)), (3, (ptr b1)), (4, (Value.bool false)), (5, (Value.pointer none)), (6, (ptr b9)), (7, (ptr b15)), (8, (Value.bool false))] (j := 12) (by kernel_rfl) (by kernel_rfl) ?_
  refine Ops.done (by kernel_rfl) ?_
  refine qr_seq (by kernel_rfl) ?_
  refine qr_region Open.wide (by kernel_rfl) (by kernel_rfl) ?_
  refine Ops.new (o := rowL [(i64 0)] 3) (V := fun b => (ptr b)) (by kernel_rfl) (d := (some 9)) (by kernel_rfl) (fun b => rfl) (fun b27 w28 hb29 H30 K31 hs32 => ?_)
  have lb27b1 : b1 < b27 := by have := H4.lt; omega
  have lb27b9 : b9 < b27 := by have := H22.lt; omega
  have lb27b15 : b15 < b27 := by have := H25.lt; omega
  have nb27 : w.heap.size ≤ b27 := by have := K0.size; omega
  replace K0 := K0.trans K31 (U := none_) (fun i h1 h2 => h2) (fun i h1 h2 => by exact h2)
  replace H4 := H4.keep K31 (fun h => h)
  replace H22 := H22.keep K31 (fun h => h)
  replace H25 := H25.keep K31 (fun h => h)
  clear K31 hs32
  refine Ops.put (t := 3) (b := b27) (off := 0) (v := (i64 0)) (ys := [(i64 0)]) (by kernel_rfl) (by kernel_rfl) H30 (by kernel_rfl) (d := none) (by kernel_rfl) rfl (fun w33 H34 K35 => ?_)
  clear H30
  replace K0 := K0.trans K35 (U := none_) (fun i h1 h2 => h2) (fun i h1 h2 => by have h2 : i = b27 := h2; exfalso; omega)
  replace H4 := H4.keep K35 (by intro h; change b1 = b27 at h; omega)
  replace H22 := H22.keep K35 (by intro h; change b9 = b27 at h; omega)
  replace H25 := H25.keep K35 (by intro h; change b15 = b27 at h; omega)
  clear K35
  refine Ops.done (by kernel_rfl) ?_
  refine qr_seq (by kernel_rfl) ?_
  refine qr_seq (by kernel_rfl) ?_
  refine qr_region Open.wide (by kernel_rfl) (by kernel_rfl) ?_
  refine Ops.regs 1 [(0, (i64 n)), (3, (ptr b1)), (4, (Value.bool false)), (5, (Value.pointer none)), (6, (ptr b9)), (7, (ptr b15)), (8, (Value.bool false)), (9, (ptr b27)), (18, (Value.pointer none))] (j := 1) (by kernel_rfl) (by kernel_rfl) ?_
  refine Ops.call (by kernel_rfl) (d := (some 19)) (by kernel_rfl) (Open_nil _) ?_
  rintro _ w38 ⟨b36, rfl, K37, H39, nb40⟩
  have lb36b1 : b1 < b36 := by have := H4.lt; omega
  have lb36b9 : b9 < b36 := by have := H22.lt; omega
  have lb36b15 : b15 < b36 := by have := H25.lt; omega
  have lb36b27 : b27 < b36 := by have := H34.lt; omega
  have nb36 : w.heap.size ≤ b36 := by have := K0.size; omega
  refine ⟨_, _, rfl, rfl, ?_⟩
  replace K0 := K0.trans K37 (U := none_) (fun i h1 h2 => h2) (fun i h1 h2 => by exact h2)
  replace H4 := H4.keep K37 (fun h => h)
  replace H22 := H22.keep K37 (fun h => h)
  replace H25 := H25.keep K37 (fun h => h)
  replace H34 := H34.keep K37 (fun h => h)
  clear K37
  refine Ops.regs 1 [(0, (i64 n)), (3, (ptr b1)), (4, (Value.bool false)), (5, (Value.pointer none)), (6, (ptr b9)), (7, (ptr b15)), (8, (Value.bool false)), (9, (ptr b27)), (10, (Value.func (Fn.func 40) ⟨[]⟩ ⟨[(ptr b36)]⟩))] (j := 3) (by kernel_rfl) (by kernel_rfl) ?_
  refine Ops.done (by kernel_rfl) ?_
  refine qr_seq (by kernel_rfl) ?_
  refine qr_region Open.wide (by kernel_rfl) (by kernel_rfl) ?_
  refine Ops.regs 2 [(0, (i64 n)), (3, (ptr b1)), (4, (Value.bool false)), (5, (Value.pointer none)), (6, (ptr b9)), (7, (ptr b15)), (8, (Value.bool false)), (9, (ptr b27)), (10, (Value.func (Fn.func 40) ⟨[]⟩ ⟨[(ptr b36)]⟩)), (21, (Value.bool true))] (j := 2) (by kernel_rfl) (by kernel_rfl) ?_
  refine Ops.done (by kernel_rfl) ?_
  refine qr_then (o := .tmp 21) (by kernel_rfl) rfl ?_
  refine qr_seq (by kernel_rfl) ?_
  refine qr_region Open.wide (by kernel_rfl) (by kernel_rfl) ?_
  refine Ops.regs 1 [(0, (i64 n)), (3, (ptr b1)), (4, (Value.bool false)), (5, (Value.pointer none)), (6, (ptr b9)), (7, (ptr b15)), (8, (Value.bool false)), (9, (ptr b27)), (22, (Value.func (Fn.func 40) ⟨[]⟩ ⟨[(ptr b36)]⟩))] (j := 1) (by kernel_rfl) (by kernel_rfl) ?_
  refine Ops.done (by kernel_rfl) ?_
  refine qr_block (id := 0) (by kernel_rfl) ?_
  have zb1 := H4.lt
  have zb9 := H22.lt
  have zb15 := H25.lt
  have zb27 := H34.lt
  have zb36 := H39.lt
  refine qr_eachN (g := .tmp 22) (ts := [23, 24]) (m := 11) (A := fun _ _ _ => False) (N := 0) (w0 := w38) (T := fun i => w38.heap.size ≤ i) (by kernel_rfl) (by decide) (gf := 40) (lb := [ptr b36]) rfl (enters Try.func40 (by kernel_rfl) (by kernel_rfl))
    (Open1_tells0 w38 9 b36 _ H39 (by intro h; change w38.heap.size ≤ b36 at h; omega)) (fun i h => h) ((Keeps.refl _).mono (fun _ _ h => h.elim)) (fun _ W => Keeps (fun i => w38.heap.size ≤ i) w38 W) (fun k W W' h lo => h.trans lo.keeps (fun _ _ h => h) (fun _ _ h => h)) (fun _ _ _ _ h _ => h) ((Keeps.refl _).mono (fun _ _ h => h.elim)) (fun _ => []) (fun _ => []) (fun k v W h => absurd h (Nat.not_lt_zero k)) (fun l k v W h => absurd h (Nat.not_lt_zero k)) (fun l k v W hi h => absurd h (Nat.not_lt_zero k)) ?_
  intro D W hDw hk hD
  have K41 : Keeps none_ w W := K0.trans hk (U := none_) (fun _ _ h => h) (fun i hi h => by have h : w38.heap.size ≤ i := h; have := K0.size; omega)
  have H42 := H4.keep hk (by intro h; change w38.heap.size ≤ b1 at h; omega)
  have H43 := H22.keep hk (by intro h; change w38.heap.size ≤ b9 at h; omega)
  have H44 := H25.keep hk (by intro h; change w38.heap.size ≤ b15 at h; omega)
  have H45 := H34.keep hk (by intro h; change w38.heap.size ≤ b27 at h; omega)
  have H46 := H39.keep hk (by intro h; change w38.heap.size ≤ b36 at h; omega)
  clear H4 H22 H25 H34 H39 K0
  have hbD : b1 < D ∧ b9 < D ∧ b15 < D ∧ b27 < D ∧ b36 < D := by omega
  have hwD : w.heap.size ≤ D := by have := K41.size; omega
  have hD1 : Has W D (.deferred (some [])) := hD
  clear hD
  refine qr_seq (by kernel_rfl) ?_
  refine qr_draw Open.wide (fun wz => Keeps none_ W wz) 38 (by kernel_rfl) (by kernel_rfl) (by kernel_rfl) (by kernel_rfl) (fun w47 K48 _ _ => ⟨K48, ?_⟩)
  replace K41 := K41.trans K48 (U := none_) (fun i h1 h2 => h2) (fun i h1 h2 => by exact h2)
  replace H42 := H42.keep K48 (fun h => h)
  replace H43 := H43.keep K48 (fun h => h)
  replace H44 := H44.keep K48 (fun h => h)
  replace H45 := H45.keep K48 (fun h => h)
  replace H46 := H46.keep K48 (fun h => h)
  replace hD1 := hD1.keep K48 (fun h => h)
  refine Dr.strong (S' := (fun wz => Keeps none_ w47 wz)) (Keeps.refl w47) (fun wz hx => K48.trans hx (fun i _ h => h) (fun _ _ h => h)) ?_
  clear K48
  refine Dr.takes (fuel' := 37) (is' := [0]) [0] [(0, (i64 n)), (3, (ptr b1)), (4, (Value.bool false)), (5, (Value.pointer none)), (6, (ptr b9)), (7, (ptr b15)), (8, (Value.bool false)), (9, (ptr b27)), (27, (Value.pointer none))] (by kernel_rfl) rfl (by kernel_rfl) ?_
  refine Dr.take (i := 1) (v := (agg [(i64 o.kind), (Value.string (str o.frm)), (Value.string (str o.to)), (i64 o.amount), (Value.string (str o.key)), (i64 o.slot), (i64 o.shard)])) (by kernel_rfl) (by kernel_rfl) (fun wz hS => Runs.load (t := 23) (a := ⟨b1, 0, none⟩) (by kernel_rfl) ((H42.keep hS (fun h => h)).loads (by kernel_rfl))) (d := (some 28)) (by kernel_rfl) rfl ?_
  refine Dr.call (i := 2) (by kernel_rfl) (by kernel_rfl) (d := (some 29)) (by kernel_rfl) (fun _ => Begin_nil _ o) ?_
  rintro _ w50 ⟨rfl, K49⟩
  replace K41 := K41.trans K49 (U := none_) (fun i h1 h2 => h2) (fun i h1 h2 => by exact h2)
  replace H42 := H42.keep K49 (fun h => h)
  replace H43 := H43.keep K49 (fun h => h)
  replace H44 := H44.keep K49 (fun h => h)
  replace H45 := H45.keep K49 (fun h => h)
  replace H46 := H46.keep K49 (fun h => h)
  replace hD1 := hD1.keep K49 (fun h => h)
  refine ⟨_, _, rfl, rfl, K49, ?_⟩
  refine Dr.strong (S' := (fun wz => Keeps none_ w50 wz)) (Keeps.refl w50) (fun wz hx => K49.trans hx (fun i _ h => h) (fun _ _ h => h)) ?_
  clear K49
  refine Dr.takes (fuel' := 30) (is' := [7, 6, 5, 4, 3, 2, 1, 0]) [3, 4, 5, 6, 7] [(4, (Value.bool false)), (5, (Value.pointer none)), (6, (ptr b9)), (7, (ptr b15)), (8, (Value.bool false)), (9, (ptr b27)), (31, (Value.bool true)), (32, (Value.pointer none)), (33, (i64 n)), (34, (agg [(i64 0), (i64 0), (Value.slice none 0 0)]))] (by kernel_rfl) rfl (by kernel_rfl) ?_
  refine Dr.call (i := 8) (by kernel_rfl) (by kernel_rfl) (d := (some 35)) (by kernel_rfl) (fun _ => Hear_nil _ n) ?_
  rintro _ w52 ⟨rfl, K51⟩
  replace K41 := K41.trans K51 (U := none_) (fun i h1 h2 => h2) (fun i h1 h2 => by exact h2)
  replace H42 := H42.keep K51 (fun h => h)
  replace H43 := H43.keep K51 (fun h => h)
  replace H44 := H44.keep K51 (fun h => h)
  replace H45 := H45.keep K51 (fun h => h)
  replace H46 := H46.keep K51 (fun h => h)
  replace hD1 := hD1.keep K51 (fun h => h)
  refine ⟨_, _, rfl, rfl, K51, ?_⟩
  refine Dr.strong (S' := (fun wz => Keeps none_ w52 wz)) (Keeps.refl w52) (fun wz hx => K51.trans hx (fun i _ h => h) (fun _ _ h => h)) ?_
  clear K51
  refine Dr.takes (fuel' := 26) (is' := [11, 10, 9, 8, 7, 6, 5, 4, 3, 2, 1, 0]) [9, 10, 11] [(4, (Value.bool false)), (5, (Value.pointer none)), (6, (ptr b9)), (7, (ptr b15)), (8, (Value.bool false)), (9, (ptr b27)), (38, (Value.bool true))] (by kernel_rfl) rfl (by kernel_rfl) ?_
  refine Dr.take (i := 12) (v := (agg [(i64 0), (Value.string ByteArray.empty), (Value.string ByteArray.empty), (i64 0), (Value.string ByteArray.empty), (i64 0), (i64 0)])) (by kernel_rfl) (by kernel_rfl) (fun wz hS => Runs.load (t := 23) (a := ⟨b9, 0, none⟩) (by kernel_rfl) ((H43.keep hS (fun h => h)).loads (by kernel_rfl))) (d := (some 39)) (by kernel_rfl) rfl ?_
  refine Dr.call (i := 13) (by kernel_rfl) (by kernel_rfl) (d := (some 40)) (by kernel_rfl) (fun _ => none_calls _) ?_
  rintro _ w54 ⟨rfl, K53⟩
  replace K41 := K41.trans K53 (U := none_) (fun i h1 h2 => h2) (fun i h1 h2 => by exact h2)
  replace H42 := H42.keep K53 (fun h => h)
  replace H43 := H43.keep K53 (fun h => h)
  replace H44 := H44.keep K53 (fun h => h)
  replace H45 := H45.keep K53 (fun h => h)
  replace H46 := H46.keep K53 (fun h => h)
  replace hD1 := hD1.keep K53 (fun h => h)
  refine ⟨_, _, rfl, rfl, K53, ?_⟩
  refine Dr.strong (S' := (fun wz => Keeps none_ w54 wz)) (Keeps.refl w54) (fun wz hx => K53.trans hx (fun i _ h => h) (fun _ _ h => h)) ?_
  clear K53
  refine Dr.take (i := 14) (v := (Value.bool (aggB [(i64 0), (Value.string ByteArray.empty), (Value.string ByteArray.empty), (i64 0), (Value.string ByteArray.empty), (i64 0), (i64 0)] [(i64 0), (Value.string ByteArray.empty), (Value.string ByteArray.empty), (i64 0), (Value.string ByteArray.empty), (i64 0), (i64 0)]))) (by kernel_rfl) (by kernel_rfl) (fun wz hS => Runs.aggeq (t := 23) (by kernel_rfl) (by kernel_rfl)) (d := (some 41)) (by kernel_rfl) rfl ?_
  refine Dr.takes (fuel' := 21) (is' := [16, 15, 14, 13, 12, 11, 10, 9, 8, 7, 6, 5, 4, 3, 2, 1, 0]) [15, 16] [(4, (Value.bool false)), (5, (Value.pointer none)), (7, (ptr b15)), (8, (Value.bool false)), (9, (ptr b27)), (43, (Value.bool (aggB [(i64 0), (Value.string ByteArray.empty), (Value.string ByteArray.empty), (i64 0), (Value.string ByteArray.empty), (i64 0), (i64 0)] [(i64 0), (Value.string ByteArray.empty), (Value.string ByteArray.empty), (i64 0), (Value.string ByteArray.empty), (i64 0), (i64 0)])))] (by kernel_rfl) rfl (by kernel_rfl) ?_
  have h55 : (aggB [(i64 0), (Value.string ByteArray.empty), (Value.string ByteArray.empty), (i64 0), (Value.string ByteArray.empty), (i64 0), (i64 0)] [(i64 0), (Value.string ByteArray.empty), (Value.string ByteArray.empty), (i64 0), (Value.string ByteArray.empty), (i64 0), (i64 0)]) = true := by simp [aggB, cellB]
  rw [h55]
  refine Dr.take (i := 17) (v := (agg [(i64 0), (i64 0), (Value.slice none 0 0)])) (by kernel_rfl) (by kernel_rfl) (fun wz hS => Runs.load (t := 27) (a := ⟨b15, 0, none⟩) (by kernel_rfl) ((H44.keep hS (fun h => h)).loads (by kernel_rfl))) (d := (some 44)) (by kernel_rfl) rfl ?_
  refine Dr.takes (fuel' := 19) (is' := [18, 17, 16, 15, 14, 13, 12, 11, 10, 9, 8, 7, 6, 5, 4, 3, 2, 1, 0]) [18] [(4, (Value.bool false)), (5, (Value.pointer none)), (8, (Value.bool false)), (9, (ptr b27)), (43, (Value.bool true)), (44, (agg [(i64 0), (i64 0), (Value.slice none 0 0)])), (45, (agg [(i64 0), (i64 0), (Value.slice none 0 0)]))] (by kernel_rfl) rfl (by kernel_rfl) ?_
  refine Dr.call (i := 19) (by kernel_rfl) (by kernel_rfl) (d := (some 46)) (by kernel_rfl) (fun _ => SameReply_calls _ none 0 (⟨0, 0, []⟩ : ReplyM) none 0 (⟨0, 0, []⟩ : ReplyM) (Rd.nil _ _) (Rd.nil _ _)) ?_
  rintro _ w59 ⟨t56, rfl, ht57, K58⟩
  replace K41 := K41.trans K58 (U := none_) (fun i h1 h2 => h2) (fun i h1 h2 => by exact h2)
  replace H42 := H42.keep K58 (fun h => h)
  replace H43 := H43.keep K58 (fun h => h)
  replace H44 := H44.keep K58 (fun h => h)
  replace H45 := H45.keep K58 (fun h => h)
  replace H46 := H46.keep K58 (fun h => h)
  replace hD1 := hD1.keep K58 (fun h => h)
  refine ⟨_, _, rfl, rfl, K58, ?_⟩
  refine Dr.strong (S' := (fun wz => Keeps none_ w59 wz)) (Keeps.refl w59) (fun wz hx => K58.trans hx (fun i _ h => h) (fun _ _ h => h)) ?_
  clear K58
  refine Dr.takes (fuel' := 16) (is' := [21, 20, 19, 18, 17, 16, 15, 14, 13, 12, 11, 10, 9, 8, 7, 6, 5, 4, 3, 2, 1, 0]) [20, 21] [(4, (Value.bool false)), (5, (Value.pointer none)), (8, (Value.bool false)), (9, (ptr b27)), (48, (Value.bool t56))] (by kernel_rfl) rfl (by kernel_rfl) ?_
  have h60 : t56 = true := ht57.2 rfl
  rw [h60]
  refine Dr.takes (fuel' := 12) (is' := [25, 24, 23, 22, 21, 20, 19, 18, 17, 16, 15, 14, 13, 12, 11, 10, 9, 8, 7, 6, 5, 4, 3, 2, 1, 0]) [22, 23, 24, 25] [(4, (Value.bool false)), (5, (Value.pointer none)), (9, (ptr b27)), (52, (Value.bool true))] (by kernel_rfl) rfl (by kernel_rfl) ?_
  refine Dr.take (i := 26) (v := (i64 0)) (by kernel_rfl) (by kernel_rfl) (fun wz hS => Runs.load (t := 3) (a := ⟨b27, 0, none⟩) (by kernel_rfl) ((H45.keep hS (fun h => h)).loads (by kernel_rfl))) (d := (some 53)) (by kernel_rfl) rfl ?_
  refine Dr.takes (fuel' := 7) (is' := [30, 29, 28, 27, 26, 25, 24, 23, 22, 21, 20, 19, 18, 17, 16, 15, 14, 13, 12, 11, 10, 9, 8, 7, 6, 5, 4, 3, 2, 1, 0]) [27, 28, 29, 30] [(4, (Value.bool false)), (56, (Value.bool true)), (57, (Value.pointer none))] (by kernel_rfl) rfl (by kernel_rfl) ?_
  refine Dr.call (i := 31) (by kernel_rfl) (by kernel_rfl) (d := (some 58)) (by kernel_rfl) (fun _ => Len_nil _ ) ?_
  rintro _ w62 ⟨rfl, K61⟩
  replace K41 := K41.trans K61 (U := none_) (fun i h1 h2 => h2) (fun i h1 h2 => by exact h2)
  replace H42 := H42.keep K61 (fun h => h)
  replace H43 := H43.keep K61 (fun h => h)
  replace H44 := H44.keep K61 (fun h => h)
  replace H45 := H45.keep K61 (fun h => h)
  replace H46 := H46.keep K61 (fun h => h)
  replace hD1 := hD1.keep K61 (fun h => h)
  refine ⟨_, _, rfl, rfl, K61, ?_⟩
  refine Dr.strong (S' := (fun wz => Keeps none_ w62 wz)) (Keeps.refl w62) (fun wz hx => K61.trans hx (fun i _ h => h) (fun _ _ h => h)) ?_
  clear K61
  refine Dr.takes (fuel' := 3) (is' := [34, 33, 32, 31, 30, 29, 28, 27, 26, 25, 24, 23, 22, 21, 20, 19, 18, 17, 16, 15, 14, 13, 12, 11, 10, 9, 8, 7, 6, 5, 4, 3, 2, 1, 0]) [32, 33, 34] [(4, (Value.bool false)), (61, (Value.bool true))] (by kernel_rfl) rfl (by kernel_rfl) ?_
  refine Dr.call (i := 35) (by kernel_rfl) (by kernel_rfl) (d := (some 62)) (by kernel_rfl) (fun _ => known_calls _) ?_
  rintro _ w64 ⟨rfl, K63⟩
  replace K41 := K41.trans K63 (U := none_) (fun i h1 h2 => h2) (fun i h1 h2 => by exact h2)
  replace H42 := H42.keep K63 (fun h => h)
  replace H43 := H43.keep K63 (fun h => h)
  replace H44 := H44.keep K63 (fun h => h)
  replace H45 := H45.keep K63 (fun h => h)
  replace H46 := H46.keep K63 (fun h => h)
  replace hD1 := hD1.keep K63 (fun h => h)
  refine ⟨_, _, rfl, rfl, K63, ?_⟩
  refine Dr.strong (S' := (fun wz => Keeps none_ w64 wz)) (Keeps.refl w64) (fun wz hx => K63.trans hx (fun i _ h => h) (fun _ _ h => h)) ?_
  clear K63
  refine Dr.takes (fuel' := 0) (is' := [37, 36, 35, 34, 33, 32, 31, 30, 29, 28, 27, 26, 25, 24, 23, 22, 21, 20, 19, 18, 17, 16, 15, 14, 13, 12, 11, 10, 9, 8, 7, 6, 5, 4, 3, 2, 1, 0]) [36, 37] [(4, (Value.bool true))] (by kernel_rfl) rfl (by kernel_rfl) ?_
  refine Dr.done (by kernel_rfl) ?_
  refine qr_ret (by kernel_rfl) ?_
  refine retR_one (D := D) hD1 (v := (Value.bool true)) (retv_tmp rfl rfl) ?_
  exact ⟨rfl, (K41.trans (Loose.put (B := D) (.deferred none) (Nat.le_refl _) hD1 rfl).keeps (fun _ _ h => h) (fun i hi h => by have h : D ≤ i := h; omega))⟩
end Go.Proofs.Ytlnidnadpdpciaa
