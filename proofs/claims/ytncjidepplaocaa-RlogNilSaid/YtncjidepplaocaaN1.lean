/- chapter 09: RlogNil returns true -/
import Derived.Test.YtncjidepplaocaaProg
import Derived.Test.YtncjidepplaocaaKJ
import Derived.Test.YtncjidepplaocaaKL
set_option linter.unusedVariables false
namespace Go.Proofs.Ytncjidepplaocaa
open Go.Q Go.RowKit

set_option maxHeartbeats 4000000 in
theorem Nil_calls (w : World) (n : Int)  : Calls Try.prog 7 ⟨[(i64 n)]⟩ w (fun e w' => e = .returned (.bool true) ∧ Keeps none_ w w') := by
  have K0 : Keeps none_ w w := Keeps.refl w
  refine qr_calls 11 Try.func7 (by kernel_rfl) (by kernel_rfl) ?_
  refine qr_seq (by kernel_rfl) ?_
  refine qr_region Open.wide (by kernel_rfl) (by kernel_rfl) ?_
  refine Ops.regs 1 [(0, (i64 n)), (2, (Value.bool false))] (j := 1) (by kernel_rfl) (by kernel_rfl) ?_
  refine Ops.done (by kernel_rfl) ?_
  refine qr_seq (by kernel_rfl) ?_
  refine qr_region Open.wide (by kernel_rfl) (by kernel_rfl) ?_
  refine Ops.regs 1 [(0, (i64 n)), (2, (Value.bool false)), (3, (Value.pointer none))] (j := 1) (by kernel_rfl) (by kernel_rfl) ?_
  refine Ops.done (by kernel_rfl) ?_
  refine qr_seq (by kernel_rfl) ?_
  refine qr_region Open.wide (by kernel_rfl) (by kernel_rfl) ?_
  refine Ops.regs 1 [(0, (i64 n)), (2, (Value.bool false)), (3, (Value.pointer none)), (16, (Value.pointer none))] (j := 1) (by kernel_rfl) (by kernel_rfl) ?_
  refine Ops.call (by kernel_rfl) (d := (some 17)) (by kernel_rfl) (Base_nil _ ) ?_
  rintro _ w2 ⟨rfl, K1⟩
  refine ⟨_, _, rfl, rfl, ?_⟩
  replace K0 := K0.trans K1 (U := none_) (fun i h1 h2 => h2) (fun i h1 h2 => by exact h2)
  clear K1
  refine Ops.regs 5 [(0, (i64 n)), (2, (Value.bool false)), (3, (Value.pointer none)), (4, (i64 0)), (5, (i64 0))] (j := 7) (by kernel_rfl) (by kernel_rfl) ?_
  refine Ops.done (by kernel_rfl) ?_
  refine qr_seq (by kernel_rfl) ?_
  refine qr_region Open.wide (by kernel_rfl) (by kernel_rfl) ?_
  refine Ops.regs 1 [(0, (i64 n)), (2, (Value.bool false)), (3, (Value.pointer none)), (4, (i64 0)), (5, (i64 0)), (21, (Value.pointer none))] (j := 1) (by kernel_rfl) (by kernel_rfl) ?_
  refine Ops.call (by kernel_rfl) (d := (some 22)) (by kernel_rfl) (Last_nil _ ) ?_
  rintro _ w4 ⟨rfl, K3⟩
  refine ⟨_, _, rfl, rfl, ?_⟩
  replace K0 := K0.trans K3 (U := none_) (fun i h1 h2 => h2) (fun i h1 h2 => by exact h2)
  clear K3
  refine Ops.regs 5 [(0, (i64 n)), (2, (Value.bool false)), (3, (Value.pointer none)), (4, (i64 0)), (5, (i64 0)), (6, (i64 0)), (7, (i64 0))] (j := 7) (by kernel_rfl) (by kernel_rfl) ?_
  refine Ops.done (by kernel_rfl) ?_
  refine qr_seq (by kernel_rfl) ?_
  refine qr_region Open.wide (by kernel_rfl) (by kernel_rfl) ?_
  refine Ops.regs 2 [(0, (i64 n)), (2, (Value.bool false)), (3, (Value.pointer none)), (4, (i64 0)), (5, (i64 0)), (6, (i64 0)), (7, (i64 0)), (26, (Value.pointer none)), (27, (i64 n))] (j := 2) (by kernel_rfl) (by kernel_rfl) ?_
  refine Ops.call (by kernel_rfl) (d := (some 28)) (by kernel_rfl) (Term_nil _ n) ?_
  rintro _ w6 ⟨rfl, K5⟩
  refine ⟨_, _, rfl, rfl, ?_⟩
  replace K0 := K0.trans K5 (U := none_) (fun i h1 h2 => h2) (fun i h1 h2 => by exact h2)
  clear K5
  refine Ops.regs 5 [(0, (i64 n)), (2, (Value.bool false)), (3, (Value.pointer none)), (4, (i64 0)), (5, (i64 0)), (6, (i64 0)), (7, (i64 0)), (8, (i64 0)), (9, (i64 2))] (j := 8) (by kernel_rfl) (by kernel_rfl) ?_
  refine Ops.done (by kernel_rfl) ?_
  refine qr_seq (by kernel_rfl) ?_
  refine qr_region Open.wide (by kernel_rfl) (by kernel_rfl) ?_
  refine Ops.regs 3 [(0, (i64 n)), (2, (Value.bool false)), (3, (Value.pointer none)), (4, (i64 0)), (5, (i64 0)), (6, (i64 0)), (7, (i64 0)), (8, (i64 0)), (9, (i64 2)), (32, (Value.pointer none)), (33, (i64 n)), (34, (i64 n))] (j := 3) (by kernel_rfl) (by kernel_rfl) ?_
  refine Ops.call (by kernel_rfl) (d := (some 35)) (by kernel_rfl) (Match_nil _ n n) ?_
  rintro _ w8 ⟨rfl, K7⟩
  refine ⟨_, _, rfl, rfl, ?_⟩
  replace K0 := K0.trans K7 (U := none_) (fun i h1 h2 => h2) (fun i h1 h2 => by exact h2)
  clear K7
  refine Ops.regs 7 [(0, (i64 n)), (2, (Value.bool false)), (3, (Value.pointer none)), (4, (i64 0)), (5, (i64 0)), (6, (i64 0)), (7, (i64 0)), (8, (i64 0)), (9, (i64 2)), (10, (i64 0)), (11, (i64 0)), (12, (i64 2))] (j := 11) (by kernel_rfl) (by kernel_rfl) ?_
  refine Ops.done (by kernel_rfl) ?_
  refine qr_seq (by kernel_rfl) ?_
  refine qr_region Open.wide (by kernel_rfl) (by kernel_rfl) ?_
  refine Ops.new (o := rowL [(i64 0)] 3) (V := fun b => (ptr b)) (by kernel_rfl) (d := (some 13)) (by kernel_rfl) (fun b => rfl) (fun b9 w10 hb11 H12 K13 hs14 => ?_)
  have nb9 : w.heap.size ≤ b9 := by have := K0.size; omega
  replace K0 := K0.trans K13 (U := none_) (fun i h1 h2 => h2) (fun i h1 h2 => by exact h2)
  clear K13 hs14
  refine Ops.put (t := 3) (b := b9) (off := 0) (v := (i64 0)) (ys := [(i64 0)]) (by kernel_rfl) (by kernel_rfl) H12 (by kernel_rfl) (d := none) (by kernel_rfl) rfl (fun w15 H16 K17 => ?_)
  clear H12
  replace K0 := K0.trans K17 (U := none_) (fun i h1 h2 => h2) (fun i h1 h2 => by have h2 : i = b9 := h2; exfalso; omega)
  clear K17
  refine Ops.done (by kernel_rfl) ?_
  refine qr_seq (by kernel_rfl) ?_
  refine qr_seq (by kernel_rfl) ?_
  refine qr_region Open.wide (by kernel_rfl) (by kernel_rfl) ?_
  refine Ops.regs 1 [(0, (i64 n)), (2, (Value.bool false)), (3, (Value.pointer none)), (4, (i64 0)), (5, (i64 0)), (6, (i64 0)), (7, (i64 0)), (8, (i64 0)), (9, (i64 2)), (10, (i64 0)), (11, (i64 0)), (12, (i64 2)), (13, (ptr b9)), (39, (Value.pointer none))] (j := 1) (by kernel_rfl) (by kernel_rfl) ?_
  refine Ops.call (by kernel_rfl) (d := (some 40)) (by kernel_rfl) (Each_nil _) ?_
  rintro _ w20 ⟨b18, rfl, K19, H21, nb22⟩
  have lb18b9 : b9 < b18 := by have := H16.lt; omega
  have nb18 : w.heap.size ≤ b18 := by have := K0.size; omega
  refine ⟨_, _, rfl, rfl, ?_⟩
  replace K0 := K0.trans K19 (U := none_) (fun i h1 h2 => h2) (fun i h1 h2 => by exact h2)
  replace H16 := H16.keep K19 (fun h => h)
  clear K19
  refine Ops.regs 1 [(0, (i64 n)), (2, (Value.bool false)), (3, (Value.pointer none)), (4, (i64 0)), (5, (i64 0)), (6, (i64 0)), (7, (i64 0)), (8, (i64 0)), (9, (i64 2)), (10, (i64 0)), (11, (i64 0)), (12, (i64 2)), (13, (ptr b9)), (14, (Value.func (Fn.func 30) ⟨[]⟩ ⟨[(ptr b18)]⟩))] (j := 3) (by kernel_rfl) (by kernel_rfl) ?_
  refine Ops.done (by kernel_rfl) ?_
  refine qr_seq (by kernel_rfl) ?_
  refine qr_region Open.wide (by kernel_rfl) (by kernel_rfl) ?_
  refine Ops.regs 2 [(0, (i64 n)), (2, (Value.bool false)), (3, (Value.pointer none)), (4, (i64 0)), (5, (i64 0)), (6, (i64 0)), (7, (i64 0)), (8, (i64 0)), (9, (i64 2)), (10, (i64 0)), (11, (i64 0)), (12, (i64 2)), (13, (ptr b9)), (14, (Value.func (Fn.func 30) ⟨[]⟩ ⟨[(ptr b18)]⟩)), (42, (Value.bool true))] (j := 2) (by kernel_rfl) (by kernel_rfl) ?_
  refine Ops.done (by kernel_rfl) ?_
  refine qr_then (o := .tmp 42) (by kernel_rfl) rfl ?_
  refine qr_seq (by kernel_rfl) ?_
  refine qr_region Open.wide (by kernel_rfl) (by kernel_rfl) ?_
  refine Ops.regs 1 [(0, (i64 n)), (2, (Value.bool false)), (3, (Value.pointer none)), (4, (i64 0)), (5, (i64 0)), (6, (i64 0)), (7, (i64 0)), (8, (i64 0)), (9, (i64 2)), (10, (i64 0)), (11, (i64 0)), (12, (i64 2)), (13, (ptr b9)), (43, (Value.func (Fn.func 30) ⟨[]⟩ ⟨[(ptr b18)]⟩))] (j := 1) (by kernel_rfl) (by kernel_rfl) ?_
  refine Ops.done (by kernel_rfl) ?_
  refine qr_block (id := 0) (by kernel_rfl) ?_
  have zb9 := H16.lt
  have zb18 := H21.lt
  refine qr_eachN (g := .tmp 43) (ts := [44, 45]) (m := 11) (A := fun _ _ _ => False) (N := 0) (w0 := w20) (T := fun i => w20.heap.size ≤ i) (by kernel_rfl) (by decide) (gf := 30) (lb := [ptr b18]) rfl (enters Try.func30 (by kernel_rfl) (by kernel_rfl))
    (Each1_tells0 w20 9 b18 _ H21 (by intro h; change w20.heap.size ≤ b18 at h; omega)) (fun i h => h) ((Keeps.refl _).mono (fun _ _ h => h.elim)) (fun _ W => Keeps (fun i => w20.heap.size ≤ i) w20 W) (fun k W W' h lo => h.trans lo.keeps (fun _ _ h => h) (fun _ _ h => h)) (fun _ _ _ _ h _ => h) ((Keeps.refl _).mono (fun _ _ h => h.elim)) (fun _ => []) (fun _ => []) (fun k v W h => absurd h (Nat.not_lt_zero k)) (fun l k v W h => absurd h (Nat.not_lt_zero k)) (fun l k v W hi h => absurd h (Nat.not_lt_zero k)) ?_
  intro D W hDw hk hD
  have K23 : Keeps none_ w W := K0.trans hk (U := none_) (fun _ _ h => h) (fun i hi h => by have h : w20.heap.size ≤ i := h; have := K0.size; omega)
  have H24 := H16.keep hk (by intro h; change w20.heap.size ≤ b9 at h; omega)
  have H25 := H21.keep hk (by intro h; change w20.heap.size ≤ b18 at h; omega)
  clear H16 H21 K0
  have hbD : b9 < D ∧ b18 < D := by omega
  have hwD : w.heap.size ≤ D := by have := K23.size; omega
  have hD1 : Has W D (.deferred (some [])) := hD
  clear hD
  refine qr_seq (by kernel_rfl) ?_
  refine qr_region Open.wide (by kernel_rfl) (by kernel_rfl) ?_
  refine Ops.regs 36 [(0, (i64 n)), (2, (Value.bool false)), (3, (Value.pointer none)), (13, (ptr b9)), (82, (Value.bool true)), (83, (Value.pointer none))] (j := 36) (by kernel_rfl) (by kernel_rfl) ?_
  refine Ops.call (by kernel_rfl) (d := (some 84)) (by kernel_rfl) (Append_nil _ ) ?_
  rintro _ w27 ⟨rfl, K26⟩
  refine ⟨_, _, rfl, rfl, ?_⟩
  replace K23 := K23.trans K26 (U := none_) (fun i h1 h2 => h2) (fun i h1 h2 => by exact h2)
  replace H24 := H24.keep K26 (fun h => h)
  replace H25 := H25.keep K26 (fun h => h)
  replace hD1 := hD1.keep K26 (fun h => h)
  clear K26
  refine Ops.regs 5 [(0, (i64 n)), (2, (Value.bool false)), (3, (Value.pointer none)), (13, (ptr b9)), (87, (Value.bool true)), (88, (Value.pointer none)), (89, (i64 n))] (j := 42) (by kernel_rfl) (by kernel_rfl) ?_
  refine Ops.call (by kernel_rfl) (d := (some 90)) (by kernel_rfl) (Cut_nil _ n) ?_
  rintro _ w29 ⟨rfl, K28⟩
  refine ⟨_, _, rfl, rfl, ?_⟩
  replace K23 := K23.trans K28 (U := none_) (fun i h1 h2 => h2) (fun i h1 h2 => by exact h2)
  replace H24 := H24.keep K28 (fun h => h)
  replace H25 := H25.keep K28 (fun h => h)
  replace hD1 := hD1.keep K28 (fun h => h)
  clear K28
  refine Ops.regs 5 [(0, (i64 n)), (2, (Value.bool false)), (3, (Value.pointer none)), (13, (ptr b9)), (93, (Value.bool true)), (94, (Value.pointer none)), (95, (i64 n))] (j := 48) (by kernel_rfl) (by kernel_rfl) ?_
  refine Ops.call (by kernel_rfl) (d := (some 96)) (by kernel_rfl) (Compact_nil _ n) ?_
  rintro _ w31 ⟨rfl, K30⟩
  refine ⟨_, _, rfl, rfl, ?_⟩
  replace K23 := K23.trans K30 (U := none_) (fun i h1 h2 => h2) (fun i h1 h2 => by exact h2)
  replace H24 := H24.keep K30 (fun h => h)
  replace H25 := H25.keep K30 (fun h => h)
  replace hD1 := hD1.keep K30 (fun h => h)
  clear K30
  refine Ops.regs 4 [(0, (i64 n)), (2, (Value.bool false)), (3, (Value.pointer none)), (13, (ptr b9)), (99, (Value.bool true)), (100, (Value.pointer none))] (j := 53) (by kernel_rfl) (by kernel_rfl) ?_
  refine Ops.call (by kernel_rfl) (d := (some 101)) (by kernel_rfl) (Len_nil _ ) ?_
  rintro _ w33 ⟨rfl, K32⟩
  refine ⟨_, _, rfl, rfl, ?_⟩
  replace K23 := K23.trans K32 (U := none_) (fun i h1 h2 => h2) (fun i h1 h2 => by exact h2)
  replace H24 := H24.keep K32 (fun h => h)
  replace H25 := H25.keep K32 (fun h => h)
  replace hD1 := hD1.keep K32 (fun h => h)
  clear K32
  refine Ops.regs 5 [(0, (i64 n)), (2, (Value.bool false)), (3, (Value.pointer none)), (13, (ptr b9)), (104, (Value.bool true)), (105, (Value.pointer none)), (106, (i64 n))] (j := 59) (by kernel_rfl) (by kernel_rfl) ?_
  refine Ops.call (by kernel_rfl) (d := (some 107)) (by kernel_rfl) (Part_nil _ n 1) ?_
  rintro _ w35 ⟨rfl, K34⟩
  refine ⟨_, _, rfl, rfl, ?_⟩
  replace K23 := K23.trans K34 (U := none_) (fun i h1 h2 => h2) (fun i h1 h2 => by exact h2)
  replace H24 := H24.keep K34 (fun h => h)
  replace H25 := H25.keep K34 (fun h => h)
  replace hD1 := hD1.keep K34 (fun h => h)
  clear K34
  refine Ops.regs 7 [(2, (Value.bool false)), (3, (Value.pointer none)), (13, (ptr b9)), (111, (Value.bool true)), (112, (Value.pointer none)), (113, (i64 n)), (114, (i64 n))] (j := 67) (by kernel_rfl) (by kernel_rfl) ?_
  refine Ops.call (by kernel_rfl) (d := (some 115)) (by kernel_rfl) (Newer_nil _ n n) ?_
  rintro _ w37 ⟨rfl, K36⟩
  refine ⟨_, _, rfl, rfl, ?_⟩
  replace K23 := K23.trans K36 (U := none_) (fun i h1 h2 => h2) (fun i h1 h2 => by exact h2)
  replace H24 := H24.keep K36 (fun h => h)
  replace H25 := H25.keep K36 (fun h => h)
  replace hD1 := hD1.keep K36 (fun h => h)
  clear K36
  refine Ops.regs 4 [(2, (Value.bool false)), (13, (ptr b9)), (118, (Value.bool true)), (119, (Value.pointer none))] (j := 72) (by kernel_rfl) (by kernel_rfl) ?_
  refine Ops.call (by kernel_rfl) (d := (some 120)) (by kernel_rfl) (Copy_nil _ ) ?_
  rintro _ w39 ⟨rfl, K38⟩
  refine ⟨_, _, rfl, rfl, ?_⟩
  replace K23 := K23.trans K38 (U := none_) (fun i h1 h2 => h2) (fun i h1 h2 => by exact h2)
  replace H24 := H24.keep K38 (fun h => h)
  replace H25 := H25.keep K38 (fun h => h)
  replace hD1 := hD1.keep K38 (fun h => h)
  clear K38
  refine Ops.regs 3 [(2, (Value.bool false)), (13, (ptr b9)), (123, (Value.bool true))] (j := 76) (by kernel_rfl) (by kernel_rfl) ?_
  refine Ops.go (v := (i64 0)) (by kernel_rfl) (Runs.load (t := 3) (a := ⟨b9, 0, none⟩) (by kernel_rfl) (H24.loads (by kernel_rfl))) (d := (some 124)) (by kernel_rfl) rfl ?_
  refine Ops.regs 3 [(2, (Value.bool false)), (127, (Value.bool true))] (j := 80) (by kernel_rfl) (by kernel_rfl) ?_
  refine Ops.call (by kernel_rfl) (d := (some 128)) (by kernel_rfl) (known_calls _) ?_
  rintro _ w41 ⟨rfl, K40⟩
  refine ⟨_, _, rfl, rfl, ?_⟩
  replace K23 := K23.trans K40 (U := none_) (fun i h1 h2 => h2) (fun i h1 h2 => by exact h2)
  replace H24 := H24.keep K40 (fun h => h)
  replace H25 := H25.keep K40 (fun h => h)
  replace hD1 := hD1.keep K40 (fun h => h)
  clear K40
  refine Ops.regs 2 [(2, (Value.bool true))] (j := 83) (by kernel_rfl) (by kernel_rfl) ?_
  refine Ops.done (by kernel_rfl) ?_
  refine qr_ret (by kernel_rfl) ?_
  refine retR_one (D := D) hD1 (v := (Value.bool true)) (retv_tmp rfl rfl) ?_
  exact ⟨rfl, (K23.trans (Loose.put (B := D) (.deferred none) (Nat.le_refl _) hD1 rfl).keeps (fun _ _ h => h) (fun i hi h => by have h : D ≤ i := h; omega))⟩
end Go.Proofs.Ytncjidepplaocaa
