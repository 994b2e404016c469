/- chart: ChartMoves returns true, printed by a program of this session -/
import Derived.Test.YtoljbckhoigibaaProg
import Derived.Test.YtoljbckhoigibaaChart4
import Derived.Test.YtoljbckhoigibaaB
set_option linter.unusedVariables false
namespace Go.Proofs.Ytoljbckhoigibaa
open Go.Q Go.RowKit

theorem known_calls (w : World)   : Calls Try.prog 14 ⟨[]⟩ w (fun e w' => e = .returned (.bool true) ∧ Keeps none_ w w') := by
  have K0 : Keeps none_ w w := Keeps.refl w
  refine q_calls Try.func14 (by kernel_rfl) (by kernel_rfl) ?_
  refine q_seq (by kernel_rfl) ?_
  refine q_region (by kernel_rfl) ?_
  refine Ops.regs 1 [(0, (Value.bool false))] (j := 1) (by kernel_rfl) (by kernel_rfl) ?_
  refine Ops.done (by kernel_rfl) ?_
  refine q_seq (by kernel_rfl) ?_
  refine q_region (by kernel_rfl) ?_
  refine Ops.call (by kernel_rfl) (d := (some 8)) (by kernel_rfl) (New_ok _ 2 (by omega) (by omega)) ?_
  rintro _ w2 ⟨b1, rfl, q5, K3, H4⟩
  have nb1 : w.heap.size ≤ b1 := by have := K0.size; omega
  clear q5
  have inv6 := newCh_inv 2 (by omega) (by omega)
  refine ⟨_, _, rfl, rfl, ?_⟩
  have K7 := K0.trans K3 (U := none_) (fun i h1 h2 => h2) (fun i h1 h2 => by exact h2)
  clear K0
  clear K3
  refine Ops.regs 5 [(0, (Value.bool false)), (1, (Value.pointer (some ⟨b1, 0, none⟩))), (2, (i64 0))] (j := 6) (by kernel_rfl) (by kernel_rfl) ?_
  refine Ops.done (by kernel_rfl) ?_
  refine q_seq (by kernel_rfl) ?_
  refine q_seq (by kernel_rfl) ?_
  refine q_region (by kernel_rfl) ?_
  refine Ops.regs 6 [(0, (Value.bool false)), (1, (Value.pointer (some ⟨b1, 0, none⟩))), (16, (Value.bool false))] (j := 6) (by kernel_rfl) (by kernel_rfl) ?_
  refine Ops.done (by kernel_rfl) ?_
  refine q_else (o := .tmp 16) (by kernel_rfl) rfl ?_
  refine q_skip (by kernel_rfl) ?_
  refine q_seq (by kernel_rfl) ?_
  refine q_region (by kernel_rfl) ?_
  refine Ops.regs 1 [(0, (Value.bool false)), (1, (Value.pointer (some ⟨b1, 0, none⟩))), (17, (Value.pointer (some ⟨b1, 0, none⟩)))] (j := 1) (by kernel_rfl) (by kernel_rfl) ?_
  refine Ops.call (by kernel_rfl) (d := (some 18)) (by kernel_rfl) (Owner_calls _ b1 (newCh 2 16) 0 inv6 H4) ?_
  rintro _ w8 ⟨rfl, K9⟩
  refine ⟨_, _, rfl, rfl, ?_⟩
  have H10 := H4.keep K9 (fun h => h)
  clear H4
  have K11 := K7.trans K9 (U := none_) (fun i h1 h2 => h2) (fun i h1 h2 => by exact h2)
  clear K7
  clear K9
  refine Ops.regs 1 [(0, (Value.bool false)), (1, (Value.pointer (some ⟨b1, 0, none⟩))), (3, (i64 (Ch.ownerAt (newCh 2 16) 0)))] (j := 3) (by kernel_rfl) (by kernel_rfl) ?_
  refine Ops.done (by kernel_rfl) ?_
  refine q_seq (by kernel_rfl) ?_
  refine q_region (by kernel_rfl) ?_
  refine Ops.regs 2 [(0, (Value.bool false)), (1, (Value.pointer (some ⟨b1, 0, none⟩))), (3, (i64 (Ch.ownerAt (newCh 2 16) 0))), (19, (Value.pointer (some ⟨b1, 0, none⟩))), (20, (agg [(i64 1), (i64 0), (i64 2), (i64 0), (i64 0)]))] (j := 2) (by kernel_rfl) (by kernel_rfl) ?_
  refine Ops.call (by kernel_rfl) (d := (some 21)) (by kernel_rfl) (Do_calls _ b1 (newCh 2 16) ⟨1, 0, 2, 0, 0⟩ inv6 H10) ?_
  rintro _ w12 ⟨rfl, K13, H14⟩
  refine ⟨_, _, rfl, rfl, ?_⟩
  have K15 := K11.trans K13 (U := none_) (fun i h1 h2 => h2) (fun i h1 h2 => by have h2 : i = b1 := h2; exfalso; omega)
  clear K11
  clear K13
  refine Ops.new (o := rowL [(i64 0), (Value.bool false), (i64 0)] 29) (V := fun b => (Value.pointer (some ⟨b, 0, none⟩))) (by kernel_rfl) (d := (some 4)) (by kernel_rfl) (fun b => rfl) (fun b16 w17 hb18 H19 K20 hs21 => ?_)
  have lb16 : b1 < b16 := by have := H14.lt; omega
  have nb16 : w.heap.size ≤ b16 := by have := K15.size; omega
  have H22 := H14.keep K20 (fun h => h)
  clear H14
  have K23 := K15.trans K20 (U := none_) (fun i h1 h2 => h2) (fun i h1 h2 => by exact h2)
  clear K15
  clear K20 hs21
  refine Ops.put (t := 29) (b := b16) (off := 0) (v := (agg [(i64 (((newCh 2 16).do_ ⟨1, 0, 2, 0, 0⟩).1.why)), (Value.bool (((newCh 2 16).do_ ⟨1, 0, 2, 0, 0⟩).1.wait)), (i64 (((newCh 2 16).do_ ⟨1, 0, 2, 0, 0⟩).1.n))])) (ys := [(i64 (((newCh 2 16).do_ ⟨1, 0, 2, 0, 0⟩).1.why)), (Value.bool (((newCh 2 16).do_ ⟨1, 0, 2, 0, 0⟩).1.wait)), (i64 (((newCh 2 16).do_ ⟨1, 0, 2, 0, 0⟩).1.n))]) (by kernel_rfl) (by kernel_rfl) H19 (by kernel_rfl) (d := none) (by kernel_rfl) rfl (fun w24 H25 K26 => ?_)
  clear H19
  have H27 := H22.keep K26 (by intro h; change b1 = b16 at h; omega)
  clear H22
  have K28 := K23.trans K26 (U := none_) (fun i h1 h2 => h2) (fun i h1 h2 => by have h2 : i = b16 := h2; exfalso; omega)
  clear K23
  clear K26
  refine Ops.done (by kernel_rfl) ?_
  refine q_seq (by kernel_rfl) ?_
  refine q_region (by kernel_rfl) ?_
  refine Ops.regs 2 [(0, (Value.bool false)), (1, (Value.pointer (some ⟨b1, 0, none⟩))), (3, (i64 (Ch.ownerAt (newCh 2 16) 0))), (4, (Value.pointer (some ⟨b16, 0, none⟩))), (22, (Value.pointer (some ⟨b1, 0, none⟩))), (23, (agg [(i64 2), (i64 0), (i64 0), (i64 1), (i64 1)]))] (j := 2) (by kernel_rfl) (by kernel_rfl) ?_
  refine Ops.call (by kernel_rfl) (d := (some 24)) (by kernel_rfl) (Do_calls _ b1 (((newCh 2 16).do_ ⟨1, 0, 2, 0, 0⟩).2) ⟨2, 0, 0, 1, 1⟩ (Ch.Inv.do_ inv6 ⟨1, 0, 2, 0, 0⟩) H27) ?_
  rintro _ w29 ⟨rfl, K30, H31⟩
  refine ⟨_, _, rfl, rfl, ?_⟩
  have H32 := H25.keep K30 (by intro h; change b16 = b1 at h; omega)
  clear H25
  have K33 := K28.trans K30 (U := none_) (fun i h1 h2 => h2) (fun i h1 h2 => by have h2 : i = b1 := h2; exfalso; omega)
  clear K28
  clear K30
  refine Ops.done (by kernel_rfl) ?_
  refine q_seq (by kernel_rfl) ?_
  refine q_region (by kernel_rfl) ?_
  refine Ops.regs 2 [(0, (Value.bool false)), (1, (Value.pointer (some ⟨b1, 0, none⟩))), (3, (i64 (Ch.ownerAt (newCh 2 16) 0))), (4, (Value.pointer (some ⟨b16, 0, none⟩))), (25, (Value.pointer (some ⟨b1, 0, none⟩))), (26, (agg [(i64 2), (i64 0), (i64 0), (i64 1), (i64 2)]))] (j := 2) (by kernel_rfl) (by kernel_rfl) ?_
  refine Ops.call (by kernel_rfl) (d := (some 27)) (by kernel_rfl) (Do_calls _ b1 (((((newCh 2 16).do_ ⟨1, 0, 2, 0, 0⟩).2).do_ ⟨2, 0, 0, 1, 1⟩).2) ⟨2, 0, 0, 1, 2⟩ (Ch.Inv.do_ (Ch.Inv.do_ inv6 ⟨1, 0, 2, 0, 0⟩) ⟨2, 0, 0, 1, 1⟩) H31) ?_
  rintro _ w34 ⟨rfl, K35, H36⟩
  refine ⟨_, _, rfl, rfl, ?_⟩
  have H37 := H32.keep K35 (by intro h; change b16 = b1 at h; omega)
  clear H32
  have K38 := K33.trans K35 (U := none_) (fun i h1 h2 => h2) (fun i h1 h2 => by have h2 : i = b1 := h2; exfalso; omega)
  clear K33
  clear K35
  refine Ops.done (by kernel_rfl) ?_
  refine q_seq (by kernel_rfl) ?_
  refine q_region (by kernel_rfl) ?_
  refine Ops.regs 2 [(0, (Value.bool false)), (1, (Value.pointer (some ⟨b1, 0, none⟩))), (3, (i64 (Ch.ownerAt (newCh 2 16) 0))), (4, (Value.pointer (some ⟨b16, 0, none⟩))), (28, (Value.pointer (some ⟨b1, 0, none⟩))), (29, (agg [(i64 3), (i64 0), (i64 0), (i64 0), (i64 0)]))] (j := 2) (by kernel_rfl) (by kernel_rfl) ?_
  refine Ops.call (by kernel_rfl) (d := (some 30)) (by kernel_rfl) (Do_calls _ b1 (((((((newCh 2 16).do_ ⟨1, 0, 2, 0, 0⟩).2).do_ ⟨2, 0, 0, 1, 1⟩).2).do_ ⟨2, 0, 0, 1, 2⟩).2) ⟨3, 0, 0, 0, 0⟩ (Ch.Inv.do_ (Ch.Inv.do_ (Ch.Inv.do_ inv6 ⟨1, 0, 2, 0, 0⟩) ⟨2, 0, 0, 1, 1⟩) ⟨2, 0, 0, 1, 2⟩) H36) ?_
  rintro _ w39 ⟨rfl, K40, H41⟩
  refine ⟨_, _, rfl, rfl, ?_⟩
  have H42 := H37.keep K40 (by intro h; change b16 = b1 at h; omega)
  clear H37
  have K43 := K38.trans K40 (U := none_) (fun i h1 h2 => h2) (fun i h1 h2 => by have h2 : i = b1 := h2; exfalso; omega)
  clear K38
  clear K40
  refine Ops.new (o := rowL [(i64 0), (Value.bool false), (i64 0)] 29) (V := fun b => (Value.pointer (some ⟨b, 0, none⟩))) (by kernel_rfl) (d := (some 5)) (by kernel_rfl) (fun b => rfl) (fun b44 w45 hb46 H47 K48 hs49 => ?_)
  have lb44 : b16 < b44 := by have := H42.lt; omega
  have nb44 : w.heap.size ≤ b44 := by have := K43.size; omega
  have H50 := H41.keep K48 (fun h => h)
  clear H41
  have H51 := H42.keep K48 (fun h => h)
  clear H42
  have K52 := K43.trans K48 (U := none_) (fun i h1 h2 => h2) (fun i h1 h2 => by exact h2)
  clear K43
  clear K48 hs49
  refine Ops.put (t := 29) (b := b44) (off := 0) (v := (agg [(i64 (((((((((newCh 2 16).do_ ⟨1, 0, 2, 0, 0⟩).2).do_ ⟨2, 0, 0, 1, 1⟩).2).do_ ⟨2, 0, 0, 1, 2⟩).2).do_ ⟨3, 0, 0, 0, 0⟩).1.why)), (Value.bool (((((((((newCh 2 16).do_ ⟨1, 0, 2, 0, 0⟩).2).do_ ⟨2, 0, 0, 1, 1⟩).2).do_ ⟨2, 0, 0, 1, 2⟩).2).do_ ⟨3, 0, 0, 0, 0⟩).1.wait)), (i64 (((((((((newCh 2 16).do_ ⟨1, 0, 2, 0, 0⟩).2).do_ ⟨2, 0, 0, 1, 1⟩).2).do_ ⟨2, 0, 0, 1, 2⟩).2).do_ ⟨3, 0, 0, 0, 0⟩).1.n))])) (ys := [(i64 (((((((((newCh 2 16).do_ ⟨1, 0, 2, 0, 0⟩).2).do_ ⟨2, 0, 0, 1, 1⟩).2).do_ ⟨2, 0, 0, 1, 2⟩).2).do_ ⟨3, 0, 0, 0, 0⟩).1.why)), (Value.bool (((((((((newCh 2 16).do_ ⟨1, 0, 2, 0, 0⟩).2).do_ ⟨2, 0, 0, 1, 1⟩).2).do_ ⟨2, 0, 0, 1, 2⟩).2).do_ ⟨3, 0, 0, 0, 0⟩).1.wait)), (i64 (((((((((newCh 2 16).do_ ⟨1, 0, 2, 0, 0⟩).2).do_ ⟨2, 0, 0, 1, 1⟩).2).do_ ⟨2, 0, 0, 1, 2⟩).2).do_ ⟨3, 0, 0, 0, 0⟩).1.n))]) (by kernel_rfl) (by kernel_rfl) H47 (by kernel_rfl) (d := none) (by kernel_rfl) rfl (fun w53 H54 K55 => ?_)
  clear H47
  have H56 := H50.keep K55 (by intro h; change b1 = b44 at h; omega)
  clear H50
  have H57 := H51.keep K55 (by intro h; change b16 = b44 at h; omega)
  clear H51
  have K58 := K52.trans K55 (U := none_) (fun i h1 h2 => h2) (fun i h1 h2 => by have h2 : i = b44 := h2; exfalso; omega)
  clear K52
  clear K55
  refine Ops.done (by kernel_rfl) ?_
  refine q_seq (by kernel_rfl) ?_
  refine q_region (by kernel_rfl) ?_
  refine Ops.regs 2 [(0, (Value.bool false)), (1, (Value.pointer (some ⟨b1, 0, none⟩))), (3, (i64 (Ch.ownerAt (newCh 2 16) 0))), (4, (Value.pointer (some ⟨b16, 0, none⟩))), (5, (Value.pointer (some ⟨b44, 0, none⟩))), (31, (Value.pointer (some ⟨b1, 0, none⟩))), (32, (agg [(i64 2), (i64 0), (i64 0), (i64 1), (i64 3)]))] (j := 2) (by kernel_rfl) (by kernel_rfl) ?_
  refine Ops.call (by kernel_rfl) (d := (some 33)) (by kernel_rfl) (Do_calls _ b1 (((((((((newCh 2 16).do_ ⟨1, 0, 2, 0, 0⟩).2).do_ ⟨2, 0, 0, 1, 1⟩).2).do_ ⟨2, 0, 0, 1, 2⟩).2).do_ ⟨3, 0, 0, 0, 0⟩).2) ⟨2, 0, 0, 1, 3⟩ (Ch.Inv.do_ (Ch.Inv.do_ (Ch.Inv.do_ (Ch.Inv.do_ inv6 ⟨1, 0, 2, 0, 0⟩) ⟨2, 0, 0, 1, 1⟩) ⟨2, 0, 0, 1, 2⟩) ⟨3, 0, 0, 0, 0⟩) H56) ?_
  rintro _ w59 ⟨rfl, K60, H61⟩
  refine ⟨_, _, rfl, rfl, ?_⟩
  have H62 := H57.keep K60 (by intro h; change b16 = b1 at h; omega)
  clear H57
  have H63 := H54.keep K60 (by intro h; change b44 = b1 at h; omega)
  clear H54
  have K64 := K58.trans K60 (U := none_) (fun i h1 h2 => h2) (fun i h1 h2 => by have h2 : i = b1 := h2; exfalso; omega)
  clear K58
  clear K60
  refine Ops.done (by kernel_rfl) ?_
  refine q_seq (by kernel_rfl) ?_
  refine q_region (by kernel_rfl) ?_
  refine Ops.regs 2 [(0, (Value.bool false)), (1, (Value.pointer (some ⟨b1, 0, none⟩))), (3, (i64 (Ch.ownerAt (newCh 2 16) 0))), (4, (Value.pointer (some ⟨b16, 0, none⟩))), (5, (Value.pointer (some ⟨b44, 0, none⟩))), (34, (Value.pointer (some ⟨b1, 0, none⟩))), (35, (agg [(i64 3), (i64 0), (i64 0), (i64 0), (i64 0)]))] (j := 2) (by kernel_rfl) (by kernel_rfl) ?_
  refine Ops.call (by kernel_rfl) (d := (some 36)) (by kernel_rfl) (Do_calls _ b1 (((((((((((newCh 2 16).do_ ⟨1, 0, 2, 0, 0⟩).2).do_ ⟨2, 0, 0, 1, 1⟩).2).do_ ⟨2, 0, 0, 1, 2⟩).2).do_ ⟨3, 0, 0, 0, 0⟩).2).do_ ⟨2, 0, 0, 1, 3⟩).2) ⟨3, 0, 0, 0, 0⟩ (Ch.Inv.do_ (Ch.Inv.do_ (Ch.Inv.do_ (Ch.Inv.do_ (Ch.Inv.do_ inv6 ⟨1, 0, 2, 0, 0⟩) ⟨2, 0, 0, 1, 1⟩) ⟨2, 0, 0, 1, 2⟩) ⟨3, 0, 0, 0, 0⟩) ⟨2, 0, 0, 1, 3⟩) H61) ?_
  rintro _ w65 ⟨rfl, K66, H67⟩
  refine ⟨_, _, rfl, rfl, ?_⟩
  have H68 := H62.keep K66 (by intro h; change b16 = b1 at h; omega)
  clear H62
  have H69 := H63.keep K66 (by intro h; change b44 = b1 at h; omega)
  clear H63
  have K70 := K64.trans K66 (U := none_) (fun i h1 h2 => h2) (fun i h1 h2 => by have h2 : i = b1 := h2; exfalso; omega)
  clear K64
  clear K66
  refine Ops.new (o := rowL [(i64 0), (Value.bool false), (i64 0)] 29) (V := fun b => (Value.pointer (some ⟨b, 0, none⟩))) (by kernel_rfl) (d := (some 6)) (by kernel_rfl) (fun b => rfl) (fun b71 w72 hb73 H74 K75 hs76 => ?_)
  have lb71 : b44 < b71 := by have := H69.lt; omega
  have nb71 : w.heap.size ≤ b71 := by have := K70.size; omega
  have H77 := H67.keep K75 (fun h => h)
  clear H67
  have H78 := H68.keep K75 (fun h => h)
  clear H68
  have H79 := H69.keep K75 (fun h => h)
  clear H69
  have K80 := K70.trans K75 (U := none_) (fun i h1 h2 => h2) (fun i h1 h2 => by exact h2)
  clear K70
  clear K75 hs76
  refine Ops.put (t := 29) (b := b71) (off := 0) (v := (agg [(i64 (((((((((((((newCh 2 16).do_ ⟨1, 0, 2, 0, 0⟩).2).do_ ⟨2, 0, 0, 1, 1⟩).2).do_ ⟨2, 0, 0, 1, 2⟩).2).do_ ⟨3, 0, 0, 0, 0⟩).2).do_ ⟨2, 0, 0, 1, 3⟩).2).do_ ⟨3, 0, 0, 0, 0⟩).1.why)), (Value.bool (((((((((((((newCh 2 16).do_ ⟨1, 0, 2, 0, 0⟩).2).do_ ⟨2, 0, 0, 1, 1⟩).2).do_ ⟨2, 0, 0, 1, 2⟩).2).do_ ⟨3, 0, 0, 0, 0⟩).2).do_ ⟨2, 0, 0, 1, 3⟩).2).do_ ⟨3, 0, 0, 0, 0⟩).1.wait)), (i64 (((((((((((((newCh 2 16).do_ ⟨1, 0, 2, 0, 0⟩).2).do_ ⟨2, 0, 0, 1, 1⟩).2).do_ ⟨2, 0, 0, 1, 2⟩).2).do_ ⟨3, 0, 0, 0, 0⟩).2).do_ ⟨2, 0, 0, 1, 3⟩).2).do_ ⟨3, 0, 0, 0, 0⟩).1.n))])) (ys := [(i64 (((((((((((((newCh 2 16).do_ ⟨1, 0, 2, 0, 0⟩).2).do_ ⟨2, 0, 0, 1, 1⟩).2).do_ ⟨2, 0, 0, 1, 2⟩).2).do_ ⟨3, 0, 0, 0, 0⟩).2).do_ ⟨2, 0, 0, 1, 3⟩).2).do_ ⟨3, 0, 0, 0, 0⟩).1.why)), (Value.bool (((((((((((((newCh 2 16).do_ ⟨1, 0, 2, 0, 0⟩).2).do_ ⟨2, 0, 0, 1, 1⟩).2).do_ ⟨2, 0, 0, 1, 2⟩).2).do_ ⟨3, 0, 0, 0, 0⟩).2).do_ ⟨2, 0, 0, 1, 3⟩).2).do_ ⟨3, 0, 0, 0, 0⟩).1.wait)), (i64 (((((((((((((newCh 2 16).do_ ⟨1, 0, 2, 0, 0⟩).2).do_ ⟨2, 0, 0, 1, 1⟩).2).do_ ⟨2, 0, 0, 1, 2⟩).2).do_ ⟨3, 0, 0, 0, 0⟩).2).do_ ⟨2, 0, 0, 1, 3⟩).2).do_ ⟨3, 0, 0, 0, 0⟩).1.n))]) (by kernel_rfl) (by kernel_rfl) H74 (by kernel_rfl) (d := none) (by kernel_rfl) rfl (fun w81 H82 K83 => ?_)
  clear H74
  have H84 := H77.keep K83 (by intro h; change b1 = b71 at h; omega)
  clear H77
  have H85 := H78.keep K83 (by intro h; change b16 = b71 at h; omega)
  clear H78
  have H86 := H79.keep K83 (by intro h; change b44 = b71 at h; omega)
  clear H79
  have K87 := K80.trans K83 (U := none_) (fun i h1 h2 => h2) (fun i h1 h2 => by have h2 : i = b71 := h2; exfalso; omega)
  clear K80
  clear K83
  refine Ops.done (by kernel_rfl) ?_
  refine q_seq (by kernel_rfl) ?_
  refine q_region (by kernel_rfl) ?_
  refine Ops.regs 3 [(0, (Value.bool false)), (1, (Value.pointer (some ⟨b1, 0, none⟩))), (4, (Value.pointer (some ⟨b16, 0, none⟩))), (5, (Value.pointer (some ⟨b44, 0, none⟩))), (6, (Value.pointer (some ⟨b71, 0, none⟩))), (39, (Value.bool ((Ch.ownerAt (newCh 2 16) 0) == 1)))] (j := 3) (by kernel_rfl) (by kernel_rfl) ?_
  have h88 : ((Ch.ownerAt (newCh 2 16) 0) == 1) = true := by kernel_rfl
  rw [h88]
  refine Ops.regs 1 [(0, (Value.bool false)), (1, (Value.pointer (some ⟨b1, 0, none⟩))), (4, (Value.pointer (some ⟨b16, 0, none⟩))), (5, (Value.pointer (some ⟨b44, 0, none⟩))), (6, (Value.pointer (some ⟨b71, 0, none⟩))), (39, (Value.bool true)), (40, (Value.pointer (some ⟨b16, 1, none⟩)))] (j := 4) (by kernel_rfl) (by kernel_rfl) ?_
  refine Ops.go (v := (Value.bool (((newCh 2 16).do_ ⟨1, 0, 2, 0, 0⟩).1.wait))) (by kernel_rfl) (Runs.load (t := 4) (a := ⟨b16, 1, none⟩) (by kernel_rfl) (H85.loads (by kernel_rfl))) (d := (some 41)) (by kernel_rfl) rfl ?_
  refine Ops.regs 2 [(0, (Value.bool false)), (1, (Value.pointer (some ⟨b1, 0, none⟩))), (4, (Value.pointer (some ⟨b16, 0, none⟩))), (5, (Value.pointer (some ⟨b44, 0, none⟩))), (6, (Value.pointer (some ⟨b71, 0, none⟩))), (43, (Value.bool (((newCh 2 16).do_ ⟨1, 0, 2, 0, 0⟩).1.wait)))] (j := 7) (by kernel_rfl) (by kernel_rfl) ?_
  have h89 : (((newCh 2 16).do_ ⟨1, 0, 2, 0, 0⟩).1.wait) = true := by kernel_rfl
  rw [h89]
  refine Ops.regs 1 [(0, (Value.bool false)), (1, (Value.pointer (some ⟨b1, 0, none⟩))), (5, (Value.pointer (some ⟨b44, 0, none⟩))), (6, (Value.pointer (some ⟨b71, 0, none⟩))), (43, (Value.bool true)), (44, (Value.pointer (some ⟨b16, 2, none⟩)))] (j := 8) (by kernel_rfl) (by kernel_rfl) ?_
  refine Ops.go (v := (i64 (((newCh 2 16).do_ ⟨1, 0, 2, 0, 0⟩).1.n))) (by kernel_rfl) (Runs.load (t := 2) (a := ⟨b16, 2, none⟩) (by kernel_rfl) (H85.loads (by kernel_rfl))) (d := (some 45)) (by kernel_rfl) rfl ?_
  refine Ops.regs 3 [(0, (Value.bool false)), (1, (Value.pointer (some ⟨b1, 0, none⟩))), (5, (Value.pointer (some ⟨b44, 0, none⟩))), (6, (Value.pointer (some ⟨b71, 0, none⟩))), (48, (Value.bool ((((newCh 2 16).do_ ⟨1, 0, 2, 0, 0⟩).1.n) == 1)))] (j := 12) (by kernel_rfl) (by kernel_rfl) ?_
  have h90 : ((((newCh 2 16).do_ ⟨1, 0, 2, 0, 0⟩).1.n) == 1) = true := by kernel_rfl
  rw [h90]
  refine Ops.regs 1 [(0, (Value.bool false)), (1, (Value.pointer (some ⟨b1, 0, none⟩))), (5, (Value.pointer (some ⟨b44, 0, none⟩))), (6, (Value.pointer (some ⟨b71, 0, none⟩))), (48, (Value.bool true)), (49, (Value.pointer (some ⟨b1, 0, none⟩)))] (j := 13) (by kernel_rfl) (by kernel_rfl) ?_
  refine Ops.call (by kernel_rfl) (d := (some 50)) (by kernel_rfl) (Owner_calls _ b1 (((((((((((((newCh 2 16).do_ ⟨1, 0, 2, 0, 0⟩).2).do_ ⟨2, 0, 0, 1, 1⟩).2).do_ ⟨2, 0, 0, 1, 2⟩).2).do_ ⟨3, 0, 0, 0, 0⟩).2).do_ ⟨2, 0, 0, 1, 3⟩).2).do_ ⟨3, 0, 0, 0, 0⟩).2) 0 (Ch.Inv.do_ (Ch.Inv.do_ (Ch.Inv.do_ (Ch.Inv.do_ (Ch.Inv.do_ (Ch.Inv.do_ inv6 ⟨1, 0, 2, 0, 0⟩) ⟨2, 0, 0, 1, 1⟩) ⟨2, 0, 0, 1, 2⟩) ⟨3, 0, 0, 0, 0⟩) ⟨2, 0, 0, 1, 3⟩) ⟨3, 0, 0, 0, 0⟩) H84) ?_
  rintro _ w91 ⟨rfl, K92⟩
  refine ⟨_, _, rfl, rfl, ?_⟩
  have H93 := H84.keep K92 (fun h => h)
  clear H84
  have H94 := H85.keep K92 (fun h => h)
  clear H85
  have H95 := H86.keep K92 (fun h => h)
  clear H86
  have H96 := H82.keep K92 (fun h => h)
  clear H82
  have K97 := K87.trans K92 (U := none_) (fun i h1 h2 => h2) (fun i h1 h2 => by exact h2)
  clear K87
  clear K92
  refine Ops.regs 3 [(0, (Value.bool false)), (1, (Value.pointer (some ⟨b1, 0, none⟩))), (5, (Value.pointer (some ⟨b44, 0, none⟩))), (6, (Value.pointer (some ⟨b71, 0, none⟩))), (53, (Value.bool ((Ch.ownerAt (((((((((((((newCh 2 16).do_ ⟨1, 0, 2, 0, 0⟩).2).do_ ⟨2, 0, 0, 1, 1⟩).2).do_ ⟨2, 0, 0, 1, 2⟩).2).do_ ⟨3, 0, 0, 0, 0⟩).2).do_ ⟨2, 0, 0, 1, 3⟩).2).do_ ⟨3, 0, 0, 0, 0⟩).2) 0) == 2)))] (j := 17) (by kernel_rfl) (by kernel_rfl) ?_
  have h98 : ((Ch.ownerAt (((((((((((((newCh 2 16).do_ ⟨1, 0, 2, 0, 0⟩).2).do_ ⟨2, 0, 0, 1, 1⟩).2).do_ ⟨2, 0, 0, 1, 2⟩).2).do_ ⟨3, 0, 0, 0, 0⟩).2).do_ ⟨2, 0, 0, 1, 3⟩).2).do_ ⟨3, 0, 0, 0, 0⟩).2) 0) == 2) = true := by kernel_rfl
  rw [h98]
  refine Ops.regs 1 [(0, (Value.bool false)), (5, (Value.pointer (some ⟨b44, 0, none⟩))), (6, (Value.pointer (some ⟨b71, 0, none⟩))), (53, (Value.bool true)), (54, (Value.pointer (some ⟨b1, 0, none⟩)))] (j := 18) (by kernel_rfl) (by kernel_rfl) ?_
  refine Ops.call (by kernel_rfl) (d := (some 55)) (by kernel_rfl) (Epoch_calls _ b1 (((((((((((((newCh 2 16).do_ ⟨1, 0, 2, 0, 0⟩).2).do_ ⟨2, 0, 0, 1, 1⟩).2).do_ ⟨2, 0, 0, 1, 2⟩).2).do_ ⟨3, 0, 0, 0, 0⟩).2).do_ ⟨2, 0, 0, 1, 3⟩).2).do_ ⟨3, 0, 0, 0, 0⟩).2) 0 (Ch.Inv.do_ (Ch.Inv.do_ (Ch.Inv.do_ (Ch.Inv.do_ (Ch.Inv.do_ (Ch.Inv.do_ inv6 ⟨1, 0, 2, 0, 0⟩) ⟨2, 0, 0, 1, 1⟩) ⟨2, 0, 0, 1, 2⟩) ⟨3, 0, 0, 0, 0⟩) ⟨2, 0, 0, 1, 3⟩) ⟨3, 0, 0, 0, 0⟩) H93) ?_
  rintro _ w99 ⟨rfl, K100⟩
  refine ⟨_, _, rfl, rfl, ?_⟩
  have H101 := H93.keep K100 (fun h => h)
  clear H93
  have H102 := H94.keep K100 (fun h => h)
  clear H94
  have H103 := H95.keep K100 (fun h => h)
  clear H95
  have H104 := H96.keep K100 (fun h => h)
  clear H96
  have K105 := K97.trans K100 (U := none_) (fun i h1 h2 => h2) (fun i h1 h2 => by exact h2)
  clear K97
  clear K100
  refine Ops.regs 3 [(0, (Value.bool false)), (5, (Value.pointer (some ⟨b44, 0, none⟩))), (6, (Value.pointer (some ⟨b71, 0, none⟩))), (58, (Value.bool ((Ch.epochAt (((((((((((((newCh 2 16).do_ ⟨1, 0, 2, 0, 0⟩).2).do_ ⟨2, 0, 0, 1, 1⟩).2).do_ ⟨2, 0, 0, 1, 2⟩).2).do_ ⟨3, 0, 0, 0, 0⟩).2).do_ ⟨2, 0, 0, 1, 3⟩).2).do_ ⟨3, 0, 0, 0, 0⟩).2) 0) == 1)))] (j := 22) (by kernel_rfl) (by kernel_rfl) ?_
  have h106 : ((Ch.epochAt (((((((((((((newCh 2 16).do_ ⟨1, 0, 2, 0, 0⟩).2).do_ ⟨2, 0, 0, 1, 1⟩).2).do_ ⟨2, 0, 0, 1, 2⟩).2).do_ ⟨3, 0, 0, 0, 0⟩).2).do_ ⟨2, 0, 0, 1, 3⟩).2).do_ ⟨3, 0, 0, 0, 0⟩).2) 0) == 1) = true := by kernel_rfl
  rw [h106]
  refine Ops.regs 1 [(0, (Value.bool false)), (6, (Value.pointer (some ⟨b71, 0, none⟩))), (58, (Value.bool true)), (59, (Value.pointer (some ⟨b44, 0, none⟩)))] (j := 23) (by kernel_rfl) (by kernel_rfl) ?_
  refine Ops.go (v := (i64 (((((((((newCh 2 16).do_ ⟨1, 0, 2, 0, 0⟩).2).do_ ⟨2, 0, 0, 1, 1⟩).2).do_ ⟨2, 0, 0, 1, 2⟩).2).do_ ⟨3, 0, 0, 0, 0⟩).1.why))) (by kernel_rfl) (Runs.load (t := 23) (a := ⟨b44, 0, none⟩) (by kernel_rfl) (H103.loads (by kernel_rfl))) (d := (some 60)) (by kernel_rfl) rfl ?_
  refine Ops.regs 3 [(0, (Value.bool false)), (6, (Value.pointer (some ⟨b71, 0, none⟩))), (63, (Value.bool ((((((((((newCh 2 16).do_ ⟨1, 0, 2, 0, 0⟩).2).do_ ⟨2, 0, 0, 1, 1⟩).2).do_ ⟨2, 0, 0, 1, 2⟩).2).do_ ⟨3, 0, 0, 0, 0⟩).1.why) == 50)))] (j := 27) (by kernel_rfl) (by kernel_rfl) ?_
  have h107 : ((((((((((newCh 2 16).do_ ⟨1, 0, 2, 0, 0⟩).2).do_ ⟨2, 0, 0, 1, 1⟩).2).do_ ⟨2, 0, 0, 1, 2⟩).2).do_ ⟨3, 0, 0, 0, 0⟩).1.why) == 50) = true := by kernel_rfl
  rw [h107]
  refine Ops.regs 1 [(0, (Value.bool false)), (6, (Value.pointer (some ⟨b71, 0, none⟩))), (63, (Value.bool true)), (64, (Value.pointer (some ⟨b71, 1, none⟩)))] (j := 28) (by kernel_rfl) (by kernel_rfl) ?_
  refine Ops.go (v := (Value.bool (((((((((((((newCh 2 16).do_ ⟨1, 0, 2, 0, 0⟩).2).do_ ⟨2, 0, 0, 1, 1⟩).2).do_ ⟨2, 0, 0, 1, 2⟩).2).do_ ⟨3, 0, 0, 0, 0⟩).2).do_ ⟨2, 0, 0, 1, 3⟩).2).do_ ⟨3, 0, 0, 0, 0⟩).1.wait))) (by kernel_rfl) (Runs.load (t := 4) (a := ⟨b71, 1, none⟩) (by kernel_rfl) (H104.loads (by kernel_rfl))) (d := (some 65)) (by kernel_rfl) rfl ?_
  refine Ops.regs 2 [(0, (Value.bool false)), (6, (Value.pointer (some ⟨b71, 0, none⟩))), (67, (Value.bool (((((((((((((newCh 2 16).do_ ⟨1, 0, 2, 0, 0⟩).2).do_ ⟨2, 0, 0, 1, 1⟩).2).do_ ⟨2, 0, 0, 1, 2⟩).2).do_ ⟨3, 0, 0, 0, 0⟩).2).do_ ⟨2, 0, 0, 1, 3⟩).2).do_ ⟨3, 0, 0, 0, 0⟩).1.wait)))] (j := 31) (by kernel_rfl) (by kernel_rfl) ?_
  have h108 : (((((((((((((newCh 2 16).do_ ⟨1, 0, 2, 0, 0⟩).2).do_ ⟨2, 0, 0, 1, 1⟩).2).do_ ⟨2, 0, 0, 1, 2⟩).2).do_ ⟨3, 0, 0, 0, 0⟩).2).do_ ⟨2, 0, 0, 1, 3⟩).2).do_ ⟨3, 0, 0, 0, 0⟩).1.wait) = true := by kernel_rfl
  rw [h108]
  refine Ops.regs 1 [(0, (Value.bool false)), (67, (Value.bool true)), (68, (Value.pointer (some ⟨b71, 2, none⟩)))] (j := 32) (by kernel_rfl) (by kernel_rfl) ?_
  refine Ops.go (v := (i64 (((((((((((((newCh 2 16).do_ ⟨1, 0, 2, 0, 0⟩).2).do_ ⟨2, 0, 0, 1, 1⟩).2).do_ ⟨2, 0, 0, 1, 2⟩).2).do_ ⟨3, 0, 0, 0, 0⟩).2).do_ ⟨2, 0, 0, 1, 3⟩).2).do_ ⟨3, 0, 0, 0, 0⟩).1.n))) (by kernel_rfl) (Runs.load (t := 2) (a := ⟨b71, 2, none⟩) (by kernel_rfl) (H104.loads (by kernel_rfl))) (d := (some 69)) (by kernel_rfl) rfl ?_
  refine Ops.regs 3 [(0, (Value.bool ((((((((((((((newCh 2 16).do_ ⟨1, 0, 2, 0, 0⟩).2).do_ ⟨2, 0, 0, 1, 1⟩).2).do_ ⟨2, 0, 0, 1, 2⟩).2).do_ ⟨3, 0, 0, 0, 0⟩).2).do_ ⟨2, 0, 0, 1, 3⟩).2).do_ ⟨3, 0, 0, 0, 0⟩).1.n) == 2)))] (j := 36) (by kernel_rfl) (by kernel_rfl) ?_
  refine Ops.done (by kernel_rfl) ?_
  refine q_ret (by kernel_rfl) ?_
  refine ⟨(Value.bool ((((((((((((((newCh 2 16).do_ ⟨1, 0, 2, 0, 0⟩).2).do_ ⟨2, 0, 0, 1, 1⟩).2).do_ ⟨2, 0, 0, 1, 2⟩).2).do_ ⟨3, 0, 0, 0, 0⟩).2).do_ ⟨2, 0, 0, 1, 3⟩).2).do_ ⟨3, 0, 0, 0, 0⟩).1.n) == 2)), retv_tmp rfl rfl, ?_⟩
  exact ⟨congrArg (fun x => Ending.returned (Value.bool x)) (show ((((((((((((((newCh 2 16).do_ ⟨1, 0, 2, 0, 0⟩).2).do_ ⟨2, 0, 0, 1, 1⟩).2).do_ ⟨2, 0, 0, 1, 2⟩).2).do_ ⟨3, 0, 0, 0, 0⟩).2).do_ ⟨2, 0, 0, 1, 3⟩).2).do_ ⟨3, 0, 0, 0, 0⟩).1.n) == 2) = true from by kernel_rfl), K105⟩

theorem Moves_none (w : World) (s slot to : Int) (h : ¬ (1 ≤ s ∧ s ≤ 3)) : Calls Try.prog 3 ⟨[(i64 s), (i64 slot), (i64 to)]⟩ w (fun e w' => e = .returned (.bool true) ∧ Keeps none_ w w') := by
  have K0 : Keeps none_ w w := Keeps.refl w
  refine q_calls Try.func3 (by kernel_rfl) (by kernel_rfl) ?_
  refine q_seq (by kernel_rfl) ?_
  refine q_region (by kernel_rfl) ?_
  refine Ops.regs 1 [(0, (i64 s)), (1, (i64 slot)), (2, (i64 to)), (6, (Value.bool false))] (j := 1) (by kernel_rfl) (by kernel_rfl) ?_
  refine Ops.done (by kernel_rfl) ?_
  refine q_seq (by kernel_rfl) ?_
  refine q_region (by kernel_rfl) ?_
  refine Ops.regs 1 [(0, (i64 s)), (1, (i64 slot)), (2, (i64 to)), (6, (Value.bool false)), (16, (i64 s))] (j := 1) (by kernel_rfl) (by kernel_rfl) ?_
  refine Ops.call (by kernel_rfl) (d := (some 17)) (by kernel_rfl) (New_bad _ s (by omega)) ?_
  rintro _ w1 ⟨rfl, K2⟩
  refine ⟨_, _, rfl, rfl, ?_⟩
  have K3 := K0.trans K2 (U := none_) (fun i h1 h2 => h2) (fun i h1 h2 => by exact h2)
  clear K0
  clear K2
  refine Ops.regs 5 [(0, (i64 s)), (1, (i64 slot)), (2, (i64 to)), (6, (Value.bool false)), (7, (Value.pointer none)), (8, (i64 1))] (j := 7) (by kernel_rfl) (by kernel_rfl) ?_
  refine Ops.done (by kernel_rfl) ?_
  refine q_seq (by kernel_rfl) ?_
  refine q_seq (by kernel_rfl) ?_
  refine q_region (by kernel_rfl) ?_
  refine Ops.regs 23 [(1, (i64 slot)), (2, (i64 to)), (6, (Value.bool false)), (7, (Value.pointer none)), (8, (i64 1)), (42, (Value.bool true))] (j := 23) (by kernel_rfl) (by kernel_rfl) ?_
  refine Ops.done (by kernel_rfl) ?_
  refine q_then (o := .tmp 42) (by kernel_rfl) rfl ?_
  refine q_seq (by kernel_rfl) ?_
  refine q_region (by kernel_rfl) ?_
  refine Ops.regs 7 [(1, (i64 slot)), (2, (i64 to)), (6, (Value.bool false)), (7, (Value.pointer none)), (8, (i64 1)), (49, (Value.bool true))] (j := 7) (by kernel_rfl) (by kernel_rfl) ?_
  refine Ops.call (by kernel_rfl) (d := (some 50)) (by kernel_rfl) (known_calls _) ?_
  rintro _ w4 ⟨rfl, K5⟩
  refine ⟨_, _, rfl, rfl, ?_⟩
  have K6 := K3.trans K5 (U := none_) (fun i h1 h2 => h2) (fun i h1 h2 => by exact h2)
  clear K3
  clear K5
  refine Ops.regs 13 [(1, (i64 slot)), (2, (i64 to)), (6, (Value.bool true)), (7, (Value.pointer none))] (j := 21) (by kernel_rfl) (by kernel_rfl) ?_
  refine Ops.done (by kernel_rfl) ?_
  refine q_ret (by kernel_rfl) ?_
  refine ⟨(Value.bool true), retv_tmp rfl rfl, ?_⟩
  exact ⟨rfl, K6⟩

theorem Moves_bad (w : World) (s slot to : Int) (h : 1 ≤ s ∧ s ≤ 3) (hb : ¬ (0 ≤ slot ∧ slot < 16 ∧ 1 ≤ to ∧ to ≤ s)) : Calls Try.prog 3 ⟨[(i64 s), (i64 slot), (i64 to)]⟩ w (fun e w' => e = .returned (.bool true) ∧ Keeps none_ w w') := by
  have K0 : Keeps none_ w w := Keeps.refl w
  refine q_calls Try.func3 (by kernel_rfl) (by kernel_rfl) ?_
  refine q_seq (by kernel_rfl) ?_
  refine q_region (by kernel_rfl) ?_
  refine Ops.regs 1 [(0, (i64 s)), (1, (i64 slot)), (2, (i64 to)), (6, (Value.bool false))] (j := 1) (by kernel_rfl) (by kernel_rfl) ?_
  refine Ops.done (by kernel_rfl) ?_
  refine q_seq (by kernel_rfl) ?_
  refine q_region (by kernel_rfl) ?_
  refine Ops.regs 1 [(0, (i64 s)), (1, (i64 slot)), (2, (i64 to)), (6, (Value.bool false)), (16, (i64 s))] (j := 1) (by kernel_rfl) (by kernel_rfl) ?_
  refine Ops.call (by kernel_rfl) (d := (some 17)) (by kernel_rfl) (New_ok _ s (by omega) (by omega)) ?_
  rintro _ w2 ⟨b1, rfl, q5, K3, H4⟩
  have nb1 : w.heap.size ≤ b1 := by have := K0.size; omega
  clear q5
  have inv6 := newCh_inv s (by omega) (by omega)
  refine ⟨_, _, rfl, rfl, ?_⟩
  have K7 := K0.trans K3 (U := none_) (fun i h1 h2 => h2) (fun i h1 h2 => by exact h2)
  clear K0
  clear K3
  refine Ops.regs 5 [(0, (i64 s)), (1, (i64 slot)), (2, (i64 to)), (6, (Value.bool false)), (7, (Value.pointer (some ⟨b1, 0, none⟩))), (8, (i64 0))] (j := 7) (by kernel_rfl) (by kernel_rfl) ?_
  refine Ops.done (by kernel_rfl) ?_
  refine q_seq (by kernel_rfl) ?_
  refine q_seq (by kernel_rfl) ?_
  refine q_region (by kernel_rfl) ?_
  refine Ops.regs 11 [(0, (i64 s)), (1, (i64 slot)), (2, (i64 to)), (6, (Value.bool false)), (7, (Value.pointer (some ⟨b1, 0, none⟩))), (8, (i64 0)), (30, (Value.bool (decide (slot < 0))))] (j := 11) (by kernel_rfl) (by kernel_rfl) ?_
  refine Ops.split (decide (slot < 0)) (fun h8 => ?_) (fun h8 => ?_)
  · rw [h8]
    have p9 : slot < 0 := of_decide_eq_true h8
    refine Ops.regs 12 [(1, (i64 slot)), (2, (i64 to)), (6, (Value.bool false)), (7, (Value.pointer (some ⟨b1, 0, none⟩))), (8, (i64 0)), (42, (Value.bool true))] (j := 23) (by kernel_rfl) (by kernel_rfl) ?_
    refine Ops.done (by kernel_rfl) ?_
    refine q_then (o := .tmp 42) (by kernel_rfl) rfl ?_
    refine q_seq (by kernel_rfl) ?_
    refine q_region (by kernel_rfl) ?_
    refine Ops.regs 17 [(1, (i64 slot)), (2, (i64 to)), (6, (Value.bool false)), (7, (Value.pointer (some ⟨b1, 0, none⟩))), (52, (Value.bool false)), (59, (Value.bool true))] (j := 17) (by kernel_rfl) (by kernel_rfl) ?_
    refine Ops.call (by kernel_rfl) (d := (some 60)) (by kernel_rfl) (known_calls _) ?_
    rintro _ w10 ⟨rfl, K11⟩
    refine ⟨_, _, rfl, rfl, ?_⟩
    have H12 := H4.keep K11 (fun h => h)
    clear H4
    have K13 := K7.trans K11 (U := none_) (fun i h1 h2 => h2) (fun i h1 h2 => by exact h2)
    clear K7
    clear K11
    refine Ops.regs 3 [(1, (i64 slot)), (2, (i64 to)), (6, (Value.bool true)), (7, (Value.pointer (some ⟨b1, 0, none⟩)))] (j := 21) (by kernel_rfl) (by kernel_rfl) ?_
    refine Ops.done (by kernel_rfl) ?_
    refine q_ret (by kernel_rfl) ?_
    refine ⟨(Value.bool true), retv_tmp rfl rfl, ?_⟩
    exact ⟨rfl, K13⟩
  · rw [h8]
    have p14 : ¬ (slot < 0) := of_decide_eq_false h8
    refine Ops.regs 4 [(0, (i64 s)), (1, (i64 slot)), (2, (i64 to)), (6, (Value.bool false)), (7, (Value.pointer (some ⟨b1, 0, none⟩))), (8, (i64 0)), (34, (Value.bool (decide (slot ≥ 16))))] (j := 15) (by kernel_rfl) (by kernel_rfl) ?_
    refine Ops.split (decide (slot ≥ 16)) (fun h15 => ?_) (fun h15 => ?_)
    · rw [h15]
      have p16 : slot ≥ 16 := of_decide_eq_true h15
      refine Ops.regs 8 [(1, (i64 slot)), (2, (i64 to)), (6, (Value.bool false)), (7, (Value.pointer (some ⟨b1, 0, none⟩))), (8, (i64 0)), (42, (Value.bool true))] (j := 23) (by kernel_rfl) (by kernel_rfl) ?_
      refine Ops.done (by kernel_rfl) ?_
      refine q_then (o := .tmp 42) (by kernel_rfl) rfl ?_
      refine q_seq (by kernel_rfl) ?_
      refine q_region (by kernel_rfl) ?_
      refine Ops.regs 17 [(1, (i64 slot)), (2, (i64 to)), (6, (Value.bool false)), (7, (Value.pointer (some ⟨b1, 0, none⟩))), (52, (Value.bool false)), (59, (Value.bool true))] (j := 17) (by kernel_rfl) (by kernel_rfl) ?_
      refine Ops.call (by kernel_rfl) (d := (some 60)) (by kernel_rfl) (known_calls _) ?_
      rintro _ w17 ⟨rfl, K18⟩
      refine ⟨_, _, rfl, rfl, ?_⟩
      have H19 := H4.keep K18 (fun h => h)
      clear H4
      have K20 := K7.trans K18 (U := none_) (fun i h1 h2 => h2) (fun i h1 h2 => by exact h2)
      clear K7
      clear K18
      refine Ops.regs 3 [(1, (i64 slot)), (2, (i64 to)), (6, (Value.bool true)), (7, (Value.pointer (some ⟨b1, 0, none⟩)))] (j := 21) (by kernel_rfl) (by kernel_rfl) ?_
      refine Ops.done (by kernel_rfl) ?_
      refine q_ret (by kernel_rfl) ?_
      refine ⟨(Value.bool true), retv_tmp rfl rfl, ?_⟩
      exact ⟨rfl, K20⟩
    · rw [h15]
      have p21 : ¬ (slot ≥ 16) := of_decide_eq_false h15
      refine Ops.regs 4 [(0, (i64 s)), (1, (i64 slot)), (2, (i64 to)), (6, (Value.bool false)), (7, (Value.pointer (some ⟨b1, 0, none⟩))), (8, (i64 0)), (38, (Value.bool (decide (to < 1))))] (j := 19) (by kernel_rfl) (by kernel_rfl) ?_
      refine Ops.split (decide (to < 1)) (fun h22 => ?_) (fun h22 => ?_)
      · rw [h22]
        have p23 : to < 1 := of_decide_eq_true h22
        refine Ops.regs 4 [(1, (i64 slot)), (2, (i64 to)), (6, (Value.bool false)), (7, (Value.pointer (some ⟨b1, 0, none⟩))), (8, (i64 0)), (42, (Value.bool true))] (j := 23) (by kernel_rfl) (by kernel_rfl) ?_
        refine Ops.done (by kernel_rfl) ?_
        refine q_then (o := .tmp 42) (by kernel_rfl) rfl ?_
        refine q_seq (by kernel_rfl) ?_
        refine q_region (by kernel_rfl) ?_
        refine Ops.regs 17 [(1, (i64 slot)), (2, (i64 to)), (6, (Value.bool false)), (7, (Value.pointer (some ⟨b1, 0, none⟩))), (52, (Value.bool false)), (59, (Value.bool true))] (j := 17) (by kernel_rfl) (by kernel_rfl) ?_
        refine Ops.call (by kernel_rfl) (d := (some 60)) (by kernel_rfl) (known_calls _) ?_
        rintro _ w24 ⟨rfl, K25⟩
        refine ⟨_, _, rfl, rfl, ?_⟩
        have H26 := H4.keep K25 (fun h => h)
        clear H4
        have K27 := K7.trans K25 (U := none_) (fun i h1 h2 => h2) (fun i h1 h2 => by exact h2)
        clear K7
        clear K25
        refine Ops.regs 3 [(1, (i64 slot)), (2, (i64 to)), (6, (Value.bool true)), (7, (Value.pointer (some ⟨b1, 0, none⟩)))] (j := 21) (by kernel_rfl) (by kernel_rfl) ?_
        refine Ops.done (by kernel_rfl) ?_
        refine q_ret (by kernel_rfl) ?_
        refine ⟨(Value.bool true), retv_tmp rfl rfl, ?_⟩
        exact ⟨rfl, K27⟩
      · rw [h22]
        have p28 : ¬ (to < 1) := of_decide_eq_false h22
        refine Ops.regs 4 [(1, (i64 slot)), (2, (i64 to)), (6, (Value.bool false)), (7, (Value.pointer (some ⟨b1, 0, none⟩))), (8, (i64 0)), (42, (Value.bool (decide (to > s))))] (j := 23) (by kernel_rfl) (by kernel_rfl) ?_
        refine Ops.done (by kernel_rfl) ?_
        have h29 : (decide (to > s)) = true := decide_eq_true (by omega)
        rw [h29]
        refine q_then (o := .tmp 42) (by kernel_rfl) rfl ?_
        refine q_seq (by kernel_rfl) ?_
        refine q_region (by kernel_rfl) ?_
        refine Ops.regs 17 [(1, (i64 slot)), (2, (i64 to)), (6, (Value.bool false)), (7, (Value.pointer (some ⟨b1, 0, none⟩))), (52, (Value.bool false)), (59, (Value.bool true))] (j := 17) (by kernel_rfl) (by kernel_rfl) ?_
        refine Ops.call (by kernel_rfl) (d := (some 60)) (by kernel_rfl) (known_calls _) ?_
        rintro _ w30 ⟨rfl, K31⟩
        refine ⟨_, _, rfl, rfl, ?_⟩
        have H32 := H4.keep K31 (fun h => h)
        clear H4
        have K33 := K7.trans K31 (U := none_) (fun i h1 h2 => h2) (fun i h1 h2 => by exact h2)
        clear K7
        clear K31
        refine Ops.regs 3 [(1, (i64 slot)), (2, (i64 to)), (6, (Value.bool true)), (7, (Value.pointer (some ⟨b1, 0, none⟩)))] (j := 21) (by kernel_rfl) (by kernel_rfl) ?_
        refine Ops.done (by kernel_rfl) ?_
        refine q_ret (by kernel_rfl) ?_
        refine ⟨(Value.bool true), retv_tmp rfl rfl, ?_⟩
        exact ⟨rfl, K33⟩

theorem Moves_same (w : World) (s slot to : Int) (h : 1 ≤ s ∧ s ≤ 3) (hs : 0 ≤ slot ∧ slot < 16) (ht : 1 ≤ to ∧ to ≤ s) (he : Ch.ownerAt (newCh s 16) slot = to) : Calls Try.prog 3 ⟨[(i64 s), (i64 slot), (i64 to)]⟩ w (fun e w' => e = .returned (.bool true) ∧ Keeps none_ w w') := by
  have K0 : Keeps none_ w w := Keeps.refl w
  refine q_calls Try.func3 (by kernel_rfl) (by kernel_rfl) ?_
  refine q_seq (by kernel_rfl) ?_
  refine q_region (by kernel_rfl) ?_
  refine Ops.regs 1 [(0, (i64 s)), (1, (i64 slot)), (2, (i64 to)), (6, (Value.bool false))] (j := 1) (by kernel_rfl) (by kernel_rfl) ?_
  refine Ops.done (by kernel_rfl) ?_
  refine q_seq (by kernel_rfl) ?_
  refine q_region (by kernel_rfl) ?_
  refine Ops.regs 1 [(0, (i64 s)), (1, (i64 slot)), (2, (i64 to)), (6, (Value.bool false)), (16, (i64 s))] (j := 1) (by kernel_rfl) (by kernel_rfl) ?_
  refine Ops.call (by kernel_rfl) (d := (some 17)) (by kernel_rfl) (New_ok _ s (by omega) (by omega)) ?_
  rintro _ w2 ⟨b1, rfl, q5, K3, H4⟩
  have nb1 : w.heap.size ≤ b1 := by have := K0.size; omega
  clear q5
  have inv6 := newCh_inv s (by omega) (by omega)
  refine ⟨_, _, rfl, rfl, ?_⟩
  have K7 := K0.trans K3 (U := none_) (fun i h1 h2 => h2) (fun i h1 h2 => by exact h2)
  clear K0
  clear K3
  refine Ops.regs 5 [(0, (i64 s)), (1, (i64 slot)), (2, (i64 to)), (6, (Value.bool false)), (7, (Value.pointer (some ⟨b1, 0, none⟩))), (8, (i64 0))] (j := 7) (by kernel_rfl) (by kernel_rfl) ?_
  refine Ops.done (by kernel_rfl) ?_
  refine q_seq (by kernel_rfl) ?_
  refine q_seq (by kernel_rfl) ?_
  refine q_region (by kernel_rfl) ?_
  refine Ops.regs 11 [(0, (i64 s)), (1, (i64 slot)), (2, (i64 to)), (6, (Value.bool false)), (7, (Value.pointer (some ⟨b1, 0, none⟩))), (8, (i64 0)), (30, (Value.bool (decide (slot < 0))))] (j := 11) (by kernel_rfl) (by kernel_rfl) ?_
  have h8 : (decide (slot < 0)) = false := decide_eq_false (by omega)
  rw [h8]
  refine Ops.regs 4 [(0, (i64 s)), (1, (i64 slot)), (2, (i64 to)), (6, (Value.bool false)), (7, (Value.pointer (some ⟨b1, 0, none⟩))), (8, (i64 0)), (34, (Value.bool (decide (slot ≥ 16))))] (j := 15) (by kernel_rfl) (by kernel_rfl) ?_
  have h9 : (decide (slot ≥ 16)) = false := decide_eq_false (by omega)
  rw [h9]
  refine Ops.regs 4 [(0, (i64 s)), (1, (i64 slot)), (2, (i64 to)), (6, (Value.bool false)), (7, (Value.pointer (some ⟨b1, 0, none⟩))), (8, (i64 0)), (38, (Value.bool (decide (to < 1))))] (j := 19) (by kernel_rfl) (by kernel_rfl) ?_
  have h10 : (decide (to < 1)) = false := decide_eq_false (by omega)
  rw [h10]
  refine Ops.regs 4 [(1, (i64 slot)), (2, (i64 to)), (6, (Value.bool false)), (7, (Value.pointer (some ⟨b1, 0, none⟩))), (8, (i64 0)), (42, (Value.bool (decide (to > s))))] (j := 23) (by kernel_rfl) (by kernel_rfl) ?_
  refine Ops.done (by kernel_rfl) ?_
  have h11 : (decide (to > s)) = false := decide_eq_false (by omega)
  rw [h11]
  refine q_else (o := .tmp 42) (by kernel_rfl) rfl ?_
  refine q_skip (by kernel_rfl) ?_
  refine q_seq (by kernel_rfl) ?_
  refine q_region (by kernel_rfl) ?_
  refine Ops.regs 2 [(1, (i64 slot)), (2, (i64 to)), (6, (Value.bool false)), (7, (Value.pointer (some ⟨b1, 0, none⟩))), (63, (Value.pointer (some ⟨b1, 0, none⟩))), (64, (i64 slot))] (j := 2) (by kernel_rfl) (by kernel_rfl) ?_
  refine Ops.call (by kernel_rfl) (d := (some 65)) (by kernel_rfl) (Owner_calls _ b1 (newCh s 16) slot inv6 H4) ?_
  rintro _ w12 ⟨rfl, K13⟩
  refine ⟨_, _, rfl, rfl, ?_⟩
  have H14 := H4.keep K13 (fun h => h)
  clear H4
  have K15 := K7.trans K13 (U := none_) (fun i h1 h2 => h2) (fun i h1 h2 => by exact h2)
  clear K7
  clear K13
  refine Ops.regs 1 [(1, (i64 slot)), (2, (i64 to)), (6, (Value.bool false)), (7, (Value.pointer (some ⟨b1, 0, none⟩))), (9, (i64 (Ch.ownerAt (newCh s 16) slot)))] (j := 4) (by kernel_rfl) (by kernel_rfl) ?_
  refine Ops.done (by kernel_rfl) ?_
  refine q_seq (by kernel_rfl) ?_
  refine q_region (by kernel_rfl) ?_
  refine Ops.regs 4 [(1, (i64 slot)), (2, (i64 to)), (6, (Value.bool false)), (7, (Value.pointer (some ⟨b1, 0, none⟩))), (9, (i64 (Ch.ownerAt (newCh s 16) slot))), (66, (Value.pointer (some ⟨b1, 0, none⟩))), (69, (agg [(i64 1), (i64 slot), (i64 to), (i64 0), (i64 0)]))] (j := 4) (by kernel_rfl) (by kernel_rfl) ?_
  refine Ops.call (by kernel_rfl) (d := (some 70)) (by kernel_rfl) (Do_calls _ b1 (newCh s 16) ⟨1, slot, to, 0, 0⟩ inv6 H14) ?_
  rintro _ w16 ⟨rfl, K17, H18⟩
  have e19 : (newCh s 16).do_ ⟨1, slot, to, 0, 0⟩ = (⟨0, false, 0⟩, newCh s 16) := do_same hs ht he
  have inv20 := Ch.Inv.do_ inv6 ⟨1, slot, to, 0, 0⟩
  rw [e19] at H18 inv20 ⊢
  have inv20 : Ch.Inv (newCh s 16) := inv20
  clear e19
  refine ⟨_, _, rfl, rfl, ?_⟩
  have K21 := K15.trans K17 (U := none_) (fun i h1 h2 => h2) (fun i h1 h2 => by have h2 : i = b1 := h2; exfalso; omega)
  clear K15
  clear K17
  refine Ops.new (o := rowL [(i64 0), (Value.bool false), (i64 0)] 29) (V := fun b => (Value.pointer (some ⟨b, 0, none⟩))) (by kernel_rfl) (d := (some 10)) (by kernel_rfl) (fun b => rfl) (fun b22 w23 hb24 H25 K26 hs27 => ?_)
  have lb22 : b1 < b22 := by have := H18.lt; omega
  have nb22 : w.heap.size ≤ b22 := by have := K21.size; omega
  have H28 := H18.keep K26 (fun h => h)
  clear H18
  have K29 := K21.trans K26 (U := none_) (fun i h1 h2 => h2) (fun i h1 h2 => by exact h2)
  clear K21
  clear K26 hs27
  refine Ops.put (t := 29) (b := b22) (off := 0) (v := (agg [(i64 0), (Value.bool false), (i64 0)])) (ys := [(i64 0), (Value.bool false), (i64 0)]) (by kernel_rfl) (by kernel_rfl) H25 (by kernel_rfl) (d := none) (by kernel_rfl) rfl (fun w30 H31 K32 => ?_)
  clear H25
  have H33 := H28.keep K32 (by intro h; change b1 = b22 at h; omega)
  clear H28
  have K34 := K29.trans K32 (U := none_) (fun i h1 h2 => h2) (fun i h1 h2 => by have h2 : i = b22 := h2; exfalso; omega)
  clear K29
  clear K32
  refine Ops.done (by kernel_rfl) ?_
  refine q_seq (by kernel_rfl) ?_
  refine q_seq (by kernel_rfl) ?_
  refine q_region (by kernel_rfl) ?_
  refine Ops.regs 3 [(1, (i64 slot)), (2, (i64 to)), (6, (Value.bool false)), (7, (Value.pointer (some ⟨b1, 0, none⟩))), (9, (i64 (Ch.ownerAt (newCh s 16) slot))), (10, (Value.pointer (some ⟨b22, 0, none⟩))), (73, (Value.bool ((Ch.ownerAt (newCh s 16) slot) == to)))] (j := 3) (by kernel_rfl) (by kernel_rfl) ?_
  refine Ops.done (by kernel_rfl) ?_
  have h35 : ((Ch.ownerAt (newCh s 16) slot) == to) = true := by simpa using he
  rw [h35]
  refine q_then (o := .tmp 73) (by kernel_rfl) rfl ?_
  refine q_seq (by kernel_rfl) ?_
  refine q_region (by kernel_rfl) ?_
  refine Ops.regs 1 [(1, (i64 slot)), (2, (i64 to)), (6, (Value.bool false)), (7, (Value.pointer (some ⟨b1, 0, none⟩))), (9, (i64 (Ch.ownerAt (newCh s 16) slot))), (10, (Value.pointer (some ⟨b22, 0, none⟩))), (74, (agg [(i64 0), (Value.bool false), (i64 0)]))] (j := 1) (by kernel_rfl) (by kernel_rfl) ?_
  refine Ops.new (o := rowL [(i64 0), (Value.bool false), (i64 0)] 29) (V := fun b => (Value.pointer (some ⟨b, 0, none⟩))) (by kernel_rfl) (d := (some 11)) (by kernel_rfl) (fun b => rfl) (fun b36 w37 hb38 H39 K40 hs41 => ?_)
  have lb36 : b22 < b36 := by have := H31.lt; omega
  have nb36 : w.heap.size ≤ b36 := by have := K34.size; omega
  have H42 := H33.keep K40 (fun h => h)
  clear H33
  have H43 := H31.keep K40 (fun h => h)
  clear H31
  have K44 := K34.trans K40 (U := none_) (fun i h1 h2 => h2) (fun i h1 h2 => by exact h2)
  clear K34
  clear K40 hs41
  refine Ops.put (t := 29) (b := b36) (off := 0) (v := (agg [(i64 0), (Value.bool false), (i64 0)])) (ys := [(i64 0), (Value.bool false), (i64 0)]) (by kernel_rfl) (by kernel_rfl) H39 (by kernel_rfl) (d := none) (by kernel_rfl) rfl (fun w45 H46 K47 => ?_)
  clear H39
  have H48 := H42.keep K47 (by intro h; change b1 = b36 at h; omega)
  clear H42
  have H49 := H43.keep K47 (by intro h; change b22 = b36 at h; omega)
  clear H43
  have K50 := K44.trans K47 (U := none_) (fun i h1 h2 => h2) (fun i h1 h2 => by have h2 : i = b36 := h2; exfalso; omega)
  clear K44
  clear K47
  refine Ops.done (by kernel_rfl) ?_
  refine q_seq (by kernel_rfl) ?_
  refine q_region (by kernel_rfl) ?_
  refine Ops.go (v := (agg [(i64 0), (Value.bool false), (i64 0)])) (by kernel_rfl) (Runs.load (t := 29) (a := ⟨b22, 0, none⟩) (by kernel_rfl) (H49.loads (by kernel_rfl))) (d := (some 75)) (by kernel_rfl) rfl ?_
  refine Ops.go (v := (agg [(i64 0), (Value.bool false), (i64 0)])) (by kernel_rfl) (Runs.load (t := 29) (a := ⟨b36, 0, none⟩) (by kernel_rfl) (H46.loads (by kernel_rfl))) (d := (some 76)) (by kernel_rfl) rfl ?_
  refine Ops.regs 3 [(1, (i64 slot)), (2, (i64 to)), (6, (Value.bool false)), (7, (Value.pointer (some ⟨b1, 0, none⟩))), (9, (i64 (Ch.ownerAt (newCh s 16) slot))), (10, (Value.pointer (some ⟨b22, 0, none⟩))), (78, (Value.bool true)), (79, (Value.pointer (some ⟨b1, 0, none⟩)))] (j := 5) (by kernel_rfl) (by kernel_rfl) ?_
  refine Ops.call (by kernel_rfl) (d := (some 80)) (by kernel_rfl) (Move_calls _ b1 (newCh s 16)  inv20 H48) ?_
  rintro _ w51 ⟨rfl, K52⟩
  refine ⟨_, _, rfl, rfl, ?_⟩
  have H53 := H48.keep K52 (fun h => h)
  clear H48
  have H54 := H49.keep K52 (fun h => h)
  clear H49
  have H55 := H46.keep K52 (fun h => h)
  clear H46
  have K56 := K50.trans K52 (U := none_) (fun i h1 h2 => h2) (fun i h1 h2 => by exact h2)
  clear K50
  clear K52
  refine Ops.regs 4 [(1, (i64 slot)), (2, (i64 to)), (6, (Value.bool false)), (7, (Value.pointer (some ⟨b1, 0, none⟩))), (9, (i64 (Ch.ownerAt (newCh s 16) slot))), (10, (Value.pointer (some ⟨b22, 0, none⟩))), (84, (Value.bool true))] (j := 10) (by kernel_rfl) (by kernel_rfl) ?_
  refine Ops.call (by kernel_rfl) (d := (some 85)) (by kernel_rfl) (known_calls _) ?_
  rintro _ w57 ⟨rfl, K58⟩
  refine ⟨_, _, rfl, rfl, ?_⟩
  have H59 := H53.keep K58 (fun h => h)
  clear H53
  have H60 := H54.keep K58 (fun h => h)
  clear H54
  have H61 := H55.keep K58 (fun h => h)
  clear H55
  have K62 := K56.trans K58 (U := none_) (fun i h1 h2 => h2) (fun i h1 h2 => by exact h2)
  clear K56
  clear K58
  refine Ops.regs 2 [(1, (i64 slot)), (2, (i64 to)), (6, (Value.bool true)), (7, (Value.pointer (some ⟨b1, 0, none⟩))), (9, (i64 (Ch.ownerAt (newCh s 16) slot))), (10, (Value.pointer (some ⟨b22, 0, none⟩)))] (j := 13) (by kernel_rfl) (by kernel_rfl) ?_
  refine Ops.done (by kernel_rfl) ?_
  refine q_ret (by kernel_rfl) ?_
  refine ⟨(Value.bool true), retv_tmp rfl rfl, ?_⟩
  exact ⟨rfl, K62⟩

theorem Moves_other (w : World) (s slot to : Int) (h : 1 ≤ s ∧ s ≤ 3) (hs : 0 ≤ slot ∧ slot < 16) (ht : 1 ≤ to ∧ to ≤ s) (hn : Ch.ownerAt (newCh s 16) slot ≠ to) : Calls Try.prog 3 ⟨[(i64 s), (i64 slot), (i64 to)]⟩ w (fun e w' => e = .returned (.bool true) ∧ Keeps none_ w w') := by
  have K0 : Keeps none_ w w := Keeps.refl w
  refine q_calls Try.func3 (by kernel_rfl) (by kernel_rfl) ?_
  refine q_seq (by kernel_rfl) ?_
  refine q_region (by kernel_rfl) ?_
  refine Ops.regs 1 [(0, (i64 s)), (1, (i64 slot)), (2, (i64 to)), (6, (Value.bool false))] (j := 1) (by kernel_rfl) (by kernel_rfl) ?_
  refine Ops.done (by kernel_rfl) ?_
  refine q_seq (by kernel_rfl) ?_
  refine q_region (by kernel_rfl) ?_
  refine Ops.regs 1 [(0, (i64 s)), (1, (i64 slot)), (2, (i64 to)), (6, (Value.bool false)), (16, (i64 s))] (j := 1) (by kernel_rfl) (by kernel_rfl) ?_
  refine Ops.call (by kernel_rfl) (d := (some 17)) (by kernel_rfl) (New_ok _ s (by omega) (by omega)) ?_
  rintro _ w2 ⟨b1, rfl, q5, K3, H4⟩
  have nb1 : w.heap.size ≤ b1 := by have := K0.size; omega
  clear q5
  have inv6 := newCh_inv s (by omega) (by omega)
  refine ⟨_, _, rfl, rfl, ?_⟩
  have K7 := K0.trans K3 (U := none_) (fun i h1 h2 => h2) (fun i h1 h2 => by exact h2)
  clear K0
  clear K3
  refine Ops.regs 5 [(0, (i64 s)), (1, (i64 slot)), (2, (i64 to)), (6, (Value.bool false)), (7, (Value.pointer (some ⟨b1, 0, none⟩))), (8, (i64 0))] (j := 7) (by kernel_rfl) (by kernel_rfl) ?_
  refine Ops.done (by kernel_rfl) ?_
  refine q_seq (by kernel_rfl) ?_
  refine q_seq (by kernel_rfl) ?_
  refine q_region (by kernel_rfl) ?_
  refine Ops.regs 11 [(0, (i64 s)), (1, (i64 slot)), (2, (i64 to)), (6, (Value.bool false)), (7, (Value.pointer (some ⟨b1, 0, none⟩))), (8, (i64 0)), (30, (Value.bool (decide (slot < 0))))] (j := 11) (by kernel_rfl) (by kernel_rfl) ?_
  have h8 : (decide (slot < 0)) = false := decide_eq_false (by omega)
  rw [h8]
  refine Ops.regs 4 [(0, (i64 s)), (1, (i64 slot)), (2, (i64 to)), (6, (Value.bool false)), (7, (Value.pointer (some ⟨b1, 0, none⟩))), (8, (i64 0)), (34, (Value.bool (decide (slot ≥ 16))))] (j := 15) (by kernel_rfl) (by kernel_rfl) ?_
  have h9 : (decide (slot ≥ 16)) = false := decide_eq_false (by omega)
  rw [h9]
  refine Ops.regs 4 [(0, (i64 s)), (1, (i64 slot)), (2, (i64 to)), (6, (Value.bool false)), (7, (Value.pointer (some ⟨b1, 0, none⟩))), (8, (i64 0)), (38, (Value.bool (decide (to < 1))))] (j := 19) (by kernel_rfl) (by kernel_rfl) ?_
  have h10 : (decide (to < 1)) = false := decide_eq_false (by omega)
  rw [h10]
  refine Ops.regs 4 [(1, (i64 slot)), (2, (i64 to)), (6, (Value.bool false)), (7, (Value.pointer (some ⟨b1, 0, none⟩))), (8, (i64 0)), (42, (Value.bool (decide (to > s))))] (j := 23) (by kernel_rfl) (by kernel_rfl) ?_
  refine Ops.done (by kernel_rfl) ?_
  have h11 : (decide (to > s)) = false := decide_eq_false (by omega)
  rw [h11]
  refine q_else (o := .tmp 42) (by kernel_rfl) rfl ?_
  refine q_skip (by kernel_rfl) ?_
  refine q_seq (by kernel_rfl) ?_
  refine q_region (by kernel_rfl) ?_
  refine Ops.regs 2 [(1, (i64 slot)), (2, (i64 to)), (6, (Value.bool false)), (7, (Value.pointer (some ⟨b1, 0, none⟩))), (63, (Value.pointer (some ⟨b1, 0, none⟩))), (64, (i64 slot))] (j := 2) (by kernel_rfl) (by kernel_rfl) ?_
  refine Ops.call (by kernel_rfl) (d := (some 65)) (by kernel_rfl) (Owner_calls _ b1 (newCh s 16) slot inv6 H4) ?_
  rintro _ w12 ⟨rfl, K13⟩
  refine ⟨_, _, rfl, rfl, ?_⟩
  have H14 := H4.keep K13 (fun h => h)
  clear H4
  have K15 := K7.trans K13 (U := none_) (fun i h1 h2 => h2) (fun i h1 h2 => by exact h2)
  clear K7
  clear K13
  refine Ops.regs 1 [(1, (i64 slot)), (2, (i64 to)), (6, (Value.bool false)), (7, (Value.pointer (some ⟨b1, 0, none⟩))), (9, (i64 (Ch.ownerAt (newCh s 16) slot)))] (j := 4) (by kernel_rfl) (by kernel_rfl) ?_
  refine Ops.done (by kernel_rfl) ?_
  refine q_seq (by kernel_rfl) ?_
  refine q_region (by kernel_rfl) ?_
  refine Ops.regs 4 [(1, (i64 slot)), (2, (i64 to)), (6, (Value.bool false)), (7, (Value.pointer (some ⟨b1, 0, none⟩))), (9, (i64 (Ch.ownerAt (newCh s 16) slot))), (66, (Value.pointer (some ⟨b1, 0, none⟩))), (69, (agg [(i64 1), (i64 slot), (i64 to), (i64 0), (i64 0)]))] (j := 4) (by kernel_rfl) (by kernel_rfl) ?_
  refine Ops.call (by kernel_rfl) (d := (some 70)) (by kernel_rfl) (Do_calls _ b1 (newCh s 16) ⟨1, slot, to, 0, 0⟩ inv6 H14) ?_
  rintro _ w16 ⟨rfl, K17, H18⟩
  have e19 : (newCh s 16).do_ ⟨1, slot, to, 0, 0⟩ = (⟨0, true, 1⟩, mv1 s slot to 1) := do_other hs ht hn
  have inv20 := Ch.Inv.do_ inv6 ⟨1, slot, to, 0, 0⟩
  rw [e19] at H18 inv20 ⊢
  have inv20 : Ch.Inv (mv1 s slot to 1) := inv20
  clear e19
  refine ⟨_, _, rfl, rfl, ?_⟩
  have K21 := K15.trans K17 (U := none_) (fun i h1 h2 => h2) (fun i h1 h2 => by have h2 : i = b1 := h2; exfalso; omega)
  clear K15
  clear K17
  refine Ops.new (o := rowL [(i64 0), (Value.bool false), (i64 0)] 29) (V := fun b => (Value.pointer (some ⟨b, 0, none⟩))) (by kernel_rfl) (d := (some 10)) (by kernel_rfl) (fun b => rfl) (fun b22 w23 hb24 H25 K26 hs27 => ?_)
  have lb22 : b1 < b22 := by have := H18.lt; omega
  have nb22 : w.heap.size ≤ b22 := by have := K21.size; omega
  have H28 := H18.keep K26 (fun h => h)
  clear H18
  have K29 := K21.trans K26 (U := none_) (fun i h1 h2 => h2) (fun i h1 h2 => by exact h2)
  clear K21
  clear K26 hs27
  refine Ops.put (t := 29) (b := b22) (off := 0) (v := (agg [(i64 0), (Value.bool true), (i64 1)])) (ys := [(i64 0), (Value.bool true), (i64 1)]) (by kernel_rfl) (by kernel_rfl) H25 (by kernel_rfl) (d := none) (by kernel_rfl) rfl (fun w30 H31 K32 => ?_)
  clear H25
  have H33 := H28.keep K32 (by intro h; change b1 = b22 at h; omega)
  clear H28
  have K34 := K29.trans K32 (U := none_) (fun i h1 h2 => h2) (fun i h1 h2 => by have h2 : i = b22 := h2; exfalso; omega)
  clear K29
  clear K32
  refine Ops.done (by kernel_rfl) ?_
  refine q_seq (by kernel_rfl) ?_
  refine q_seq (by kernel_rfl) ?_
  refine q_region (by kernel_rfl) ?_
  refine Ops.regs 3 [(1, (i64 slot)), (2, (i64 to)), (6, (Value.bool false)), (7, (Value.pointer (some ⟨b1, 0, none⟩))), (9, (i64 (Ch.ownerAt (newCh s 16) slot))), (10, (Value.pointer (some ⟨b22, 0, none⟩))), (73, (Value.bool ((Ch.ownerAt (newCh s 16) slot) == to)))] (j := 3) (by kernel_rfl) (by kernel_rfl) ?_
  refine Ops.done (by kernel_rfl) ?_
  have h35 : ((Ch.ownerAt (newCh s 16) slot) == to) = false := by simpa using hn
  rw [h35]
  refine q_else (o := .tmp 73) (by kernel_rfl) rfl ?_
  refine q_skip (by kernel_rfl) ?_
  refine q_seq (by kernel_rfl) ?_
  refine q_seq (by kernel_rfl) ?_
  refine q_region (by kernel_rfl) ?_
  refine Ops.regs 1 [(1, (i64 slot)), (2, (i64 to)), (6, (Value.bool false)), (7, (Value.pointer (some ⟨b1, 0, none⟩))), (9, (i64 (Ch.ownerAt (newCh s 16) slot))), (10, (Value.pointer (some ⟨b22, 0, none⟩))), (87, (Value.pointer (some ⟨b22, 1, none⟩)))] (j := 1) (by kernel_rfl) (by kernel_rfl) ?_
  refine Ops.go (v := (Value.bool true)) (by kernel_rfl) (Runs.load (t := 4) (a := ⟨b22, 1, none⟩) (by kernel_rfl) (H31.loads (by kernel_rfl))) (d := (some 88)) (by kernel_rfl) rfl ?_
  refine Ops.regs 3 [(1, (i64 slot)), (2, (i64 to)), (6, (Value.bool false)), (7, (Value.pointer (some ⟨b1, 0, none⟩))), (9, (i64 (Ch.ownerAt (newCh s 16) slot))), (90, (Value.bool false)), (91, (Value.pointer (some ⟨b22, 2, none⟩)))] (j := 5) (by kernel_rfl) (by kernel_rfl) ?_
  refine Ops.go (v := (i64 1)) (by kernel_rfl) (Runs.load (t := 2) (a := ⟨b22, 2, none⟩) (by kernel_rfl) (H31.loads (by kernel_rfl))) (d := (some 92)) (by kernel_rfl) rfl ?_
  refine Ops.regs 2 [(1, (i64 slot)), (2, (i64 to)), (6, (Value.bool false)), (7, (Value.pointer (some ⟨b1, 0, none⟩))), (9, (i64 (Ch.ownerAt (newCh s 16) slot))), (94, (Value.bool false))] (j := 8) (by kernel_rfl) (by kernel_rfl) ?_
  refine Ops.done (by kernel_rfl) ?_
  refine q_else (o := .tmp 94) (by kernel_rfl) rfl ?_
  refine q_skip (by kernel_rfl) ?_
  refine q_seq (by kernel_rfl) ?_
  refine q_seq (by kernel_rfl) ?_
  refine q_region (by kernel_rfl) ?_
  refine Ops.regs 1 [(1, (i64 slot)), (2, (i64 to)), (6, (Value.bool false)), (7, (Value.pointer (some ⟨b1, 0, none⟩))), (9, (i64 (Ch.ownerAt (newCh s 16) slot))), (12, (i64 1))] (j := 1) (by kernel_rfl) (by kernel_rfl) ?_
  refine Ops.done (by kernel_rfl) ?_
  refine q_block (id := 0) (by kernel_rfl) ?_
  refine q_roll 4 (by kernel_rfl) ?_
  refine roll_step ?_
  refine q_seq (by kernel_rfl) ?_
  refine q_seq (by kernel_rfl) ?_
  refine q_region (by kernel_rfl) ?_
  refine Ops.regs 2 [(1, (i64 slot)), (2, (i64 to)), (6, (Value.bool false)), (7, (Value.pointer (some ⟨b1, 0, none⟩))), (9, (i64 (Ch.ownerAt (newCh s 16) slot))), (12, (i64 1)), (96, (Value.bool true))] (j := 2) (by kernel_rfl) (by kernel_rfl) ?_
  refine Ops.done (by kernel_rfl) ?_
  refine q_then (o := .tmp 96) (by kernel_rfl) rfl ?_
  refine q_skip (by kernel_rfl) ?_
  refine q_seq (by kernel_rfl) ?_
  refine q_block (id := 1) (by kernel_rfl) ?_
  refine q_seq (by kernel_rfl) ?_
  refine q_region (by kernel_rfl) ?_
  refine Ops.regs 1 [(1, (i64 slot)), (2, (i64 to)), (6, (Value.bool false)), (7, (Value.pointer (some ⟨b1, 0, none⟩))), (9, (i64 (Ch.ownerAt (newCh s 16) slot))), (12, (i64 1)), (96, (Value.bool true)), (99, (Value.pointer (some ⟨b1, 0, none⟩)))] (j := 1) (by kernel_rfl) (by kernel_rfl) ?_
  refine Ops.call (by kernel_rfl) (d := (some 100)) (by kernel_rfl) (Move_calls _ b1 (mv1 s slot to 1)  inv20 H33) ?_
  rintro _ w36 ⟨rfl, K37⟩
  refine ⟨_, _, rfl, rfl, ?_⟩
  have H38 := H33.keep K37 (fun h => h)
  clear H33
  have H39 := H31.keep K37 (fun h => h)
  clear H31
  have K40 := K34.trans K37 (U := none_) (fun i h1 h2 => h2) (fun i h1 h2 => by exact h2)
  clear K34
  clear K37
  refine Ops.new (o := rowL [(i64 0), (i64 0), (i64 0), (i64 0), (i64 0), (i64 0)] 34) (V := fun b => (Value.pointer (some ⟨b, 0, none⟩))) (by kernel_rfl) (d := (some 13)) (by kernel_rfl) (fun b => rfl) (fun b41 w42 hb43 H44 K45 hs46 => ?_)
  have lb41 : b22 < b41 := by have := H39.lt; omega
  have nb41 : w.heap.size ≤ b41 := by have := K40.size; omega
  have H47 := H38.keep K45 (fun h => h)
  clear H38
  have H48 := H39.keep K45 (fun h => h)
  clear H39
  have K49 := K40.trans K45 (U := none_) (fun i h1 h2 => h2) (fun i h1 h2 => by exact h2)
  clear K40
  clear K45 hs46
  refine Ops.put (t := 34) (b := b41) (off := 0) (v := (agg [(i64 slot), (i64 (Ch.ownerAt (newCh s 16) slot)), (i64 to), (i64 1), (i64 1), (i64 1)])) (ys := [(i64 slot), (i64 (Ch.ownerAt (newCh s 16) slot)), (i64 to), (i64 1), (i64 1), (i64 1)]) (by kernel_rfl) (by kernel_rfl) H44 (by kernel_rfl) (d := none) (by kernel_rfl) rfl (fun w50 H51 K52 => ?_)
  clear H44
  have H53 := H47.keep K52 (by intro h; change b1 = b41 at h; omega)
  clear H47
  have H54 := H48.keep K52 (by intro h; change b22 = b41 at h; omega)
  clear H48
  have K55 := K49.trans K52 (U := none_) (fun i h1 h2 => h2) (fun i h1 h2 => by have h2 : i = b41 := h2; exfalso; omega)
  clear K49
  clear K52
  refine Ops.done (by kernel_rfl) ?_
  refine q_seq (by kernel_rfl) ?_
  refine q_seq (by kernel_rfl) ?_
  refine q_region (by kernel_rfl) ?_
  refine Ops.regs 1 [(1, (i64 slot)), (2, (i64 to)), (6, (Value.bool false)), (7, (Value.pointer (some ⟨b1, 0, none⟩))), (9, (i64 (Ch.ownerAt (newCh s 16) slot))), (12, (i64 1)), (13, (Value.pointer (some ⟨b41, 0, none⟩))), (96, (Value.bool true)), (101, (Value.pointer (some ⟨b41, 4, none⟩)))] (j := 1) (by kernel_rfl) (by kernel_rfl) ?_
  refine Ops.go (v := (i64 1)) (by kernel_rfl) (Runs.load (t := 3) (a := ⟨b41, 4, none⟩) (by kernel_rfl) (H51.loads (by kernel_rfl))) (d := (some 102)) (by kernel_rfl) rfl ?_
  refine Ops.regs 4 [(1, (i64 slot)), (2, (i64 to)), (6, (Value.bool false)), (7, (Value.pointer (some ⟨b1, 0, none⟩))), (9, (i64 (Ch.ownerAt (newCh s 16) slot))), (12, (i64 1)), (13, (Value.pointer (some ⟨b41, 0, none⟩))), (96, (Value.bool true)), (105, (Value.bool false)), (106, (Value.pointer (some ⟨b41, 1, none⟩)))] (j := 6) (by kernel_rfl) (by kernel_rfl) ?_
  refine Ops.go (v := (i64 (Ch.ownerAt (newCh s 16) slot))) (by kernel_rfl) (Runs.load (t := 3) (a := ⟨b41, 1, none⟩) (by kernel_rfl) (H51.loads (by kernel_rfl))) (d := (some 107)) (by kernel_rfl) rfl ?_
  refine Ops.regs 4 [(1, (i64 slot)), (2, (i64 to)), (6, (Value.bool false)), (7, (Value.pointer (some ⟨b1, 0, none⟩))), (9, (i64 (Ch.ownerAt (newCh s 16) slot))), (12, (i64 1)), (13, (Value.pointer (some ⟨b41, 0, none⟩))), (96, (Value.bool true)), (111, (Value.bool ((Ch.ownerAt (newCh s 16) slot) != (Ch.ownerAt (newCh s 16) slot))))] (j := 11) (by kernel_rfl) (by kernel_rfl) ?_
  have h56 : ((Ch.ownerAt (newCh s 16) slot) != (Ch.ownerAt (newCh s 16) slot)) = false := by simp
  rw [h56]
  refine Ops.regs 1 [(1, (i64 slot)), (2, (i64 to)), (6, (Value.bool false)), (7, (Value.pointer (some ⟨b1, 0, none⟩))), (9, (i64 (Ch.ownerAt (newCh s 16) slot))), (12, (i64 1)), (13, (Value.pointer (some ⟨b41, 0, none⟩))), (96, (Value.bool true)), (111, (Value.bool false)), (112, (Value.pointer (some ⟨b41, 2, none⟩)))] (j := 12) (by kernel_rfl) (by kernel_rfl) ?_
  refine Ops.go (v := (i64 to)) (by kernel_rfl) (Runs.load (t := 3) (a := ⟨b41, 2, none⟩) (by kernel_rfl) (H51.loads (by kernel_rfl))) (d := (some 113)) (by kernel_rfl) rfl ?_
  refine Ops.regs 4 [(1, (i64 slot)), (2, (i64 to)), (6, (Value.bool false)), (7, (Value.pointer (some ⟨b1, 0, none⟩))), (9, (i64 (Ch.ownerAt (newCh s 16) slot))), (12, (i64 1)), (13, (Value.pointer (some ⟨b41, 0, none⟩))), (96, (Value.bool true)), (117, (Value.bool (to != to)))] (j := 17) (by kernel_rfl) (by kernel_rfl) ?_
  have h57 : (to != to) = false := by simp
  rw [h57]
  refine Ops.regs 1 [(1, (i64 slot)), (2, (i64 to)), (6, (Value.bool false)), (7, (Value.pointer (some ⟨b1, 0, none⟩))), (9, (i64 (Ch.ownerAt (newCh s 16) slot))), (12, (i64 1)), (13, (Value.pointer (some ⟨b41, 0, none⟩))), (96, (Value.bool true)), (117, (Value.bool false)), (118, (Value.pointer (some ⟨b41, 3, none⟩)))] (j := 18) (by kernel_rfl) (by kernel_rfl) ?_
  refine Ops.go (v := (i64 1)) (by kernel_rfl) (Runs.load (t := 2) (a := ⟨b41, 3, none⟩) (by kernel_rfl) (H51.loads (by kernel_rfl))) (d := (some 119)) (by kernel_rfl) rfl ?_
  refine Ops.regs 5 [(1, (i64 slot)), (2, (i64 to)), (6, (Value.bool false)), (7, (Value.pointer (some ⟨b1, 0, none⟩))), (9, (i64 (Ch.ownerAt (newCh s 16) slot))), (12, (i64 1)), (13, (Value.pointer (some ⟨b41, 0, none⟩))), (96, (Value.bool true)), (122, (Value.bool false)), (123, (Value.pointer (some ⟨b1, 0, none⟩))), (124, (agg [(i64 3), (i64 0), (i64 0), (i64 0), (i64 0)]))] (j := 24) (by kernel_rfl) (by kernel_rfl) ?_
  refine Ops.call (by kernel_rfl) (d := (some 125)) (by kernel_rfl) (Do_calls _ b1 (mv1 s slot to 1) ⟨3, 0, 0, 0, 0⟩ inv20 H53) ?_
  rintro _ w58 ⟨rfl, K59, H60⟩
  have e61 : (mv1 s slot to 1).do_ ⟨3, 0, 0, 0, 0⟩ = (⟨50, false, 0⟩, mv1 s slot to 1) := busy_audit (by show (1 : Int) ≠ 0; decide)
  have inv62 := Ch.Inv.do_ inv20 ⟨3, 0, 0, 0, 0⟩
  rw [e61] at H60 inv62 ⊢
  have inv62 : Ch.Inv (mv1 s slot to 1) := inv62
  clear e61
  refine ⟨_, _, rfl, rfl, ?_⟩
  have H63 := H54.keep K59 (by intro h; change b22 = b1 at h; omega)
  clear H54
  have H64 := H51.keep K59 (by intro h; change b41 = b1 at h; omega)
  clear H51
  have K65 := K55.trans K59 (U := none_) (fun i h1 h2 => h2) (fun i h1 h2 => by have h2 : i = b1 := h2; exfalso; omega)
  clear K55
  clear K59
  refine Ops.regs 8 [(1, (i64 slot)), (2, (i64 to)), (6, (Value.bool false)), (7, (Value.pointer (some ⟨b1, 0, none⟩))), (9, (i64 (Ch.ownerAt (newCh s 16) slot))), (12, (i64 1)), (13, (Value.pointer (some ⟨b41, 0, none⟩))), (96, (Value.bool true)), (129, (Value.bool false)), (130, (Value.pointer (some ⟨b1, 0, none⟩))), (133, (agg [(i64 1), (i64 slot), (i64 (Ch.ownerAt (newCh s 16) slot)), (i64 0), (i64 0)]))] (j := 33) (by kernel_rfl) (by kernel_rfl) ?_
  refine Ops.call (by kernel_rfl) (d := (some 134)) (by kernel_rfl) (Do_calls _ b1 (mv1 s slot to 1) ⟨1, slot, Ch.ownerAt (newCh s 16) slot, 0, 0⟩ inv62 H60) ?_
  rintro _ w66 ⟨rfl, K67, H68⟩
  have e69 : (mv1 s slot to 1).do_ ⟨1, slot, Ch.ownerAt (newCh s 16) slot, 0, 0⟩ = (⟨50, false, 0⟩, mv1 s slot to 1) := busy_move (by show (1 : Int) ≠ 0; decide) hs (own_range h.1 h.2 hs)
  have inv70 := Ch.Inv.do_ inv62 ⟨1, slot, Ch.ownerAt (newCh s 16) slot, 0, 0⟩
  rw [e69] at H68 inv70 ⊢
  have inv70 : Ch.Inv (mv1 s slot to 1) := inv70
  clear e69
  refine ⟨_, _, rfl, rfl, ?_⟩
  have H71 := H63.keep K67 (by intro h; change b22 = b1 at h; omega)
  clear H63
  have H72 := H64.keep K67 (by intro h; change b41 = b1 at h; omega)
  clear H64
  have K73 := K65.trans K67 (U := none_) (fun i h1 h2 => h2) (fun i h1 h2 => by have h2 : i = b1 := h2; exfalso; omega)
  clear K65
  clear K67
  refine Ops.regs 3 [(1, (i64 slot)), (2, (i64 to)), (6, (Value.bool false)), (7, (Value.pointer (some ⟨b1, 0, none⟩))), (9, (i64 (Ch.ownerAt (newCh s 16) slot))), (12, (i64 1)), (13, (Value.pointer (some ⟨b41, 0, none⟩))), (96, (Value.bool true)), (137, (Value.bool false))] (j := 37) (by kernel_rfl) (by kernel_rfl) ?_
  refine Ops.done (by kernel_rfl) ?_
  refine q_else (o := .tmp 137) (by kernel_rfl) rfl ?_
  refine q_skip (by kernel_rfl) ?_
  refine q_seq (by kernel_rfl) ?_
  refine q_region (by kernel_rfl) ?_
  refine Ops.regs 3 [(1, (i64 slot)), (2, (i64 to)), (6, (Value.bool false)), (7, (Value.pointer (some ⟨b1, 0, none⟩))), (9, (i64 (Ch.ownerAt (newCh s 16) slot))), (12, (i64 1)), (13, (Value.pointer (some ⟨b41, 0, none⟩))), (96, (Value.bool true)), (137, (Value.bool false)), (138, (Value.pointer (some ⟨b1, 0, none⟩))), (140, (agg [(i64 2), (i64 0), (i64 0), (i64 1), (i64 1)]))] (j := 3) (by kernel_rfl) (by kernel_rfl) ?_
  refine Ops.call (by kernel_rfl) (d := (some 141)) (by kernel_rfl) (Do_calls _ b1 (mv1 s slot to 1) ⟨2, 0, 0, 1, 1⟩ inv70 H68) ?_
  rintro _ w74 ⟨rfl, K75, H76⟩
  have e77 : (mv1 s slot to 1).do_ ⟨2, 0, 0, 1, 1⟩ = (⟨0, false, 1⟩, mv1 s slot to 2) := step_1
  have inv78 := Ch.Inv.do_ inv70 ⟨2, 0, 0, 1, 1⟩
  rw [e77] at H76 inv78 ⊢
  have inv78 : Ch.Inv (mv1 s slot to 2) := inv78
  clear e77
  refine ⟨_, _, rfl, rfl, ?_⟩
  have H79 := H71.keep K75 (by intro h; change b22 = b1 at h; omega)
  clear H71
  have H80 := H72.keep K75 (by intro h; change b41 = b1 at h; omega)
  clear H72
  have K81 := K73.trans K75 (U := none_) (fun i h1 h2 => h2) (fun i h1 h2 => by have h2 : i = b1 := h2; exfalso; omega)
  clear K73
  clear K75
  refine Ops.regs 2 [(1, (i64 slot)), (2, (i64 to)), (6, (Value.bool false)), (7, (Value.pointer (some ⟨b1, 0, none⟩))), (9, (i64 (Ch.ownerAt (newCh s 16) slot))), (12, (i64 1)), (13, (Value.pointer (some ⟨b41, 0, none⟩))), (96, (Value.bool true)), (137, (Value.bool false)), (143, (Value.bool false))] (j := 6) (by kernel_rfl) (by kernel_rfl) ?_
  refine Ops.done (by kernel_rfl) ?_
  refine q_else (o := .tmp 143) (by kernel_rfl) rfl ?_
  refine q_skip (by kernel_rfl) ?_
  refine q_region (by kernel_rfl) ?_
  refine Ops.regs 3 [(1, (i64 slot)), (2, (i64 to)), (6, (Value.bool false)), (7, (Value.pointer (some ⟨b1, 0, none⟩))), (9, (i64 (Ch.ownerAt (newCh s 16) slot))), (12, (i64 2)), (13, (Value.pointer (some ⟨b41, 0, none⟩))), (96, (Value.bool true)), (137, (Value.bool false)), (143, (Value.bool false))] (j := 3) (by kernel_rfl) (by kernel_rfl) ?_
  refine Ops.done (by kernel_rfl) ?_
  refine roll_step ?_
  refine q_seq (by kernel_rfl) ?_
  refine q_seq (by kernel_rfl) ?_
  refine q_region (by kernel_rfl) ?_
  refine Ops.regs 2 [(1, (i64 slot)), (2, (i64 to)), (6, (Value.bool false)), (7, (Value.pointer (some ⟨b1, 0, none⟩))), (9, (i64 (Ch.ownerAt (newCh s 16) slot))), (12, (i64 2)), (13, (Value.pointer (some ⟨b41, 0, none⟩))), (96, (Value.bool true)), (137, (Value.bool false)), (143, (Value.bool false))] (j := 2) (by kernel_rfl) (by kernel_rfl) ?_
  refine Ops.done (by kernel_rfl) ?_
  refine q_then (o := .tmp 96) (by kernel_rfl) rfl ?_
  refine q_skip (by kernel_rfl) ?_
  refine q_seq (by kernel_rfl) ?_
  refine q_block (id := 1) (by kernel_rfl) ?_
  refine q_seq (by kernel_rfl) ?_
  refine q_region (by kernel_rfl) ?_
  refine Ops.regs 1 [(1, (i64 slot)), (2, (i64 to)), (6, (Value.bool false)), (7, (Value.pointer (some ⟨b1, 0, none⟩))), (9, (i64 (Ch.ownerAt (newCh s 16) slot))), (12, (i64 2)), (13, (Value.pointer (some ⟨b41, 0, none⟩))), (96, (Value.bool true)), (99, (Value.pointer (some ⟨b1, 0, none⟩))), (137, (Value.bool false)), (143, (Value.bool false))] (j := 1) (by kernel_rfl) (by kernel_rfl) ?_
  refine Ops.call (by kernel_rfl) (d := (some 100)) (by kernel_rfl) (Move_calls _ b1 (mv1 s slot to 2)  inv78 H76) ?_
  rintro _ w82 ⟨rfl, K83⟩
  refine ⟨_, _, rfl, rfl, ?_⟩
  have H84 := H76.keep K83 (fun h => h)
  clear H76
  have H85 := H79.keep K83 (fun h => h)
  clear H79
  have H86 := H80.keep K83 (fun h => h)
  clear H80
  have K87 := K81.trans K83 (U := none_) (fun i h1 h2 => h2) (fun i h1 h2 => by exact h2)
  clear K81
  clear K83
  refine Ops.new (o := rowL [(i64 0), (i64 0), (i64 0), (i64 0), (i64 0), (i64 0)] 34) (V := fun b => (Value.pointer (some ⟨b, 0, none⟩))) (by kernel_rfl) (d := (some 13)) (by kernel_rfl) (fun b => rfl) (fun b88 w89 hb90 H91 K92 hs93 => ?_)
  have lb88 : b41 < b88 := by have := H86.lt; omega
  have nb88 : w.heap.size ≤ b88 := by have := K87.size; omega
  have H94 := H84.keep K92 (fun h => h)
  clear H84
  have H95 := H85.keep K92 (fun h => h)
  clear H85
  have H96 := H86.keep K92 (fun h => h)
  clear H86
  have K97 := K87.trans K92 (U := none_) (fun i h1 h2 => h2) (fun i h1 h2 => by exact h2)
  clear K87
  clear K92 hs93
  refine Ops.put (t := 34) (b := b88) (off := 0) (v := (agg [(i64 slot), (i64 (Ch.ownerAt (newCh s 16) slot)), (i64 to), (i64 1), (i64 2), (i64 1)])) (ys := [(i64 slot), (i64 (Ch.ownerAt (newCh s 16) slot)), (i64 to), (i64 1), (i64 2), (i64 1)]) (by kernel_rfl) (by kernel_rfl) H91 (by kernel_rfl) (d := none) (by kernel_rfl) rfl (fun w98 H99 K100 => ?_)
  clear H91
  have H101 := H94.keep K100 (by intro h; change b1 = b88 at h; omega)
  clear H94
  have H102 := H95.keep K100 (by intro h; change b22 = b88 at h; omega)
  clear H95
  have H103 := H96.keep K100 (by intro h; change b41 = b88 at h; omega)
  clear H96
  have K104 := K97.trans K100 (U := none_) (fun i h1 h2 => h2) (fun i h1 h2 => by have h2 : i = b88 := h2; exfalso; omega)
  clear K97
  clear K100
  refine Ops.done (by kernel_rfl) ?_
  refine q_seq (by kernel_rfl) ?_
  refine q_seq (by kernel_rfl) ?_
  refine q_region (by kernel_rfl) ?_
  refine Ops.regs 1 [(1, (i64 slot)), (2, (i64 to)), (6, (Value.bool false)), (7, (Value.pointer (some ⟨b1, 0, none⟩))), (9, (i64 (Ch.ownerAt (newCh s 16) slot))), (12, (i64 2)), (13, (Value.pointer (some ⟨b88, 0, none⟩))), (96, (Value.bool true)), (101, (Value.pointer (some ⟨b88, 4, none⟩))), (137, (Value.bool false)), (143, (Value.bool false))] (j := 1) (by kernel_rfl) (by kernel_rfl) ?_
  refine Ops.go (v := (i64 2)) (by kernel_rfl) (Runs.load (t := 3) (a := ⟨b88, 4, none⟩) (by kernel_rfl) (H99.loads (by kernel_rfl))) (d := (some 102)) (by kernel_rfl) rfl ?_
  refine Ops.regs 4 [(1, (i64 slot)), (2, (i64 to)), (6, (Value.bool false)), (7, (Value.pointer (some ⟨b1, 0, none⟩))), (9, (i64 (Ch.ownerAt (newCh s 16) slot))), (12, (i64 2)), (13, (Value.pointer (some ⟨b88, 0, none⟩))), (96, (Value.bool true)), (105, (Value.bool false)), (106, (Value.pointer (some ⟨b88, 1, none⟩))), (137, (Value.bool false)), (143, (Value.bool false))] (j := 6) (by kernel_rfl) (by kernel_rfl) ?_
  refine Ops.go (v := (i64 (Ch.ownerAt (newCh s 16) slot))) (by kernel_rfl) (Runs.load (t := 3) (a := ⟨b88, 1, none⟩) (by kernel_rfl) (H99.loads (by kernel_rfl))) (d := (some 107)) (by kernel_rfl) rfl ?_
  refine Ops.regs 4 [(1, (i64 slot)), (2, (i64 to)), (6, (Value.bool false)), (7, (Value.pointer (some ⟨b1, 0, none⟩))), (9, (i64 (Ch.ownerAt (newCh s 16) slot))), (12, (i64 2)), (13, (Value.pointer (some ⟨b88, 0, none⟩))), (96, (Value.bool true)), (111, (Value.bool ((Ch.ownerAt (newCh s 16) slot) != (Ch.ownerAt (newCh s 16) slot)))), (137, (Value.bool false)), (143, (Value.bool false))] (j := 11) (by kernel_rfl) (by kernel_rfl) ?_
  rw [h56]
  refine Ops.regs 1 [(1, (i64 slot)), (2, (i64 to)), (6, (Value.bool false)), (7, (Value.pointer (some ⟨b1, 0, none⟩))), (9, (i64 (Ch.ownerAt (newCh s 16) slot))), (12, (i64 2)), (13, (Value.pointer (some ⟨b88, 0, none⟩))), (96, (Value.bool true)), (111, (Value.bool false)), (112, (Value.pointer (some ⟨b88, 2, none⟩))), (137, (Value.bool false)), (143, (Value.bool false))] (j := 12) (by kernel_rfl) (by kernel_rfl) ?_
  refine Ops.go (v := (i64 to)) (by kernel_rfl) (Runs.load (t := 3) (a := ⟨b88, 2, none⟩) (by kernel_rfl) (H99.loads (by kernel_rfl))) (d := (some 113)) (by kernel_rfl) rfl ?_
  refine Ops.regs 4 [(1, (i64 slot)), (2, (i64 to)), (6, (Value.bool false)), (7, (Value.pointer (some ⟨b1, 0, none⟩))), (9, (i64 (Ch.ownerAt (newCh s 16) slot))), (12, (i64 2)), (13, (Value.pointer (some ⟨b88, 0, none⟩))), (96, (Value.bool true)), (117, (Value.bool (to != to))), (137, (Value.bool false)), (143, (Value.bool false))] (j := 17) (by kernel_rfl) (by kernel_rfl) ?_
  rw [h57]
  refine Ops.regs 1 [(1, (i64 slot)), (2, (i64 to)), (6, (Value.bool false)), (7, (Value.pointer (some ⟨b1, 0, none⟩))), (9, (i64 (Ch.ownerAt (newCh s 16) slot))), (12, (i64 2)), (13, (Value.pointer (some ⟨b88, 0, none⟩))), (96, (Value.bool true)), (117, (Value.bool false)), (118, (Value.pointer (some ⟨b88, 3, none⟩))), (137, (Value.bool false)), (143, (Value.bool false))] (j := 18) (by kernel_rfl) (by kernel_rfl) ?_
  refine Ops.go (v := (i64 1)) (by kernel_rfl) (Runs.load (t := 2) (a := ⟨b88, 3, none⟩) (by kernel_rfl) (H99.loads (by kernel_rfl))) (d := (some 119)) (by kernel_rfl) rfl ?_
  refine Ops.regs 5 [(1, (i64 slot)), (2, (i64 to)), (6, (Value.bool false)), (7, (Value.pointer (some ⟨b1, 0, none⟩))), (9, (i64 (Ch.ownerAt (newCh s 16) slot))), (12, (i64 2)), (13, (Value.pointer (some ⟨b88, 0, none⟩))), (96, (Value.bool true)), (122, (Value.bool false)), (123, (Value.pointer (some ⟨b1, 0, none⟩))), (124, (agg [(i64 3), (i64 0), (i64 0), (i64 0), (i64 0)])), (137, (Value.bool false)), (143, (Value.bool false))] (j := 24) (by kernel_rfl) (by kernel_rfl) ?_
  refine Ops.call (by kernel_rfl) (d := (some 125)) (by kernel_rfl) (Do_calls _ b1 (mv1 s slot to 2) ⟨3, 0, 0, 0, 0⟩ inv78 H101) ?_
  rintro _ w105 ⟨rfl, K106, H107⟩
  have e108 : (mv1 s slot to 2).do_ ⟨3, 0, 0, 0, 0⟩ = (⟨50, false, 0⟩, mv1 s slot to 2) := busy_audit (by show (2 : Int) ≠ 0; decide)
  have inv109 := Ch.Inv.do_ inv78 ⟨3, 0, 0, 0, 0⟩
  rw [e108] at H107 inv109 ⊢
  have inv109 : Ch.Inv (mv1 s slot to 2) := inv109
  clear e108
  refine ⟨_, _, rfl, rfl, ?_⟩
  have H110 := H102.keep K106 (by intro h; change b22 = b1 at h; omega)
  clear H102
  have H111 := H103.keep K106 (by intro h; change b41 = b1 at h; omega)
  clear H103
  have H112 := H99.keep K106 (by intro h; change b88 = b1 at h; omega)
  clear H99
  have K113 := K104.trans K106 (U := none_) (fun i h1 h2 => h2) (fun i h1 h2 => by have h2 : i = b1 := h2; exfalso; omega)
  clear K104
  clear K106
  refine Ops.regs 8 [(1, (i64 slot)), (2, (i64 to)), (6, (Value.bool false)), (7, (Value.pointer (some ⟨b1, 0, none⟩))), (9, (i64 (Ch.ownerAt (newCh s 16) slot))), (12, (i64 2)), (13, (Value.pointer (some ⟨b88, 0, none⟩))), (96, (Value.bool true)), (129, (Value.bool false)), (130, (Value.pointer (some ⟨b1, 0, none⟩))), (133, (agg [(i64 1), (i64 slot), (i64 (Ch.ownerAt (newCh s 16) slot)), (i64 0), (i64 0)])), (137, (Value.bool false)), (143, (Value.bool false))] (j := 33) (by kernel_rfl) (by kernel_rfl) ?_
  refine Ops.call (by kernel_rfl) (d := (some 134)) (by kernel_rfl) (Do_calls _ b1 (mv1 s slot to 2) ⟨1, slot, Ch.ownerAt (newCh s 16) slot, 0, 0⟩ inv109 H107) ?_
  rintro _ w114 ⟨rfl, K115, H116⟩
  have e117 : (mv1 s slot to 2).do_ ⟨1, slot, Ch.ownerAt (newCh s 16) slot, 0, 0⟩ = (⟨50, false, 0⟩, mv1 s slot to 2) := busy_move (by show (2 : Int) ≠ 0; decide) hs (own_range h.1 h.2 hs)
  have inv118 := Ch.Inv.do_ inv109 ⟨1, slot, Ch.ownerAt (newCh s 16) slot, 0, 0⟩
  rw [e117] at H116 inv118 ⊢
  have inv118 : Ch.Inv (mv1 s slot to 2) := inv118
  clear e117
  refine ⟨_, _, rfl, rfl, ?_⟩
  have H119 := H110.keep K115 (by intro h; change b22 = b1 at h; omega)
  clear H110
  have H120 := H111.keep K115 (by intro h; change b41 = b1 at h; omega)
  clear H111
  have H121 := H112.keep K115 (by intro h; change b88 = b1 at h; omega)
  clear H112
  have K122 := K113.trans K115 (U := none_) (fun i h1 h2 => h2) (fun i h1 h2 => by have h2 : i = b1 := h2; exfalso; omega)
  clear K113
  clear K115
  refine Ops.regs 3 [(1, (i64 slot)), (2, (i64 to)), (6, (Value.bool false)), (7, (Value.pointer (some ⟨b1, 0, none⟩))), (9, (i64 (Ch.ownerAt (newCh s 16) slot))), (12, (i64 2)), (13, (Value.pointer (some ⟨b88, 0, none⟩))), (96, (Value.bool true)), (137, (Value.bool false)), (143, (Value.bool false))] (j := 37) (by kernel_rfl) (by kernel_rfl) ?_
  refine Ops.done (by kernel_rfl) ?_
  refine q_else (o := .tmp 137) (by kernel_rfl) rfl ?_
  refine q_skip (by kernel_rfl) ?_
  refine q_seq (by kernel_rfl) ?_
  refine q_region (by kernel_rfl) ?_
  refine Ops.regs 3 [(1, (i64 slot)), (2, (i64 to)), (6, (Value.bool false)), (7, (Value.pointer (some ⟨b1, 0, none⟩))), (9, (i64 (Ch.ownerAt (newCh s 16) slot))), (12, (i64 2)), (13, (Value.pointer (some ⟨b88, 0, none⟩))), (96, (Value.bool true)), (137, (Value.bool false)), (138, (Value.pointer (some ⟨b1, 0, none⟩))), (140, (agg [(i64 2), (i64 0), (i64 0), (i64 1), (i64 2)])), (143, (Value.bool false))] (j := 3) (by kernel_rfl) (by kernel_rfl) ?_
  refine Ops.call (by kernel_rfl) (d := (some 141)) (by kernel_rfl) (Do_calls _ b1 (mv1 s slot to 2) ⟨2, 0, 0, 1, 2⟩ inv118 H116) ?_
  rintro _ w123 ⟨rfl, K124, H125⟩
  have e126 : (mv1 s slot to 2).do_ ⟨2, 0, 0, 1, 2⟩ = (⟨0, false, 1⟩, mv3 s slot to) := step_2
  have inv127 := Ch.Inv.do_ inv118 ⟨2, 0, 0, 1, 2⟩
  rw [e126] at H125 inv127 ⊢
  have inv127 : Ch.Inv (mv3 s slot to) := inv127
  clear e126
  refine ⟨_, _, rfl, rfl, ?_⟩
  have H128 := H119.keep K124 (by intro h; change b22 = b1 at h; omega)
  clear H119
  have H129 := H120.keep K124 (by intro h; change b41 = b1 at h; omega)
  clear H120
  have H130 := H121.keep K124 (by intro h; change b88 = b1 at h; omega)
  clear H121
  have K131 := K122.trans K124 (U := none_) (fun i h1 h2 => h2) (fun i h1 h2 => by have h2 : i = b1 := h2; exfalso; omega)
  clear K122
  clear K124
  refine Ops.regs 2 [(1, (i64 slot)), (2, (i64 to)), (6, (Value.bool false)), (7, (Value.pointer (some ⟨b1, 0, none⟩))), (9, (i64 (Ch.ownerAt (newCh s 16) slot))), (12, (i64 2)), (13, (Value.pointer (some ⟨b88, 0, none⟩))), (96, (Value.bool true)), (137, (Value.bool false)), (143, (Value.bool false))] (j := 6) (by kernel_rfl) (by kernel_rfl) ?_
  refine Ops.done (by kernel_rfl) ?_
  refine q_else (o := .tmp 143) (by kernel_rfl) rfl ?_
  refine q_skip (by kernel_rfl) ?_
  refine q_region (by kernel_rfl) ?_
  refine Ops.regs 3 [(1, (i64 slot)), (2, (i64 to)), (6, (Value.bool false)), (7, (Value.pointer (some ⟨b1, 0, none⟩))), (9, (i64 (Ch.ownerAt (newCh s 16) slot))), (12, (i64 3)), (13, (Value.pointer (some ⟨b88, 0, none⟩))), (96, (Value.bool true)), (137, (Value.bool false)), (143, (Value.bool false))] (j := 3) (by kernel_rfl) (by kernel_rfl) ?_
  refine Ops.done (by kernel_rfl) ?_
  refine roll_step ?_
  refine q_seq (by kernel_rfl) ?_
  refine q_seq (by kernel_rfl) ?_
  refine q_region (by kernel_rfl) ?_
  refine Ops.regs 2 [(1, (i64 slot)), (2, (i64 to)), (6, (Value.bool false)), (7, (Value.pointer (some ⟨b1, 0, none⟩))), (9, (i64 (Ch.ownerAt (newCh s 16) slot))), (12, (i64 3)), (13, (Value.pointer (some ⟨b88, 0, none⟩))), (96, (Value.bool true)), (137, (Value.bool false)), (143, (Value.bool false))] (j := 2) (by kernel_rfl) (by kernel_rfl) ?_
  refine Ops.done (by kernel_rfl) ?_
  refine q_then (o := .tmp 96) (by kernel_rfl) rfl ?_
  refine q_skip (by kernel_rfl) ?_
  refine q_seq (by kernel_rfl) ?_
  refine q_block (id := 1) (by kernel_rfl) ?_
  refine q_seq (by kernel_rfl) ?_
  refine q_region (by kernel_rfl) ?_
  refine Ops.regs 1 [(1, (i64 slot)), (2, (i64 to)), (6, (Value.bool false)), (7, (Value.pointer (some ⟨b1, 0, none⟩))), (9, (i64 (Ch.ownerAt (newCh s 16) slot))), (12, (i64 3)), (13, (Value.pointer (some ⟨b88, 0, none⟩))), (96, (Value.bool true)), (99, (Value.pointer (some ⟨b1, 0, none⟩))), (137, (Value.bool false)), (143, (Value.bool false))] (j := 1) (by kernel_rfl) (by kernel_rfl) ?_
  refine Ops.call (by kernel_rfl) (d := (some 100)) (by kernel_rfl) (Move_calls _ b1 (mv3 s slot to)  inv127 H125) ?_
  rintro _ w132 ⟨rfl, K133⟩
  refine ⟨_, _, rfl, rfl, ?_⟩
  have H134 := H125.keep K133 (fun h => h)
  clear H125
  have H135 := H128.keep K133 (fun h => h)
  clear H128
  have H136 := H129.keep K133 (fun h => h)
  clear H129
  have H137 := H130.keep K133 (fun h => h)
  clear H130
  have K138 := K131.trans K133 (U := none_) (fun i h1 h2 => h2) (fun i h1 h2 => by exact h2)
  clear K131
  clear K133
  refine Ops.new (o := rowL [(i64 0), (i64 0), (i64 0), (i64 0), (i64 0), (i64 0)] 34) (V := fun b => (Value.pointer (some ⟨b, 0, none⟩))) (by kernel_rfl) (d := (some 13)) (by kernel_rfl) (fun b => rfl) (fun b139 w140 hb141 H142 K143 hs144 => ?_)
  have lb139 : b88 < b139 := by have := H137.lt; omega
  have nb139 : w.heap.size ≤ b139 := by have := K138.size; omega
  have H145 := H134.keep K143 (fun h => h)
  clear H134
  have H146 := H135.keep K143 (fun h => h)
  clear H135
  have H147 := H136.keep K143 (fun h => h)
  clear H136
  have H148 := H137.keep K143 (fun h => h)
  clear H137
  have K149 := K138.trans K143 (U := none_) (fun i h1 h2 => h2) (fun i h1 h2 => by exact h2)
  clear K138
  clear K143 hs144
  refine Ops.put (t := 34) (b := b139) (off := 0) (v := (agg [(i64 slot), (i64 (Ch.ownerAt (newCh s 16) slot)), (i64 to), (i64 1), (i64 3), (i64 1)])) (ys := [(i64 slot), (i64 (Ch.ownerAt (newCh s 16) slot)), (i64 to), (i64 1), (i64 3), (i64 1)]) (by kernel_rfl) (by kernel_rfl) H142 (by kernel_rfl) (d := none) (by kernel_rfl) rfl (fun w150 H151 K152 => ?_)
  clear H142
  have H153 := H145.keep K152 (by intro h; change b1 = b139 at h; omega)
  clear H145
  have H154 := H146.keep K152 (by intro h; change b22 = b139 at h; omega)
  clear H146
  have H155 := H147.keep K152 (by intro h; change b41 = b139 at h; omega)
  clear H147
  have H156 := H148.keep K152 (by intro h; change b88 = b139 at h; omega)
  clear H148
  have K157 := K149.trans K152 (U := none_) (fun i h1 h2 => h2) (fun i h1 h2 => by have h2 : i = b139 := h2; exfalso; omega)
  clear K149
  clear K152
  refine Ops.done (by kernel_rfl) ?_
  refine q_seq (by kernel_rfl) ?_
  refine q_seq (by kernel_rfl) ?_
  refine q_region (by kernel_rfl) ?_
  refine Ops.regs 1 [(1, (i64 slot)), (2, (i64 to)), (6, (Value.bool false)), (7, (Value.pointer (some ⟨b1, 0, none⟩))), (9, (i64 (Ch.ownerAt (newCh s 16) slot))), (12, (i64 3)), (13, (Value.pointer (some ⟨b139, 0, none⟩))), (96, (Value.bool true)), (101, (Value.pointer (some ⟨b139, 4, none⟩))), (137, (Value.bool false)), (143, (Value.bool false))] (j := 1) (by kernel_rfl) (by kernel_rfl) ?_
  refine Ops.go (v := (i64 3)) (by kernel_rfl) (Runs.load (t := 3) (a := ⟨b139, 4, none⟩) (by kernel_rfl) (H151.loads (by kernel_rfl))) (d := (some 102)) (by kernel_rfl) rfl ?_
  refine Ops.regs 4 [(1, (i64 slot)), (2, (i64 to)), (6, (Value.bool false)), (7, (Value.pointer (some ⟨b1, 0, none⟩))), (9, (i64 (Ch.ownerAt (newCh s 16) slot))), (12, (i64 3)), (13, (Value.pointer (some ⟨b139, 0, none⟩))), (96, (Value.bool true)), (105, (Value.bool false)), (106, (Value.pointer (some ⟨b139, 1, none⟩))), (137, (Value.bool false)), (143, (Value.bool false))] (j := 6) (by kernel_rfl) (by kernel_rfl) ?_
  refine Ops.go (v := (i64 (Ch.ownerAt (newCh s 16) slot))) (by kernel_rfl) (Runs.load (t := 3) (a := ⟨b139, 1, none⟩) (by kernel_rfl) (H151.loads (by kernel_rfl))) (d := (some 107)) (by kernel_rfl) rfl ?_
  refine Ops.regs 4 [(1, (i64 slot)), (2, (i64 to)), (6, (Value.bool false)), (7, (Value.pointer (some ⟨b1, 0, none⟩))), (9, (i64 (Ch.ownerAt (newCh s 16) slot))), (12, (i64 3)), (13, (Value.pointer (some ⟨b139, 0, none⟩))), (96, (Value.bool true)), (111, (Value.bool ((Ch.ownerAt (newCh s 16) slot) != (Ch.ownerAt (newCh s 16) slot)))), (137, (Value.bool false)), (143, (Value.bool false))] (j := 11) (by kernel_rfl) (by kernel_rfl) ?_
  rw [h56]
  refine Ops.regs 1 [(1, (i64 slot)), (2, (i64 to)), (6, (Value.bool false)), (7, (Value.pointer (some ⟨b1, 0, none⟩))), (9, (i64 (Ch.ownerAt (newCh s 16) slot))), (12, (i64 3)), (13, (Value.pointer (some ⟨b139, 0, none⟩))), (96, (Value.bool true)), (111, (Value.bool false)), (112, (Value.pointer (some ⟨b139, 2, none⟩))), (137, (Value.bool false)), (143, (Value.bool false))] (j := 12) (by kernel_rfl) (by kernel_rfl) ?_
  refine Ops.go (v := (i64 to)) (by kernel_rfl) (Runs.load (t := 3) (a := ⟨b139, 2, none⟩) (by kernel_rfl) (H151.loads (by kernel_rfl))) (d := (some 113)) (by kernel_rfl) rfl ?_
  refine Ops.regs 4 [(1, (i64 slot)), (2, (i64 to)), (6, (Value.bool false)), (7, (Value.pointer (some ⟨b1, 0, none⟩))), (9, (i64 (Ch.ownerAt (newCh s 16) slot))), (12, (i64 3)), (13, (Value.pointer (some ⟨b139, 0, none⟩))), (96, (Value.bool true)), (117, (Value.bool (to != to))), (137, (Value.bool false)), (143, (Value.bool false))] (j := 17) (by kernel_rfl) (by kernel_rfl) ?_
  rw [h57]
  refine Ops.regs 1 [(1, (i64 slot)), (2, (i64 to)), (6, (Value.bool false)), (7, (Value.pointer (some ⟨b1, 0, none⟩))), (9, (i64 (Ch.ownerAt (newCh s 16) slot))), (12, (i64 3)), (13, (Value.pointer (some ⟨b139, 0, none⟩))), (96, (Value.bool true)), (117, (Value.bool false)), (118, (Value.pointer (some ⟨b139, 3, none⟩))), (137, (Value.bool false)), (143, (Value.bool false))] (j := 18) (by kernel_rfl) (by kernel_rfl) ?_
  refine Ops.go (v := (i64 1)) (by kernel_rfl) (Runs.load (t := 2) (a := ⟨b139, 3, none⟩) (by kernel_rfl) (H151.loads (by kernel_rfl))) (d := (some 119)) (by kernel_rfl) rfl ?_
  refine Ops.regs 5 [(1, (i64 slot)), (2, (i64 to)), (6, (Value.bool false)), (7, (Value.pointer (some ⟨b1, 0, none⟩))), (9, (i64 (Ch.ownerAt (newCh s 16) slot))), (12, (i64 3)), (13, (Value.pointer (some ⟨b139, 0, none⟩))), (96, (Value.bool true)), (122, (Value.bool false)), (123, (Value.pointer (some ⟨b1, 0, none⟩))), (124, (agg [(i64 3), (i64 0), (i64 0), (i64 0), (i64 0)])), (137, (Value.bool false)), (143, (Value.bool false))] (j := 24) (by kernel_rfl) (by kernel_rfl) ?_
  refine Ops.call (by kernel_rfl) (d := (some 125)) (by kernel_rfl) (Do_calls _ b1 (mv3 s slot to) ⟨3, 0, 0, 0, 0⟩ inv127 H153) ?_
  rintro _ w158 ⟨rfl, K159, H160⟩
  have e161 : (mv3 s slot to).do_ ⟨3, 0, 0, 0, 0⟩ = (⟨50, false, 0⟩, mv3 s slot to) := busy_audit (by show (3 : Int) ≠ 0; decide)
  have inv162 := Ch.Inv.do_ inv127 ⟨3, 0, 0, 0, 0⟩
  rw [e161] at H160 inv162 ⊢
  have inv162 : Ch.Inv (mv3 s slot to) := inv162
  clear e161
  refine ⟨_, _, rfl, rfl, ?_⟩
  have H163 := H154.keep K159 (by intro h; change b22 = b1 at h; omega)
  clear H154
  have H164 := H155.keep K159 (by intro h; change b41 = b1 at h; omega)
  clear H155
  have H165 := H156.keep K159 (by intro h; change b88 = b1 at h; omega)
  clear H156
  have H166 := H151.keep K159 (by intro h; change b139 = b1 at h; omega)
  clear H151
  have K167 := K157.trans K159 (U := none_) (fun i h1 h2 => h2) (fun i h1 h2 => by have h2 : i = b1 := h2; exfalso; omega)
  clear K157
  clear K159
  refine Ops.regs 8 [(1, (i64 slot)), (2, (i64 to)), (6, (Value.bool false)), (7, (Value.pointer (some ⟨b1, 0, none⟩))), (9, (i64 (Ch.ownerAt (newCh s 16) slot))), (12, (i64 3)), (13, (Value.pointer (some ⟨b139, 0, none⟩))), (96, (Value.bool true)), (129, (Value.bool false)), (130, (Value.pointer (some ⟨b1, 0, none⟩))), (133, (agg [(i64 1), (i64 slot), (i64 (Ch.ownerAt (newCh s 16) slot)), (i64 0), (i64 0)])), (137, (Value.bool false)), (143, (Value.bool false))] (j := 33) (by kernel_rfl) (by kernel_rfl) ?_
  refine Ops.call (by kernel_rfl) (d := (some 134)) (by kernel_rfl) (Do_calls _ b1 (mv3 s slot to) ⟨1, slot, Ch.ownerAt (newCh s 16) slot, 0, 0⟩ inv162 H160) ?_
  rintro _ w168 ⟨rfl, K169, H170⟩
  have e171 : (mv3 s slot to).do_ ⟨1, slot, Ch.ownerAt (newCh s 16) slot, 0, 0⟩ = (⟨50, false, 0⟩, mv3 s slot to) := busy_move (by show (3 : Int) ≠ 0; decide) hs (own_range h.1 h.2 hs)
  have inv172 := Ch.Inv.do_ inv162 ⟨1, slot, Ch.ownerAt (newCh s 16) slot, 0, 0⟩
  rw [e171] at H170 inv172 ⊢
  have inv172 : Ch.Inv (mv3 s slot to) := inv172
  clear e171
  refine ⟨_, _, rfl, rfl, ?_⟩
  have H173 := H163.keep K169 (by intro h; change b22 = b1 at h; omega)
  clear H163
  have H174 := H164.keep K169 (by intro h; change b41 = b1 at h; omega)
  clear H164
  have H175 := H165.keep K169 (by intro h; change b88 = b1 at h; omega)
  clear H165
  have H176 := H166.keep K169 (by intro h; change b139 = b1 at h; omega)
  clear H166
  have K177 := K167.trans K169 (U := none_) (fun i h1 h2 => h2) (fun i h1 h2 => by have h2 : i = b1 := h2; exfalso; omega)
  clear K167
  clear K169
  refine Ops.regs 3 [(1, (i64 slot)), (2, (i64 to)), (6, (Value.bool false)), (7, (Value.pointer (some ⟨b1, 0, none⟩))), (9, (i64 (Ch.ownerAt (newCh s 16) slot))), (12, (i64 3)), (13, (Value.pointer (some ⟨b139, 0, none⟩))), (96, (Value.bool true)), (137, (Value.bool false)), (143, (Value.bool false))] (j := 37) (by kernel_rfl) (by kernel_rfl) ?_
  refine Ops.done (by kernel_rfl) ?_
  refine q_else (o := .tmp 137) (by kernel_rfl) rfl ?_
  refine q_skip (by kernel_rfl) ?_
  refine q_seq (by kernel_rfl) ?_
  refine q_region (by kernel_rfl) ?_
  refine Ops.regs 3 [(1, (i64 slot)), (2, (i64 to)), (6, (Value.bool false)), (7, (Value.pointer (some ⟨b1, 0, none⟩))), (9, (i64 (Ch.ownerAt (newCh s 16) slot))), (12, (i64 3)), (13, (Value.pointer (some ⟨b139, 0, none⟩))), (96, (Value.bool true)), (137, (Value.bool false)), (138, (Value.pointer (some ⟨b1, 0, none⟩))), (140, (agg [(i64 2), (i64 0), (i64 0), (i64 1), (i64 3)])), (143, (Value.bool false))] (j := 3) (by kernel_rfl) (by kernel_rfl) ?_
  refine Ops.call (by kernel_rfl) (d := (some 141)) (by kernel_rfl) (Do_calls _ b1 (mv3 s slot to) ⟨2, 0, 0, 1, 3⟩ inv172 H170) ?_
  rintro _ w178 ⟨rfl, K179, H180⟩
  have e181 : (mv3 s slot to).do_ ⟨2, 0, 0, 1, 3⟩ = (⟨0, false, 1⟩, mv4 s slot to) := step_3
  have inv182 := Ch.Inv.do_ inv172 ⟨2, 0, 0, 1, 3⟩
  rw [e181] at H180 inv182 ⊢
  have inv182 : Ch.Inv (mv4 s slot to) := inv182
  clear e181
  refine ⟨_, _, rfl, rfl, ?_⟩
  have H183 := H173.keep K179 (by intro h; change b22 = b1 at h; omega)
  clear H173
  have H184 := H174.keep K179 (by intro h; change b41 = b1 at h; omega)
  clear H174
  have H185 := H175.keep K179 (by intro h; change b88 = b1 at h; omega)
  clear H175
  have H186 := H176.keep K179 (by intro h; change b139 = b1 at h; omega)
  clear H176
  have K187 := K177.trans K179 (U := none_) (fun i h1 h2 => h2) (fun i h1 h2 => by have h2 : i = b1 := h2; exfalso; omega)
  clear K177
  clear K179
  refine Ops.regs 2 [(1, (i64 slot)), (2, (i64 to)), (6, (Value.bool false)), (7, (Value.pointer (some ⟨b1, 0, none⟩))), (9, (i64 (Ch.ownerAt (newCh s 16) slot))), (12, (i64 3)), (13, (Value.pointer (some ⟨b139, 0, none⟩))), (96, (Value.bool true)), (137, (Value.bool false)), (143, (Value.bool false))] (j := 6) (by kernel_rfl) (by kernel_rfl) ?_
  refine Ops.done (by kernel_rfl) ?_
  refine q_else (o := .tmp 143) (by kernel_rfl) rfl ?_
  refine q_skip (by kernel_rfl) ?_
  refine q_region (by kernel_rfl) ?_
  refine Ops.regs 3 [(1, (i64 slot)), (2, (i64 to)), (6, (Value.bool false)), (7, (Value.pointer (some ⟨b1, 0, none⟩))), (9, (i64 (Ch.ownerAt (newCh s 16) slot))), (12, (i64 4)), (13, (Value.pointer (some ⟨b139, 0, none⟩))), (96, (Value.bool true)), (137, (Value.bool false)), (143, (Value.bool false))] (j := 3) (by kernel_rfl) (by kernel_rfl) ?_
  refine Ops.done (by kernel_rfl) ?_
  refine roll_step ?_
  refine q_seq (by kernel_rfl) ?_
  refine q_seq (by kernel_rfl) ?_
  refine q_region (by kernel_rfl) ?_
  refine Ops.regs 2 [(1, (i64 slot)), (2, (i64 to)), (6, (Value.bool false)), (7, (Value.pointer (some ⟨b1, 0, none⟩))), (9, (i64 (Ch.ownerAt (newCh s 16) slot))), (12, (i64 4)), (13, (Value.pointer (some ⟨b139, 0, none⟩))), (96, (Value.bool false)), (137, (Value.bool false)), (143, (Value.bool false))] (j := 2) (by kernel_rfl) (by kernel_rfl) ?_
  refine Ops.done (by kernel_rfl) ?_
  refine q_else (o := .tmp 96) (by kernel_rfl) rfl ?_
  refine q_exit (id := 0) (by kernel_rfl) ?_
  refine q_seq (by kernel_rfl) ?_
  refine q_seq (by kernel_rfl) ?_
  refine q_region (by kernel_rfl) ?_
  refine Ops.regs 1 [(1, (i64 slot)), (2, (i64 to)), (6, (Value.bool false)), (7, (Value.pointer (some ⟨b1, 0, none⟩))), (14, (i64 0))] (j := 1) (by kernel_rfl) (by kernel_rfl) ?_
  refine Ops.done (by kernel_rfl) ?_
  refine q_block (id := 2) (by kernel_rfl) ?_
  refine q_keep (R := [(1, (i64 slot)), (2, (i64 to)), (7, (Value.pointer (some ⟨b1, 0, none⟩))), (14, (i64 0))]) (by kernel_rfl) ?_
  refine q_loop (fun (k : Nat) L (wx : World) => L = [(1, (i64 slot)), (2, (i64 to)), (7, (Value.pointer (some ⟨b1, 0, none⟩))), (14, (i64 ((k : Nat) : Int)))] ∧ k ≤ 16 ∧ Keeps none_ w wx ∧ Has wx b1 (rowL (chL (mv4 s slot to)) 118)) (fun (k : Nat) => 16 - k) 0 (by kernel_rfl) ⟨rfl, by omega, K187, H180⟩ ?_
  clear H180 K187
  rintro k _ w188 ⟨rfl, hk, K189, H190⟩
  refine q_seq (by kernel_rfl) ?_
  refine q_seq (by kernel_rfl) ?_
  refine q_region (by kernel_rfl) ?_
  refine Ops.regs 2 [(1, (i64 slot)), (2, (i64 to)), (7, (Value.pointer (some ⟨b1, 0, none⟩))), (14, (i64 ((k : Nat) : Int))), (145, (Value.bool (decide (((k : Nat) : Int) < 16))))] (j := 2) (by kernel_rfl) (by kernel_rfl) ?_
  refine Ops.done (by kernel_rfl) ?_
  refine q_cond (o := .tmp 145) (b := (decide (((k : Nat) : Int) < 16))) (by kernel_rfl) rfl (fun h191 => ?_) (fun h191 => ?_)
  · rw [h191]
    have p192 : ((k : Nat) : Int) < 16 := of_decide_eq_true h191
    refine q_skip (by kernel_rfl) ?_
    refine q_seq (by kernel_rfl) ?_
    refine q_block (id := 3) (by kernel_rfl) ?_
    refine q_seq (by kernel_rfl) ?_
    refine q_region (by kernel_rfl) ?_
    refine Ops.regs 4 [(1, (i64 slot)), (2, (i64 to)), (7, (Value.pointer (some ⟨b1, 0, none⟩))), (14, (i64 ((k : Nat) : Int))), (145, (Value.bool true)), (151, (Value.bool (((k : Nat) : Int) == slot)))] (j := 4) (by kernel_rfl) (by kernel_rfl) ?_
    refine Ops.split (((k : Nat) : Int) == slot) (fun h193 => ?_) (fun h193 => ?_)
    · rw [h193]
      have p194 : ((k : Nat) : Int) = slot := of_beq_t h193
      refine Ops.regs 2 [(1, (i64 slot)), (2, (i64 to)), (7, (Value.pointer (some ⟨b1, 0, none⟩))), (14, (i64 ((k : Nat) : Int))), (145, (Value.bool true)), (151, (Value.bool true)), (152, (Value.pointer (some ⟨b1, 0, none⟩))), (153, (i64 ((k : Nat) : Int)))] (j := 6) (by kernel_rfl) (by kernel_rfl) ?_
      refine Ops.call (by kernel_rfl) (d := (some 154)) (by kernel_rfl) (Owner_calls _ b1 (mv4 s slot to) ((k : Nat) : Int) inv182 H190) ?_
      rintro _ w195 ⟨rfl, K196⟩
      refine ⟨_, _, rfl, rfl, ?_⟩
      have H197 := H190.keep K196 (fun h => h)
      clear H190
      have K198 := K189.trans K196 (U := none_) (fun i h1 h2 => h2) (fun i h1 h2 => by exact h2)
      clear K189
      clear K196
      refine Ops.regs 3 [(1, (i64 slot)), (2, (i64 to)), (7, (Value.pointer (some ⟨b1, 0, none⟩))), (14, (i64 ((k : Nat) : Int))), (145, (Value.bool true)), (151, (Value.bool true)), (157, (Value.bool ((Ch.ownerAt (mv4 s slot to) ((k : Nat) : Int)) != to)))] (j := 10) (by kernel_rfl) (by kernel_rfl) ?_
      have h199 : ((Ch.ownerAt (mv4 s slot to) ((k : Nat) : Int)) != to) = false := by
          have hk2 : ((k : Nat) : Int) = slot := by assumption
          have e : Ch.ownerAt (mv4 s slot to) ((k : Nat) : Int) = to := by rw [hk2]; exact mv4_owner hs
          simp [e]
      rw [h199]
      refine Ops.regs 2 [(1, (i64 slot)), (2, (i64 to)), (7, (Value.pointer (some ⟨b1, 0, none⟩))), (14, (i64 ((k : Nat) : Int))), (145, (Value.bool true)), (151, (Value.bool true)), (157, (Value.bool false)), (158, (Value.pointer (some ⟨b1, 0, none⟩))), (159, (i64 ((k : Nat) : Int)))] (j := 12) (by kernel_rfl) (by kernel_rfl) ?_
      refine Ops.call (by kernel_rfl) (d := (some 160)) (by kernel_rfl) (Epoch_calls _ b1 (mv4 s slot to) ((k : Nat) : Int) inv182 H197) ?_
      rintro _ w200 ⟨rfl, K201⟩
      refine ⟨_, _, rfl, rfl, ?_⟩
      have H202 := H197.keep K201 (fun h => h)
      clear H197
      have K203 := K198.trans K201 (U := none_) (fun i h1 h2 => h2) (fun i h1 h2 => by exact h2)
      clear K198
      clear K201
      refine Ops.regs 4 [(1, (i64 slot)), (2, (i64 to)), (7, (Value.pointer (some ⟨b1, 0, none⟩))), (14, (i64 ((k : Nat) : Int))), (145, (Value.bool true)), (164, (Value.bool ((Ch.epochAt (mv4 s slot to) ((k : Nat) : Int)) != 1)))] (j := 17) (by kernel_rfl) (by kernel_rfl) ?_
      have h204 : ((Ch.epochAt (mv4 s slot to) ((k : Nat) : Int)) != 1) = false := by
          have hk2 : ((k : Nat) : Int) = slot := by assumption
          have e : Ch.epochAt (mv4 s slot to) ((k : Nat) : Int) = 1 := by rw [hk2]; exact mv4_epoch hs
          simp [e]
      rw [h204]
      refine Ops.regs 4 [(1, (i64 slot)), (2, (i64 to)), (7, (Value.pointer (some ⟨b1, 0, none⟩))), (14, (i64 ((k : Nat) : Int))), (145, (Value.bool true)), (164, (Value.bool false)), (168, (Value.bool (((k : Nat) : Int) != slot)))] (j := 21) (by kernel_rfl) (by kernel_rfl) ?_
      have h205 : (((k : Nat) : Int) != slot) = false := bne_f (by omega)
      rw [h205]
      refine Ops.regs 6 [(1, (i64 slot)), (2, (i64 to)), (7, (Value.pointer (some ⟨b1, 0, none⟩))), (14, (i64 ((k : Nat) : Int))), (145, (Value.bool true)), (174, (Value.bool false))] (j := 27) (by kernel_rfl) (by kernel_rfl) ?_
      refine Ops.done (by kernel_rfl) ?_
      refine q_else (o := .tmp 174) (by kernel_rfl) rfl ?_
      refine q_skip (by kernel_rfl) ?_
      refine q_region (by kernel_rfl) ?_
      refine Ops.regs 2 [(1, (i64 slot)), (2, (i64 to)), (7, (Value.pointer (some ⟨b1, 0, none⟩))), (14, (i64 ((k : Nat) : Int))), (145, (Value.bool true)), (147, (i64 (IntKind.i64.wrap (((k : Nat) : Int) + 1)))), (174, (Value.bool false))] (j := 2) (by kernel_rfl) (by kernel_rfl) ?_
      have e206 : IntKind.i64.wrap (((k : Nat) : Int) + 1) = ((k : Nat) : Int) + 1 := wrap_i64 (by omega) (by omega)
      rw [e206]
      refine Ops.regs 1 [(1, (i64 slot)), (2, (i64 to)), (7, (Value.pointer (some ⟨b1, 0, none⟩))), (14, (i64 (((k : Nat) : Int) + 1))), (145, (Value.bool true)), (174, (Value.bool false))] (j := 3) (by kernel_rfl) (by kernel_rfl) ?_
      refine Ops.keep (R := [(1, (i64 slot)), (2, (i64 to)), (7, (Value.pointer (some ⟨b1, 0, none⟩))), (14, (i64 ((k + 1 : Nat) : Int)))]) (by kernel_rfl) ?_
      refine Ops.done (by kernel_rfl) ?_
      exact ⟨k + 1, ⟨rfl, by omega, K203, H202⟩, (show 16 - (k + 1) < 16 - k from by omega)⟩
    · rw [h193]
      have p207 : ¬ (((k : Nat) : Int) = slot) := of_beq_f h193
      refine Ops.regs 17 [(1, (i64 slot)), (2, (i64 to)), (7, (Value.pointer (some ⟨b1, 0, none⟩))), (14, (i64 ((k : Nat) : Int))), (145, (Value.bool true)), (164, (Value.bool false)), (168, (Value.bool (((k : Nat) : Int) != slot)))] (j := 21) (by kernel_rfl) (by kernel_rfl) ?_
      have h208 : (((k : Nat) : Int) != slot) = true := bne_t (by omega)
      rw [h208]
      refine Ops.regs 2 [(1, (i64 slot)), (2, (i64 to)), (7, (Value.pointer (some ⟨b1, 0, none⟩))), (14, (i64 ((k : Nat) : Int))), (145, (Value.bool true)), (164, (Value.bool false)), (168, (Value.bool true)), (169, (Value.pointer (some ⟨b1, 0, none⟩))), (170, (i64 ((k : Nat) : Int)))] (j := 23) (by kernel_rfl) (by kernel_rfl) ?_
      refine Ops.call (by kernel_rfl) (d := (some 171)) (by kernel_rfl) (Epoch_calls _ b1 (mv4 s slot to) ((k : Nat) : Int) inv182 H190) ?_
      rintro _ w209 ⟨rfl, K210⟩
      refine ⟨_, _, rfl, rfl, ?_⟩
      have H211 := H190.keep K210 (fun h => h)
      clear H190
      have K212 := K189.trans K210 (U := none_) (fun i h1 h2 => h2) (fun i h1 h2 => by exact h2)
      clear K189
      clear K210
      refine Ops.regs 3 [(1, (i64 slot)), (2, (i64 to)), (7, (Value.pointer (some ⟨b1, 0, none⟩))), (14, (i64 ((k : Nat) : Int))), (145, (Value.bool true)), (174, (Value.bool ((Ch.epochAt (mv4 s slot to) ((k : Nat) : Int)) != 0)))] (j := 27) (by kernel_rfl) (by kernel_rfl) ?_
      refine Ops.done (by kernel_rfl) ?_
      have h213 : ((Ch.epochAt (mv4 s slot to) ((k : Nat) : Int)) != 0) = false := by
          have e : Ch.epochAt (mv4 s slot to) ((k : Nat) : Int) = 0 := mv4_epoch_ne hs (by omega) (by assumption)
          simp [e]
      rw [h213]
      refine q_else (o := .tmp 174) (by kernel_rfl) rfl ?_
      refine q_skip (by kernel_rfl) ?_
      refine q_region (by kernel_rfl) ?_
      refine Ops.regs 2 [(1, (i64 slot)), (2, (i64 to)), (7, (Value.pointer (some ⟨b1, 0, none⟩))), (14, (i64 ((k : Nat) : Int))), (145, (Value.bool true)), (147, (i64 (IntKind.i64.wrap (((k : Nat) : Int) + 1)))), (174, (Value.bool false))] (j := 2) (by kernel_rfl) (by kernel_rfl) ?_
      have e214 : IntKind.i64.wrap (((k : Nat) : Int) + 1) = ((k : Nat) : Int) + 1 := wrap_i64 (by omega) (by omega)
      rw [e214]
      refine Ops.regs 1 [(1, (i64 slot)), (2, (i64 to)), (7, (Value.pointer (some ⟨b1, 0, none⟩))), (14, (i64 (((k : Nat) : Int) + 1))), (145, (Value.bool true)), (174, (Value.bool false))] (j := 3) (by kernel_rfl) (by kernel_rfl) ?_
      refine Ops.keep (R := [(1, (i64 slot)), (2, (i64 to)), (7, (Value.pointer (some ⟨b1, 0, none⟩))), (14, (i64 ((k + 1 : Nat) : Int)))]) (by kernel_rfl) ?_
      refine Ops.done (by kernel_rfl) ?_
      exact ⟨k + 1, ⟨rfl, by omega, K212, H211⟩, (show 16 - (k + 1) < 16 - k from by omega)⟩
  · rw [h191]
    have p215 : ¬ (((k : Nat) : Int) < 16) := of_decide_eq_false h191
    refine q_exit (id := 2) (by kernel_rfl) ?_
    refine q_seq (by kernel_rfl) ?_
    refine q_region (by kernel_rfl) ?_
    refine Ops.regs 1 [(7, (Value.pointer (some ⟨b1, 0, none⟩))), (175, (Value.pointer (some ⟨b1, 0, none⟩)))] (j := 1) (by kernel_rfl) (by kernel_rfl) ?_
    refine Ops.call (by kernel_rfl) (d := (some 176)) (by kernel_rfl) (Move_calls _ b1 (mv4 s slot to)  inv182 H190) ?_
    rintro _ w216 ⟨rfl, K217⟩
    refine ⟨_, _, rfl, rfl, ?_⟩
    have H218 := H190.keep K217 (fun h => h)
    clear H190
    have K219 := K189.trans K217 (U := none_) (fun i h1 h2 => h2) (fun i h1 h2 => by exact h2)
    clear K189
    clear K217
    refine Ops.regs 5 [(179, (Value.bool true)), (180, (Value.pointer (some ⟨b1, 0, none⟩))), (181, (agg [(i64 3), (i64 0), (i64 0), (i64 0), (i64 0)]))] (j := 7) (by kernel_rfl) (by kernel_rfl) ?_
    refine Ops.call (by kernel_rfl) (d := (some 182)) (by kernel_rfl) (Do_calls _ b1 (mv4 s slot to) ⟨3, 0, 0, 0, 0⟩ inv182 H218) ?_
    rintro _ w220 ⟨rfl, K221, H222⟩
    have e223 : (mv4 s slot to).do_ ⟨3, 0, 0, 0, 0⟩ = (⟨0, true, 2⟩, ({ mv4 s slot to with began := 2, audit := 2, phase := 1 } : Ch)) := mv4_audit
    have inv224 := Ch.Inv.do_ inv182 ⟨3, 0, 0, 0, 0⟩
    rw [e223] at H222 inv224 ⊢
    have inv224 : Ch.Inv ({ mv4 s slot to with began := 2, audit := 2, phase := 1 } : Ch) := inv224
    clear e223
    refine ⟨_, _, rfl, rfl, ?_⟩
    have K225 := K219.trans K221 (U := none_) (fun i h1 h2 => h2) (fun i h1 h2 => by have h2 : i = b1 := h2; exfalso; omega)
    clear K219
    clear K221
    refine Ops.regs 3 [(185, (Value.bool true))] (j := 11) (by kernel_rfl) (by kernel_rfl) ?_
    refine Ops.call (by kernel_rfl) (d := (some 186)) (by kernel_rfl) (known_calls _) ?_
    rintro _ w226 ⟨rfl, K227⟩
    refine ⟨_, _, rfl, rfl, ?_⟩
    have H228 := H222.keep K227 (fun h => h)
    clear H222
    have K229 := K225.trans K227 (U := none_) (fun i h1 h2 => h2) (fun i h1 h2 => by exact h2)
    clear K225
    clear K227
    refine Ops.regs 2 [(6, (Value.bool true))] (j := 14) (by kernel_rfl) (by kernel_rfl) ?_
    refine Ops.done (by kernel_rfl) ?_
    refine q_ret (by kernel_rfl) ?_
    refine ⟨(Value.bool true), retv_tmp rfl rfl, ?_⟩
    exact ⟨rfl, K229⟩

theorem Moves_calls (w : World) (s slot to : Int) : Calls Try.prog 3 ⟨[i64 s, i64 slot, i64 to]⟩ w (fun e w' => e = .returned (.bool true) ∧ Keeps none_ w w') := by
  by_cases h : 1 ≤ s ∧ s ≤ 3
  · by_cases hb : 0 ≤ slot ∧ slot < 16 ∧ 1 ≤ to ∧ to ≤ s
    · by_cases he : Ch.ownerAt (newCh s 16) slot = to
      · exact Moves_same w s slot to h ⟨hb.1, hb.2.1⟩ hb.2.2 he
      · exact Moves_other w s slot to h ⟨hb.1, hb.2.1⟩ hb.2.2 he
    · exact Moves_bad w s slot to h hb
  · exact Moves_none w s slot to h
end Go.Proofs.Ytoljbckhoigibaa
