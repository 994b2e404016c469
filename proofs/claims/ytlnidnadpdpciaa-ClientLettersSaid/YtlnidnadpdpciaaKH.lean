/- letters compared; what counts of them -/
import Derived.Test.YtlnidnadpdpciaaProg
import Derived.Test.YtlnidnadpdpciaaKG
import Derived.Test.YtlnidnadpdpciaaKE
import Derived.Test.YtlnidnadpdpciaaLX
set_option linter.unusedVariables false
namespace Go.Proofs.Ytlnidnadpdpciaa
open Go.Q Go.RowKit

theorem Group_calls (w : World) (o : Opm)  : Calls Try.prog 25 ⟨[(agg [(i64 o.kind), (Value.string (str o.frm)), (Value.string (str o.to)), (i64 o.amount), (Value.string (str o.key)), (i64 o.slot), (i64 o.shard)])]⟩ w (fun e w' => e = .returned (i64 (groupI o.kind)) ∧ Keeps none_ w w') := by
 have K0 : Keeps none_ w w := Keeps.refl w
 refine q_calls Try.func25 (by kernel_rfl) (by kernel_rfl) ?_
 refine qs ?_
 refine qg ?_
 refine Ops.new (o := rowL [(i64 o.kind), (Value.string (str o.frm)), (Value.string (str o.to)), (i64 o.amount), (Value.string (str o.key)), (i64 o.slot), (i64 o.shard)] 23) (V := fun b => (ptr b)) (by kernel_rfl) (d := (some 1)) (by kernel_rfl) (fun b => rfl) (fun b1 w2 hb3 H4 K5 hs6 => ?_)
 have nb1 : w.heap.size ≤ b1 := by have := K0.size; omega
 replace K0 := K0.t0 K5
 clear K5 hs6
 refine og 1 [(1, (ptr b1)), (2, (i64 0))] 2 ?_
 refine od ?_
 refine qs ?_
 refine qs ?_
 refine qg ?_
 refine og 1 [(1, (ptr b1)), (2, (i64 0)), (3, (ptr b1))] 1 ?_
 refine Ops.go (v := (i64 o.kind)) (by kernel_rfl) (Runs.load (t := 3) (a := ⟨b1, 0, none⟩) (by kernel_rfl) (H4.loads (by kernel_rfl))) (d := (some 4)) (by kernel_rfl) rfl ?_
 refine og 2 [(1, (ptr b1)), (2, (i64 0)), (6, (Value.bool (o.kind == 6)))] 4 ?_
 refine Ops.split (o.kind == 6) (fun h7 => ?_) (fun h7 => ?_)
 ·rw [h7]
  have p8 : o.kind = 6 := of_beq_t h7
  refine og 4 [(2, (i64 0)), (10, (Value.bool true))] 8 ?_
  refine od ?_
  refine q_then (o := .tmp 10) (by kernel_rfl) rfl ?_
  refine qs ?_
  refine qg ?_
  refine og 1 [(2, (i64 0))] 1 ?_
  refine od ?_
  refine q_ret (by kernel_rfl) ?_
  refine ⟨(i64 0), retv_tmp rfl rfl, ?_⟩
  exact ⟨by unfold groupI; first | (rw [if_pos (by omega)]; done) | (rw [if_neg (by omega)]; done), K0⟩
 ·rw [h7]
  have p9 : ¬ (o.kind = 6) := of_beq_f h7
  refine og 1 [(2, (i64 0)), (6, (Value.bool false)), (7, (ptr b1))] 5 ?_
  refine Ops.go (v := (i64 o.kind)) (by kernel_rfl) (Runs.load (t := 3) (a := ⟨b1, 0, none⟩) (by kernel_rfl) (H4.loads (by kernel_rfl))) (d := (some 8)) (by kernel_rfl) rfl ?_
  refine og 2 [(2, (i64 0)), (10, (Value.bool (o.kind == 7)))] 8 ?_
  refine od ?_
  refine q_cond (o := .tmp 10) (b := (o.kind == 7)) (by kernel_rfl) rfl (fun h10 => ?_) (fun h10 => ?_)
  ·rw [h10]
   have p11 : o.kind = 7 := of_beq_t h10
   refine qs ?_
   refine qg ?_
   refine og 1 [(2, (i64 0))] 1 ?_
   refine od ?_
   refine q_ret (by kernel_rfl) ?_
   refine ⟨(i64 0), retv_tmp rfl rfl, ?_⟩
   exact ⟨by unfold groupI; first | (rw [if_pos (by omega)]; done) | (rw [if_neg (by omega)]; done), K0⟩
  ·rw [h10]
   have p12 : ¬ (o.kind = 7) := of_beq_f h10
   refine q_skip (by kernel_rfl) ?_
   refine qs ?_
   refine qg ?_
   refine og 1 [(2, (i64 (-1)))] 1 ?_
   refine od ?_
   refine q_ret (by kernel_rfl) ?_
   refine ⟨(i64 (-1)), retv_tmp rfl rfl, ?_⟩
   exact ⟨by unfold groupI; first | (rw [if_pos (by omega)]; done) | (rw [if_neg (by omega)]; done), K0⟩

theorem LGroup_calls (w : World) (o : Opm)  : Calls Try.prog 26 ⟨[(agg [(i64 o.kind), (Value.string (str o.frm)), (Value.string (str o.to)), (i64 o.amount), (Value.string (str o.key)), (i64 o.slot), (i64 o.shard)])]⟩ w (fun e w' => e = .returned (i64 (groupI o.kind)) ∧ Keeps none_ w w') := by
 have K0 : Keeps none_ w w := Keeps.refl w
 refine q_calls Try.func26 (by kernel_rfl) (by kernel_rfl) ?_
 refine qs ?_
 refine qg ?_
 refine Ops.new (o := rowL [(i64 o.kind), (Value.string (str o.frm)), (Value.string (str o.to)), (i64 o.amount), (Value.string (str o.key)), (i64 o.slot), (i64 o.shard)] 23) (V := fun b => (ptr b)) (by kernel_rfl) (d := (some 1)) (by kernel_rfl) (fun b => rfl) (fun b1 w2 hb3 H4 K5 hs6 => ?_)
 have nb1 : w.heap.size ≤ b1 := by have := K0.size; omega
 replace K0 := K0.t0 K5
 clear K5 hs6
 refine og 1 [(1, (ptr b1)), (2, (i64 0))] 2 ?_
 refine od ?_
 refine qs ?_
 refine qs ?_
 refine qg ?_
 refine og 1 [(1, (ptr b1)), (2, (i64 0)), (3, (ptr b1))] 1 ?_
 refine Ops.go (v := (i64 o.kind)) (by kernel_rfl) (Runs.load (t := 3) (a := ⟨b1, 0, none⟩) (by kernel_rfl) (H4.loads (by kernel_rfl))) (d := (some 4)) (by kernel_rfl) rfl ?_
 refine og 2 [(1, (ptr b1)), (2, (i64 0)), (6, (Value.bool (o.kind == 6)))] 4 ?_
 refine Ops.split (o.kind == 6) (fun h7 => ?_) (fun h7 => ?_)
 ·rw [h7]
  have p8 : o.kind = 6 := of_beq_t h7
  refine og 4 [(2, (i64 0)), (10, (Value.bool true))] 8 ?_
  refine od ?_
  refine q_then (o := .tmp 10) (by kernel_rfl) rfl ?_
  refine qs ?_
  refine qg ?_
  refine og 1 [(2, (i64 0))] 1 ?_
  refine od ?_
  refine q_ret (by kernel_rfl) ?_
  refine ⟨(i64 0), retv_tmp rfl rfl, ?_⟩
  exact ⟨by unfold groupI; first | (rw [if_pos (by omega)]; done) | (rw [if_neg (by omega)]; done), K0⟩
 ·rw [h7]
  have p9 : ¬ (o.kind = 6) := of_beq_f h7
  refine og 1 [(2, (i64 0)), (6, (Value.bool false)), (7, (ptr b1))] 5 ?_
  refine Ops.go (v := (i64 o.kind)) (by kernel_rfl) (Runs.load (t := 3) (a := ⟨b1, 0, none⟩) (by kernel_rfl) (H4.loads (by kernel_rfl))) (d := (some 8)) (by kernel_rfl) rfl ?_
  refine og 2 [(2, (i64 0)), (10, (Value.bool (o.kind == 7)))] 8 ?_
  refine od ?_
  refine q_cond (o := .tmp 10) (b := (o.kind == 7)) (by kernel_rfl) rfl (fun h10 => ?_) (fun h10 => ?_)
  ·rw [h10]
   have p11 : o.kind = 7 := of_beq_t h10
   refine qs ?_
   refine qg ?_
   refine og 1 [(2, (i64 0))] 1 ?_
   refine od ?_
   refine q_ret (by kernel_rfl) ?_
   refine ⟨(i64 0), retv_tmp rfl rfl, ?_⟩
   exact ⟨by unfold groupI; first | (rw [if_pos (by omega)]; done) | (rw [if_neg (by omega)]; done), K0⟩
  ·rw [h10]
   have p12 : ¬ (o.kind = 7) := of_beq_f h10
   refine q_skip (by kernel_rfl) ?_
   refine qs ?_
   refine qg ?_
   refine og 1 [(2, (i64 (-1)))] 1 ?_
   refine od ?_
   refine q_ret (by kernel_rfl) ?_
   refine ⟨(i64 (-1)), retv_tmp rfl rfl, ?_⟩
   exact ⟨by unfold groupI; first | (rw [if_pos (by omega)]; done) | (rw [if_neg (by omega)]; done), K0⟩

theorem known_calls (w : World)   : Calls Try.prog 9 ⟨[]⟩ w (fun e w' => e = .returned (.bool true) ∧ Keeps none_ w w') := by
 have K0 : Keeps none_ w w := Keeps.refl w
 refine q_calls Try.func9 (by kernel_rfl) (by kernel_rfl) ?_
 refine qs ?_
 refine qg ?_
 refine og 1 [(0, (Value.bool false))] 1 ?_
 refine od ?_
 refine qs ?_
 refine qg ?_
 refine og 2 [(0, (Value.bool false)), (5, (agg [(i64 3), (i64 3), (i64 0), (i64 0), (Value.string ByteArray.empty), (Value.string ByteArray.empty), (i64 0), (Value.string ByteArray.empty), (i64 0), (i64 0), (i64 42), (i64 0), (Value.slice none 0 0), (Value.slice none 0 0)]))] 2 ?_
 refine Ops.call (by kernel_rfl) (d := (some 6)) (by kernel_rfl) (Pack_calls _ (⟨3, 3, 0, ⟨0, [], [], 0, [], 0, 0⟩, ⟨42, 0, []⟩, []⟩ : LetP) none 0 none 0 ⟨by decide, by decide, by decide, ⟨by decide, by decide, by decide, by decide⟩, ⟨by decide, by decide, fun r hr => by cases hr⟩⟩ (Rd.nil _ _) (Rd.nil _ _)) ?_
 rintro _ w2 ⟨v1, rfl, K3, hO4⟩
 have O5 := own_base hO4 K0.size
 refine ⟨_, _, rfl, rfl, ?_⟩
 replace K0 := K0.t0 K3
 clear K3
 refine og 5 [(0, (Value.bool false)), (1, v1), (2, (i64 ((packB (⟨3, 3, 0, ⟨0, [], [], 0, [], 0, 0⟩, ⟨42, 0, []⟩, []⟩ : LetP)).2)))] 8 ?_
 refine od ?_
 refine qs ?_
 refine qg ?_
 refine og 3 [(0, (Value.bool false)), (1, v1), (11, (Value.bool (((packB (⟨3, 3, 0, ⟨0, [], [], 0, [], 0, 0⟩, ⟨42, 0, []⟩, []⟩ : LetP)).2) == 0)))] 3 ?_
 have h6 : (((packB (⟨3, 3, 0, ⟨0, [], [], 0, [], 0, 0⟩, ⟨42, 0, []⟩, []⟩ : LetP)).2) == 0) = true := by first | kernel_rfl | decide +kernel
 rw [h6]
 refine og 1 [(0, (Value.bool false)), (11, (Value.bool true)), (12, v1)] 4 ?_
 refine Ops.go (v := (Value.string (str ((packB (⟨3, 3, 0, ⟨0, [], [], 0, [], 0, 0⟩, ⟨42, 0, []⟩, []⟩ : LetP)).1)))) (by kernel_rfl) (Runs.b2s (s := 28) (d := 9) (e := 5) (by kernel_rfl) (by kernel_rfl) (by kernel_rfl) (OwnB.rd O5)) (d := (some 13)) (by kernel_rfl) rfl ?_
 refine Ops.go (v := (Value.bool (((packB (⟨3, 3, 0, ⟨0, [], [], 0, [], 0, 0⟩, ⟨42, 0, []⟩, []⟩ : LetP)).1) == [6, 6, 84, 0, 0]))) (by kernel_rfl) (Runs.streq (t := 9) (by kernel_rfl)) (d := (some 14)) (by kernel_rfl) rfl ?_
 refine og 2 [(0, (Value.bool false)), (16, (Value.bool (((packB (⟨3, 3, 0, ⟨0, [], [], 0, [], 0, 0⟩, ⟨42, 0, []⟩, []⟩ : LetP)).1) == [6, 6, 84, 0, 0])))] 8 ?_
 have h7 : (((packB (⟨3, 3, 0, ⟨0, [], [], 0, [], 0, 0⟩, ⟨42, 0, []⟩, []⟩ : LetP)).1) == [6, 6, 84, 0, 0]) = true := by first | kernel_rfl | decide +kernel
 rw [h7]
 refine og 1 [(0, (Value.bool false)), (16, (Value.bool true)), (17, (agg [(i64 4), (Value.string ByteArray.empty), (Value.string ByteArray.empty), (i64 0), (Value.string ByteArray.empty), (i64 0), (i64 0)]))] 9 ?_
 refine Ops.call (by kernel_rfl) (d := (some 18)) (by kernel_rfl) (Group_calls _ (⟨4, [], [], 0, [], 0, 0⟩ : Opm)) ?_
 rintro _ w9 ⟨rfl, K8⟩
 refine ⟨_, _, rfl, rfl, ?_⟩
 replace K0 := K0.t0 K8
 replace O5 := own_keep0 O5 K8
 clear K8
 refine og 3 [(0, (Value.bool false)), (21, (Value.bool ((groupI 4) == (-1))))] 13 ?_
 have h10 : ((groupI 4) == (-1)) = true := by first | kernel_rfl | decide +kernel
 rw [h10]
 refine og 1 [(0, (Value.bool false)), (21, (Value.bool true)), (22, (agg [(i64 6), (Value.string ByteArray.empty), (Value.string ByteArray.empty), (i64 0), (Value.string ByteArray.empty), (i64 0), (i64 0)]))] 14 ?_
 refine Ops.call (by kernel_rfl) (d := (some 23)) (by kernel_rfl) (Group_calls _ (⟨6, [], [], 0, [], 0, 0⟩ : Opm)) ?_
 rintro _ w12 ⟨rfl, K11⟩
 refine ⟨_, _, rfl, rfl, ?_⟩
 replace K0 := K0.t0 K11
 replace O5 := own_keep0 O5 K11
 clear K11
 refine og 3 [(0, (Value.bool ((groupI 6) == 0)))] 18 ?_
 refine od ?_
 refine q_ret (by kernel_rfl) ?_
 refine ⟨(Value.bool ((groupI 6) == 0)), retv_tmp rfl rfl, ?_⟩
 exact ⟨by first | rfl | kernel_rfl, K0⟩

theorem Same_calls (w : World) (x : LetP) (V : Option Addr) (c : Nat) (D : Option Addr) (dc : Nat) (y : LetP) (U : Option Addr) (uc : Nat) (E : Option Addr) (ec : Nat) (hV : RdR w (.slice V x.rep.rows.length c) x.rep.rows) (hD : RdB w (.slice D x.body.length dc) x.body) (hU : RdR w (.slice U y.rep.rows.length uc) y.rep.rows) (hE : RdB w (.slice E y.body.length ec) y.body) : Calls Try.prog 10 ⟨[(agg [(i64 x.kind), (i64 x.n), (i64 x.group), (i64 x.op.kind), (Value.string (str x.op.frm)), (Value.string (str x.op.to)), (i64 x.op.amount), (Value.string (str x.op.key)), (i64 x.op.slot), (i64 x.op.shard), (i64 x.rep.why), (i64 x.rep.amount), (Value.slice V x.rep.rows.length c), (Value.slice D x.body.length dc)]), (agg [(i64 y.kind), (i64 y.n), (i64 y.group), (i64 y.op.kind), (Value.string (str y.op.frm)), (Value.string (str y.op.to)), (i64 y.op.amount), (Value.string (str y.op.key)), (i64 y.op.slot), (i64 y.op.shard), (i64 y.rep.why), (i64 y.rep.amount), (Value.slice U y.rep.rows.length uc), (Value.slice E y.body.length ec)])]⟩ w (fun e w' => ∃ t, e = .returned (.bool t) ∧ (t = true ↔ x = y) ∧ Keeps none_ w w') := by
 have K0 : Keeps none_ w w := Keeps.refl w
 refine q_calls Try.func10 (by kernel_rfl) (by kernel_rfl) ?_
 refine qs ?_
 refine qg ?_
 refine Ops.new (o := rowL [(i64 x.kind), (i64 x.n), (i64 x.group), (i64 x.op.kind), (Value.string (str x.op.frm)), (Value.string (str x.op.to)), (i64 x.op.amount), (Value.string (str x.op.key)), (i64 x.op.slot), (i64 x.op.shard), (i64 x.rep.why), (i64 x.rep.amount), (Value.slice V x.rep.rows.length c), (Value.slice D x.body.length dc)] 30) (V := fun b => (ptr b)) (by kernel_rfl) (d := (some 2)) (by kernel_rfl) (fun b => rfl) (fun b1 w2 hb3 H4 K5 hs6 => ?_)
 have nb1 : w.heap.size ≤ b1 := by have := K0.size; omega
 replace K0 := K0.t0 K5
 clear K5 hs6
 refine Ops.new (o := rowL [(i64 y.kind), (i64 y.n), (i64 y.group), (i64 y.op.kind), (Value.string (str y.op.frm)), (Value.string (str y.op.to)), (i64 y.op.amount), (Value.string (str y.op.key)), (i64 y.op.slot), (i64 y.op.shard), (i64 y.rep.why), (i64 y.rep.amount), (Value.slice U y.rep.rows.length uc), (Value.slice E y.body.length ec)] 30) (V := fun b => (ptr b)) (by kernel_rfl) (d := (some 3)) (by kernel_rfl) (fun b => rfl) (fun b7 w8 hb9 H10 K11 hs12 => ?_)
 have lb7 : b1 < b7 := by have := H4.lt; omega
 have nb7 : w.heap.size ≤ b7 := by have := K0.size; omega
 replace K0 := K0.t0 K11
 replace H4 := H4.keep K11 (fun h => h)
 clear K11 hs12
 refine og 1 [(2, (ptr b1)), (3, (ptr b7)), (4, (Value.bool false))] 3 ?_
 refine od ?_
 refine qs ?_
 refine qg ?_
 refine og 1 [(2, (ptr b1)), (3, (ptr b7)), (4, (Value.bool false)), (5, (ptr b1))] 1 ?_
 refine Ops.go (v := (i64 x.kind)) (by kernel_rfl) (Runs.load (t := 3) (a := ⟨b1, 0, none⟩) (by kernel_rfl) (H4.loads (by kernel_rfl))) (d := (some 6)) (by kernel_rfl) rfl ?_
 refine og 1 [(2, (ptr b1)), (3, (ptr b7)), (4, (Value.bool false)), (6, (i64 x.kind)), (7, (ptr b7))] 3 ?_
 refine Ops.go (v := (i64 y.kind)) (by kernel_rfl) (Runs.load (t := 3) (a := ⟨b7, 0, none⟩) (by kernel_rfl) (H10.loads (by kernel_rfl))) (d := (some 8)) (by kernel_rfl) rfl ?_
 refine og 2 [(2, (ptr b1)), (3, (ptr b7)), (4, (Value.bool false)), (10, (Value.bool (x.kind == y.kind)))] 6 ?_
 refine Ops.split (x.kind == y.kind) (fun h13 => ?_) (fun h13 => ?_)
 ·rw [h13]
  have p14 : x.kind = y.kind := of_beq_t h13
  refine og 1 [(2, (ptr b1)), (3, (ptr b7)), (4, (Value.bool false)), (10, (Value.bool true)), (11, (Value.pointer (some ⟨b1, 1, none⟩)))] 7 ?_
  refine Ops.go (v := (i64 x.n)) (by kernel_rfl) (Runs.load (t := 2) (a := ⟨b1, 1, none⟩) (by kernel_rfl) (H4.loads (by kernel_rfl))) (d := (some 12)) (by kernel_rfl) rfl ?_
  refine og 1 [(2, (ptr b1)), (3, (ptr b7)), (4, (Value.bool false)), (10, (Value.bool true)), (12, (i64 x.n)), (13, (Value.pointer (some ⟨b7, 1, none⟩)))] 9 ?_
  refine Ops.go (v := (i64 y.n)) (by kernel_rfl) (Runs.load (t := 2) (a := ⟨b7, 1, none⟩) (by kernel_rfl) (H10.loads (by kernel_rfl))) (d := (some 14)) (by kernel_rfl) rfl ?_
  refine og 3 [(2, (ptr b1)), (3, (ptr b7)), (4, (Value.bool false)), (17, (Value.bool (x.n == y.n)))] 13 ?_
  refine Ops.split (x.n == y.n) (fun h15 => ?_) (fun h15 => ?_)
  ·rw [h15]
   have p16 : x.n = y.n := of_beq_t h15
   refine og 1 [(2, (ptr b1)), (3, (ptr b7)), (4, (Value.bool false)), (17, (Value.bool true)), (18, (Value.pointer (some ⟨b1, 2, none⟩)))] 14 ?_
   refine Ops.go (v := (i64 x.group)) (by kernel_rfl) (Runs.load (t := 3) (a := ⟨b1, 2, none⟩) (by kernel_rfl) (H4.loads (by kernel_rfl))) (d := (some 19)) (by kernel_rfl) rfl ?_
   refine og 1 [(2, (ptr b1)), (3, (ptr b7)), (4, (Value.bool false)), (17, (Value.bool true)), (19, (i64 x.group)), (20, (Value.pointer (some ⟨b7, 2, none⟩)))] 16 ?_
   refine Ops.go (v := (i64 y.group)) (by kernel_rfl) (Runs.load (t := 3) (a := ⟨b7, 2, none⟩) (by kernel_rfl) (H10.loads (by kernel_rfl))) (d := (some 21)) (by kernel_rfl) rfl ?_
   refine og 3 [(2, (ptr b1)), (3, (ptr b7)), (4, (Value.bool false)), (24, (Value.bool (x.group == y.group)))] 20 ?_
   refine Ops.split (x.group == y.group) (fun h17 => ?_) (fun h17 => ?_)
   ·rw [h17]
    have p18 : x.group = y.group := of_beq_t h17
    refine og 1 [(2, (ptr b1)), (3, (ptr b7)), (4, (Value.bool false)), (24, (Value.bool true)), (25, (Value.pointer (some ⟨b1, 3, none⟩)))] 21 ?_
    refine Ops.go (v := (agg [(i64 x.op.kind), (Value.string (str x.op.frm)), (Value.string (str x.op.to)), (i64 x.op.amount), (Value.string (str x.op.key)), (i64 x.op.slot), (i64 x.op.shard)])) (by kernel_rfl) (Runs.load (t := 23) (a := ⟨b1, 3, none⟩) (by kernel_rfl) (H4.loads (by kernel_rfl))) (d := (some 26)) (by kernel_rfl) rfl ?_
    refine og 1 [(2, (ptr b1)), (3, (ptr b7)), (4, (Value.bool false)), (24, (Value.bool true)), (26, (agg [(i64 x.op.kind), (Value.string (str x.op.frm)), (Value.string (str x.op.to)), (i64 x.op.amount), (Value.string (str x.op.key)), (i64 x.op.slot), (i64 x.op.shard)])), (27, (Value.pointer (some ⟨b7, 3, none⟩)))] 23 ?_
    refine Ops.go (v := (agg [(i64 y.op.kind), (Value.string (str y.op.frm)), (Value.string (str y.op.to)), (i64 y.op.amount), (Value.string (str y.op.key)), (i64 y.op.slot), (i64 y.op.shard)])) (by kernel_rfl) (Runs.load (t := 23) (a := ⟨b7, 3, none⟩) (by kernel_rfl) (H10.loads (by kernel_rfl))) (d := (some 28)) (by kernel_rfl) rfl ?_
    refine Ops.go (v := (Value.bool (aggB [(i64 x.op.kind), (Value.string (str x.op.frm)), (Value.string (str x.op.to)), (i64 x.op.amount), (Value.string (str x.op.key)), (i64 x.op.slot), (i64 x.op.shard)] [(i64 y.op.kind), (Value.string (str y.op.frm)), (Value.string (str y.op.to)), (i64 y.op.amount), (Value.string (str y.op.key)), (i64 y.op.slot), (i64 y.op.shard)]))) (by kernel_rfl) (Runs.aggeq (t := 23) (by kernel_rfl) (by kernel_rfl)) (d := (some 29)) (by kernel_rfl) rfl ?_
    refine og 2 [(2, (ptr b1)), (3, (ptr b7)), (4, (Value.bool false)), (31, (Value.bool (aggB [(i64 x.op.kind), (Value.string (str x.op.frm)), (Value.string (str x.op.to)), (i64 x.op.amount), (Value.string (str x.op.key)), (i64 x.op.slot), (i64 x.op.shard)] [(i64 y.op.kind), (Value.string (str y.op.frm)), (Value.string (str y.op.to)), (i64 y.op.amount), (Value.string (str y.op.key)), (i64 y.op.slot), (i64 y.op.shard)])))] 27 ?_
    refine Ops.split (aggB [(i64 x.op.kind), (Value.string (str x.op.frm)), (Value.string (str x.op.to)), (i64 x.op.amount), (Value.string (str x.op.key)), (i64 x.op.slot), (i64 x.op.shard)] [(i64 y.op.kind), (Value.string (str y.op.frm)), (Value.string (str y.op.to)), (i64 y.op.amount), (Value.string (str y.op.key)), (i64 y.op.slot), (i64 y.op.shard)]) (fun h19 => ?_) (fun h19 => ?_)
    ·rw [h19]
     have p20 : (aggB [(i64 x.op.kind), (Value.string (str x.op.frm)), (Value.string (str x.op.to)), (i64 x.op.amount), (Value.string (str x.op.key)), (i64 x.op.slot), (i64 x.op.shard)] [(i64 y.op.kind), (Value.string (str y.op.frm)), (Value.string (str y.op.to)), (i64 y.op.amount), (Value.string (str y.op.key)), (i64 y.op.slot), (i64 y.op.shard)]) = true := h19
     have hop := h19
     refine og 1 [(2, (ptr b1)), (3, (ptr b7)), (4, (Value.bool false)), (31, (Value.bool true)), (32, (Value.pointer (some ⟨b1, 10, none⟩)))] 28 ?_
     refine Ops.go (v := (agg [(i64 x.rep.why), (i64 x.rep.amount), (Value.slice V x.rep.rows.length c)])) (by kernel_rfl) (Runs.load (t := 27) (a := ⟨b1, 10, none⟩) (by kernel_rfl) (H4.loads (by kernel_rfl))) (d := (some 33)) (by kernel_rfl) rfl ?_
     refine og 1 [(2, (ptr b1)), (3, (ptr b7)), (4, (Value.bool false)), (31, (Value.bool true)), (33, (agg [(i64 x.rep.why), (i64 x.rep.amount), (Value.slice V x.rep.rows.length c)])), (34, (Value.pointer (some ⟨b7, 10, none⟩)))] 30 ?_
     refine Ops.go (v := (agg [(i64 y.rep.why), (i64 y.rep.amount), (Value.slice U y.rep.rows.length uc)])) (by kernel_rfl) (Runs.load (t := 27) (a := ⟨b7, 10, none⟩) (by kernel_rfl) (H10.loads (by kernel_rfl))) (d := (some 35)) (by kernel_rfl) rfl ?_
     refine Ops.call (by kernel_rfl) (d := (some 36)) (by kernel_rfl) (SameReply_calls _ V c x.rep U uc y.rep (Rd.keep0 (by omega) hV K0) (Rd.keep0 (by omega) hU K0)) ?_
     rintro _ w24 ⟨t21, rfl, ht22, K23⟩
     refine ⟨_, _, rfl, rfl, ?_⟩
     replace K0 := K0.t0 K23
     replace H4 := H4.keep K23 (fun h => h)
     replace H10 := H10.keep K23 (fun h => h)
     clear K23
     refine og 2 [(2, (ptr b1)), (3, (ptr b7)), (4, (Value.bool false)), (38, (Value.bool t21))] 34 ?_
     refine Ops.split t21 (fun h25 => ?_) (fun h25 => ?_)
     ·rw [h25]
      have p26 : t21 = true := h25
      have hrp := h25
      refine og 1 [(3, (ptr b7)), (4, (Value.bool false)), (38, (Value.bool true)), (39, (Value.pointer (some ⟨b1, 13, none⟩)))] 35 ?_
      refine Ops.go (v := (Value.slice D x.body.length dc)) (by kernel_rfl) (Runs.load (t := 28) (a := ⟨b1, 13, none⟩) (by kernel_rfl) (H4.loads (by kernel_rfl))) (d := (some 40)) (by kernel_rfl) rfl ?_
      refine Ops.go (v := (Value.string (str x.body))) (by kernel_rfl) (Runs.b2s (s := 28) (d := 9) (e := 5) (by kernel_rfl) (by kernel_rfl) (by kernel_rfl) (hD.keep0 (by omega) K0)) (d := (some 41)) (by kernel_rfl) rfl ?_
      refine og 1 [(4, (Value.bool false)), (38, (Value.bool true)), (41, (Value.string (str x.body))), (42, (Value.pointer (some ⟨b7, 13, none⟩)))] 38 ?_
      refine Ops.go (v := (Value.slice E y.body.length ec)) (by kernel_rfl) (Runs.load (t := 28) (a := ⟨b7, 13, none⟩) (by kernel_rfl) (H10.loads (by kernel_rfl))) (d := (some 43)) (by kernel_rfl) rfl ?_
      refine Ops.go (v := (Value.string (str y.body))) (by kernel_rfl) (Runs.b2s (s := 28) (d := 9) (e := 5) (by kernel_rfl) (by kernel_rfl) (by kernel_rfl) (hE.keep0 (by omega) K0)) (d := (some 44)) (by kernel_rfl) rfl ?_
      refine Ops.go (v := (Value.bool (x.body == y.body))) (by kernel_rfl) (Runs.streq (t := 9) (by kernel_rfl)) (d := (some 45)) (by kernel_rfl) rfl ?_
      refine og 2 [(4, (Value.bool (x.body == y.body)))] 43 ?_
      refine od ?_
      refine q_ret (by kernel_rfl) ?_
      refine ⟨(Value.bool (x.body == y.body)), retv_tmp rfl rfl, ?_⟩
      exact ⟨_, rfl, ⟨fun h => LetP.ext6 (by omega) (by omega) (by omega) ((aggB_op x.op y.op).1 hop) (ht22.1 hrp) (eq_of_beq h), fun h => by subst h; simp⟩, K0⟩
     ·rw [h25]
      have p27 : t21 = false := h25
      have hrp := h25
      refine og 9 [(4, (Value.bool false))] 43 ?_
      refine od ?_
      refine q_ret (by kernel_rfl) ?_
      refine ⟨(Value.bool false), retv_tmp rfl rfl, ?_⟩
      exact ⟨false, rfl, ⟨fun h => (by cases h), fun h => by exfalso; subst h; rw [ht22.2 rfl] at hrp; cases hrp⟩, K0⟩
    ·rw [h19]
     have p28 : (aggB [(i64 x.op.kind), (Value.string (str x.op.frm)), (Value.string (str x.op.to)), (i64 x.op.amount), (Value.string (str x.op.key)), (i64 x.op.slot), (i64 x.op.shard)] [(i64 y.op.kind), (Value.string (str y.op.frm)), (Value.string (str y.op.to)), (i64 y.op.amount), (Value.string (str y.op.key)), (i64 y.op.slot), (i64 y.op.shard)]) = false := h19
     have hop := h19
     refine og 16 [(4, (Value.bool false))] 43 ?_
     refine od ?_
     refine q_ret (by kernel_rfl) ?_
     refine ⟨(Value.bool false), retv_tmp rfl rfl, ?_⟩
     exact ⟨false, rfl, ⟨fun h => (by cases h), fun h => by exfalso; subst h; rw [(aggB_op x.op x.op).2 rfl] at hop; cases hop⟩, K0⟩
   ·rw [h17]
    have p29 : ¬ (x.group = y.group) := of_beq_f h17
    refine og 23 [(4, (Value.bool false))] 43 ?_
    refine od ?_
    refine q_ret (by kernel_rfl) ?_
    refine ⟨(Value.bool false), retv_tmp rfl rfl, ?_⟩
    exact ⟨false, rfl, ⟨fun h => (by cases h), fun h => by exfalso; subst h; first | omega | simp_all⟩, K0⟩
  ·rw [h15]
   have p30 : ¬ (x.n = y.n) := of_beq_f h15
   refine og 30 [(4, (Value.bool false))] 43 ?_
   refine od ?_
   refine q_ret (by kernel_rfl) ?_
   refine ⟨(Value.bool false), retv_tmp rfl rfl, ?_⟩
   exact ⟨false, rfl, ⟨fun h => (by cases h), fun h => by exfalso; subst h; first | omega | simp_all⟩, K0⟩
 ·rw [h13]
  have p31 : ¬ (x.kind = y.kind) := of_beq_f h13
  refine og 37 [(4, (Value.bool false))] 43 ?_
  refine od ?_
  refine q_ret (by kernel_rfl) ?_
  refine ⟨(Value.bool false), retv_tmp rfl rfl, ?_⟩
  exact ⟨false, rfl, ⟨fun h => (by cases h), fun h => by exfalso; subst h; first | omega | simp_all⟩, K0⟩

theorem Just_calls (w : World) (x : LetP) (V : Option Addr) (c : Nat) (D : Option Addr) (dc : Nat) (hV : RdR w (.slice V x.rep.rows.length c) x.rep.rows) (hD : RdB w (.slice D x.body.length dc) x.body) : Calls Try.prog 11 ⟨[(agg [(i64 x.kind), (i64 x.n), (i64 x.group), (i64 x.op.kind), (Value.string (str x.op.frm)), (Value.string (str x.op.to)), (i64 x.op.amount), (Value.string (str x.op.key)), (i64 x.op.slot), (i64 x.op.shard), (i64 x.rep.why), (i64 x.rep.amount), (Value.slice V x.rep.rows.length c), (Value.slice D x.body.length dc)])]⟩ w (fun e w' => ∃ V2 c2 D2 dc2, e = .returned (agg (x.just.cells V2 c2 D2 dc2)) ∧ Keeps none_ w w' ∧ RdR w' (.slice V2 x.just.rep.rows.length c2) x.just.rep.rows ∧ RdB w' (.slice D2 x.just.body.length dc2) x.just.body) := by
 have K0 : Keeps none_ w w := Keeps.refl w
 refine q_calls Try.func11 (by kernel_rfl) (by kernel_rfl) ?_
 refine qs ?_
 refine qg ?_
 refine Ops.new (o := rowL [(i64 x.kind), (i64 x.n), (i64 x.group), (i64 x.op.kind), (Value.string (str x.op.frm)), (Value.string (str x.op.to)), (i64 x.op.amount), (Value.string (str x.op.key)), (i64 x.op.slot), (i64 x.op.shard), (i64 x.rep.why), (i64 x.rep.amount), (Value.slice V x.rep.rows.length c), (Value.slice D x.body.length dc)] 30) (V := fun b => (ptr b)) (by kernel_rfl) (d := (some 1)) (by kernel_rfl) (fun b => rfl) (fun b1 w2 hb3 H4 K5 hs6 => ?_)
 have nb1 : w.heap.size ≤ b1 := by have := K0.size; omega
 replace K0 := K0.t0 K5
 clear K5 hs6
 refine Ops.new (o := rowL [(i64 0), (i64 0), (i64 0), (i64 0), (Value.string ByteArray.empty), (Value.string ByteArray.empty), (i64 0), (Value.string ByteArray.empty), (i64 0), (i64 0), (i64 0), (i64 0), (Value.slice none 0 0), (Value.slice none 0 0)] 30) (V := fun b => (ptr b)) (by kernel_rfl) (d := (some 2)) (by kernel_rfl) (fun b => rfl) (fun b7 w8 hb9 H10 K11 hs12 => ?_)
 have lb7 : b1 < b7 := by have := H4.lt; omega
 have nb7 : w.heap.size ≤ b7 := by have := K0.size; omega
 replace K0 := K0.t0 K11
 replace H4 := H4.keep K11 (fun h => h)
 clear K11 hs12
 refine od ?_
 refine qs ?_
 refine qg ?_
 refine og 1 [(1, (ptr b1)), (2, (ptr b7)), (4, (ptr b1))] 1 ?_
 refine Ops.go (v := (i64 x.kind)) (by kernel_rfl) (Runs.load (t := 3) (a := ⟨b1, 0, none⟩) (by kernel_rfl) (H4.loads (by kernel_rfl))) (d := (some 5)) (by kernel_rfl) rfl ?_
 refine og 1 [(1, (ptr b1)), (2, (ptr b7)), (6, (agg [(i64 x.kind), (i64 0), (i64 0), (i64 0), (Value.string ByteArray.empty), (Value.string ByteArray.empty), (i64 0), (Value.string ByteArray.empty), (i64 0), (i64 0), (i64 0), (i64 0), (Value.slice none 0 0), (Value.slice none 0 0)]))] 3 ?_
 refine Ops.new (o := rowL [(i64 0), (i64 0), (i64 0), (i64 0), (Value.string ByteArray.empty), (Value.string ByteArray.empty), (i64 0), (Value.string ByteArray.empty), (i64 0), (i64 0), (i64 0), (i64 0), (Value.slice none 0 0), (Value.slice none 0 0)] 30) (V := fun b => (ptr b)) (by kernel_rfl) (d := (some 3)) (by kernel_rfl) (fun b => rfl) (fun b13 w14 hb15 H16 K17 hs18 => ?_)
 have lb13 : b7 < b13 := by have := H10.lt; omega
 have nb13 : w.heap.size ≤ b13 := by have := K0.size; omega
 replace K0 := K0.t0 K17
 replace H4 := H4.keep K17 (fun h => h)
 replace H10 := H10.keep K17 (fun h => h)
 clear K17 hs18
 refine Ops.put (t := 30) (b := b13) (off := 0) (v := (agg [(i64 x.kind), (i64 0), (i64 0), (i64 0), (Value.string ByteArray.empty), (Value.string ByteArray.empty), (i64 0), (Value.string ByteArray.empty), (i64 0), (i64 0), (i64 0), (i64 0), (Value.slice none 0 0), (Value.slice none 0 0)])) (ys := [(i64 x.kind), (i64 0), (i64 0), (i64 0), (Value.string ByteArray.empty), (Value.string ByteArray.empty), (i64 0), (Value.string ByteArray.empty), (i64 0), (i64 0), (i64 0), (i64 0), (Value.slice none 0 0), (Value.slice none 0 0)]) (by kernel_rfl) (by kernel_rfl) H16 (by kernel_rfl) (d := none) (by kernel_rfl) rfl (fun w19 H20 K21 => ?_)
 clear H16
 replace K0 := K0.trans K21 (U := none_) (fun i h1 h2 => h2) (fun i h1 h2 => by have h2 : i = b13 := h2; exfalso; omega)
 replace H4 := H4.keep K21 (by intro h; change b1 = b13 at h; omega)
 replace H10 := H10.keep K21 (by intro h; change b7 = b13 at h; omega)
 clear K21
 refine od ?_
 refine qs ?_
 refine qs ?_
 refine qg ?_
 refine og 1 [(1, (ptr b1)), (2, (ptr b7)), (3, (ptr b13)), (7, (ptr b1))] 1 ?_
 refine Ops.go (v := (i64 x.kind)) (by kernel_rfl) (Runs.load (t := 3) (a := ⟨b1, 0, none⟩) (by kernel_rfl) (H4.loads (by kernel_rfl))) (d := (some 8)) (by kernel_rfl) rfl ?_
 refine og 1 [(1, (ptr b1)), (2, (ptr b7)), (3, (ptr b13)), (9, (Value.bool (x.kind != 1)))] 3 ?_
 refine od ?_
 refine q_cond (o := .tmp 9) (b := (x.kind != 1)) (by kernel_rfl) rfl (fun h22 => ?_) (fun h22 => ?_)
 ·rw [h22]
  have p23 : ¬ (x.kind = 1) := of_bne_t h22
  refine qg ?_
  refine og 1 [(1, (ptr b1)), (2, (ptr b7)), (3, (ptr b13)), (10, (Value.pointer (some ⟨b1, 1, none⟩)))] 1 ?_
  refine Ops.go (v := (i64 x.n)) (by kernel_rfl) (Runs.load (t := 2) (a := ⟨b1, 1, none⟩) (by kernel_rfl) (H4.loads (by kernel_rfl))) (d := (some 11)) (by kernel_rfl) rfl ?_
  refine og 1 [(1, (ptr b1)), (2, (ptr b7)), (3, (ptr b13)), (11, (i64 x.n)), (12, (Value.pointer (some ⟨b13, 1, none⟩)))] 3 ?_
  refine Ops.put (t := 2) (b := b13) (off := 1) (v := (i64 x.n)) (ys := [(i64 x.kind), (i64 x.n), (i64 0), (i64 0), (Value.string ByteArray.empty), (Value.string ByteArray.empty), (i64 0), (Value.string ByteArray.empty), (i64 0), (i64 0), (i64 0), (i64 0), (Value.slice none 0 0), (Value.slice none 0 0)]) (by kernel_rfl) (by kernel_rfl) H20 (by kernel_rfl) (d := none) (by kernel_rfl) rfl (fun w24 H25 K26 => ?_)
  clear H20
  replace K0 := K0.trans K26 (U := none_) (fun i h1 h2 => h2) (fun i h1 h2 => by have h2 : i = b13 := h2; exfalso; omega)
  replace H4 := H4.keep K26 (by intro h; change b1 = b13 at h; omega)
  replace H10 := H10.keep K26 (by intro h; change b7 = b13 at h; omega)
  clear K26
  refine od ?_
  refine qs ?_
  refine qs ?_
  refine qg ?_
  refine og 1 [(1, (ptr b1)), (2, (ptr b7)), (3, (ptr b13)), (13, (ptr b1))] 1 ?_
  refine Ops.go (v := (i64 x.kind)) (by kernel_rfl) (Runs.load (t := 3) (a := ⟨b1, 0, none⟩) (by kernel_rfl) (H4.loads (by kernel_rfl))) (d := (some 14)) (by kernel_rfl) rfl ?_
  refine od ?_
  refine q_block (id := 0) (by kernel_rfl) ?_
  refine qs ?_
  refine qg ?_
  refine og 2 [(1, (ptr b1)), (2, (ptr b7)), (3, (ptr b13)), (14, (i64 x.kind)), (18, (Value.bool (x.kind == 2)))] 2 ?_
  refine od ?_
  refine q_cond (o := .tmp 18) (b := (x.kind == 2)) (by kernel_rfl) rfl (fun h27 => ?_) (fun h27 => ?_)
  ·rw [h27]
   have p28 : x.kind = 2 := of_beq_t h27
   refine qg ?_
   refine og 1 [(1, (ptr b1)), (2, (ptr b7)), (3, (ptr b13)), (14, (i64 x.kind)), (20, (Value.pointer (some ⟨b1, 3, none⟩)))] 1 ?_
   refine Ops.go (v := (agg [(i64 x.op.kind), (Value.string (str x.op.frm)), (Value.string (str x.op.to)), (i64 x.op.amount), (Value.string (str x.op.key)), (i64 x.op.slot), (i64 x.op.shard)])) (by kernel_rfl) (Runs.load (t := 23) (a := ⟨b1, 3, none⟩) (by kernel_rfl) (H4.loads (by kernel_rfl))) (d := (some 21)) (by kernel_rfl) rfl ?_
   refine og 1 [(1, (ptr b1)), (2, (ptr b7)), (3, (ptr b13)), (14, (i64 x.kind)), (21, (agg [(i64 x.op.kind), (Value.string (str x.op.frm)), (Value.string (str x.op.to)), (i64 x.op.amount), (Value.string (str x.op.key)), (i64 x.op.slot), (i64 x.op.shard)])), (22, (Value.pointer (some ⟨b13, 3, none⟩)))] 3 ?_
   refine Ops.put (t := 23) (b := b13) (off := 3) (v := (agg [(i64 x.op.kind), (Value.string (str x.op.frm)), (Value.string (str x.op.to)), (i64 x.op.amount), (Value.string (str x.op.key)), (i64 x.op.slot), (i64 x.op.shard)])) (ys := [(i64 x.kind), (i64 x.n), (i64 0), (i64 x.op.kind), (Value.string (str x.op.frm)), (Value.string (str x.op.to)), (i64 x.op.amount), (Value.string (str x.op.key)), (i64 x.op.slot), (i64 x.op.shard), (i64 0), (i64 0), (Value.slice none 0 0), (Value.slice none 0 0)]) (by kernel_rfl) (by kernel_rfl) H25 (by kernel_rfl) (d := none) (by kernel_rfl) rfl (fun w29 H30 K31 => ?_)
   clear H25
   replace K0 := K0.trans K31 (U := none_) (fun i h1 h2 => h2) (fun i h1 h2 => by have h2 : i = b13 := h2; exfalso; omega)
   replace H4 := H4.keep K31 (by intro h; change b1 = b13 at h; omega)
   replace H10 := H10.keep K31 (by intro h; change b7 = b13 at h; omega)
   clear K31
   refine od ?_
   refine qs ?_
   refine qg ?_
   refine Ops.go (v := (agg [(i64 x.kind), (i64 x.n), (i64 0), (i64 x.op.kind), (Value.string (str x.op.frm)), (Value.string (str x.op.to)), (i64 x.op.amount), (Value.string (str x.op.key)), (i64 x.op.slot), (i64 x.op.shard), (i64 0), (i64 0), (Value.slice none 0 0), (Value.slice none 0 0)])) (by kernel_rfl) (Runs.load (t := 30) (a := ⟨b13, 0, none⟩) (by kernel_rfl) (H30.loads (by kernel_rfl))) (d := (some 36)) (by kernel_rfl) rfl ?_
   refine Ops.put (t := 30) (b := b7) (off := 0) (v := (agg [(i64 x.kind), (i64 x.n), (i64 0), (i64 x.op.kind), (Value.string (str x.op.frm)), (Value.string (str x.op.to)), (i64 x.op.amount), (Value.string (str x.op.key)), (i64 x.op.slot), (i64 x.op.shard), (i64 0), (i64 0), (Value.slice none 0 0), (Value.slice none 0 0)])) (ys := [(i64 x.kind), (i64 x.n), (i64 0), (i64 x.op.kind), (Value.string (str x.op.frm)), (Value.string (str x.op.to)), (i64 x.op.amount), (Value.string (str x.op.key)), (i64 x.op.slot), (i64 x.op.shard), (i64 0), (i64 0), (Value.slice none 0 0), (Value.slice none 0 0)]) (by kernel_rfl) (by kernel_rfl) H10 (by kernel_rfl) (d := none) (by kernel_rfl) rfl (fun w32 H33 K34 => ?_)
   clear H10
   replace K0 := K0.trans K34 (U := none_) (fun i h1 h2 => h2) (fun i h1 h2 => by have h2 : i = b7 := h2; exfalso; omega)
   replace H4 := H4.keep K34 (by intro h; change b1 = b7 at h; omega)
   replace H30 := H30.keep K34 (by intro h; change b13 = b7 at h; omega)
   clear K34
   refine od ?_
   refine q_ret (by kernel_rfl) ?_
   refine ⟨(agg [(i64 x.kind), (i64 x.n), (i64 0), (i64 x.op.kind), (Value.string (str x.op.frm)), (Value.string (str x.op.to)), (i64 x.op.amount), (Value.string (str x.op.key)), (i64 x.op.slot), (i64 x.op.shard), (i64 0), (i64 0), (Value.slice none 0 0), (Value.slice none 0 0)]), retv_cell rfl rfl (H33.loads (by kernel_rfl)), ?_⟩
   have e : x.just = (⟨x.kind, x.n, 0, ⟨x.op.kind, x.op.frm, x.op.to, x.op.amount, x.op.key, x.op.slot, x.op.shard⟩, ⟨0, 0, []⟩, []⟩ : LetP) := by unfold LetP.just; first | (simp only [if_pos (show x.kind = 2 by omega), if_neg (show ¬ x.kind = 1 by omega), if_neg (show ¬ x.kind = 3 by omega), if_neg (show ¬ x.kind = 5 by omega), if_pos (show x.kind = 2 ∨ x.kind = 3 by omega)]; done) | (simp only [if_neg (show ¬ x.kind = 2 by omega), if_neg (show ¬ x.kind = 1 by omega), if_pos (show x.kind = 3 by omega), if_neg (show ¬ x.kind = 5 by omega), if_pos (show x.kind = 2 ∨ x.kind = 3 by omega)]; done) | (simp only [if_neg (show ¬ x.kind = 2 by omega), if_neg (show ¬ x.kind = 1 by omega), if_neg (show ¬ x.kind = 3 by omega), if_pos (show x.kind = 5 by omega), if_neg (show ¬ (x.kind = 2 ∨ x.kind = 3) by omega)]; done) | (simp only [if_neg (show ¬ x.kind = 2 by omega), if_pos (show x.kind = 1 by omega), if_neg (show ¬ x.kind = 3 by omega), if_neg (show ¬ x.kind = 5 by omega), if_neg (show ¬ (x.kind = 2 ∨ x.kind = 3) by omega)]; done) | (simp only [if_neg (show ¬ x.kind = 2 by omega), if_neg (show ¬ x.kind = 1 by omega), if_neg (show ¬ x.kind = 3 by omega), if_neg (show ¬ x.kind = 5 by omega), if_neg (show ¬ (x.kind = 2 ∨ x.kind = 3) by omega)]; done)
   exact ⟨none, 0, none, 0, by rw [e]; rfl, K0, by rw [e]; exact (Rd.nil _ _), by rw [e]; exact (Rd.nil _ _)⟩
  ·rw [h27]
   have p35 : ¬ (x.kind = 2) := of_beq_f h27
   refine qs ?_
   refine qg ?_
   refine og 2 [(1, (ptr b1)), (2, (ptr b7)), (3, (ptr b13)), (14, (i64 x.kind)), (23, (Value.bool (x.kind == 3)))] 2 ?_
   refine od ?_
   refine q_cond (o := .tmp 23) (b := (x.kind == 3)) (by kernel_rfl) rfl (fun h36 => ?_) (fun h36 => ?_)
   ·rw [h36]
    have p37 : x.kind = 3 := of_beq_t h36
    refine qg ?_
    refine og 1 [(1, (ptr b1)), (2, (ptr b7)), (3, (ptr b13)), (14, (i64 x.kind)), (25, (Value.pointer (some ⟨b1, 10, none⟩)))] 1 ?_
    refine Ops.go (v := (agg [(i64 x.rep.why), (i64 x.rep.amount), (Value.slice V x.rep.rows.length c)])) (by kernel_rfl) (Runs.load (t := 27) (a := ⟨b1, 10, none⟩) (by kernel_rfl) (H4.loads (by kernel_rfl))) (d := (some 26)) (by kernel_rfl) rfl ?_
    refine og 1 [(1, (ptr b1)), (2, (ptr b7)), (3, (ptr b13)), (14, (i64 x.kind)), (26, (agg [(i64 x.rep.why), (i64 x.rep.amount), (Value.slice V x.rep.rows.length c)])), (27, (Value.pointer (some ⟨b13, 10, none⟩)))] 3 ?_
    refine Ops.put (t := 27) (b := b13) (off := 10) (v := (agg [(i64 x.rep.why), (i64 x.rep.amount), (Value.slice V x.rep.rows.length c)])) (ys := [(i64 x.kind), (i64 x.n), (i64 0), (i64 0), (Value.string ByteArray.empty), (Value.string ByteArray.empty), (i64 0), (Value.string ByteArray.empty), (i64 0), (i64 0), (i64 x.rep.why), (i64 x.rep.amount), (Value.slice V x.rep.rows.length c), (Value.slice none 0 0)]) (by kernel_rfl) (by kernel_rfl) H25 (by kernel_rfl) (d := none) (by kernel_rfl) rfl (fun w38 H39 K40 => ?_)
    clear H25
    replace K0 := K0.trans K40 (U := none_) (fun i h1 h2 => h2) (fun i h1 h2 => by have h2 : i = b13 := h2; exfalso; omega)
    replace H4 := H4.keep K40 (by intro h; change b1 = b13 at h; omega)
    replace H10 := H10.keep K40 (by intro h; change b7 = b13 at h; omega)
    clear K40
    refine od ?_
    refine qs ?_
    refine qg ?_
    refine Ops.go (v := (agg [(i64 x.kind), (i64 x.n), (i64 0), (i64 0), (Value.string ByteArray.empty), (Value.string ByteArray.empty), (i64 0), (Value.string ByteArray.empty), (i64 0), (i64 0), (i64 x.rep.why), (i64 x.rep.amount), (Value.slice V x.rep.rows.length c), (Value.slice none 0 0)])) (by kernel_rfl) (Runs.load (t := 30) (a := ⟨b13, 0, none⟩) (by kernel_rfl) (H39.loads (by kernel_rfl))) (d := (some 36)) (by kernel_rfl) rfl ?_
    refine Ops.put (t := 30) (b := b7) (off := 0) (v := (agg [(i64 x.kind), (i64 x.n), (i64 0), (i64 0), (Value.string ByteArray.empty), (Value.string ByteArray.empty), (i64 0), (Value.string ByteArray.empty), (i64 0), (i64 0), (i64 x.rep.why), (i64 x.rep.amount), (Value.slice V x.rep.rows.length c), (Value.slice none 0 0)])) (ys := [(i64 x.kind), (i64 x.n), (i64 0), (i64 0), (Value.string ByteArray.empty), (Value.string ByteArray.empty), (i64 0), (Value.string ByteArray.empty), (i64 0), (i64 0), (i64 x.rep.why), (i64 x.rep.amount), (Value.slice V x.rep.rows.length c), (Value.slice none 0 0)]) (by kernel_rfl) (by kernel_rfl) H10 (by kernel_rfl) (d := none) (by kernel_rfl) rfl (fun w41 H42 K43 => ?_)
    clear H10
    replace K0 := K0.trans K43 (U := none_) (fun i h1 h2 => h2) (fun i h1 h2 => by have h2 : i = b7 := h2; exfalso; omega)
    replace H4 := H4.keep K43 (by intro h; change b1 = b7 at h; omega)
    replace H39 := H39.keep K43 (by intro h; change b13 = b7 at h; omega)
    clear K43
    refine od ?_
    refine q_ret (by kernel_rfl) ?_
    refine ⟨(agg [(i64 x.kind), (i64 x.n), (i64 0), (i64 0), (Value.string ByteArray.empty), (Value.string ByteArray.empty), (i64 0), (Value.string ByteArray.empty), (i64 0), (i64 0), (i64 x.rep.why), (i64 x.rep.amount), (Value.slice V x.rep.rows.length c), (Value.slice none 0 0)]), retv_cell rfl rfl (H42.loads (by kernel_rfl)), ?_⟩
    have e : x.just = (⟨x.kind, x.n, 0, ⟨0, [], [], 0, [], 0, 0⟩, ⟨x.rep.why, x.rep.amount, x.rep.rows⟩, []⟩ : LetP) := by unfold LetP.just; first | (simp only [if_pos (show x.kind = 2 by omega), if_neg (show ¬ x.kind = 1 by omega), if_neg (show ¬ x.kind = 3 by omega), if_neg (show ¬ x.kind = 5 by omega), if_pos (show x.kind = 2 ∨ x.kind = 3 by omega)]; done) | (simp only [if_neg (show ¬ x.kind = 2 by omega), if_neg (show ¬ x.kind = 1 by omega), if_pos (show x.kind = 3 by omega), if_neg (show ¬ x.kind = 5 by omega), if_pos (show x.kind = 2 ∨ x.kind = 3 by omega)]; done) | (simp only [if_neg (show ¬ x.kind = 2 by omega), if_neg (show ¬ x.kind = 1 by omega), if_neg (show ¬ x.kind = 3 by omega), if_pos (show x.kind = 5 by omega), if_neg (show ¬ (x.kind = 2 ∨ x.kind = 3) by omega)]; done) | (simp only [if_neg (show ¬ x.kind = 2 by omega), if_pos (show x.kind = 1 by omega), if_neg (show ¬ x.kind = 3 by omega), if_neg (show ¬ x.kind = 5 by omega), if_neg (show ¬ (x.kind = 2 ∨ x.kind = 3) by omega)]; done) | (simp only [if_neg (show ¬ x.kind = 2 by omega), if_neg (show ¬ x.kind = 1 by omega), if_neg (show ¬ x.kind = 3 by omega), if_neg (show ¬ x.kind = 5 by omega), if_neg (show ¬ (x.kind = 2 ∨ x.kind = 3) by omega)]; done)
    exact ⟨V, c, none, 0, by rw [e]; rfl, K0, by rw [e]; exact (Rd.keep0 (by omega) hV K0), by rw [e]; exact (Rd.nil _ _)⟩
   ·rw [h36]
    have p44 : ¬ (x.kind = 3) := of_beq_f h36
    refine qs ?_
    refine qg ?_
    refine og 2 [(1, (ptr b1)), (2, (ptr b7)), (3, (ptr b13)), (28, (Value.bool (x.kind == 5)))] 2 ?_
    refine od ?_
    refine q_cond (o := .tmp 28) (b := (x.kind == 5)) (by kernel_rfl) rfl (fun h45 => ?_) (fun h45 => ?_)
    ·rw [h45]
     have p46 : x.kind = 5 := of_beq_t h45
     refine qs ?_
     refine qg ?_
     refine og 1 [(1, (ptr b1)), (2, (ptr b7)), (3, (ptr b13)), (30, (Value.pointer (some ⟨b1, 2, none⟩)))] 1 ?_
     refine Ops.go (v := (i64 x.group)) (by kernel_rfl) (Runs.load (t := 3) (a := ⟨b1, 2, none⟩) (by kernel_rfl) (H4.loads (by kernel_rfl))) (d := (some 31)) (by kernel_rfl) rfl ?_
     refine og 1 [(1, (ptr b1)), (2, (ptr b7)), (3, (ptr b13)), (31, (i64 x.group)), (32, (Value.pointer (some ⟨b13, 2, none⟩)))] 3 ?_
     refine Ops.put (t := 3) (b := b13) (off := 2) (v := (i64 x.group)) (ys := [(i64 x.kind), (i64 x.n), (i64 x.group), (i64 0), (Value.string ByteArray.empty), (Value.string ByteArray.empty), (i64 0), (Value.string ByteArray.empty), (i64 0), (i64 0), (i64 0), (i64 0), (Value.slice none 0 0), (Value.slice none 0 0)]) (by kernel_rfl) (by kernel_rfl) H25 (by kernel_rfl) (d := none) (by kernel_rfl) rfl (fun w47 H48 K49 => ?_)
     clear H25
     replace K0 := K0.trans K49 (U := none_) (fun i h1 h2 => h2) (fun i h1 h2 => by have h2 : i = b13 := h2; exfalso; omega)
     replace H4 := H4.keep K49 (by intro h; change b1 = b13 at h; omega)
     replace H10 := H10.keep K49 (by intro h; change b7 = b13 at h; omega)
     clear K49
     refine od ?_
     refine qg ?_
     refine og 1 [(1, (ptr b1)), (2, (ptr b7)), (3, (ptr b13)), (33, (Value.pointer (some ⟨b1, 13, none⟩)))] 1 ?_
     refine Ops.go (v := (Value.slice D x.body.length dc)) (by kernel_rfl) (Runs.load (t := 28) (a := ⟨b1, 13, none⟩) (by kernel_rfl) (H4.loads (by kernel_rfl))) (d := (some 34)) (by kernel_rfl) rfl ?_
     refine og 1 [(1, (ptr b1)), (2, (ptr b7)), (3, (ptr b13)), (34, (Value.slice D x.body.length dc)), (35, (Value.pointer (some ⟨b13, 13, none⟩)))] 3 ?_
     refine Ops.put (t := 28) (b := b13) (off := 13) (v := (Value.slice D x.body.length dc)) (ys := [(i64 x.kind), (i64 x.n), (i64 x.group), (i64 0), (Value.string ByteArray.empty), (Value.string ByteArray.empty), (i64 0), (Value.string ByteArray.empty), (i64 0), (i64 0), (i64 0), (i64 0), (Value.slice none 0 0), (Value.slice D x.body.length dc)]) (by kernel_rfl) (by kernel_rfl) H48 (by kernel_rfl) (d := none) (by kernel_rfl) rfl (fun w50 H51 K52 => ?_)
     clear H48
     replace K0 := K0.trans K52 (U := none_) (fun i h1 h2 => h2) (fun i h1 h2 => by have h2 : i = b13 := h2; exfalso; omega)
     replace H4 := H4.keep K52 (by intro h; change b1 = b13 at h; omega)
     replace H10 := H10.keep K52 (by intro h; change b7 = b13 at h; omega)
     clear K52
     refine od ?_
     refine qs ?_
     refine qg ?_
     refine Ops.go (v := (agg [(i64 x.kind), (i64 x.n), (i64 x.group), (i64 0), (Value.string ByteArray.empty), (Value.string ByteArray.empty), (i64 0), (Value.string ByteArray.empty), (i64 0), (i64 0), (i64 0), (i64 0), (Value.slice none 0 0), (Value.slice D x.body.length dc)])) (by kernel_rfl) (Runs.load (t := 30) (a := ⟨b13, 0, none⟩) (by kernel_rfl) (H51.loads (by kernel_rfl))) (d := (some 36)) (by kernel_rfl) rfl ?_
     refine Ops.put (t := 30) (b := b7) (off := 0) (v := (agg [(i64 x.kind), (i64 x.n), (i64 x.group), (i64 0), (Value.string ByteArray.empty), (Value.string ByteArray.empty), (i64 0), (Value.string ByteArray.empty), (i64 0), (i64 0), (i64 0), (i64 0), (Value.slice none 0 0), (Value.slice D x.body.length dc)])) (ys := [(i64 x.kind), (i64 x.n), (i64 x.group), (i64 0), (Value.string ByteArray.empty), (Value.string ByteArray.empty), (i64 0), (Value.string ByteArray.empty), (i64 0), (i64 0), (i64 0), (i64 0), (Value.slice none 0 0), (Value.slice D x.body.length dc)]) (by kernel_rfl) (by kernel_rfl) H10 (by kernel_rfl) (d := none) (by kernel_rfl) rfl (fun w53 H54 K55 => ?_)
     clear H10
     replace K0 := K0.trans K55 (U := none_) (fun i h1 h2 => h2) (fun i h1 h2 => by have h2 : i = b7 := h2; exfalso; omega)
     replace H4 := H4.keep K55 (by intro h; change b1 = b7 at h; omega)
     replace H51 := H51.keep K55 (by intro h; change b13 = b7 at h; omega)
     clear K55
     refine od ?_
     refine q_ret (by kernel_rfl) ?_
     refine ⟨(agg [(i64 x.kind), (i64 x.n), (i64 x.group), (i64 0), (Value.string ByteArray.empty), (Value.string ByteArray.empty), (i64 0), (Value.string ByteArray.empty), (i64 0), (i64 0), (i64 0), (i64 0), (Value.slice none 0 0), (Value.slice D x.body.length dc)]), retv_cell rfl rfl (H54.loads (by kernel_rfl)), ?_⟩
     have e : x.just = (⟨x.kind, x.n, x.group, ⟨0, [], [], 0, [], 0, 0⟩, ⟨0, 0, []⟩, x.body⟩ : LetP) := by unfold LetP.just; first | (simp only [if_pos (show x.kind = 2 by omega), if_neg (show ¬ x.kind = 1 by omega), if_neg (show ¬ x.kind = 3 by omega), if_neg (show ¬ x.kind = 5 by omega), if_pos (show x.kind = 2 ∨ x.kind = 3 by omega)]; done) | (simp only [if_neg (show ¬ x.kind = 2 by omega), if_neg (show ¬ x.kind = 1 by omega), if_pos (show x.kind = 3 by omega), if_neg (show ¬ x.kind = 5 by omega), if_pos (show x.kind = 2 ∨ x.kind = 3 by omega)]; done) | (simp only [if_neg (show ¬ x.kind = 2 by omega), if_neg (show ¬ x.kind = 1 by omega), if_neg (show ¬ x.kind = 3 by omega), if_pos (show x.kind = 5 by omega), if_neg (show ¬ (x.kind = 2 ∨ x.kind = 3) by omega)]; done) | (simp only [if_neg (show ¬ x.kind = 2 by omega), if_pos (show x.kind = 1 by omega), if_neg (show ¬ x.kind = 3 by omega), if_neg (show ¬ x.kind = 5 by omega), if_neg (show ¬ (x.kind = 2 ∨ x.kind = 3) by omega)]; done) | (simp only [if_neg (show ¬ x.kind = 2 by omega), if_neg (show ¬ x.kind = 1 by omega), if_neg (show ¬ x.kind = 3 by omega), if_neg (show ¬ x.kind = 5 by omega), if_neg (show ¬ (x.kind = 2 ∨ x.kind = 3) by omega)]; done)
     exact ⟨none, 0, D, dc, by rw [e]; rfl, K0, by rw [e]; exact (Rd.nil _ _), by rw [e]; exact (hD.keep0 (by omega) K0)⟩
    ·rw [h45]
     have p56 : ¬ (x.kind = 5) := of_beq_f h45
     refine qg ?_
     refine og 1 [(2, (ptr b7)), (3, (ptr b13)), (15, (Value.pointer (some ⟨b1, 13, none⟩)))] 1 ?_
     refine Ops.go (v := (Value.slice D x.body.length dc)) (by kernel_rfl) (Runs.load (t := 28) (a := ⟨b1, 13, none⟩) (by kernel_rfl) (H4.loads (by kernel_rfl))) (d := (some 16)) (by kernel_rfl) rfl ?_
     refine og 1 [(2, (ptr b7)), (3, (ptr b13)), (16, (Value.slice D x.body.length dc)), (17, (Value.pointer (some ⟨b13, 13, none⟩)))] 3 ?_
     refine Ops.put (t := 28) (b := b13) (off := 13) (v := (Value.slice D x.body.length dc)) (ys := [(i64 x.kind), (i64 x.n), (i64 0), (i64 0), (Value.string ByteArray.empty), (Value.string ByteArray.empty), (i64 0), (Value.string ByteArray.empty), (i64 0), (i64 0), (i64 0), (i64 0), (Value.slice none 0 0), (Value.slice D x.body.length dc)]) (by kernel_rfl) (by kernel_rfl) H25 (by kernel_rfl) (d := none) (by kernel_rfl) rfl (fun w57 H58 K59 => ?_)
     clear H25
     replace K0 := K0.trans K59 (U := none_) (fun i h1 h2 => h2) (fun i h1 h2 => by have h2 : i = b13 := h2; exfalso; omega)
     replace H4 := H4.keep K59 (by intro h; change b1 = b13 at h; omega)
     replace H10 := H10.keep K59 (by intro h; change b7 = b13 at h; omega)
     clear K59
     refine od ?_
     refine qs ?_
     refine qg ?_
     refine Ops.go (v := (agg [(i64 x.kind), (i64 x.n), (i64 0), (i64 0), (Value.string ByteArray.empty), (Value.string ByteArray.empty), (i64 0), (Value.string ByteArray.empty), (i64 0), (i64 0), (i64 0), (i64 0), (Value.slice none 0 0), (Value.slice D x.body.length dc)])) (by kernel_rfl) (Runs.load (t := 30) (a := ⟨b13, 0, none⟩) (by kernel_rfl) (H58.loads (by kernel_rfl))) (d := (some 36)) (by kernel_rfl) rfl ?_
     refine Ops.put (t := 30) (b := b7) (off := 0) (v := (agg [(i64 x.kind), (i64 x.n), (i64 0), (i64 0), (Value.string ByteArray.empty), (Value.string ByteArray.empty), (i64 0), (Value.string ByteArray.empty), (i64 0), (i64 0), (i64 0), (i64 0), (Value.slice none 0 0), (Value.slice D x.body.length dc)])) (ys := [(i64 x.kind), (i64 x.n), (i64 0), (i64 0), (Value.string ByteArray.empty), (Value.string ByteArray.empty), (i64 0), (Value.string ByteArray.empty), (i64 0), (i64 0), (i64 0), (i64 0), (Value.slice none 0 0), (Value.slice D x.body.length dc)]) (by kernel_rfl) (by kernel_rfl) H10 (by kernel_rfl) (d := none) (by kernel_rfl) rfl (fun w60 H61 K62 => ?_)
     clear H10
     replace K0 := K0.trans K62 (U := none_) (fun i h1 h2 => h2) (fun i h1 h2 => by have h2 : i = b7 := h2; exfalso; omega)
     replace H4 := H4.keep K62 (by intro h; change b1 = b7 at h; omega)
     replace H58 := H58.keep K62 (by intro h; change b13 = b7 at h; omega)
     clear K62
     refine od ?_
     refine q_ret (by kernel_rfl) ?_
     refine ⟨(agg [(i64 x.kind), (i64 x.n), (i64 0), (i64 0), (Value.string ByteArray.empty), (Value.string ByteArray.empty), (i64 0), (Value.string ByteArray.empty), (i64 0), (i64 0), (i64 0), (i64 0), (Value.slice none 0 0), (Value.slice D x.body.length dc)]), retv_cell rfl rfl (H61.loads (by kernel_rfl)), ?_⟩
     have e : x.just = (⟨x.kind, x.n, 0, ⟨0, [], [], 0, [], 0, 0⟩, ⟨0, 0, []⟩, x.body⟩ : LetP) := by unfold LetP.just; first | (simp only [if_pos (show x.kind = 2 by omega), if_neg (show ¬ x.kind = 1 by omega), if_neg (show ¬ x.kind = 3 by omega), if_neg (show ¬ x.kind = 5 by omega), if_pos (show x.kind = 2 ∨ x.kind = 3 by omega)]; done) | (simp only [if_neg (show ¬ x.kind = 2 by omega), if_neg (show ¬ x.kind = 1 by omega), if_pos (show x.kind = 3 by omega), if_neg (show ¬ x.kind = 5 by omega), if_pos (show x.kind = 2 ∨ x.kind = 3 by omega)]; done) | (simp only [if_neg (show ¬ x.kind = 2 by omega), if_neg (show ¬ x.kind = 1 by omega), if_neg (show ¬ x.kind = 3 by omega), if_pos (show x.kind = 5 by omega), if_neg (show ¬ (x.kind = 2 ∨ x.kind = 3) by omega)]; done) | (simp only [if_neg (show ¬ x.kind = 2 by omega), if_pos (show x.kind = 1 by omega), if_neg (show ¬ x.kind = 3 by omega), if_neg (show ¬ x.kind = 5 by omega), if_neg (show ¬ (x.kind = 2 ∨ x.kind = 3) by omega)]; done) | (simp only [if_neg (show ¬ x.kind = 2 by omega), if_neg (show ¬ x.kind = 1 by omega), if_neg (show ¬ x.kind = 3 by omega), if_neg (show ¬ x.kind = 5 by omega), if_neg (show ¬ (x.kind = 2 ∨ x.kind = 3) by omega)]; done)
     exact ⟨none, 0, D, dc, by rw [e]; rfl, K0, by rw [e]; exact (Rd.nil _ _), by rw [e]; exact (hD.keep0 (by omega) K0)⟩
 ·rw [h22]
  have p63 : x.kind = 1 := of_bne_f h22
  refine q_skip (by kernel_rfl) ?_
  refine qs ?_
  refine qs ?_
  refine qg ?_
  refine og 1 [(1, (ptr b1)), (2, (ptr b7)), (3, (ptr b13)), (13, (ptr b1))] 1 ?_
  refine Ops.go (v := (i64 x.kind)) (by kernel_rfl) (Runs.load (t := 3) (a := ⟨b1, 0, none⟩) (by kernel_rfl) (H4.loads (by kernel_rfl))) (d := (some 14)) (by kernel_rfl) rfl ?_
  refine od ?_
  refine q_block (id := 0) (by kernel_rfl) ?_
  refine qs ?_
  refine qg ?_
  refine og 2 [(1, (ptr b1)), (2, (ptr b7)), (3, (ptr b13)), (14, (i64 x.kind)), (18, (Value.bool (x.kind == 2)))] 2 ?_
  refine od ?_
  have h64 : (x.kind == 2) = false := beq_f (by omega)
  rw [h64]
  refine q_else (o := .tmp 18) (by kernel_rfl) rfl ?_
  refine qs ?_
  refine qg ?_
  refine og 2 [(1, (ptr b1)), (2, (ptr b7)), (3, (ptr b13)), (14, (i64 x.kind)), (23, (Value.bool (x.kind == 3)))] 2 ?_
  refine od ?_
  have h65 : (x.kind == 3) = false := beq_f (by omega)
  rw [h65]
  refine q_else (o := .tmp 23) (by kernel_rfl) rfl ?_
  refine qs ?_
  refine qg ?_
  refine og 2 [(1, (ptr b1)), (2, (ptr b7)), (3, (ptr b13)), (28, (Value.bool (x.kind == 5)))] 2 ?_
  refine od ?_
  have h66 : (x.kind == 5) = false := beq_f (by omega)
  rw [h66]
  refine q_else (o := .tmp 28) (by kernel_rfl) rfl ?_
  refine qg ?_
  refine og 1 [(2, (ptr b7)), (3, (ptr b13)), (15, (Value.pointer (some ⟨b1, 13, none⟩)))] 1 ?_
  refine Ops.go (v := (Value.slice D x.body.length dc)) (by kernel_rfl) (Runs.load (t := 28) (a := ⟨b1, 13, none⟩) (by kernel_rfl) (H4.loads (by kernel_rfl))) (d := (some 16)) (by kernel_rfl) rfl ?_
  refine og 1 [(2, (ptr b7)), (3, (ptr b13)), (16, (Value.slice D x.body.length dc)), (17, (Value.pointer (some ⟨b13, 13, none⟩)))] 3 ?_
  refine Ops.put (t := 28) (b := b13) (off := 13) (v := (Value.slice D x.body.length dc)) (ys := [(i64 x.kind), (i64 0), (i64 0), (i64 0), (Value.string ByteArray.empty), (Value.string ByteArray.empty), (i64 0), (Value.string ByteArray.empty), (i64 0), (i64 0), (i64 0), (i64 0), (Value.slice none 0 0), (Value.slice D x.body.length dc)]) (by kernel_rfl) (by kernel_rfl) H20 (by kernel_rfl) (d := none) (by kernel_rfl) rfl (fun w67 H68 K69 => ?_)
  clear H20
  replace K0 := K0.trans K69 (U := none_) (fun i h1 h2 => h2) (fun i h1 h2 => by have h2 : i = b13 := h2; exfalso; omega)
  replace H4 := H4.keep K69 (by intro h; change b1 = b13 at h; omega)
  replace H10 := H10.keep K69 (by intro h; change b7 = b13 at h; omega)
  clear K69
  refine od ?_
  refine qs ?_
  refine qg ?_
  refine Ops.go (v := (agg [(i64 x.kind), (i64 0), (i64 0), (i64 0), (Value.string ByteArray.empty), (Value.string ByteArray.empty), (i64 0), (Value.string ByteArray.empty), (i64 0), (i64 0), (i64 0), (i64 0), (Value.slice none 0 0), (Value.slice D x.body.length dc)])) (by kernel_rfl) (Runs.load (t := 30) (a := ⟨b13, 0, none⟩) (by kernel_rfl) (H68.loads (by kernel_rfl))) (d := (some 36)) (by kernel_rfl) rfl ?_
  refine Ops.put (t := 30) (b := b7) (off := 0) (v := (agg [(i64 x.kind), (i64 0), (i64 0), (i64 0), (Value.string ByteArray.empty), (Value.string ByteArray.empty), (i64 0), (Value.string ByteArray.empty), (i64 0), (i64 0), (i64 0), (i64 0), (Value.slice none 0 0), (Value.slice D x.body.length dc)])) (ys := [(i64 x.kind), (i64 0), (i64 0), (i64 0), (Value.string ByteArray.empty), (Value.string ByteArray.empty), (i64 0), (Value.string ByteArray.empty), (i64 0), (i64 0), (i64 0), (i64 0), (Value.slice none 0 0), (Value.slice D x.body.length dc)]) (by kernel_rfl) (by kernel_rfl) H10 (by kernel_rfl) (d := none) (by kernel_rfl) rfl (fun w70 H71 K72 => ?_)
  clear H10
  replace K0 := K0.trans K72 (U := none_) (fun i h1 h2 => h2) (fun i h1 h2 => by have h2 : i = b7 := h2; exfalso; omega)
  replace H4 := H4.keep K72 (by intro h; change b1 = b7 at h; omega)
  replace H68 := H68.keep K72 (by intro h; change b13 = b7 at h; omega)
  clear K72
  refine od ?_
  refine q_ret (by kernel_rfl) ?_
  refine ⟨(agg [(i64 x.kind), (i64 0), (i64 0), (i64 0), (Value.string ByteArray.empty), (Value.string ByteArray.empty), (i64 0), (Value.string ByteArray.empty), (i64 0), (i64 0), (i64 0), (i64 0), (Value.slice none 0 0), (Value.slice D x.body.length dc)]), retv_cell rfl rfl (H71.loads (by kernel_rfl)), ?_⟩
  have e : x.just = (⟨x.kind, 0, 0, ⟨0, [], [], 0, [], 0, 0⟩, ⟨0, 0, []⟩, x.body⟩ : LetP) := by unfold LetP.just; first | (simp only [if_pos (show x.kind = 2 by omega), if_neg (show ¬ x.kind = 1 by omega), if_neg (show ¬ x.kind = 3 by omega), if_neg (show ¬ x.kind = 5 by omega), if_pos (show x.kind = 2 ∨ x.kind = 3 by omega)]; done) | (simp only [if_neg (show ¬ x.kind = 2 by omega), if_neg (show ¬ x.kind = 1 by omega), if_pos (show x.kind = 3 by omega), if_neg (show ¬ x.kind = 5 by omega), if_pos (show x.kind = 2 ∨ x.kind = 3 by omega)]; done) | (simp only [if_neg (show ¬ x.kind = 2 by omega), if_neg (show ¬ x.kind = 1 by omega), if_neg (show ¬ x.kind = 3 by omega), if_pos (show x.kind = 5 by omega), if_neg (show ¬ (x.kind = 2 ∨ x.kind = 3) by omega)]; done) | (simp only [if_neg (show ¬ x.kind = 2 by omega), if_pos (show x.kind = 1 by omega), if_neg (show ¬ x.kind = 3 by omega), if_neg (show ¬ x.kind = 5 by omega), if_neg (show ¬ (x.kind = 2 ∨ x.kind = 3) by omega)]; done) | (simp only [if_neg (show ¬ x.kind = 2 by omega), if_neg (show ¬ x.kind = 1 by omega), if_neg (show ¬ x.kind = 3 by omega), if_neg (show ¬ x.kind = 5 by omega), if_neg (show ¬ (x.kind = 2 ∨ x.kind = 3) by omega)]; done)
  exact ⟨none, 0, D, dc, by rw [e]; rfl, K0, by rw [e]; exact (Rd.nil _ _), by rw [e]; exact (hD.keep0 (by omega) K0)⟩
end Go.Proofs.Ytlnidnadpdpciaa
