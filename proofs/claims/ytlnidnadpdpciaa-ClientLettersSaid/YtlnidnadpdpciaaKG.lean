/- letters are packed -/
import Derived.Test.YtlnidnadpdpciaaProg
import Derived.Test.YtlnidnadpdpciaaKF
import Derived.Test.YtlnidnadpdpciaaKD
import Derived.Test.YtlnidnadpdpciaaLX
set_option linter.unusedVariables false
namespace Go.Proofs.Ytlnidnadpdpciaa
open Go.Q Go.RowKit
theorem tyR : ElemTy Try.prog 25 59 2 24 := elemTy (by kernel_rfl)

theorem given_calls (w : World) (x : LetP) (V : Option Addr) (c : Nat) (D : Option Addr) (dc : Nat) (hV : RdR w (.slice V x.rep.rows.length c) x.rep.rows) (hD : RdB w (.slice D x.body.length dc) x.body) (hrz : x.rep.rows.length * 24 ≤ 140737488351232) (hbz : x.body.length ≤ 140737488351232) : Calls Try.prog 8 ⟨[(agg [(i64 x.kind), (i64 x.n), (i64 x.group), (i64 x.op.kind), (Value.string (str x.op.frm)), (Value.string (str x.op.to)), (i64 x.op.amount), (Value.string (str x.op.key)), (i64 x.op.slot), (i64 x.op.shard), (i64 x.rep.why), (i64 x.rep.amount), (Value.slice V x.rep.rows.length c), (Value.slice D x.body.length dc)])]⟩ w (fun e w' => ∃ V c D dc, e = .returned (agg (x.cells V c D dc)) ∧ Keeps none_ w w' ∧ OwnR w' w.heap.size 59 (.slice V x.rep.rows.length c) x.rep.rows ∧ OwnB w' w.heap.size 5 (.slice D x.body.length dc) x.body) := by
 have K0 : Keeps none_ w w := Keeps.refl w
 refine q_calls Try.func8 (by kernel_rfl) (by kernel_rfl) ?_
 refine qs ?_
 refine qg ?_
 refine Ops.new (o := rowL [(i64 x.kind), (i64 x.n), (i64 x.group), (i64 x.op.kind), (Value.string (str x.op.frm)), (Value.string (str x.op.to)), (i64 x.op.amount), (Value.string (str x.op.key)), (i64 x.op.slot), (i64 x.op.shard), (i64 x.rep.why), (i64 x.rep.amount), (Value.slice V x.rep.rows.length c), (Value.slice D x.body.length dc)] 30) (V := fun b => (ptr b)) (by kernel_rfl) (d := (some 1)) (by kernel_rfl) (fun b => rfl) (fun b1 w2 hb3 H4 K5 hs6 => ?_)
 have nb1 : w.heap.size ≤ b1 := by have := K0.size; omega
 replace K0 := K0.t0 K5
 clear K5 hs6
 refine Ops.new (o := rowL [(i64 0), (i64 0), (i64 0), (i64 0), (Value.string ByteArray.empty), (Value.string ByteArray.empty), (i64 0), (Value.string ByteArray.empty), (i64 0), (i64 0), (i64 0), (i64 0), (Value.slice none 0 0), (Value.slice none 0 0)] 33) (V := fun b => (ptr b)) (by kernel_rfl) (d := (some 2)) (by kernel_rfl) (fun b => rfl) (fun b7 w8 hb9 H10 K11 hs12 => ?_)
 have lb7b1 : b1 < b7 := by have := H4.lt; omega
 have nb7 : w.heap.size ≤ b7 := by have := K0.size; omega
 replace K0 := K0.t0 K11
 replace H4 := H4.keep K11 (fun h => h)
 clear K11 hs12
 refine od ?_
 refine qs ?_
 refine qg ?_
 refine og 1 [(1, (ptr b1)), (2, (ptr b7)), (4, (ptr b1))] 1 ?_
 refine Ops.go (v := (i64 x.kind)) (by kernel_rfl) (Runs.load (t := 3) (a := ⟨b1, 0, none⟩) (by kernel_rfl) (H4.loads (by kernel_rfl))) (d := (some 5)) (by kernel_rfl) rfl ?_
 refine og 1 [(1, (ptr b1)), (2, (ptr b7)), (5, (i64 x.kind)), (6, (Value.pointer (some ⟨b1, 1, none⟩)))] 3 ?_
 refine Ops.go (v := (i64 x.n)) (by kernel_rfl) (Runs.load (t := 2) (a := ⟨b1, 1, none⟩) (by kernel_rfl) (H4.loads (by kernel_rfl))) (d := (some 7)) (by kernel_rfl) rfl ?_
 refine og 1 [(1, (ptr b1)), (2, (ptr b7)), (5, (i64 x.kind)), (7, (i64 x.n)), (8, (Value.pointer (some ⟨b1, 2, none⟩)))] 5 ?_
 refine Ops.go (v := (i64 x.group)) (by kernel_rfl) (Runs.load (t := 3) (a := ⟨b1, 2, none⟩) (by kernel_rfl) (H4.loads (by kernel_rfl))) (d := (some 9)) (by kernel_rfl) rfl ?_
 refine og 1 [(1, (ptr b1)), (2, (ptr b7)), (5, (i64 x.kind)), (7, (i64 x.n)), (9, (i64 x.group)), (10, (Value.pointer (some ⟨b1, 3, none⟩)))] 7 ?_
 refine Ops.go (v := (agg [(i64 x.op.kind), (Value.string (str x.op.frm)), (Value.string (str x.op.to)), (i64 x.op.amount), (Value.string (str x.op.key)), (i64 x.op.slot), (i64 x.op.shard)])) (by kernel_rfl) (Runs.load (t := 23) (a := ⟨b1, 3, none⟩) (by kernel_rfl) (H4.loads (by kernel_rfl))) (d := (some 11)) (by kernel_rfl) rfl ?_
 refine og 2 [(1, (ptr b1)), (2, (ptr b7)), (5, (i64 x.kind)), (7, (i64 x.n)), (9, (i64 x.group)), (11, (agg [(i64 x.op.kind), (Value.string (str x.op.frm)), (Value.string (str x.op.to)), (i64 x.op.amount), (Value.string (str x.op.key)), (i64 x.op.slot), (i64 x.op.shard)])), (13, (Value.pointer (some ⟨b1, 10, none⟩)))] 10 ?_
 refine Ops.go (v := (i64 x.rep.why)) (by kernel_rfl) (Runs.load (t := 24) (a := ⟨b1, 10, none⟩) (by kernel_rfl) (H4.loads (by kernel_rfl))) (d := (some 14)) (by kernel_rfl) rfl ?_
 refine og 2 [(1, (ptr b1)), (2, (ptr b7)), (5, (i64 x.kind)), (7, (i64 x.n)), (9, (i64 x.group)), (11, (agg [(i64 x.op.kind), (Value.string (str x.op.frm)), (Value.string (str x.op.to)), (i64 x.op.amount), (Value.string (str x.op.key)), (i64 x.op.slot), (i64 x.op.shard)])), (14, (i64 x.rep.why)), (16, (Value.pointer (some ⟨b1, 11, none⟩)))] 13 ?_
 refine Ops.go (v := (i64 x.rep.amount)) (by kernel_rfl) (Runs.load (t := 2) (a := ⟨b1, 11, none⟩) (by kernel_rfl) (H4.loads (by kernel_rfl))) (d := (some 17)) (by kernel_rfl) rfl ?_
 refine og 2 [(1, (ptr b1)), (2, (ptr b7)), (19, (agg [(i64 x.kind), (i64 x.n), (i64 x.group), (i64 x.op.kind), (Value.string (str x.op.frm)), (Value.string (str x.op.to)), (i64 x.op.amount), (Value.string (str x.op.key)), (i64 x.op.slot), (i64 x.op.shard), (i64 x.rep.why), (i64 x.rep.amount), (Value.slice none 0 0), (Value.slice none 0 0)]))] 16 ?_
 refine Ops.new (o := rowL [(i64 0), (i64 0), (i64 0), (i64 0), (Value.string ByteArray.empty), (Value.string ByteArray.empty), (i64 0), (Value.string ByteArray.empty), (i64 0), (i64 0), (i64 0), (i64 0), (Value.slice none 0 0), (Value.slice none 0 0)] 33) (V := fun b => (ptr b)) (by kernel_rfl) (d := (some 3)) (by kernel_rfl) (fun b => rfl) (fun b13 w14 hb15 H16 K17 hs18 => ?_)
 have lb13b1 : b1 < b13 := by have := H4.lt; omega
 have lb13b7 : b7 < b13 := by have := H10.lt; omega
 have nb13 : w.heap.size ≤ b13 := by have := K0.size; omega
 replace K0 := K0.t0 K17
 replace H4 := H4.keep K17 (fun h => h)
 replace H10 := H10.keep K17 (fun h => h)
 clear K17 hs18
 refine Ops.put (t := 33) (b := b13) (off := 0) (v := (agg [(i64 x.kind), (i64 x.n), (i64 x.group), (i64 x.op.kind), (Value.string (str x.op.frm)), (Value.string (str x.op.to)), (i64 x.op.amount), (Value.string (str x.op.key)), (i64 x.op.slot), (i64 x.op.shard), (i64 x.rep.why), (i64 x.rep.amount), (Value.slice none 0 0), (Value.slice none 0 0)])) (ys := [(i64 x.kind), (i64 x.n), (i64 x.group), (i64 x.op.kind), (Value.string (str x.op.frm)), (Value.string (str x.op.to)), (i64 x.op.amount), (Value.string (str x.op.key)), (i64 x.op.slot), (i64 x.op.shard), (i64 x.rep.why), (i64 x.rep.amount), (Value.slice none 0 0), (Value.slice none 0 0)]) (by kernel_rfl) (by kernel_rfl) H16 (by kernel_rfl) (d := none) (by kernel_rfl) rfl (fun w19 H20 K21 => ?_)
 clear H16
 replace K0 := K0.trans K21 (U := none_) (fun i h1 h2 => h2) (fun i h1 h2 => by have h2 : i = b13 := h2; exfalso; omega)
 replace H4 := H4.keep K21 (by intro h; change b1 = b13 at h; omega)
 replace H10 := H10.keep K21 (by intro h; change b7 = b13 at h; omega)
 clear K21
 refine od ?_
 refine qs ?_
 refine qg ?_
 refine og 2 [(1, (ptr b1)), (2, (ptr b7)), (3, (ptr b13)), (21, (Value.pointer (some ⟨b13, 12, none⟩)))] 2 ?_
 refine Ops.go (v := (Value.slice none 0 0)) (by kernel_rfl) (Runs.load (t := 25) (a := ⟨b13, 12, none⟩) (by kernel_rfl) (H20.loads (by kernel_rfl))) (d := (some 22)) (by kernel_rfl) rfl ?_
 refine og 2 [(1, (ptr b1)), (2, (ptr b7)), (3, (ptr b13)), (22, (Value.slice none 0 0)), (24, (Value.pointer (some ⟨b1, 12, none⟩)))] 5 ?_
 refine Ops.go (v := (Value.slice V x.rep.rows.length c)) (by kernel_rfl) (Runs.load (t := 25) (a := ⟨b1, 12, none⟩) (by kernel_rfl) (H4.loads (by kernel_rfl))) (d := (some 25)) (by kernel_rfl) rfl ?_
 obtain ⟨v22, w23, hr24, hO25, hK26, hg27⟩ := OwnT.app (ty := 25) RowM.two RowM.one tyR (OwnT.nil _ w.heap.size 59 2 RowM.cells) (Rd.keep0 (by omega) hV K0) (by first | omega | (simp only [List.length_nil]; omega)) (by first | omega | (simp only [List.length_nil]; omega)) K0.size
 obtain ⟨A29, c30, rfl⟩ := RdT.form RowM.two (by decide) (OwnT.rd hO25)
 have ob31 : ∀ i, ((Value.slice A29 (([] ++ x.rep.rows).length) c30)).ownBlock = some i → i ≠ b1 := fun i hi => by rcases hg27 i hi with h | h; (cases h); (have := H4.lt; omega)
 have ob32 : ∀ i, ((Value.slice A29 (([] ++ x.rep.rows).length) c30)).ownBlock = some i → i ≠ b7 := fun i hi => by rcases hg27 i hi with h | h; (cases h); (have := H10.lt; omega)
 have ob33 : ∀ i, ((Value.slice A29 (([] ++ x.rep.rows).length) c30)).ownBlock = some i → i ≠ b13 := fun i hi => by rcases hg27 i hi with h | h; (cases h); (have := H20.lt; omega)
 have K28 := Keeps.mono (U := none_) hK26 (fun _ _ h => by cases h)
 refine Ops.go (v := (Value.slice A29 (([] ++ x.rep.rows).length) c30)) (by kernel_rfl) (Runs.append (ts := #[25, 25]) (ty := 25) (vs := [(Value.slice none 0 0), (Value.slice V x.rep.rows.length c)]) (by kernel_rfl) hr24) (d := (some 26)) (by kernel_rfl) rfl ?_
 replace K0 := K0.t0 K28
 replace H4 := H4.keep K28 (fun h => h)
 replace H10 := H10.keep K28 (fun h => h)
 replace H20 := H20.keep K28 (fun h => h)
 clear K28 hr24 hK26 hg27
 refine og 2 [(1, (ptr b1)), (2, (ptr b7)), (3, (ptr b13)), (26, (Value.slice A29 (([] ++ x.rep.rows).length) c30)), (28, (Value.pointer (some ⟨b13, 12, none⟩)))] 9 ?_
 refine Ops.put (t := 25) (b := b13) (off := 12) (v := (Value.slice A29 (([] ++ x.rep.rows).length) c30)) (ys := [(i64 x.kind), (i64 x.n), (i64 x.group), (i64 x.op.kind), (Value.string (str x.op.frm)), (Value.string (str x.op.to)), (i64 x.op.amount), (Value.string (str x.op.key)), (i64 x.op.slot), (i64 x.op.shard), (i64 x.rep.why), (i64 x.rep.amount), (Value.slice A29 (([] ++ x.rep.rows).length) c30), (Value.slice none 0 0)]) (by kernel_rfl) (by kernel_rfl) H20 (by kernel_rfl) (d := none) (by kernel_rfl) rfl (fun w34 H35 K36 => ?_)
 clear H20
 replace K0 := K0.trans K36 (U := none_) (fun i h1 h2 => h2) (fun i h1 h2 => by have h2 : i = b13 := h2; exfalso; omega)
 replace H4 := H4.keep K36 (by intro h; change b1 = b13 at h; omega)
 replace H10 := H10.keep K36 (by intro h; change b7 = b13 at h; omega)
 replace hO25 := own_keep hO25 K36 (fun i hi hs => by have hs : i = b13 := hs; have := ob33 i hi; omega)
 clear K36
 refine od ?_
 refine qs ?_
 refine qg ?_
 refine og 1 [(1, (ptr b1)), (2, (ptr b7)), (3, (ptr b13)), (29, (Value.pointer (some ⟨b13, 13, none⟩)))] 1 ?_
 refine Ops.go (v := (Value.slice none 0 0)) (by kernel_rfl) (Runs.load (t := 28) (a := ⟨b13, 13, none⟩) (by kernel_rfl) (H35.loads (by kernel_rfl))) (d := (some 30)) (by kernel_rfl) rfl ?_
 refine og 1 [(2, (ptr b7)), (3, (ptr b13)), (30, (Value.slice none 0 0)), (31, (Value.pointer (some ⟨b1, 13, none⟩)))] 3 ?_
 refine Ops.go (v := (Value.slice D x.body.length dc)) (by kernel_rfl) (Runs.load (t := 28) (a := ⟨b1, 13, none⟩) (by kernel_rfl) (H4.loads (by kernel_rfl))) (d := (some 32)) (by kernel_rfl) rfl ?_
 obtain ⟨v37, w38, hr39, hO40, hK41⟩ := OwnB.app (ty := 28) (base := w34.heap.size) tyB (show OwnB w34 w34.heap.size 5 (.slice none 0 0) [] from World.ownsRow_nil _ _ _ _) (hD.keep0 (by omega) K0) (by simp only [List.length_nil]; omega) (Nat.le_refl _)
 have hO42 : OwnB w38 _ 5 v37 x.body := hO40
 have ob45 : ∀ i, (v37).ownBlock = some i → i ≠ b1 := fun i hi => by have := (World.ownsRow.lt hO42 i hi).1; have := H4.lt; omega
 have ob46 : ∀ i, (v37).ownBlock = some i → i ≠ b7 := fun i hi => by have := (World.ownsRow.lt hO42 i hi).1; have := H10.lt; omega
 have ob47 : ∀ i, (v37).ownBlock = some i → i ≠ b13 := fun i hi => by have := (World.ownsRow.lt hO42 i hi).1; have := H35.lt; omega
 have oo48 : ∀ i, ((Value.slice A29 (([] ++ x.rep.rows).length) c30)).ownBlock = some i → (v37).ownBlock = some i → False := fun i hi hs => by have := (World.ownsRow.lt hO42 i hs).1; have := (World.ownsRow.lt hO25 i hi).2; omega
 have oo49 : ∀ i, (v37).ownBlock = some i → ((Value.slice A29 (([] ++ x.rep.rows).length) c30)).ownBlock = some i → False := fun i hi hs => oo48 i hs hi
 have K44 := Keeps.new hK41
 have O43 := own_base hO42 K0.size
 refine Ops.go (v := v37) (by kernel_rfl) (Runs.append (ts := #[28, 28]) (ty := 28) (vs := [(Value.slice none 0 0), (Value.slice D x.body.length dc)]) (by kernel_rfl) hr39) (d := (some 33)) (by kernel_rfl) rfl ?_
 replace K0 := K0.t0 K44
 replace H4 := H4.keep K44 (fun h => h)
 replace H10 := H10.keep K44 (fun h => h)
 replace H35 := H35.keep K44 (fun h => h)
 replace hO25 := own_keep0 hO25 K44
 clear K44 hr39 hK41 hO40 hO42
 obtain ⟨A50, c51, hf52⟩ := RdB.form (OwnB.rd O43)
 subst hf52
 refine og 1 [(2, (ptr b7)), (3, (ptr b13)), (33, (Value.slice A50 x.body.length c51)), (34, (Value.pointer (some ⟨b13, 13, none⟩)))] 6 ?_
 refine Ops.put (t := 28) (b := b13) (off := 13) (v := (Value.slice A50 x.body.length c51)) (ys := [(i64 x.kind), (i64 x.n), (i64 x.group), (i64 x.op.kind), (Value.string (str x.op.frm)), (Value.string (str x.op.to)), (i64 x.op.amount), (Value.string (str x.op.key)), (i64 x.op.slot), (i64 x.op.shard), (i64 x.rep.why), (i64 x.rep.amount), (Value.slice A29 (([] ++ x.rep.rows).length) c30), (Value.slice A50 x.body.length c51)]) (by kernel_rfl) (by kernel_rfl) H35 (by kernel_rfl) (d := none) (by kernel_rfl) rfl (fun w53 H54 K55 => ?_)
 clear H35
 replace K0 := K0.trans K55 (U := none_) (fun i h1 h2 => h2) (fun i h1 h2 => by have h2 : i = b13 := h2; exfalso; omega)
 replace H4 := H4.keep K55 (by intro h; change b1 = b13 at h; omega)
 replace H10 := H10.keep K55 (by intro h; change b7 = b13 at h; omega)
 replace hO25 := own_keep hO25 K55 (fun i hi hs => by have hs : i = b13 := hs; have := ob33 i hi; omega)
 replace O43 := own_keep O43 K55 (fun i hi hs => by have hs : i = b13 := hs; have := ob47 i hi; omega)
 clear K55
 refine od ?_
 refine qs ?_
 refine qg ?_
 refine Ops.go (v := (agg [(i64 x.kind), (i64 x.n), (i64 x.group), (i64 x.op.kind), (Value.string (str x.op.frm)), (Value.string (str x.op.to)), (i64 x.op.amount), (Value.string (str x.op.key)), (i64 x.op.slot), (i64 x.op.shard), (i64 x.rep.why), (i64 x.rep.amount), (Value.slice A29 (([] ++ x.rep.rows).length) c30), (Value.slice A50 x.body.length c51)])) (by kernel_rfl) (Runs.load (t := 33) (a := ⟨b13, 0, none⟩) (by kernel_rfl) (H54.loads (by kernel_rfl))) (d := (some 35)) (by kernel_rfl) rfl ?_
 refine Ops.put (t := 33) (b := b7) (off := 0) (v := (agg [(i64 x.kind), (i64 x.n), (i64 x.group), (i64 x.op.kind), (Value.string (str x.op.frm)), (Value.string (str x.op.to)), (i64 x.op.amount), (Value.string (str x.op.key)), (i64 x.op.slot), (i64 x.op.shard), (i64 x.rep.why), (i64 x.rep.amount), (Value.slice A29 (([] ++ x.rep.rows).length) c30), (Value.slice A50 x.body.length c51)])) (ys := [(i64 x.kind), (i64 x.n), (i64 x.group), (i64 x.op.kind), (Value.string (str x.op.frm)), (Value.string (str x.op.to)), (i64 x.op.amount), (Value.string (str x.op.key)), (i64 x.op.slot), (i64 x.op.shard), (i64 x.rep.why), (i64 x.rep.amount), (Value.slice A29 (([] ++ x.rep.rows).length) c30), (Value.slice A50 x.body.length c51)]) (by kernel_rfl) (by kernel_rfl) H10 (by kernel_rfl) (d := none) (by kernel_rfl) rfl (fun w56 H57 K58 => ?_)
 clear H10
 replace K0 := K0.trans K58 (U := none_) (fun i h1 h2 => h2) (fun i h1 h2 => by have h2 : i = b7 := h2; exfalso; omega)
 replace H4 := H4.keep K58 (by intro h; change b1 = b7 at h; omega)
 replace H54 := H54.keep K58 (by intro h; change b13 = b7 at h; omega)
 replace hO25 := own_keep hO25 K58 (fun i hi hs => by have hs : i = b7 := hs; have := ob32 i hi; omega)
 replace O43 := own_keep O43 K58 (fun i hi hs => by have hs : i = b7 := hs; have := ob46 i hi; omega)
 clear K58
 refine od ?_
 refine q_ret (by kernel_rfl) ?_
 refine ⟨(agg [(i64 x.kind), (i64 x.n), (i64 x.group), (i64 x.op.kind), (Value.string (str x.op.frm)), (Value.string (str x.op.to)), (i64 x.op.amount), (Value.string (str x.op.key)), (i64 x.op.slot), (i64 x.op.shard), (i64 x.rep.why), (i64 x.rep.amount), (Value.slice A29 (([] ++ x.rep.rows).length) c30), (Value.slice A50 x.body.length c51)]), retv_cell rfl rfl (H57.loads (by kernel_rfl)), ?_⟩
 exact ⟨_, _, _, _, rfl, K0, hO25, O43⟩

theorem Pack_calls (w : World) (x : LetP) (V : Option Addr) (c : Nat) (D : Option Addr) (dc : Nat) (hok : x.Ok) (hV : RdR w (.slice V x.rep.rows.length c) x.rep.rows) (hD : RdB w (.slice D x.body.length dc) x.body) : Calls Try.prog 7 ⟨[(agg [(i64 x.kind), (i64 x.n), (i64 x.group), (i64 x.op.kind), (Value.string (str x.op.frm)), (Value.string (str x.op.to)), (i64 x.op.amount), (Value.string (str x.op.key)), (i64 x.op.slot), (i64 x.op.shard), (i64 x.rep.why), (i64 x.rep.amount), (Value.slice V x.rep.rows.length c), (Value.slice D x.body.length dc)])]⟩ w (fun e w' => ∃ v', e = .returned (.tuple #[v', i64 (packB x).2]) ∧ Keeps none_ w w' ∧ OwnB w' w.heap.size 5 v' (packB x).1) := by
 have hi0 := hok.kind
 have hi1 := hok.n
 have hi2 := hok.group
 have hil0 := iv_length_10 hi0
 have hil1 := iv_length_10 hi1
 have hil2 := iv_length_10 hi2
 have K0 : Keeps none_ w w := Keeps.refl w
 refine q_calls Try.func7 (by kernel_rfl) (by kernel_rfl) ?_
 refine qs ?_
 refine qg ?_
 refine Ops.new (o := rowL [(i64 x.kind), (i64 x.n), (i64 x.group), (i64 x.op.kind), (Value.string (str x.op.frm)), (Value.string (str x.op.to)), (i64 x.op.amount), (Value.string (str x.op.key)), (i64 x.op.slot), (i64 x.op.shard), (i64 x.rep.why), (i64 x.rep.amount), (Value.slice V x.rep.rows.length c), (Value.slice D x.body.length dc)] 33) (V := fun b => (ptr b)) (by kernel_rfl) (d := (some 1)) (by kernel_rfl) (fun b => rfl) (fun b1 w2 hb3 H4 K5 hs6 => ?_)
 have nb1 : w.heap.size ≤ b1 := by have := K0.size; omega
 replace K0 := K0.t0 K5
 clear K5 hs6
 refine og 2 [(1, (ptr b1)), (2, (Value.slice none 0 0)), (3, (i64 0))] 3 ?_
 refine od ?_
 refine qs ?_
 refine qs ?_
 refine qg ?_
 refine og 1 [(1, (ptr b1)), (2, (Value.slice none 0 0)), (3, (i64 0)), (5, (ptr b1))] 1 ?_
 refine Ops.go (v := (i64 x.kind)) (by kernel_rfl) (Runs.load (t := 3) (a := ⟨b1, 0, none⟩) (by kernel_rfl) (H4.loads (by kernel_rfl))) (d := (some 6)) (by kernel_rfl) rfl ?_
 refine og 2 [(1, (ptr b1)), (2, (Value.slice none 0 0)), (3, (i64 0)), (8, (Value.bool (decide (x.kind < 1))))] 4 ?_
 refine Ops.split (decide (x.kind < 1)) (fun h7 => ?_) (fun h7 => ?_)
 ·rw [h7]
  have p8 : x.kind < 1 := of_decide_eq_true h7
  refine og 4 [(1, (ptr b1)), (2, (Value.slice none 0 0)), (3, (i64 0)), (12, (Value.bool true))] 8 ?_
  refine od ?_
  refine q_then (o := .tmp 12) (by kernel_rfl) rfl ?_
  refine qs ?_
  refine qg ?_
  refine og 2 [(1, (ptr b1)), (2, (Value.slice none 0 0)), (3, (i64 1))] 2 ?_
  refine od ?_
  refine q_ret (by kernel_rfl) ?_
  refine ⟨(Value.tuple #[(Value.slice none 0 0), (i64 1)]), retv_tmp2 rfl rfl rfl, ?_⟩
  have e : packB x = ([], 1) := by unfold packB; first | (rw [if_pos (by omega)]; done) | (rw [if_neg (by omega), if_pos hf]; done)
  exact ⟨_, by rw [e], K0, by rw [e]; exact World.ownsRow_nil _ _ _ _⟩
 ·rw [h7]
  have p9 : ¬ (x.kind < 1) := of_decide_eq_false h7
  refine og 1 [(1, (ptr b1)), (2, (Value.slice none 0 0)), (3, (i64 0)), (8, (Value.bool false)), (9, (ptr b1))] 5 ?_
  refine Ops.go (v := (i64 x.kind)) (by kernel_rfl) (Runs.load (t := 3) (a := ⟨b1, 0, none⟩) (by kernel_rfl) (H4.loads (by kernel_rfl))) (d := (some 10)) (by kernel_rfl) rfl ?_
  refine og 2 [(1, (ptr b1)), (2, (Value.slice none 0 0)), (3, (i64 0)), (12, (Value.bool (decide (x.kind > 5))))] 8 ?_
  refine od ?_
  refine q_cond (o := .tmp 12) (b := (decide (x.kind > 5))) (by kernel_rfl) rfl (fun h10 => ?_) (fun h10 => ?_)
  ·rw [h10]
   have p11 : x.kind > 5 := of_decide_eq_true h10
   refine qs ?_
   refine qg ?_
   refine og 2 [(1, (ptr b1)), (2, (Value.slice none 0 0)), (3, (i64 1))] 2 ?_
   refine od ?_
   refine q_ret (by kernel_rfl) ?_
   refine ⟨(Value.tuple #[(Value.slice none 0 0), (i64 1)]), retv_tmp2 rfl rfl rfl, ?_⟩
   have e : packB x = ([], 1) := by unfold packB; first | (rw [if_pos (by omega)]; done) | (rw [if_neg (by omega), if_pos hf]; done)
   exact ⟨_, by rw [e], K0, by rw [e]; exact World.ownsRow_nil _ _ _ _⟩
  ·rw [h10]
   have p12 : ¬ (x.kind > 5) := of_decide_eq_false h10
   refine q_skip (by kernel_rfl) ?_
   refine qs ?_
   refine qs ?_
   refine qg ?_
   refine Ops.go (v := (agg [(i64 x.kind), (i64 x.n), (i64 x.group), (i64 x.op.kind), (Value.string (str x.op.frm)), (Value.string (str x.op.to)), (i64 x.op.amount), (Value.string (str x.op.key)), (i64 x.op.slot), (i64 x.op.shard), (i64 x.rep.why), (i64 x.rep.amount), (Value.slice V x.rep.rows.length c), (Value.slice D x.body.length dc)])) (by kernel_rfl) (Runs.load (t := 33) (a := ⟨b1, 0, none⟩) (by kernel_rfl) (H4.loads (by kernel_rfl))) (d := (some 13)) (by kernel_rfl) rfl ?_
   refine Ops.call (by kernel_rfl) (d := (some 14)) (by kernel_rfl) (fits_calls _ x V c D dc (Rd.keep0 (by omega) hV K0)) ?_
   rintro _ w16 ⟨t13, rfl, ht14, K15⟩
   refine ⟨_, _, rfl, rfl, ?_⟩
   replace K0 := K0.t0 K15
   replace H4 := H4.keep K15 (fun h => h)
   clear K15
   refine og 1 [(1, (ptr b1)), (2, (Value.slice none 0 0)), (3, (i64 0)), (15, (Value.bool (!t13)))] 3 ?_
   refine od ?_
   refine q_cond (o := .tmp 15) (b := (!t13)) (by kernel_rfl) rfl (fun h17 => ?_) (fun h17 => ?_)
   ·rw [h17]
    have p18 : t13 = false := (bnot_true h17)
    try rw [p18]
    have hf : ¬ x.Fits := fun q => by have := ht14.2 q; rw [(bnot_true h17)] at this; cases this
    refine qs ?_
    refine qg ?_
    refine og 2 [(1, (ptr b1)), (2, (Value.slice none 0 0)), (3, (i64 3))] 2 ?_
    refine od ?_
    refine q_ret (by kernel_rfl) ?_
    refine ⟨(Value.tuple #[(Value.slice none 0 0), (i64 3)]), retv_tmp2 rfl rfl rfl, ?_⟩
    have e : packB x = ([], 3) := by unfold packB; first | (rw [if_pos (by omega)]; done) | (rw [if_neg (by omega), if_pos hf]; done)
    exact ⟨_, by rw [e], K0, by rw [e]; exact World.ownsRow_nil _ _ _ _⟩
   ·rw [h17]
    have p19 : t13 = true := (bnot_false h17)
    try rw [p19]
    have hf : x.Fits := ht14.1 (bnot_false h17)
    refine q_skip (by kernel_rfl) ?_
    refine qs ?_
    refine qg ?_
    refine og 1 [(1, (ptr b1)), (2, (Value.slice none 0 0)), (3, (i64 0)), (16, (ptr b1))] 1 ?_
    refine Ops.go (v := (i64 x.kind)) (by kernel_rfl) (Runs.load (t := 3) (a := ⟨b1, 0, none⟩) (by kernel_rfl) (H4.loads (by kernel_rfl))) (d := (some 17)) (by kernel_rfl) rfl ?_
    refine Ops.new (o := rowL [(i64 x.kind)] 2) (V := fun b => (Value.slice (some ⟨b, 0, none⟩) 1 1)) (by kernel_rfl) (d := (some 18)) (by kernel_rfl) (fun b => rfl) (fun b20 w21 hb22 H23 K24 hs25 => ?_)
    have lb20b1 : b1 < b20 := by have := H4.lt; omega
    have nb20 : w.heap.size ≤ b20 := by have := K0.size; omega
    replace K0 := K0.t0 K24
    replace H4 := H4.keep K24 (fun h => h)
    clear K24 hs25
    have hr26 : ∀ z ∈ ([x.kind] : List Int), -9223372036854775808 ≤ z ∧ z ≤ 9223372036854775807 := by
     intro z hz
     simp only [List.mem_cons, List.not_mem_nil, or_false] at hz
     omega
    refine Ops.call (by kernel_rfl) (d := (some 19)) (by kernel_rfl) (ints_calls _ (Value.slice none 0 0) [] b20 [x.kind] 1 (Rd.nil _ _) (show Has _ b20 (rowL (ints [x.kind]) 2) from H23) rfl hr26 (by omega) (by (try simp only at *); (try simp only [List.length_append] at *); (try simp only [List.length_cons] at *); (try simp only [List.length_nil] at *); omega)) ?_
    rintro _ w29 ⟨v28, rfl, K30, hO31⟩
    have ob33 : ∀ i, (v28).ownBlock = some i → i ≠ b1 := fun i hi => by have := (World.ownsRow.lt hO31 i hi).1; have := H4.lt; omega
    have ob34 : ∀ i, (v28).ownBlock = some i → i ≠ b20 := fun i hi => by have := (World.ownsRow.lt hO31 i hi).1; have := H23.lt; omega
    have O32 : OwnB w29 w.heap.size _ v28 (ivs [x.kind]) := own_base hO31 K0.size
    clear hO31
    have hL27 : (ivs [x.kind]).length ≤ 10 := ivs_length_le hr26
    refine ⟨_, _, rfl, rfl, ?_⟩
    replace K0 := K0.t0 K30
    replace H4 := H4.keep K30 (fun h => h)
    replace H23 := H23.keep K30 (fun h => h)
    clear K30
    refine og 1 [(1, (ptr b1)), (2, (Value.slice none 0 0)), (3, (i64 0)), (4, v28)] 5 ?_
    refine od ?_
    refine qs ?_
    refine qs ?_
    refine qg ?_
    refine og 1 [(1, (ptr b1)), (2, (Value.slice none 0 0)), (3, (i64 0)), (4, v28), (20, (ptr b1))] 1 ?_
    refine Ops.go (v := (i64 x.kind)) (by kernel_rfl) (Runs.load (t := 3) (a := ⟨b1, 0, none⟩) (by kernel_rfl) (H4.loads (by kernel_rfl))) (d := (some 21)) (by kernel_rfl) rfl ?_
    refine od ?_
    refine q_block (id := 0) (by kernel_rfl) ?_
    refine qs ?_
    refine q_block (id := 5) (by kernel_rfl) ?_
    refine qs ?_
    refine q_block (id := 4) (by kernel_rfl) ?_
    refine qs ?_
    refine q_block (id := 3) (by kernel_rfl) ?_
    refine qs ?_
    refine q_block (id := 2) (by kernel_rfl) ?_
    refine qs ?_
    refine q_block (id := 1) (by kernel_rfl) ?_
    refine qs ?_
    refine qs ?_
    refine qs ?_
    refine qg ?_
    refine og 2 [(1, (ptr b1)), (2, (Value.slice none 0 0)), (3, (i64 0)), (4, v28), (21, (i64 x.kind)), (22, (Value.bool (x.kind == 2)))] 2 ?_
    refine od ?_
    refine q_cond (o := .tmp 22) (b := (x.kind == 2)) (by kernel_rfl) rfl (fun h35 => ?_) (fun h35 => ?_)
    ·rw [h35]
     have p36 : x.kind = 2 := of_beq_t h35
     have hol := let_op hok hf (by omega)
     refine q_exit (id := 1) (by kernel_rfl) ?_
     refine qs ?_
     refine q_draw (fun wz => Keeps none_ w29 wz) 9 (by kernel_rfl) (by kernel_rfl) (by kernel_rfl) (fun w37 K38 _ _ => ⟨K38, ?_⟩)
     replace K0 := K0.t0 K38
     replace H4 := H4.keep K38 (fun h => h)
     replace H23 := H23.keep K38 (fun h => h)
     replace O32 := own_keep0 O32 K38
     refine Dr.strong (S' := (fun wz => Keeps none_ w37 wz)) (Keeps.refl w37) (fun wz hx => K38.trans hx (fun i _ h => h) (fun _ _ h => h)) ?_
     clear K38
     refine Dr.takes (fuel' := 7) (is' := [1, 0]) [0, 1] [(1, (ptr b1)), (2, (Value.slice none 0 0)), (3, (i64 0)), (4, v28), (30, v28), (31, (Value.pointer (some ⟨b1, 1, none⟩)))] (by kernel_rfl) rfl (by kernel_rfl) ?_
     refine Dr.take (i := 2) (v := (i64 x.n)) (by kernel_rfl) (by kernel_rfl) (fun wz hS => Runs.load (t := 2) (a := ⟨b1, 1, none⟩) (by kernel_rfl) ((H4.keep hS (fun h => h)).loads (by kernel_rfl))) (d := (some 32)) (by kernel_rfl) rfl ?_
     refine Dr.takes (fuel' := 5) (is' := [5, 2, 1, 0]) [5] [(1, (ptr b1)), (2, (Value.slice none 0 0)), (3, (i64 0)), (4, v28), (30, v28), (32, (i64 x.n)), (35, (Value.pointer (some ⟨b1, 3, none⟩)))] (by kernel_rfl) rfl (by kernel_rfl) ?_
     refine Dr.take (i := 6) (v := (agg [(i64 x.op.kind), (Value.string (str x.op.frm)), (Value.string (str x.op.to)), (i64 x.op.amount), (Value.string (str x.op.key)), (i64 x.op.slot), (i64 x.op.shard)])) (by kernel_rfl) (by kernel_rfl) (fun wz hS => Runs.load (t := 23) (a := ⟨b1, 3, none⟩) (by kernel_rfl) ((H4.keep hS (fun h => h)).loads (by kernel_rfl))) (d := (some 36)) (by kernel_rfl) rfl ?_
     refine Dr.new (i := 3) (o := rowL [(i64 x.n)] 2) (V := fun b => (Value.slice (some ⟨b, 0, none⟩) 1 1)) (by kernel_rfl) (by kernel_rfl) (d := (some 33)) (by kernel_rfl) (fun b => rfl) (fun b39 w40 hb41 H42 K43 hs44 => ?_)
     have lb39b1 : b1 < b39 := by have := H4.lt; omega
     have lb39b20 : b20 < b39 := by have := H23.lt; omega
     have nb39 : w.heap.size ≤ b39 := by have := K0.size; omega
     have ob45 : ∀ i, (v28).ownBlock = some i → i < b39 := fun i hi => by have := (World.ownsRow.lt O32 i hi).2; omega
     replace K0 := K0.t0 K43
     replace H4 := H4.keep K43 (fun h => h)
     replace H23 := H23.keep K43 (fun h => h)
     replace O32 := own_keep0 O32 K43
     refine ⟨K43, ?_⟩
     refine Dr.strong (S' := (fun wz => Keeps none_ w40 wz)) (Keeps.refl w40) (fun wz hx => K43.trans hx (fun i _ h => h) (fun _ _ h => h)) ?_
     clear K43 hs44
     have hr46 : ∀ z ∈ ([x.n] : List Int), -9223372036854775808 ≤ z ∧ z ≤ 9223372036854775807 := by
      intro z hz
      simp only [List.mem_cons, List.not_mem_nil, or_false] at hz
      omega
     refine Dr.call (i := 4) (by kernel_rfl) (by kernel_rfl) (d := (some 34)) (by kernel_rfl) (fun _ => ints_calls _ v28 (ivs [x.kind]) b39 [x.n] 1 (OwnB.rd O32) (show Has _ b39 (rowL (ints [x.n]) 2) from H42) rfl hr46 (by omega) (by (try simp only at *); (try simp only [List.length_append] at *); (try simp only [List.length_cons] at *); (try simp only [List.length_nil] at *); omega)) ?_
     rintro _ w49 ⟨v48, rfl, K50, hO51⟩
     have ob53 : ∀ i, (v48).ownBlock = some i → i ≠ b1 := fun i hi => by have := (World.ownsRow.lt hO51 i hi).1; have := H4.lt; omega
     have ob54 : ∀ i, (v48).ownBlock = some i → i ≠ b20 := fun i hi => by have := (World.ownsRow.lt hO51 i hi).1; have := H23.lt; omega
     have ob55 : ∀ i, (v48).ownBlock = some i → i ≠ b39 := fun i hi => by have := (World.ownsRow.lt hO51 i hi).1; have := H42.lt; omega
     have oo56 : ∀ i, (v28).ownBlock = some i → (v48).ownBlock = some i → False := fun i hi hs => by have := (World.ownsRow.lt hO51 i hs).1; have := (World.ownsRow.lt O32 i hi).2; omega
     have oo57 : ∀ i, (v48).ownBlock = some i → (v28).ownBlock = some i → False := fun i hi hs => oo56 i hs hi
     have O52 := own_base hO51 K0.size
     clear hO51
     have hL47 : (ivs [x.n]).length ≤ 10 := ivs_length_le hr46
     replace K0 := K0.t0 K50
     replace H4 := H4.keep K50 (fun h => h)
     replace H23 := H23.keep K50 (fun h => h)
     replace H42 := H42.keep K50 (fun h => h)
     replace O32 := own_keep0 O32 K50
     refine ⟨_, _, rfl, rfl, K50, ?_⟩
     refine Dr.strong (S' := (fun wz => Keeps none_ w49 wz)) (Keeps.refl w49) (fun wz hx => K50.trans hx (fun i _ h => h) (fun _ _ h => h)) ?_
     clear K50
     refine Dr.call (i := 7) (by kernel_rfl) (by kernel_rfl) (d := (some 37)) (by kernel_rfl) (fun _ => PutOp_calls _ v48 (ivs [x.kind] ++ ivs [x.n]) x.op (OwnB.rd O52) hok.op (by (try simp only at *); (try simp only [List.length_append] at *); (try simp only [List.length_cons] at *); (try simp only [List.length_nil] at *); omega)) ?_
     rintro _ w59 ⟨v58, rfl, K60, hO61⟩
     have ob63 : ∀ i, (v58).ownBlock = some i → i ≠ b1 := fun i hi => by have := (World.ownsRow.lt hO61 i hi).1; have := H4.lt; omega
     have ob64 : ∀ i, (v58).ownBlock = some i → i ≠ b20 := fun i hi => by have := (World.ownsRow.lt hO61 i hi).1; have := H23.lt; omega
     have ob65 : ∀ i, (v58).ownBlock = some i → i ≠ b39 := fun i hi => by have := (World.ownsRow.lt hO61 i hi).1; have := H42.lt; omega
     have oo66 : ∀ i, (v28).ownBlock = some i → (v58).ownBlock = some i → False := fun i hi hs => by have := (World.ownsRow.lt hO61 i hs).1; have := (World.ownsRow.lt O32 i hi).2; omega
     have oo67 : ∀ i, (v58).ownBlock = some i → (v28).ownBlock = some i → False := fun i hi hs => oo66 i hs hi
     have oo68 : ∀ i, (v48).ownBlock = some i → (v58).ownBlock = some i → False := fun i hi hs => by have := (World.ownsRow.lt hO61 i hs).1; have := (World.ownsRow.lt O52 i hi).2; omega
     have oo69 : ∀ i, (v58).ownBlock = some i → (v48).ownBlock = some i → False := fun i hi hs => oo68 i hs hi
     have O62 := own_base hO61 K0.size
     clear hO61
     replace K0 := K0.t0 K60
     replace H4 := H4.keep K60 (fun h => h)
     replace H23 := H23.keep K60 (fun h => h)
     replace H42 := H42.keep K60 (fun h => h)
     replace O32 := own_keep0 O32 K60
     replace O52 := own_keep0 O52 K60
     refine ⟨_, _, rfl, rfl, K60, ?_⟩
     refine Dr.strong (S' := (fun wz => Keeps none_ w59 wz)) (Keeps.refl w59) (fun wz hx => K60.trans hx (fun i _ h => h) (fun _ _ h => h)) ?_
     clear K60
     refine Dr.takes (fuel' := 0) (is' := [8, 7, 4, 3, 6, 5, 2, 1, 0]) [8] [(1, (ptr b1)), (2, (Value.slice none 0 0)), (3, (i64 0)), (4, v58)] (by kernel_rfl) rfl (by kernel_rfl) ?_
     refine Dr.done (by kernel_rfl) ?_
     refine q_exit (id := 0) (by kernel_rfl) ?_
     refine qs ?_
     refine qs ?_
     refine qg ?_
     obtain ⟨A70, c71, hf72⟩ := RdB.form (OwnB.rd O62)
     subst hf72
     refine og 3 [(2, (Value.slice none 0 0)), (3, (i64 0)), (4, (Value.slice A70 ((ivs [x.kind] ++ ivs [x.n] ++ opv x.op).length) c71)), (67, (Value.bool (decide ((((ivs [x.kind] ++ ivs [x.n] ++ opv x.op).length : Nat) : Int) > 1048576))))] 3 ?_
     refine od ?_
     refine q_cond (o := .tmp 67) (b := (decide ((((ivs [x.kind] ++ ivs [x.n] ++ opv x.op).length : Nat) : Int) > 1048576))) (by kernel_rfl) rfl (fun h73 => ?_) (fun h73 => ?_)
     ·rw [h73]
      have p74 : (((ivs [x.kind] ++ ivs [x.n] ++ opv x.op).length : Nat) : Int) > 1048576 := of_decide_eq_true h73
      refine qs ?_
      refine qg ?_
      refine og 2 [(2, (Value.slice none 0 0)), (3, (i64 3)), (4, (Value.slice A70 ((ivs [x.kind] ++ ivs [x.n] ++ opv x.op).length) c71))] 2 ?_
      refine od ?_
      refine q_ret (by kernel_rfl) ?_
      refine ⟨(Value.tuple #[(Value.slice none 0 0), (i64 3)]), retv_tmp2 rfl rfl rfl, ?_⟩
      have hL : ivs [x.kind] ++ ivs [x.n] ++ opv x.op = letv x := by unfold letv; first | (rw [if_pos (by omega)] <;> (simp [ivs]; done)) | (rw [if_neg (by omega), if_pos (by omega)] <;> (simp [ivs]; done)) | (rw [if_neg (by omega), if_neg (by omega), if_pos (by omega)] <;> (simp [ivs]; done)) | (rw [if_neg (by omega), if_neg (by omega), if_neg (by omega), if_pos (by omega)] <;> (simp [ivs]; done)) | (rw [if_neg (by omega), if_neg (by omega), if_neg (by omega), if_neg (by omega)] <;> (simp [ivs]; done))
      have hLl := congrArg List.length hL
      have e : packB x = ([], 3) := by unfold packB; rw [if_neg (by omega), if_neg (not_not_intro hf), if_pos (by omega)]
      exact ⟨_, by rw [e], K0, by rw [e]; exact World.ownsRow_nil _ _ _ _⟩
     ·rw [h73]
      have p75 : ¬ ((((ivs [x.kind] ++ ivs [x.n] ++ opv x.op).length : Nat) : Int) > 1048576) := of_decide_eq_false h73
      refine q_skip (by kernel_rfl) ?_
      refine qs ?_
      refine qg ?_
      refine og 3 [(2, (Value.slice A70 ((ivs [x.kind] ++ ivs [x.n] ++ opv x.op).length) c71)), (3, (i64 0))] 3 ?_
      refine od ?_
      refine q_ret (by kernel_rfl) ?_
      refine ⟨(Value.tuple #[(Value.slice A70 ((ivs [x.kind] ++ ivs [x.n] ++ opv x.op).length) c71), (i64 0)]), retv_tmp2 rfl rfl rfl, ?_⟩
      have hL : ivs [x.kind] ++ ivs [x.n] ++ opv x.op = letv x := by unfold letv; first | (rw [if_pos (by omega)] <;> (simp [ivs]; done)) | (rw [if_neg (by omega), if_pos (by omega)] <;> (simp [ivs]; done)) | (rw [if_neg (by omega), if_neg (by omega), if_pos (by omega)] <;> (simp [ivs]; done)) | (rw [if_neg (by omega), if_neg (by omega), if_neg (by omega), if_pos (by omega)] <;> (simp [ivs]; done)) | (rw [if_neg (by omega), if_neg (by omega), if_neg (by omega), if_neg (by omega)] <;> (simp [ivs]; done))
      have hLl := congrArg List.length hL
      have e : packB x = (letv x, 0) := by unfold packB; rw [if_neg (by omega), if_neg (not_not_intro hf), if_neg (by omega)]
      exact ⟨_, by rw [e], K0, by rw [e, ← hL]; exact O62⟩
    ·rw [h35]
     have p76 : ¬ (x.kind = 2) := of_beq_f h35
     refine q_skip (by kernel_rfl) ?_
     refine qs ?_
     refine qs ?_
     refine qg ?_
     refine og 2 [(1, (ptr b1)), (2, (Value.slice none 0 0)), (3, (i64 0)), (4, v28), (21, (i64 x.kind)), (24, (Value.bool (x.kind == 3)))] 2 ?_
     refine od ?_
     refine q_cond (o := .tmp 24) (b := (x.kind == 3)) (by kernel_rfl) rfl (fun h77 => ?_) (fun h77 => ?_)
     ·rw [h77]
      have p78 : x.kind = 3 := of_beq_t h77
      have hrl := let_rep hok hf (by omega)
      refine q_exit (id := 2) (by kernel_rfl) ?_
      refine qs ?_
      refine q_draw (fun wz => Keeps none_ w29 wz) 9 (by kernel_rfl) (by kernel_rfl) (by kernel_rfl) (fun w79 K80 _ _ => ⟨K80, ?_⟩)
      replace K0 := K0.t0 K80
      replace H4 := H4.keep K80 (fun h => h)
      replace H23 := H23.keep K80 (fun h => h)
      replace O32 := own_keep0 O32 K80
      refine Dr.strong (S' := (fun wz => Keeps none_ w79 wz)) (Keeps.refl w79) (fun wz hx => K80.trans hx (fun i _ h => h) (fun _ _ h => h)) ?_
      clear K80
      refine Dr.takes (fuel' := 7) (is' := [1, 0]) [0, 1] [(1, (ptr b1)), (2, (Value.slice none 0 0)), (3, (i64 0)), (4, v28), (38, v28), (39, (Value.pointer (some ⟨b1, 1, none⟩)))] (by kernel_rfl) rfl (by kernel_rfl) ?_
      refine Dr.take (i := 2) (v := (i64 x.n)) (by kernel_rfl) (by kernel_rfl) (fun wz hS => Runs.load (t := 2) (a := ⟨b1, 1, none⟩) (by kernel_rfl) ((H4.keep hS (fun h => h)).loads (by kernel_rfl))) (d := (some 40)) (by kernel_rfl) rfl ?_
      refine Dr.takes (fuel' := 5) (is' := [5, 2, 1, 0]) [5] [(1, (ptr b1)), (2, (Value.slice none 0 0)), (3, (i64 0)), (4, v28), (38, v28), (40, (i64 x.n)), (43, (Value.pointer (some ⟨b1, 10, none⟩)))] (by kernel_rfl) rfl (by kernel_rfl) ?_
      refine Dr.take (i := 6) (v := (agg [(i64 x.rep.why), (i64 x.rep.amount), (Value.slice V x.rep.rows.length c)])) (by kernel_rfl) (by kernel_rfl) (fun wz hS => Runs.load (t := 27) (a := ⟨b1, 10, none⟩) (by kernel_rfl) ((H4.keep hS (fun h => h)).loads (by kernel_rfl))) (d := (some 44)) (by kernel_rfl) rfl ?_
      refine Dr.new (i := 3) (o := rowL [(i64 x.n)] 2) (V := fun b => (Value.slice (some ⟨b, 0, none⟩) 1 1)) (by kernel_rfl) (by kernel_rfl) (d := (some 41)) (by kernel_rfl) (fun b => rfl) (fun b81 w82 hb83 H84 K85 hs86 => ?_)
      have lb81b1 : b1 < b81 := by have := H4.lt; omega
      have lb81b20 : b20 < b81 := by have := H23.lt; omega
      have nb81 : w.heap.size ≤ b81 := by have := K0.size; omega
      have ob87 : ∀ i, (v28).ownBlock = some i → i < b81 := fun i hi => by have := (World.ownsRow.lt O32 i hi).2; omega
      replace K0 := K0.t0 K85
      replace H4 := H4.keep K85 (fun h => h)
      replace H23 := H23.keep K85 (fun h => h)
      replace O32 := own_keep0 O32 K85
      refine ⟨K85, ?_⟩
      refine Dr.strong (S' := (fun wz => Keeps none_ w82 wz)) (Keeps.refl w82) (fun wz hx => K85.trans hx (fun i _ h => h) (fun _ _ h => h)) ?_
      clear K85 hs86
      have hr88 : ∀ z ∈ ([x.n] : List Int), -9223372036854775808 ≤ z ∧ z ≤ 9223372036854775807 := by
       intro z hz
       simp only [List.mem_cons, List.not_mem_nil, or_false] at hz
       omega
      refine Dr.call (i := 4) (by kernel_rfl) (by kernel_rfl) (d := (some 42)) (by kernel_rfl) (fun _ => ints_calls _ v28 (ivs [x.kind]) b81 [x.n] 1 (OwnB.rd O32) (show Has _ b81 (rowL (ints [x.n]) 2) from H84) rfl hr88 (by omega) (by (try simp only at *); (try simp only [List.length_append] at *); (try simp only [List.length_cons] at *); (try simp only [List.length_nil] at *); omega)) ?_
      rintro _ w91 ⟨v90, rfl, K92, hO93⟩
      have ob95 : ∀ i, (v90).ownBlock = some i → i ≠ b1 := fun i hi => by have := (World.ownsRow.lt hO93 i hi).1; have := H4.lt; omega
      have ob96 : ∀ i, (v90).ownBlock = some i → i ≠ b20 := fun i hi => by have := (World.ownsRow.lt hO93 i hi).1; have := H23.lt; omega
      have ob97 : ∀ i, (v90).ownBlock = some i → i ≠ b81 := fun i hi => by have := (World.ownsRow.lt hO93 i hi).1; have := H84.lt; omega
      have oo98 : ∀ i, (v28).ownBlock = some i → (v90).ownBlock = some i → False := fun i hi hs => by have := (World.ownsRow.lt hO93 i hs).1; have := (World.ownsRow.lt O32 i hi).2; omega
      have oo99 : ∀ i, (v90).ownBlock = some i → (v28).ownBlock = some i → False := fun i hi hs => oo98 i hs hi
      have O94 := own_base hO93 K0.size
      clear hO93
      have hL89 : (ivs [x.n]).length ≤ 10 := ivs_length_le hr88
      replace K0 := K0.t0 K92
      replace H4 := H4.keep K92 (fun h => h)
      replace H23 := H23.keep K92 (fun h => h)
      replace H84 := H84.keep K92 (fun h => h)
      replace O32 := own_keep0 O32 K92
      refine ⟨_, _, rfl, rfl, K92, ?_⟩
      refine Dr.strong (S' := (fun wz => Keeps none_ w91 wz)) (Keeps.refl w91) (fun wz hx => K92.trans hx (fun i _ h => h) (fun _ _ h => h)) ?_
      clear K92
      refine Dr.call (i := 7) (by kernel_rfl) (by kernel_rfl) (d := (some 45)) (by kernel_rfl) (fun _ => PutReply_calls _ v90 (ivs [x.kind] ++ ivs [x.n]) x.rep V c (OwnB.rd O94) hok.rep (Rd.keep0 (by omega) hV K0) (by (try simp only at *); (try simp only [List.length_append] at *); (try simp only [List.length_cons] at *); (try simp only [List.length_nil] at *); omega)) ?_
      rintro _ w101 ⟨v100, rfl, K102, hO103⟩
      have ob105 : ∀ i, (v100).ownBlock = some i → i ≠ b1 := fun i hi => by have := (World.ownsRow.lt hO103 i hi).1; have := H4.lt; omega
      have ob106 : ∀ i, (v100).ownBlock = some i → i ≠ b20 := fun i hi => by have := (World.ownsRow.lt hO103 i hi).1; have := H23.lt; omega
      have ob107 : ∀ i, (v100).ownBlock = some i → i ≠ b81 := fun i hi => by have := (World.ownsRow.lt hO103 i hi).1; have := H84.lt; omega
      have oo108 : ∀ i, (v28).ownBlock = some i → (v100).ownBlock = some i → False := fun i hi hs => by have := (World.ownsRow.lt hO103 i hs).1; have := (World.ownsRow.lt O32 i hi).2; omega
      have oo109 : ∀ i, (v100).ownBlock = some i → (v28).ownBlock = some i → False := fun i hi hs => oo108 i hs hi
      have oo110 : ∀ i, (v90).ownBlock = some i → (v100).ownBlock = some i → False := fun i hi hs => by have := (World.ownsRow.lt hO103 i hs).1; have := (World.ownsRow.lt O94 i hi).2; omega
      have oo111 : ∀ i, (v100).ownBlock = some i → (v90).ownBlock = some i → False := fun i hi hs => oo110 i hs hi
      have O104 := own_base hO103 K0.size
      clear hO103
      replace K0 := K0.t0 K102
      replace H4 := H4.keep K102 (fun h => h)
      replace H23 := H23.keep K102 (fun h => h)
      replace H84 := H84.keep K102 (fun h => h)
      replace O32 := own_keep0 O32 K102
      replace O94 := own_keep0 O94 K102
      refine ⟨_, _, rfl, rfl, K102, ?_⟩
      refine Dr.strong (S' := (fun wz => Keeps none_ w101 wz)) (Keeps.refl w101) (fun wz hx => K102.trans hx (fun i _ h => h) (fun _ _ h => h)) ?_
      clear K102
      refine Dr.takes (fuel' := 0) (is' := [8, 7, 4, 3, 6, 5, 2, 1, 0]) [8] [(1, (ptr b1)), (2, (Value.slice none 0 0)), (3, (i64 0)), (4, v100)] (by kernel_rfl) rfl (by kernel_rfl) ?_
      refine Dr.done (by kernel_rfl) ?_
      refine q_exit (id := 0) (by kernel_rfl) ?_
      refine qs ?_
      refine qs ?_
      refine qg ?_
      obtain ⟨A112, c113, hf114⟩ := RdB.form (OwnB.rd O104)
      subst hf114
      refine og 3 [(2, (Value.slice none 0 0)), (3, (i64 0)), (4, (Value.slice A112 ((ivs [x.kind] ++ ivs [x.n] ++ rpv x.rep).length) c113)), (67, (Value.bool (decide ((((ivs [x.kind] ++ ivs [x.n] ++ rpv x.rep).length : Nat) : Int) > 1048576))))] 3 ?_
      refine od ?_
      refine q_cond (o := .tmp 67) (b := (decide ((((ivs [x.kind] ++ ivs [x.n] ++ rpv x.rep).length : Nat) : Int) > 1048576))) (by kernel_rfl) rfl (fun h115 => ?_) (fun h115 => ?_)
      ·rw [h115]
       have p116 : (((ivs [x.kind] ++ ivs [x.n] ++ rpv x.rep).length : Nat) : Int) > 1048576 := of_decide_eq_true h115
       refine qs ?_
       refine qg ?_
       refine og 2 [(2, (Value.slice none 0 0)), (3, (i64 3)), (4, (Value.slice A112 ((ivs [x.kind] ++ ivs [x.n] ++ rpv x.rep).length) c113))] 2 ?_
       refine od ?_
       refine q_ret (by kernel_rfl) ?_
       refine ⟨(Value.tuple #[(Value.slice none 0 0), (i64 3)]), retv_tmp2 rfl rfl rfl, ?_⟩
       have hL : ivs [x.kind] ++ ivs [x.n] ++ rpv x.rep = letv x := by unfold letv; first | (rw [if_pos (by omega)] <;> (simp [ivs]; done)) | (rw [if_neg (by omega), if_pos (by omega)] <;> (simp [ivs]; done)) | (rw [if_neg (by omega), if_neg (by omega), if_pos (by omega)] <;> (simp [ivs]; done)) | (rw [if_neg (by omega), if_neg (by omega), if_neg (by omega), if_pos (by omega)] <;> (simp [ivs]; done)) | (rw [if_neg (by omega), if_neg (by omega), if_neg (by omega), if_neg (by omega)] <;> (simp [ivs]; done))
       have hLl := congrArg List.length hL
       have e : packB x = ([], 3) := by unfold packB; rw [if_neg (by omega), if_neg (not_not_intro hf), if_pos (by omega)]
       exact ⟨_, by rw [e], K0, by rw [e]; exact World.ownsRow_nil _ _ _ _⟩
      ·rw [h115]
       have p117 : ¬ ((((ivs [x.kind] ++ ivs [x.n] ++ rpv x.rep).length : Nat) : Int) > 1048576) := of_decide_eq_false h115
       refine q_skip (by kernel_rfl) ?_
       refine qs ?_
       refine qg ?_
       refine og 3 [(2, (Value.slice A112 ((ivs [x.kind] ++ ivs [x.n] ++ rpv x.rep).length) c113)), (3, (i64 0))] 3 ?_
       refine od ?_
       refine q_ret (by kernel_rfl) ?_
       refine ⟨(Value.tuple #[(Value.slice A112 ((ivs [x.kind] ++ ivs [x.n] ++ rpv x.rep).length) c113), (i64 0)]), retv_tmp2 rfl rfl rfl, ?_⟩
       have hL : ivs [x.kind] ++ ivs [x.n] ++ rpv x.rep = letv x := by unfold letv; first | (rw [if_pos (by omega)] <;> (simp [ivs]; done)) | (rw [if_neg (by omega), if_pos (by omega)] <;> (simp [ivs]; done)) | (rw [if_neg (by omega), if_neg (by omega), if_pos (by omega)] <;> (simp [ivs]; done)) | (rw [if_neg (by omega), if_neg (by omega), if_neg (by omega), if_pos (by omega)] <;> (simp [ivs]; done)) | (rw [if_neg (by omega), if_neg (by omega), if_neg (by omega), if_neg (by omega)] <;> (simp [ivs]; done))
       have hLl := congrArg List.length hL
       have e : packB x = (letv x, 0) := by unfold packB; rw [if_neg (by omega), if_neg (not_not_intro hf), if_neg (by omega)]
       exact ⟨_, by rw [e], K0, by rw [e, ← hL]; exact O104⟩
     ·rw [h77]
      have p118 : ¬ (x.kind = 3) := of_beq_f h77
      refine q_skip (by kernel_rfl) ?_
      refine qs ?_
      refine qs ?_
      refine qg ?_
      refine og 2 [(1, (ptr b1)), (2, (Value.slice none 0 0)), (3, (i64 0)), (4, v28), (21, (i64 x.kind)), (26, (Value.bool (x.kind == 5)))] 2 ?_
      refine od ?_
      refine q_cond (o := .tmp 26) (b := (x.kind == 5)) (by kernel_rfl) rfl (fun h119 => ?_) (fun h119 => ?_)
      ·rw [h119]
       have p120 : x.kind = 5 := of_beq_t h119
       have hbl := let_body hf (by omega) (by omega)
       have htb := tv_le (s := x.body) (by omega)
       refine q_exit (id := 3) (by kernel_rfl) ?_
       refine qs ?_
       refine q_draw (fun wz => Keeps none_ w29 wz) 11 (by kernel_rfl) (by kernel_rfl) (by kernel_rfl) (fun w121 K122 _ _ => ⟨K122, ?_⟩)
       replace K0 := K0.t0 K122
       replace H4 := H4.keep K122 (fun h => h)
       replace H23 := H23.keep K122 (fun h => h)
       replace O32 := own_keep0 O32 K122
       refine Dr.strong (S' := (fun wz => Keeps none_ w121 wz)) (Keeps.refl w121) (fun wz hx => K122.trans hx (fun i _ h => h) (fun _ _ h => h)) ?_
       clear K122
       refine Dr.takes (fuel' := 9) (is' := [1, 0]) [0, 1] [(1, (ptr b1)), (2, (Value.slice none 0 0)), (3, (i64 0)), (4, v28), (46, v28), (47, (Value.pointer (some ⟨b1, 1, none⟩)))] (by kernel_rfl) rfl (by kernel_rfl) ?_
       refine Dr.take (i := 2) (v := (i64 x.n)) (by kernel_rfl) (by kernel_rfl) (fun wz hS => Runs.load (t := 2) (a := ⟨b1, 1, none⟩) (by kernel_rfl) ((H4.keep hS (fun h => h)).loads (by kernel_rfl))) (d := (some 48)) (by kernel_rfl) rfl ?_
       refine Dr.takes (fuel' := 7) (is' := [3, 2, 1, 0]) [3] [(1, (ptr b1)), (2, (Value.slice none 0 0)), (3, (i64 0)), (4, v28), (46, v28), (48, (i64 x.n)), (49, (Value.pointer (some ⟨b1, 2, none⟩)))] (by kernel_rfl) rfl (by kernel_rfl) ?_
       refine Dr.take (i := 4) (v := (i64 x.group)) (by kernel_rfl) (by kernel_rfl) (fun wz hS => Runs.load (t := 3) (a := ⟨b1, 2, none⟩) (by kernel_rfl) ((H4.keep hS (fun h => h)).loads (by kernel_rfl))) (d := (some 50)) (by kernel_rfl) rfl ?_
       refine Dr.takes (fuel' := 5) (is' := [7, 4, 3, 2, 1, 0]) [7] [(1, (ptr b1)), (2, (Value.slice none 0 0)), (3, (i64 0)), (4, v28), (46, v28), (48, (i64 x.n)), (50, (i64 x.group)), (53, (Value.pointer (some ⟨b1, 13, none⟩)))] (by kernel_rfl) rfl (by kernel_rfl) ?_
       refine Dr.take (i := 8) (v := (Value.slice D x.body.length dc)) (by kernel_rfl) (by kernel_rfl) (fun wz hS => Runs.load (t := 28) (a := ⟨b1, 13, none⟩) (by kernel_rfl) ((H4.keep hS (fun h => h)).loads (by kernel_rfl))) (d := (some 54)) (by kernel_rfl) rfl ?_
       refine Dr.new (i := 5) (o := rowL [(i64 x.n), (i64 x.group)] 2) (V := fun b => (Value.slice (some ⟨b, 0, none⟩) 2 2)) (by kernel_rfl) (by kernel_rfl) (d := (some 51)) (by kernel_rfl) (fun b => rfl) (fun b123 w124 hb125 H126 K127 hs128 => ?_)
       have lb123b1 : b1 < b123 := by have := H4.lt; omega
       have lb123b20 : b20 < b123 := by have := H23.lt; omega
       have nb123 : w.heap.size ≤ b123 := by have := K0.size; omega
       have ob129 : ∀ i, (v28).ownBlock = some i → i < b123 := fun i hi => by have := (World.ownsRow.lt O32 i hi).2; omega
       replace K0 := K0.t0 K127
       replace H4 := H4.keep K127 (fun h => h)
       replace H23 := H23.keep K127 (fun h => h)
       replace O32 := own_keep0 O32 K127
       refine ⟨K127, ?_⟩
       refine Dr.strong (S' := (fun wz => Keeps none_ w124 wz)) (Keeps.refl w124) (fun wz hx => K127.trans hx (fun i _ h => h) (fun _ _ h => h)) ?_
       clear K127 hs128
       have hr130 : ∀ z ∈ ([x.n, x.group] : List Int), -9223372036854775808 ≤ z ∧ z ≤ 9223372036854775807 := by
        intro z hz
        simp only [List.mem_cons, List.not_mem_nil, or_false] at hz
        omega
       refine Dr.call (i := 6) (by kernel_rfl) (by kernel_rfl) (d := (some 52)) (by kernel_rfl) (fun _ => ints_calls _ v28 (ivs [x.kind]) b123 [x.n, x.group] 2 (OwnB.rd O32) (show Has _ b123 (rowL (ints [x.n, x.group]) 2) from H126) rfl hr130 (by omega) (by (try simp only at *); (try simp only [List.length_append] at *); (try simp only [List.length_cons] at *); (try simp only [List.length_nil] at *); omega)) ?_
       rintro _ w133 ⟨v132, rfl, K134, hO135⟩
       have ob137 : ∀ i, (v132).ownBlock = some i → i ≠ b1 := fun i hi => by have := (World.ownsRow.lt hO135 i hi).1; have := H4.lt; omega
       have ob138 : ∀ i, (v132).ownBlock = some i → i ≠ b20 := fun i hi => by have := (World.ownsRow.lt hO135 i hi).1; have := H23.lt; omega
       have ob139 : ∀ i, (v132).ownBlock = some i → i ≠ b123 := fun i hi => by have := (World.ownsRow.lt hO135 i hi).1; have := H126.lt; omega
       have oo140 : ∀ i, (v28).ownBlock = some i → (v132).ownBlock = some i → False := fun i hi hs => by have := (World.ownsRow.lt hO135 i hs).1; have := (World.ownsRow.lt O32 i hi).2; omega
       have oo141 : ∀ i, (v132).ownBlock = some i → (v28).ownBlock = some i → False := fun i hi hs => oo140 i hs hi
       have O136 := own_base hO135 K0.size
       clear hO135
       have hL131 : (ivs [x.n, x.group]).length ≤ 20 := ivs_length_le hr130
       replace K0 := K0.t0 K134
       replace H4 := H4.keep K134 (fun h => h)
       replace H23 := H23.keep K134 (fun h => h)
       replace H126 := H126.keep K134 (fun h => h)
       replace O32 := own_keep0 O32 K134
       refine ⟨_, _, rfl, rfl, K134, ?_⟩
       refine Dr.strong (S' := (fun wz => Keeps none_ w133 wz)) (Keeps.refl w133) (fun wz hx => K134.trans hx (fun i _ h => h) (fun _ _ h => h)) ?_
       clear K134
       refine Dr.call (i := 9) (by kernel_rfl) (by kernel_rfl) (d := (some 55)) (by kernel_rfl) (fun _ => BytesW_calls _ v132 (ivs [x.kind] ++ ivs [x.n, x.group]) D dc x.body (OwnB.rd O136) (hD.keep0 (by omega) K0) (by first | omega | decide) (by (try simp only at *); (try simp only [List.length_append] at *); (try simp only [List.length_cons] at *); (try simp only [List.length_nil] at *); omega)) ?_
       rintro _ w145 ⟨v144, rfl, K146, hO147⟩
       have ob149 : ∀ i, (v144).ownBlock = some i → i ≠ b1 := fun i hi => by have := (World.ownsRow.lt hO147 i hi).1; have := H4.lt; omega
       have ob150 : ∀ i, (v144).ownBlock = some i → i ≠ b20 := fun i hi => by have := (World.ownsRow.lt hO147 i hi).1; have := H23.lt; omega
       have ob151 : ∀ i, (v144).ownBlock = some i → i ≠ b123 := fun i hi => by have := (World.ownsRow.lt hO147 i hi).1; have := H126.lt; omega
       have oo152 : ∀ i, (v28).ownBlock = some i → (v144).ownBlock = some i → False := fun i hi hs => by have := (World.ownsRow.lt hO147 i hs).1; have := (World.ownsRow.lt O32 i hi).2; omega
       have oo153 : ∀ i, (v144).ownBlock = some i → (v28).ownBlock = some i → False := fun i hi hs => oo152 i hs hi
       have oo154 : ∀ i, (v132).ownBlock = some i → (v144).ownBlock = some i → False := fun i hi hs => by have := (World.ownsRow.lt hO147 i hs).1; have := (World.ownsRow.lt O136 i hi).2; omega
       have oo155 : ∀ i, (v144).ownBlock = some i → (v132).ownBlock = some i → False := fun i hi hs => oo154 i hs hi
       have O148 := own_base hO147 K0.size
       clear hO147
       have hL142 := tv_ge x.body
       have hL143 := tv_le (s := x.body) (by first | omega | decide)
       replace K0 := K0.t0 K146
       replace H4 := H4.keep K146 (fun h => h)
       replace H23 := H23.keep K146 (fun h => h)
       replace H126 := H126.keep K146 (fun h => h)
       replace O32 := own_keep0 O32 K146
       replace O136 := own_keep0 O136 K146
       refine ⟨_, _, rfl, rfl, K146, ?_⟩
       refine Dr.strong (S' := (fun wz => Keeps none_ w145 wz)) (Keeps.refl w145) (fun wz hx => K146.trans hx (fun i _ h => h) (fun _ _ h => h)) ?_
       clear K146
       refine Dr.takes (fuel' := 0) (is' := [10, 9, 6, 5, 8, 7, 4, 3, 2, 1, 0]) [10] [(1, (ptr b1)), (2, (Value.slice none 0 0)), (3, (i64 0)), (4, v144)] (by kernel_rfl) rfl (by kernel_rfl) ?_
       refine Dr.done (by kernel_rfl) ?_
       refine q_exit (id := 0) (by kernel_rfl) ?_
       refine qs ?_
       refine qs ?_
       refine qg ?_
       obtain ⟨A156, c157, hf158⟩ := RdB.form (OwnB.rd O148)
       subst hf158
       refine og 3 [(2, (Value.slice none 0 0)), (3, (i64 0)), (4, (Value.slice A156 ((ivs [x.kind] ++ ivs [x.n, x.group] ++ tv x.body).length) c157)), (67, (Value.bool (decide ((((ivs [x.kind] ++ ivs [x.n, x.group] ++ tv x.body).length : Nat) : Int) > 1048576))))] 3 ?_
       refine od ?_
       refine q_cond (o := .tmp 67) (b := (decide ((((ivs [x.kind] ++ ivs [x.n, x.group] ++ tv x.body).length : Nat) : Int) > 1048576))) (by kernel_rfl) rfl (fun h159 => ?_) (fun h159 => ?_)
       ·rw [h159]
        have p160 : (((ivs [x.kind] ++ ivs [x.n, x.group] ++ tv x.body).length : Nat) : Int) > 1048576 := of_decide_eq_true h159
        refine qs ?_
        refine qg ?_
        refine og 2 [(2, (Value.slice none 0 0)), (3, (i64 3)), (4, (Value.slice A156 ((ivs [x.kind] ++ ivs [x.n, x.group] ++ tv x.body).length) c157))] 2 ?_
        refine od ?_
        refine q_ret (by kernel_rfl) ?_
        refine ⟨(Value.tuple #[(Value.slice none 0 0), (i64 3)]), retv_tmp2 rfl rfl rfl, ?_⟩
        have hL : ivs [x.kind] ++ ivs [x.n, x.group] ++ tv x.body = letv x := by unfold letv; first | (rw [if_pos (by omega)] <;> (simp [ivs]; done)) | (rw [if_neg (by omega), if_pos (by omega)] <;> (simp [ivs]; done)) | (rw [if_neg (by omega), if_neg (by omega), if_pos (by omega)] <;> (simp [ivs]; done)) | (rw [if_neg (by omega), if_neg (by omega), if_neg (by omega), if_pos (by omega)] <;> (simp [ivs]; done)) | (rw [if_neg (by omega), if_neg (by omega), if_neg (by omega), if_neg (by omega)] <;> (simp [ivs]; done))
        have hLl := congrArg List.length hL
        have e : packB x = ([], 3) := by unfold packB; rw [if_neg (by omega), if_neg (not_not_intro hf), if_pos (by omega)]
        exact ⟨_, by rw [e], K0, by rw [e]; exact World.ownsRow_nil _ _ _ _⟩
       ·rw [h159]
        have p161 : ¬ ((((ivs [x.kind] ++ ivs [x.n, x.group] ++ tv x.body).length : Nat) : Int) > 1048576) := of_decide_eq_false h159
        refine q_skip (by kernel_rfl) ?_
        refine qs ?_
        refine qg ?_
        refine og 3 [(2, (Value.slice A156 ((ivs [x.kind] ++ ivs [x.n, x.group] ++ tv x.body).length) c157)), (3, (i64 0))] 3 ?_
        refine od ?_
        refine q_ret (by kernel_rfl) ?_
        refine ⟨(Value.tuple #[(Value.slice A156 ((ivs [x.kind] ++ ivs [x.n, x.group] ++ tv x.body).length) c157), (i64 0)]), retv_tmp2 rfl rfl rfl, ?_⟩
        have hL : ivs [x.kind] ++ ivs [x.n, x.group] ++ tv x.body = letv x := by unfold letv; first | (rw [if_pos (by omega)] <;> (simp [ivs]; done)) | (rw [if_neg (by omega), if_pos (by omega)] <;> (simp [ivs]; done)) | (rw [if_neg (by omega), if_neg (by omega), if_pos (by omega)] <;> (simp [ivs]; done)) | (rw [if_neg (by omega), if_neg (by omega), if_neg (by omega), if_pos (by omega)] <;> (simp [ivs]; done)) | (rw [if_neg (by omega), if_neg (by omega), if_neg (by omega), if_neg (by omega)] <;> (simp [ivs]; done))
        have hLl := congrArg List.length hL
        have e : packB x = (letv x, 0) := by unfold packB; rw [if_neg (by omega), if_neg (not_not_intro hf), if_neg (by omega)]
        exact ⟨_, by rw [e], K0, by rw [e, ← hL]; exact O148⟩
      ·rw [h119]
       have p162 : ¬ (x.kind = 5) := of_beq_f h119
       refine q_skip (by kernel_rfl) ?_
       refine qs ?_
       refine qg ?_
       refine og 2 [(1, (ptr b1)), (2, (Value.slice none 0 0)), (3, (i64 0)), (4, v28), (28, (Value.bool (x.kind == 4)))] 2 ?_
       refine od ?_
       refine q_cond (o := .tmp 28) (b := (x.kind == 4)) (by kernel_rfl) rfl (fun h163 => ?_) (fun h163 => ?_)
       ·rw [h163]
        have p164 : x.kind = 4 := of_beq_t h163
        have hbl := let_body hf (by omega) (by omega)
        have htb := tv_le (s := x.body) (by omega)
        refine q_exit (id := 4) (by kernel_rfl) ?_
        refine qg ?_
        refine og 2 [(1, (ptr b1)), (2, (Value.slice none 0 0)), (3, (i64 0)), (4, v28), (56, v28), (57, (Value.pointer (some ⟨b1, 1, none⟩)))] 2 ?_
        refine Ops.go (v := (i64 x.n)) (by kernel_rfl) (Runs.load (t := 2) (a := ⟨b1, 1, none⟩) (by kernel_rfl) (H4.loads (by kernel_rfl))) (d := (some 58)) (by kernel_rfl) rfl ?_
        refine Ops.new (o := rowL [(i64 x.n)] 2) (V := fun b => (Value.slice (some ⟨b, 0, none⟩) 1 1)) (by kernel_rfl) (d := (some 59)) (by kernel_rfl) (fun b => rfl) (fun b165 w166 hb167 H168 K169 hs170 => ?_)
        have lb165b1 : b1 < b165 := by have := H4.lt; omega
        have lb165b20 : b20 < b165 := by have := H23.lt; omega
        have nb165 : w.heap.size ≤ b165 := by have := K0.size; omega
        have ob171 : ∀ i, (v28).ownBlock = some i → i < b165 := fun i hi => by have := (World.ownsRow.lt O32 i hi).2; omega
        replace K0 := K0.t0 K169
        replace H4 := H4.keep K169 (fun h => h)
        replace H23 := H23.keep K169 (fun h => h)
        replace O32 := own_keep0 O32 K169
        clear K169 hs170
        have hr172 : ∀ z ∈ ([x.n] : List Int), -9223372036854775808 ≤ z ∧ z ≤ 9223372036854775807 := by
         intro z hz
         simp only [List.mem_cons, List.not_mem_nil, or_false] at hz
         omega
        refine Ops.call (by kernel_rfl) (d := (some 60)) (by kernel_rfl) (ints_calls _ v28 (ivs [x.kind]) b165 [x.n] 1 (OwnB.rd O32) (show Has _ b165 (rowL (ints [x.n]) 2) from H168) rfl hr172 (by omega) (by (try simp only at *); (try simp only [List.length_append] at *); (try simp only [List.length_cons] at *); (try simp only [List.length_nil] at *); omega)) ?_
        rintro _ w175 ⟨v174, rfl, K176, hO177⟩
        have ob179 : ∀ i, (v174).ownBlock = some i → i ≠ b1 := fun i hi => by have := (World.ownsRow.lt hO177 i hi).1; have := H4.lt; omega
        have ob180 : ∀ i, (v174).ownBlock = some i → i ≠ b20 := fun i hi => by have := (World.ownsRow.lt hO177 i hi).1; have := H23.lt; omega
        have ob181 : ∀ i, (v174).ownBlock = some i → i ≠ b165 := fun i hi => by have := (World.ownsRow.lt hO177 i hi).1; have := H168.lt; omega
        have oo182 : ∀ i, (v28).ownBlock = some i → (v174).ownBlock = some i → False := fun i hi hs => by have := (World.ownsRow.lt hO177 i hs).1; have := (World.ownsRow.lt O32 i hi).2; omega
        have oo183 : ∀ i, (v174).ownBlock = some i → (v28).ownBlock = some i → False := fun i hi hs => oo182 i hs hi
        have O178 := own_base hO177 K0.size
        clear hO177
        have hL173 : (ivs [x.n]).length ≤ 10 := ivs_length_le hr172
        refine ⟨_, _, rfl, rfl, ?_⟩
        replace K0 := K0.t0 K176
        replace H4 := H4.keep K176 (fun h => h)
        replace H23 := H23.keep K176 (fun h => h)
        replace H168 := H168.keep K176 (fun h => h)
        replace O32 := own_keep0 O32 K176
        clear K176
        refine og 1 [(1, (ptr b1)), (2, (Value.slice none 0 0)), (3, (i64 0)), (4, v174)] 6 ?_
        refine od ?_
        refine qs ?_
        refine qg ?_
        refine og 2 [(2, (Value.slice none 0 0)), (3, (i64 0)), (4, v174), (61, v174), (62, (Value.pointer (some ⟨b1, 13, none⟩)))] 2 ?_
        refine Ops.go (v := (Value.slice D x.body.length dc)) (by kernel_rfl) (Runs.load (t := 28) (a := ⟨b1, 13, none⟩) (by kernel_rfl) (H4.loads (by kernel_rfl))) (d := (some 63)) (by kernel_rfl) rfl ?_
        refine Ops.call (by kernel_rfl) (d := (some 64)) (by kernel_rfl) (BytesW_calls _ v174 (ivs [x.kind] ++ ivs [x.n]) D dc x.body (OwnB.rd O178) (hD.keep0 (by omega) K0) (by first | omega | decide) (by (try simp only at *); (try simp only [List.length_append] at *); (try simp only [List.length_cons] at *); (try simp only [List.length_nil] at *); omega)) ?_
        rintro _ w187 ⟨v186, rfl, K188, hO189⟩
        have ob191 : ∀ i, (v186).ownBlock = some i → i ≠ b1 := fun i hi => by have := (World.ownsRow.lt hO189 i hi).1; have := H4.lt; omega
        have ob192 : ∀ i, (v186).ownBlock = some i → i ≠ b20 := fun i hi => by have := (World.ownsRow.lt hO189 i hi).1; have := H23.lt; omega
        have ob193 : ∀ i, (v186).ownBlock = some i → i ≠ b165 := fun i hi => by have := (World.ownsRow.lt hO189 i hi).1; have := H168.lt; omega
        have oo194 : ∀ i, (v28).ownBlock = some i → (v186).ownBlock = some i → False := fun i hi hs => by have := (World.ownsRow.lt hO189 i hs).1; have := (World.ownsRow.lt O32 i hi).2; omega
        have oo195 : ∀ i, (v186).ownBlock = some i → (v28).ownBlock = some i → False := fun i hi hs => oo194 i hs hi
        have oo196 : ∀ i, (v174).ownBlock = some i → (v186).ownBlock = some i → False := fun i hi hs => by have := (World.ownsRow.lt hO189 i hs).1; have := (World.ownsRow.lt O178 i hi).2; omega
        have oo197 : ∀ i, (v186).ownBlock = some i → (v174).ownBlock = some i → False := fun i hi hs => oo196 i hs hi
        have O190 := own_base hO189 K0.size
        clear hO189
        have hL184 := tv_ge x.body
        have hL185 := tv_le (s := x.body) (by first | omega | decide)
        refine ⟨_, _, rfl, rfl, ?_⟩
        replace K0 := K0.t0 K188
        replace H4 := H4.keep K188 (fun h => h)
        replace H23 := H23.keep K188 (fun h => h)
        replace H168 := H168.keep K188 (fun h => h)
        replace O32 := own_keep0 O32 K188
        replace O178 := own_keep0 O178 K188
        clear K188
        refine og 1 [(2, (Value.slice none 0 0)), (3, (i64 0)), (4, v186)] 5 ?_
        refine od ?_
        refine q_exit (id := 0) (by kernel_rfl) ?_
        refine qs ?_
        refine qs ?_
        refine qg ?_
        obtain ⟨A198, c199, hf200⟩ := RdB.form (OwnB.rd O190)
        subst hf200
        refine og 3 [(2, (Value.slice none 0 0)), (3, (i64 0)), (4, (Value.slice A198 ((ivs [x.kind] ++ ivs [x.n] ++ tv x.body).length) c199)), (67, (Value.bool (decide ((((ivs [x.kind] ++ ivs [x.n] ++ tv x.body).length : Nat) : Int) > 1048576))))] 3 ?_
        refine od ?_
        refine q_cond (o := .tmp 67) (b := (decide ((((ivs [x.kind] ++ ivs [x.n] ++ tv x.body).length : Nat) : Int) > 1048576))) (by kernel_rfl) rfl (fun h201 => ?_) (fun h201 => ?_)
        ·rw [h201]
         have p202 : (((ivs [x.kind] ++ ivs [x.n] ++ tv x.body).length : Nat) : Int) > 1048576 := of_decide_eq_true h201
         refine qs ?_
         refine qg ?_
         refine og 2 [(2, (Value.slice none 0 0)), (3, (i64 3)), (4, (Value.slice A198 ((ivs [x.kind] ++ ivs [x.n] ++ tv x.body).length) c199))] 2 ?_
         refine od ?_
         refine q_ret (by kernel_rfl) ?_
         refine ⟨(Value.tuple #[(Value.slice none 0 0), (i64 3)]), retv_tmp2 rfl rfl rfl, ?_⟩
         have hL : ivs [x.kind] ++ ivs [x.n] ++ tv x.body = letv x := by unfold letv; first | (rw [if_pos (by omega)] <;> (simp [ivs]; done)) | (rw [if_neg (by omega), if_pos (by omega)] <;> (simp [ivs]; done)) | (rw [if_neg (by omega), if_neg (by omega), if_pos (by omega)] <;> (simp [ivs]; done)) | (rw [if_neg (by omega), if_neg (by omega), if_neg (by omega), if_pos (by omega)] <;> (simp [ivs]; done)) | (rw [if_neg (by omega), if_neg (by omega), if_neg (by omega), if_neg (by omega)] <;> (simp [ivs]; done))
         have hLl := congrArg List.length hL
         have e : packB x = ([], 3) := by unfold packB; rw [if_neg (by omega), if_neg (not_not_intro hf), if_pos (by omega)]
         exact ⟨_, by rw [e], K0, by rw [e]; exact World.ownsRow_nil _ _ _ _⟩
        ·rw [h201]
         have p203 : ¬ ((((ivs [x.kind] ++ ivs [x.n] ++ tv x.body).length : Nat) : Int) > 1048576) := of_decide_eq_false h201
         refine q_skip (by kernel_rfl) ?_
         refine qs ?_
         refine qg ?_
         refine og 3 [(2, (Value.slice A198 ((ivs [x.kind] ++ ivs [x.n] ++ tv x.body).length) c199)), (3, (i64 0))] 3 ?_
         refine od ?_
         refine q_ret (by kernel_rfl) ?_
         refine ⟨(Value.tuple #[(Value.slice A198 ((ivs [x.kind] ++ ivs [x.n] ++ tv x.body).length) c199), (i64 0)]), retv_tmp2 rfl rfl rfl, ?_⟩
         have hL : ivs [x.kind] ++ ivs [x.n] ++ tv x.body = letv x := by unfold letv; first | (rw [if_pos (by omega)] <;> (simp [ivs]; done)) | (rw [if_neg (by omega), if_pos (by omega)] <;> (simp [ivs]; done)) | (rw [if_neg (by omega), if_neg (by omega), if_pos (by omega)] <;> (simp [ivs]; done)) | (rw [if_neg (by omega), if_neg (by omega), if_neg (by omega), if_pos (by omega)] <;> (simp [ivs]; done)) | (rw [if_neg (by omega), if_neg (by omega), if_neg (by omega), if_neg (by omega)] <;> (simp [ivs]; done))
         have hLl := congrArg List.length hL
         have e : packB x = (letv x, 0) := by unfold packB; rw [if_neg (by omega), if_neg (not_not_intro hf), if_neg (by omega)]
         exact ⟨_, by rw [e], K0, by rw [e, ← hL]; exact O190⟩
       ·rw [h163]
        have p204 : ¬ (x.kind = 4) := of_beq_f h163
        have hbl := let_body hf (by omega) (by omega)
        have htb := tv_le (s := x.body) (by omega)
        refine q_skip (by kernel_rfl) ?_
        refine q_exit (id := 5) (by kernel_rfl) ?_
        refine qs ?_
        refine qg ?_
        refine og 2 [(2, (Value.slice none 0 0)), (3, (i64 0)), (4, v28), (61, v28), (62, (Value.pointer (some ⟨b1, 13, none⟩)))] 2 ?_
        refine Ops.go (v := (Value.slice D x.body.length dc)) (by kernel_rfl) (Runs.load (t := 28) (a := ⟨b1, 13, none⟩) (by kernel_rfl) (H4.loads (by kernel_rfl))) (d := (some 63)) (by kernel_rfl) rfl ?_
        refine Ops.call (by kernel_rfl) (d := (some 64)) (by kernel_rfl) (BytesW_calls _ v28 (ivs [x.kind]) D dc x.body (OwnB.rd O32) (hD.keep0 (by omega) K0) (by first | omega | decide) (by (try simp only at *); (try simp only [List.length_append] at *); (try simp only [List.length_cons] at *); (try simp only [List.length_nil] at *); omega)) ?_
        rintro _ w208 ⟨v207, rfl, K209, hO210⟩
        have ob212 : ∀ i, (v207).ownBlock = some i → i ≠ b1 := fun i hi => by have := (World.ownsRow.lt hO210 i hi).1; have := H4.lt; omega
        have ob213 : ∀ i, (v207).ownBlock = some i → i ≠ b20 := fun i hi => by have := (World.ownsRow.lt hO210 i hi).1; have := H23.lt; omega
        have oo214 : ∀ i, (v28).ownBlock = some i → (v207).ownBlock = some i → False := fun i hi hs => by have := (World.ownsRow.lt hO210 i hs).1; have := (World.ownsRow.lt O32 i hi).2; omega
        have oo215 : ∀ i, (v207).ownBlock = some i → (v28).ownBlock = some i → False := fun i hi hs => oo214 i hs hi
        have O211 := own_base hO210 K0.size
        clear hO210
        have hL205 := tv_ge x.body
        have hL206 := tv_le (s := x.body) (by first | omega | decide)
        refine ⟨_, _, rfl, rfl, ?_⟩
        replace K0 := K0.t0 K209
        replace H4 := H4.keep K209 (fun h => h)
        replace H23 := H23.keep K209 (fun h => h)
        replace O32 := own_keep0 O32 K209
        clear K209
        refine og 1 [(2, (Value.slice none 0 0)), (3, (i64 0)), (4, v207)] 5 ?_
        refine od ?_
        refine q_exit (id := 0) (by kernel_rfl) ?_
        refine qs ?_
        refine qs ?_
        refine qg ?_
        obtain ⟨A216, c217, hf218⟩ := RdB.form (OwnB.rd O211)
        subst hf218
        refine og 3 [(2, (Value.slice none 0 0)), (3, (i64 0)), (4, (Value.slice A216 ((ivs [x.kind] ++ tv x.body).length) c217)), (67, (Value.bool (decide ((((ivs [x.kind] ++ tv x.body).length : Nat) : Int) > 1048576))))] 3 ?_
        refine od ?_
        refine q_cond (o := .tmp 67) (b := (decide ((((ivs [x.kind] ++ tv x.body).length : Nat) : Int) > 1048576))) (by kernel_rfl) rfl (fun h219 => ?_) (fun h219 => ?_)
        ·rw [h219]
         have p220 : (((ivs [x.kind] ++ tv x.body).length : Nat) : Int) > 1048576 := of_decide_eq_true h219
         refine qs ?_
         refine qg ?_
         refine og 2 [(2, (Value.slice none 0 0)), (3, (i64 3)), (4, (Value.slice A216 ((ivs [x.kind] ++ tv x.body).length) c217))] 2 ?_
         refine od ?_
         refine q_ret (by kernel_rfl) ?_
         refine ⟨(Value.tuple #[(Value.slice none 0 0), (i64 3)]), retv_tmp2 rfl rfl rfl, ?_⟩
         have hL : ivs [x.kind] ++ tv x.body = letv x := by unfold letv; first | (rw [if_pos (by omega)] <;> (simp [ivs]; done)) | (rw [if_neg (by omega), if_pos (by omega)] <;> (simp [ivs]; done)) | (rw [if_neg (by omega), if_neg (by omega), if_pos (by omega)] <;> (simp [ivs]; done)) | (rw [if_neg (by omega), if_neg (by omega), if_neg (by omega), if_pos (by omega)] <;> (simp [ivs]; done)) | (rw [if_neg (by omega), if_neg (by omega), if_neg (by omega), if_neg (by omega)] <;> (simp [ivs]; done))
         have hLl := congrArg List.length hL
         have e : packB x = ([], 3) := by unfold packB; rw [if_neg (by omega), if_neg (not_not_intro hf), if_pos (by omega)]
         exact ⟨_, by rw [e], K0, by rw [e]; exact World.ownsRow_nil _ _ _ _⟩
        ·rw [h219]
         have p221 : ¬ ((((ivs [x.kind] ++ tv x.body).length : Nat) : Int) > 1048576) := of_decide_eq_false h219
         refine q_skip (by kernel_rfl) ?_
         refine qs ?_
         refine qg ?_
         refine og 3 [(2, (Value.slice A216 ((ivs [x.kind] ++ tv x.body).length) c217)), (3, (i64 0))] 3 ?_
         refine od ?_
         refine q_ret (by kernel_rfl) ?_
         refine ⟨(Value.tuple #[(Value.slice A216 ((ivs [x.kind] ++ tv x.body).length) c217), (i64 0)]), retv_tmp2 rfl rfl rfl, ?_⟩
         have hL : ivs [x.kind] ++ tv x.body = letv x := by unfold letv; first | (rw [if_pos (by omega)] <;> (simp [ivs]; done)) | (rw [if_neg (by omega), if_pos (by omega)] <;> (simp [ivs]; done)) | (rw [if_neg (by omega), if_neg (by omega), if_pos (by omega)] <;> (simp [ivs]; done)) | (rw [if_neg (by omega), if_neg (by omega), if_neg (by omega), if_pos (by omega)] <;> (simp [ivs]; done)) | (rw [if_neg (by omega), if_neg (by omega), if_neg (by omega), if_neg (by omega)] <;> (simp [ivs]; done))
         have hLl := congrArg List.length hL
         have e : packB x = (letv x, 0) := by unfold packB; rw [if_neg (by omega), if_neg (not_not_intro hf), if_neg (by omega)]
         exact ⟨_, by rw [e], K0, by rw [e, ← hL]; exact O211⟩
end Go.Proofs.Ytlnidnadpdpciaa
