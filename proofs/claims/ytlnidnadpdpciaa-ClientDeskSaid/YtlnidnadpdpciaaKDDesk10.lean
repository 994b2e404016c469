/- What the claim stands on, part 10: rules of the walk, contracts of the functions, plain laws. -/
import Derived.Test.YtlnidnadpdpciaaProg
import Derived.Test.YtlnidnadpdpciaaKDDesk9
import Derived.Test.YtlnidnadpdpciaaKDDesk5
import Derived.Test.YtlnidnadpdpciaaKDDesk6
set_option linter.unusedVariables false
namespace Go.Proofs.Ytlnidnadpdpciaa
open Go.Q Go.RowKit

set_option maxHeartbeats 4000000 in
theorem alike_in (w : World) (F : Nat → Prop) (d : Nat) (l : List DCall) (A : Option Addr) (c : Nat) (T : Nat → Prop) (r : Nat) (l2 : List DCall) (A2 : Option Addr) (c2 : Nat) (T2 : Nat → Prop) (k : Nat) (x : DCall) (Hd : Has w d (rowL [(Value.slice A l.length c)] 84)) (hO : OwnT w 0 79 11 DCall.cells ((Value.slice A l.length c)) l) (hR : RowsE w DCall.rv DCall.rows T l) (hT7 : ∀ i, T i → i ≠ d ∧ F i) (hV7 : ∀ i, ((Value.slice A l.length c)).ownBlock = some i → i ≠ d ∧ F i ∧ ¬ T i) (hFd : F d) (hFl : ∀ i, F i → i < w.heap.size) (h20 : l.length ≤ 2000) (Hr : Has w r (rowL [(Value.slice A2 l2.length c2)] 55)) (hO2 : OwnT w 0 87 11 DCall.cells ((Value.slice A2 l2.length c2)) l2) (hR2 : RowsE w DCall.rv DCall.rows T2 l2) (hm : l.map DCall.m = l2.map DCall.m) (hz : ∀ x ∈ l, x.rows.length * 24 ≤ 140737488351232) (hx : l[k]? = some x) : Calls Try.prog 22 ⟨[(ptr d), (ptr r), (i64 ((k : Nat) : Int))]⟩ w (fun e w' => e = .returned (.bool true) ∧ Keeps none_ w w') := by
 have Hdl := Hd.lt
 have hTd : ∀ i, T i → i ≠ d := fun i hi => (hT7 i hi).1
 have hVd : ∀ i, ((Value.slice A l.length c)).ownBlock = some i → i ≠ d := fun i hi => (hV7 i hi).1
 have hVT : ∀ i, ((Value.slice A l.length c)).ownBlock = some i → T i → False := fun i hi h => (hV7 i hi).2.2 h
 have hcap := RdT.len DCall.two (by decide) (OwnT.rd hO)
 have hrl := Hr.lt
 have hO0 := hO
 have hR0 := hR
 have hO20 := hO2
 have hll : l2.length = l.length := by have := congrArg List.length hm; simp only [List.length_map] at this; exact this.symm
 have hcap2 := RdT.len DCall.two (by decide) (OwnT.rd hO2)
 have hkl := (List.getElem?_eq_some_iff.1 hx).1
 have hxz := hz x (List.mem_of_getElem? hx)
 have K0 : Keeps none_ w w := Keeps.refl w
 refine qr_calls 11 Try.func22 (by kernel_rfl) (by kernel_rfl) ?_
 refine qr_seq (by kernel_rfl) ?_
 refine qr_region Open.wide (by kernel_rfl) (by kernel_rfl) ?_
 refine Ops.new (o := rowL [(ptr r)] 52) (V := fun b => (ptr b)) (by kernel_rfl) (d := (some 4)) (by kernel_rfl) (fun b => rfl) (fun b1 w2 hb3 H4 K5 hs6 => ?_)
 have lb1d : d < b1 := by have := Hd.lt; omega
 have lb1r : r < b1 := by have := Hr.lt; omega
 have nb1 : w.heap.size ≤ b1 := by have := K0.size; omega
 have ob7 : ∀ i, ((Value.slice A l.length c)).ownBlock = some i → i < b1 := fun i hi => by have := (World.ownsRow.lt hO i hi).2; omega
 have of8 : ∀ i, T i → i ≠ b1 := fun i hi => by have := RowsE.lt hR i hi; omega
 have ob9 : ∀ i, ((Value.slice A2 l2.length c2)).ownBlock = some i → i < b1 := fun i hi => by have := (World.ownsRow.lt hO2 i hi).2; omega
 replace K0 := K0.t0 K5
 replace Hd := Hd.keep K5 (fun h => h)
 replace Hr := Hr.keep K5 (fun h => h)
 replace hO := own_keep0 hO K5
 replace hR := RowsE.keep hR K5 (fun _ _ h => h)
 replace hO2 := own_keep0 hO2 K5
 clear K5 hs6
 refine Ops.new (o := rowL [(Value.bool false)] 4) (V := fun b => (ptr b)) (by kernel_rfl) (d := (some 6)) (by kernel_rfl) (fun b => rfl) (fun b10 w11 hb12 H13 K14 hs15 => ?_)
 have lb10d : d < b10 := by have := Hd.lt; omega
 have lb10r : r < b10 := by have := Hr.lt; omega
 have lb10b1 : b1 < b10 := by have := H4.lt; omega
 have nb10 : w.heap.size ≤ b10 := by have := K0.size; omega
 have ob16 : ∀ i, ((Value.slice A l.length c)).ownBlock = some i → i < b10 := fun i hi => by have := (World.ownsRow.lt hO i hi).2; omega
 have of17 : ∀ i, T i → i ≠ b10 := fun i hi => by have := RowsE.lt hR i hi; omega
 have ob18 : ∀ i, ((Value.slice A2 l2.length c2)).ownBlock = some i → i < b10 := fun i hi => by have := (World.ownsRow.lt hO2 i hi).2; omega
 replace K0 := K0.t0 K14
 replace Hd := Hd.keep K14 (fun h => h)
 replace Hr := Hr.keep K14 (fun h => h)
 replace H4 := H4.keep K14 (fun h => h)
 replace hO := own_keep0 hO K14
 replace hR := RowsE.keep hR K14 (fun _ _ h => h)
 replace hO2 := own_keep0 hO2 K14
 clear K14 hs15
 refine od ?_
 refine qr_seq (by kernel_rfl) ?_
 refine qr_region Open.wide (by kernel_rfl) (by kernel_rfl) ?_
 refine og 2 [(0, (ptr d)), (2, (i64 ((k : Nat) : Int))), (4, (ptr b1)), (6, (ptr b10)), (17, (ptr d)), (18, (i64 ((k : Nat) : Int)))] 2 ?_
 refine Ops.call (by kernel_rfl) (d := (some 19)) (by kernel_rfl) (Get_in _ F d l A c T k x Hd hO hR hT7 hV7 hFd (fun i hi => Nat.lt_of_lt_of_le (hFl i hi) K0.size) h20 hz hx) ?_
 rintro _ w19 ⟨A21, c22, rfl, K20, hO23⟩
 have ob25 : ∀ i, ((Value.slice A21 x.rows.length c22)).ownBlock = some i → i ≠ d := fun i hi => by have := (World.ownsRow.lt hO23 i hi).1; have := Hd.lt; omega
 have ob26 : ∀ i, ((Value.slice A21 x.rows.length c22)).ownBlock = some i → i ≠ r := fun i hi => by have := (World.ownsRow.lt hO23 i hi).1; have := Hr.lt; omega
 have ob27 : ∀ i, ((Value.slice A21 x.rows.length c22)).ownBlock = some i → i ≠ b1 := fun i hi => by have := (World.ownsRow.lt hO23 i hi).1; have := H4.lt; omega
 have ob28 : ∀ i, ((Value.slice A21 x.rows.length c22)).ownBlock = some i → i ≠ b10 := fun i hi => by have := (World.ownsRow.lt hO23 i hi).1; have := H13.lt; omega
 have oo29 : ∀ i, ((Value.slice A l.length c)).ownBlock = some i → ((Value.slice A21 x.rows.length c22)).ownBlock = some i → False := fun i hi hs => by have := (World.ownsRow.lt hO23 i hs).1; have := (World.ownsRow.lt hO i hi).2; omega
 have oo30 : ∀ i, ((Value.slice A21 x.rows.length c22)).ownBlock = some i → ((Value.slice A l.length c)).ownBlock = some i → False := fun i hi hs => oo29 i hs hi
 have oo31 : ∀ i, ((Value.slice A2 l2.length c2)).ownBlock = some i → ((Value.slice A21 x.rows.length c22)).ownBlock = some i → False := fun i hi hs => by have := (World.ownsRow.lt hO23 i hs).1; have := (World.ownsRow.lt hO2 i hi).2; omega
 have oo32 : ∀ i, ((Value.slice A21 x.rows.length c22)).ownBlock = some i → ((Value.slice A2 l2.length c2)).ownBlock = some i → False := fun i hi hs => oo31 i hs hi
 have oo33 : ∀ i, ((Value.slice A21 x.rows.length c22)).ownBlock = some i → T i → False := fun i hs hi => by have := (World.ownsRow.lt hO23 i hs).1; have := RowsE.lt hR i hi; omega
 have O24 := own_base hO23 K0.size
 refine ⟨_, _, rfl, rfl, ?_⟩
 replace K0 := K0.t0 K20
 replace Hd := Hd.keep K20 (fun h => h)
 replace Hr := Hr.keep K20 (fun h => h)
 replace H4 := H4.keep K20 (fun h => h)
 replace H13 := H13.keep K20 (fun h => h)
 replace hO := own_keep0 hO K20
 replace hR := RowsE.keep hR K20 (fun _ _ h => h)
 replace hO2 := own_keep0 hO2 K20
 clear K20
 refine og 4 [(0, (ptr d)), (2, (i64 ((k : Nat) : Int))), (4, (ptr b1)), (6, (ptr b10)), (20, (agg [(i64 x.op.kind), (Value.string (str x.op.frm)), (Value.string (str x.op.to)), (i64 x.op.amount), (Value.string (str x.op.key)), (i64 x.op.slot), (i64 x.op.shard)])), (21, (agg [(i64 x.why), (i64 x.amount), (Value.slice A21 x.rows.length c22)])), (22, (Value.bool x.is))] 7 ?_
 refine Ops.new (o := rowL [(i64 0), (Value.string ByteArray.empty), (Value.string ByteArray.empty), (i64 0), (Value.string ByteArray.empty), (i64 0), (i64 0)] 23) (V := fun b => (ptr b)) (by kernel_rfl) (d := (some 7)) (by kernel_rfl) (fun b => rfl) (fun b34 w35 hb36 H37 K38 hs39 => ?_)
 have lb34d : d < b34 := by have := Hd.lt; omega
 have lb34r : r < b34 := by have := Hr.lt; omega
 have lb34b1 : b1 < b34 := by have := H4.lt; omega
 have lb34b10 : b10 < b34 := by have := H13.lt; omega
 have nb34 : w.heap.size ≤ b34 := by have := K0.size; omega
 have ob40 : ∀ i, ((Value.slice A l.length c)).ownBlock = some i → i < b34 := fun i hi => by have := (World.ownsRow.lt hO i hi).2; omega
 have of41 : ∀ i, T i → i ≠ b34 := fun i hi => by have := RowsE.lt hR i hi; omega
 have ob42 : ∀ i, ((Value.slice A2 l2.length c2)).ownBlock = some i → i < b34 := fun i hi => by have := (World.ownsRow.lt hO2 i hi).2; omega
 have ob43 : ∀ i, ((Value.slice A21 x.rows.length c22)).ownBlock = some i → i < b34 := fun i hi => by have := (World.ownsRow.lt O24 i hi).2; omega
 replace K0 := K0.t0 K38
 replace Hd := Hd.keep K38 (fun h => h)
 replace Hr := Hr.keep K38 (fun h => h)
 replace H4 := H4.keep K38 (fun h => h)
 replace H13 := H13.keep K38 (fun h => h)
 replace hO := own_keep0 hO K38
 replace hR := RowsE.keep hR K38 (fun _ _ h => h)
 replace hO2 := own_keep0 hO2 K38
 replace O24 := own_keep0 O24 K38
 clear K38 hs39
 refine Ops.new (o := rowL [(i64 0), (i64 0), (Value.slice none 0 0)] 27) (V := fun b => (ptr b)) (by kernel_rfl) (d := (some 8)) (by kernel_rfl) (fun b => rfl) (fun b44 w45 hb46 H47 K48 hs49 => ?_)
 have lb44d : d < b44 := by have := Hd.lt; omega
 have lb44r : r < b44 := by have := Hr.lt; omega
 have lb44b1 : b1 < b44 := by have := H4.lt; omega
 have lb44b10 : b10 < b44 := by have := H13.lt; omega
 have lb44b34 : b34 < b44 := by have := H37.lt; omega
 have nb44 : w.heap.size ≤ b44 := by have := K0.size; omega
 have ob50 : ∀ i, ((Value.slice A l.length c)).ownBlock = some i → i < b44 := fun i hi => by have := (World.ownsRow.lt hO i hi).2; omega
 have of51 : ∀ i, T i → i ≠ b44 := fun i hi => by have := RowsE.lt hR i hi; omega
 have ob52 : ∀ i, ((Value.slice A2 l2.length c2)).ownBlock = some i → i < b44 := fun i hi => by have := (World.ownsRow.lt hO2 i hi).2; omega
 have ob53 : ∀ i, ((Value.slice A21 x.rows.length c22)).ownBlock = some i → i < b44 := fun i hi => by have := (World.ownsRow.lt O24 i hi).2; omega
 replace K0 := K0.t0 K48
 replace Hd := Hd.keep K48 (fun h => h)
 replace Hr := Hr.keep K48 (fun h => h)
 replace H4 := H4.keep K48 (fun h => h)
 replace H13 := H13.keep K48 (fun h => h)
 replace H37 := H37.keep K48 (fun h => h)
 replace hO := own_keep0 hO K48
 replace hR := RowsE.keep hR K48 (fun _ _ h => h)
 replace hO2 := own_keep0 hO2 K48
 replace O24 := own_keep0 O24 K48
 clear K48 hs49
 refine Ops.put (t := 23) (b := b34) (off := 0) (v := (agg [(i64 x.op.kind), (Value.string (str x.op.frm)), (Value.string (str x.op.to)), (i64 x.op.amount), (Value.string (str x.op.key)), (i64 x.op.slot), (i64 x.op.shard)])) (ys := [(i64 x.op.kind), (Value.string (str x.op.frm)), (Value.string (str x.op.to)), (i64 x.op.amount), (Value.string (str x.op.key)), (i64 x.op.slot), (i64 x.op.shard)]) (by kernel_rfl) (by kernel_rfl) H37 (by kernel_rfl) (d := none) (by kernel_rfl) rfl (fun w54 H55 K56 => ?_)
 clear H37
 replace K0 := K0.trans K56 (U := none_) (fun i h1 h2 => h2) (fun i h1 h2 => by have h2 : i = b34 := h2; exfalso; omega)
 replace Hd := Hd.k1 K56 (by omega)
 replace Hr := Hr.k1 K56 (by omega)
 replace H4 := H4.k1 K56 (by omega)
 replace H13 := H13.k1 K56 (by omega)
 replace H47 := H47.k1 K56 (by omega)
 replace hO := own_keep hO K56 (fun i hi => by have := ob40 i hi; omega)
 replace hR := RowsE.keep hR K56 (fun i hi hs => by have hs : i = b34 := hs; have := of41 i hi; omega)
 replace hO2 := own_keep hO2 K56 (fun i hi => by have := ob42 i hi; omega)
 replace O24 := own_keep O24 K56 (fun i hi => by have := ob43 i hi; omega)
 clear K56
 refine Ops.put (t := 27) (b := b44) (off := 0) (v := (agg [(i64 x.why), (i64 x.amount), (Value.slice A21 x.rows.length c22)])) (ys := [(i64 x.why), (i64 x.amount), (Value.slice A21 x.rows.length c22)]) (by kernel_rfl) (by kernel_rfl) H47 (by kernel_rfl) (d := none) (by kernel_rfl) rfl (fun w57 H58 K59 => ?_)
 clear H47
 replace K0 := K0.trans K59 (U := none_) (fun i h1 h2 => h2) (fun i h1 h2 => by have h2 : i = b44 := h2; exfalso; omega)
 replace Hd := Hd.k1 K59 (by omega)
 replace Hr := Hr.k1 K59 (by omega)
 replace H4 := H4.k1 K59 (by omega)
 replace H13 := H13.k1 K59 (by omega)
 replace H55 := H55.k1 K59 (by omega)
 replace hO := own_keep hO K59 (fun i hi => by have := ob50 i hi; omega)
 replace hR := RowsE.keep hR K59 (fun i hi hs => by have hs : i = b44 := hs; have := of51 i hi; omega)
 replace hO2 := own_keep hO2 K59 (fun i hi => by have := ob52 i hi; omega)
 replace O24 := own_keep O24 K59 (fun i hi => by have := ob53 i hi; omega)
 clear K59
 refine og 1 [(0, (ptr d)), (2, (i64 ((k : Nat) : Int))), (4, (ptr b1)), (6, (ptr b10)), (7, (ptr b34)), (8, (ptr b44)), (9, (Value.bool x.is))] 12 ?_
 refine od ?_
 refine qr_seq (by kernel_rfl) ?_
 refine qr_seq (by kernel_rfl) ?_
 refine qr_region Open.wide (by kernel_rfl) (by kernel_rfl) ?_
 refine og 3 [(0, (ptr d)), (2, (i64 ((k : Nat) : Int))), (4, (ptr b1)), (6, (ptr b10)), (7, (ptr b34)), (8, (ptr b44)), (9, (Value.bool x.is)), (25, (Value.bool (decide (((k : Nat) : Int) ≥ 0))))] 3 ?_
 have h60 : (decide (((k : Nat) : Int) ≥ 0)) = true := decide_eq_true (by omega)
 rw [h60]
 refine og 1 [(0, (ptr d)), (2, (i64 ((k : Nat) : Int))), (4, (ptr b1)), (6, (ptr b10)), (7, (ptr b34)), (8, (ptr b44)), (9, (Value.bool x.is)), (25, (Value.bool true)), (26, (i64 ((k : Nat) : Int)))] 4 ?_
 refine Ops.go (v := (ptr r)) (by kernel_rfl) (Runs.load (t := 52) (a := ⟨b1, 0, none⟩) (by kernel_rfl) (H4.loads (by kernel_rfl))) (d := (some 27)) (by kernel_rfl) rfl ?_
 refine og 2 [(0, (ptr d)), (2, (i64 ((k : Nat) : Int))), (4, (ptr b1)), (6, (ptr b10)), (7, (ptr b34)), (8, (ptr b44)), (9, (Value.bool x.is)), (25, (Value.bool true)), (26, (i64 ((k : Nat) : Int))), (29, (ptr r))] 7 ?_
 refine Ops.go (v := (Value.slice A2 l2.length c2)) (by kernel_rfl) (Runs.load (t := 53) (a := ⟨r, 0, none⟩) (by kernel_rfl) (Hr.loads (by kernel_rfl))) (d := (some 30)) (by kernel_rfl) rfl ?_
 refine og 3 [(0, (ptr d)), (2, (i64 ((k : Nat) : Int))), (4, (ptr b1)), (6, (ptr b10)), (7, (ptr b34)), (8, (ptr b44)), (9, (Value.bool x.is)), (33, (Value.bool (decide (((k : Nat) : Int) < ((l2.length : Nat) : Int)))))] 11 ?_
 refine od ?_
 have h61 : (decide (((k : Nat) : Int) < ((l2.length : Nat) : Int))) = true := decide_eq_true (by omega)
 rw [h61]
 refine qr_then (o := .tmp 33) (by kernel_rfl) rfl ?_
 refine qr_seq (by kernel_rfl) ?_
 refine qr_region Open.wide (by kernel_rfl) (by kernel_rfl) ?_
 refine Ops.go (v := (ptr r)) (by kernel_rfl) (Runs.load (t := 52) (a := ⟨b1, 0, none⟩) (by kernel_rfl) (H4.loads (by kernel_rfl))) (d := (some 34)) (by kernel_rfl) rfl ?_
 refine og 2 [(0, (ptr d)), (2, (i64 ((k : Nat) : Int))), (4, (ptr b1)), (6, (ptr b10)), (7, (ptr b34)), (8, (ptr b44)), (9, (Value.bool x.is)), (36, (ptr r))] 3 ?_
 refine Ops.go (v := (Value.slice A2 l2.length c2)) (by kernel_rfl) (Runs.load (t := 53) (a := ⟨r, 0, none⟩) (by kernel_rfl) (Hr.loads (by kernel_rfl))) (d := (some 37)) (by kernel_rfl) rfl ?_
 refine og 1 [(0, (ptr d)), (4, (ptr b1)), (6, (ptr b10)), (7, (ptr b34)), (8, (ptr b44)), (9, (Value.bool x.is)), (37, (Value.slice A2 l2.length c2)), (38, (i64 ((k : Nat) : Int)))] 5 ?_
 obtain ⟨y, hy⟩ : ∃ y, l2[k]? = some y := ⟨_, List.getElem?_eq_getElem (by omega)⟩
 obtain ⟨rb62, ro63, hA64⟩ := Rd.addr (OwnT.rd hO2) (by omega)
 have hym := alike_at hm hx hy
 have hop : y.op = x.op := congrArg DM.op hym
 have hwhy : y.why = x.why := congrArg DM.why hym
 have hamt : y.amount = x.amount := congrArg DM.amount hym
 have hrw : y.rows = x.rows := congrArg DM.rows hym
 have hisy : y.is = x.is := congrArg DM.is hym
 have hyr : RdR w y.rv y.rows := hR2.1 y (List.mem_of_getElem? hy)
 refine Ops.go (by kernel_rfl) (Runs.ixSliceE (k := IntKind.i64) (t := 53) (len := l2.length) (cap := c2) (s := 11) (off' := ro63 + k * 11) (i := ((k : Nat) : Int)) hA64 (by kernel_rfl) (by kernel_rfl) (by omega) (by omega) (by omega)) (d := (some 39)) (by kernel_rfl) rfl ?_
 refine Ops.go (v := (agg [(i64 y.op.kind), (Value.string (str y.op.frm)), (Value.string (str y.op.to)), (i64 y.op.amount), (Value.string (str y.op.key)), (i64 y.op.slot), (i64 y.op.shard), (i64 y.why), (i64 y.amount), (Value.slice y.A y.rows.length y.c), (Value.bool y.is)])) (by kernel_rfl) (Runs.load (t := 87) (a := ⟨rb62, ro63 + k * 11, none⟩) (by kernel_rfl) (RdT.ld (f := DCall.cells) (x := y) DCall.two (OwnT.rd hO2) (by kernel_rfl) (by kernel_rfl) hA64 hy)) (d := (some 40)) (by kernel_rfl) rfl ?_
 refine Ops.new (o := rowL [(i64 0), (Value.string ByteArray.empty), (Value.string ByteArray.empty), (i64 0), (Value.string ByteArray.empty), (i64 0), (i64 0), (i64 0), (i64 0), (Value.slice none 0 0), (Value.bool false)] 87) (V := fun b => (ptr b)) (by kernel_rfl) (d := (some 10)) (by kernel_rfl) (fun b => rfl) (fun b65 w66 hb67 H68 K69 hs70 => ?_)
 have lb65d : d < b65 := by have := Hd.lt; omega
 have lb65r : r < b65 := by have := Hr.lt; omega
 have lb65b1 : b1 < b65 := by have := H4.lt; omega
 have lb65b10 : b10 < b65 := by have := H13.lt; omega
 have lb65b34 : b34 < b65 := by have := H55.lt; omega
 have lb65b44 : b44 < b65 := by have := H58.lt; omega
 have nb65 : w.heap.size ≤ b65 := by have := K0.size; omega
 have ob71 : ∀ i, ((Value.slice A l.length c)).ownBlock = some i → i < b65 := fun i hi => by have := (World.ownsRow.lt hO i hi).2; omega
 have of72 : ∀ i, T i → i ≠ b65 := fun i hi => by have := RowsE.lt hR i hi; omega
 have ob73 : ∀ i, ((Value.slice A2 l2.length c2)).ownBlock = some i → i < b65 := fun i hi => by have := (World.ownsRow.lt hO2 i hi).2; omega
 have ob74 : ∀ i, ((Value.slice A21 x.rows.length c22)).ownBlock = some i → i < b65 := fun i hi => by have := (World.ownsRow.lt O24 i hi).2; omega
 replace K0 := K0.t0 K69
 replace Hd := Hd.keep K69 (fun h => h)
 replace Hr := Hr.keep K69 (fun h => h)
 replace H4 := H4.keep K69 (fun h => h)
 replace H13 := H13.keep K69 (fun h => h)
 replace H55 := H55.keep K69 (fun h => h)
 replace H58 := H58.keep K69 (fun h => h)
 replace hO := own_keep0 hO K69
 replace hR := RowsE.keep hR K69 (fun _ _ h => h)
 replace hO2 := own_keep0 hO2 K69
 replace O24 := own_keep0 O24 K69
 clear K69 hs70
 refine Ops.put (t := 87) (b := b65) (off := 0) (v := (agg [(i64 y.op.kind), (Value.string (str y.op.frm)), (Value.string (str y.op.to)), (i64 y.op.amount), (Value.string (str y.op.key)), (i64 y.op.slot), (i64 y.op.shard), (i64 y.why), (i64 y.amount), (Value.slice y.A y.rows.length y.c), (Value.bool y.is)])) (ys := [(i64 y.op.kind), (Value.string (str y.op.frm)), (Value.string (str y.op.to)), (i64 y.op.amount), (Value.string (str y.op.key)), (i64 y.op.slot), (i64 y.op.shard), (i64 y.why), (i64 y.amount), (Value.slice y.A y.rows.length y.c), (Value.bool y.is)]) (by kernel_rfl) (by kernel_rfl) H68 (by kernel_rfl) (d := none) (by kernel_rfl) rfl (fun w75 H76 K77 => ?_)
 clear H68
 replace K0 := K0.trans K77 (U := none_) (fun i h1 h2 => h2) (fun i h1 h2 => by have h2 : i = b65 := h2; exfalso; omega)
 replace Hd := Hd.k1 K77 (by omega)
 replace Hr := Hr.k1 K77 (by omega)
 replace H4 := H4.k1 K77 (by omega)
 replace H13 := H13.k1 K77 (by omega)
 replace H55 := H55.k1 K77 (by omega)
 replace H58 := H58.k1 K77 (by omega)
 replace hO := own_keep hO K77 (fun i hi => by have := ob71 i hi; omega)
 replace hR := RowsE.keep hR K77 (fun i hi hs => by have hs : i = b65 := hs; have := of72 i hi; omega)
 replace hO2 := own_keep hO2 K77 (fun i hi => by have := ob73 i hi; omega)
 replace O24 := own_keep O24 K77 (fun i hi => by have := ob74 i hi; omega)
 clear K77
 refine od ?_
 refine qr_seq (by kernel_rfl) ?_
 refine qr_region Open.wide (by kernel_rfl) (by kernel_rfl) ?_
 refine Ops.go (v := (agg [(i64 x.op.kind), (Value.string (str x.op.frm)), (Value.string (str x.op.to)), (i64 x.op.amount), (Value.string (str x.op.key)), (i64 x.op.slot), (i64 x.op.shard)])) (by kernel_rfl) (Runs.load (t := 23) (a := ⟨b34, 0, none⟩) (by kernel_rfl) (H55.loads (by kernel_rfl))) (d := (some 41)) (by kernel_rfl) rfl ?_
 refine og 1 [(0, (ptr d)), (4, (ptr b1)), (6, (ptr b10)), (7, (ptr b34)), (8, (ptr b44)), (9, (Value.bool x.is)), (10, (ptr b65)), (41, (agg [(i64 x.op.kind), (Value.string (str x.op.frm)), (Value.string (str x.op.to)), (i64 x.op.amount), (Value.string (str x.op.key)), (i64 x.op.slot), (i64 x.op.shard)])), (42, (ptr b65))] 2 ?_
 refine Ops.go (v := (agg [(i64 y.op.kind), (Value.string (str y.op.frm)), (Value.string (str y.op.to)), (i64 y.op.amount), (Value.string (str y.op.key)), (i64 y.op.slot), (i64 y.op.shard)])) (by kernel_rfl) (Runs.load (t := 23) (a := ⟨b65, 0, none⟩) (by kernel_rfl) (H76.loads (by kernel_rfl))) (d := (some 43)) (by kernel_rfl) rfl ?_
 refine Ops.go (v := (Value.bool (!(aggB [(i64 x.op.kind), (Value.string (str x.op.frm)), (Value.string (str x.op.to)), (i64 x.op.amount), (Value.string (str x.op.key)), (i64 x.op.slot), (i64 x.op.shard)] [(i64 y.op.kind), (Value.string (str y.op.frm)), (Value.string (str y.op.to)), (i64 y.op.amount), (Value.string (str y.op.key)), (i64 y.op.slot), (i64 y.op.shard)])))) (by kernel_rfl) (Runs.aggne (t := 23) (by kernel_rfl) (by kernel_rfl)) (d := (some 44)) (by kernel_rfl) rfl ?_
 refine og 1 [(0, (ptr d)), (4, (ptr b1)), (6, (ptr b10)), (7, (ptr b34)), (8, (ptr b44)), (9, (Value.bool x.is)), (10, (ptr b65)), (45, (Value.bool (!(aggB [(i64 x.op.kind), (Value.string (str x.op.frm)), (Value.string (str x.op.to)), (i64 x.op.amount), (Value.string (str x.op.key)), (i64 x.op.slot), (i64 x.op.shard)] [(i64 y.op.kind), (Value.string (str y.op.frm)), (Value.string (str y.op.to)), (i64 y.op.amount), (Value.string (str y.op.key)), (i64 y.op.slot), (i64 y.op.shard)]))))] 5 ?_
 have h78 : (!(aggB [(i64 x.op.kind), (Value.string (str x.op.frm)), (Value.string (str x.op.to)), (i64 x.op.amount), (Value.string (str x.op.key)), (i64 x.op.slot), (i64 x.op.shard)] [(i64 y.op.kind), (Value.string (str y.op.frm)), (Value.string (str y.op.to)), (i64 y.op.amount), (Value.string (str y.op.key)), (i64 y.op.slot), (i64 y.op.shard)])) = false := by rw [hop]; simp [aggB, cellB]
 rw [h78]
 refine Ops.go (v := (agg [(i64 x.why), (i64 x.amount), (Value.slice A21 x.rows.length c22)])) (by kernel_rfl) (Runs.load (t := 27) (a := ⟨b44, 0, none⟩) (by kernel_rfl) (H58.loads (by kernel_rfl))) (d := (some 46)) (by kernel_rfl) rfl ?_
 refine og 1 [(0, (ptr d)), (4, (ptr b1)), (6, (ptr b10)), (7, (ptr b34)), (8, (ptr b44)), (9, (Value.bool x.is)), (10, (ptr b65)), (45, (Value.bool false)), (46, (agg [(i64 x.why), (i64 x.amount), (Value.slice A21 x.rows.length c22)])), (47, (Value.pointer (some ⟨b65, 7, none⟩)))] 7 ?_
 refine Ops.go (v := (agg [(i64 y.why), (i64 y.amount), (Value.slice y.A y.rows.length y.c)])) (by kernel_rfl) (Runs.load (t := 27) (a := ⟨b65, 7, none⟩) (by kernel_rfl) (H76.loads (by kernel_rfl))) (d := (some 48)) (by kernel_rfl) rfl ?_
 refine Ops.call (by kernel_rfl) (d := (some 49)) (by kernel_rfl) (SameReply_calls _ A21 c22 (⟨x.why, x.amount, x.rows⟩ : ReplyM) y.A y.c (⟨y.why, y.amount, y.rows⟩ : ReplyM) (OwnT.rd O24) (Rd.keep0 (by omega) hyr K0)) ?_
 rintro _ w82 ⟨t79, rfl, ht80, K81⟩
 refine ⟨_, _, rfl, rfl, ?_⟩
 replace K0 := K0.t0 K81
 replace Hd := Hd.keep K81 (fun h => h)
 replace Hr := Hr.keep K81 (fun h => h)
 replace H4 := H4.keep K81 (fun h => h)
 replace H13 := H13.keep K81 (fun h => h)
 replace H55 := H55.keep K81 (fun h => h)
 replace H58 := H58.keep K81 (fun h => h)
 replace H76 := H76.keep K81 (fun h => h)
 replace hO := own_keep0 hO K81
 replace hR := RowsE.keep hR K81 (fun _ _ h => h)
 replace hO2 := own_keep0 hO2 K81
 replace O24 := own_keep0 O24 K81
 clear K81
 refine og 3 [(0, (ptr d)), (4, (ptr b1)), (6, (ptr b10)), (7, (ptr b34)), (8, (ptr b44)), (9, (Value.bool x.is)), (10, (ptr b65)), (52, (Value.bool (!t79)))] 12 ?_
 have h83 : (!t79) = false := by rw [ht80.2 (by rw [hwhy, hamt, hrw])]; rfl
 rw [h83]
 refine og 2 [(0, (ptr d)), (4, (ptr b1)), (6, (ptr b10)), (7, (ptr b34)), (8, (ptr b44)), (9, (Value.bool x.is)), (52, (Value.bool false)), (53, (Value.bool x.is)), (54, (Value.pointer (some ⟨b65, 10, none⟩)))] 14 ?_
 refine Ops.go (v := (Value.bool y.is)) (by kernel_rfl) (Runs.load (t := 4) (a := ⟨b65, 10, none⟩) (by kernel_rfl) (H76.loads (by kernel_rfl))) (d := (some 55)) (by kernel_rfl) rfl ?_
 refine Ops.split x.is (fun h84 => ?_) (fun h84 => ?_)
 ·rw [h84]
  have p85 : x.is = true := h84
  have h86 : y.is = true := by rw [hisy]; exact h84
  rw [h86]
  refine og 2 [(0, (ptr d)), (4, (ptr b1)), (6, (ptr b10)), (7, (ptr b34)), (8, (ptr b44)), (9, (Value.bool true)), (57, (Value.bool false))] 17 ?_
  refine od ?_
  refine qr_else (o := .tmp 57) (by kernel_rfl) rfl ?_
  refine qr_skip (by kernel_rfl) ?_
  refine qr_seq (by kernel_rfl) ?_
  refine qr_seq (by kernel_rfl) ?_
  refine qr_region Open.wide (by kernel_rfl) (by kernel_rfl) ?_
  refine og 1 [(0, (ptr d)), (4, (ptr b1)), (6, (ptr b10)), (8, (ptr b44)), (11, (i64 0))] 1 ?_
  refine od ?_
  refine qr_block (id := 0) (by kernel_rfl) ?_
  have ob87 : ∀ i, ((Value.slice A21 x.rows.length c22)).ownBlock = some i → i ≠ d := fun i hi => by have := ob25 i hi; omega
  have ob88 : ∀ i, ((Value.slice A21 x.rows.length c22)).ownBlock = some i → i ≠ r := fun i hi => by have := ob26 i hi; omega
  have ob89 : ∀ i, ((Value.slice A21 x.rows.length c22)).ownBlock = some i → i ≠ b1 := fun i hi => by have := ob27 i hi; omega
  have ob90 : ∀ i, ((Value.slice A21 x.rows.length c22)).ownBlock = some i → i ≠ b10 := fun i hi => by have := ob28 i hi; omega
  have ob91 : ∀ i, ((Value.slice A21 x.rows.length c22)).ownBlock = some i → i ≠ b34 := fun i hi => by have := ob43 i hi; omega
  have ob92 : ∀ i, ((Value.slice A21 x.rows.length c22)).ownBlock = some i → i ≠ b44 := fun i hi => by have := ob53 i hi; omega
  have ob93 : ∀ i, ((Value.slice A21 x.rows.length c22)).ownBlock = some i → i ≠ b65 := fun i hi => by have := ob74 i hi; omega
  refine qr_keep (R := [(0, (ptr d)), (4, (ptr b1)), (6, (ptr b10)), (8, (ptr b44)), (11, (i64 0))]) (by kernel_rfl) ?_
  refine qr_loop (fun (gs : Nat × (List RowM)) (ds : List Deferred) L (wx : World) => match gs with | (q, ys) => ds = [] ∧ L = [(0, (ptr d)), (4, (ptr b1)), (6, (ptr b10)), (8, (ptr b44)), (11, (i64 ((q : Nat) : Int)))] ∧ OwnR wx w.heap.size 59 (.slice A21 ys.length c22) ys ∧ (∀ i, ((Value.slice A21 x.rows.length c22)).ownBlock = some i → i ≠ d) ∧ (∀ i, ((Value.slice A21 x.rows.length c22)).ownBlock = some i → i ≠ r) ∧ (∀ i, ((Value.slice A21 x.rows.length c22)).ownBlock = some i → i ≠ b1) ∧ (∀ i, ((Value.slice A21 x.rows.length c22)).ownBlock = some i → i ≠ b10) ∧ (∀ i, ((Value.slice A21 x.rows.length c22)).ownBlock = some i → i ≠ b34) ∧ (∀ i, ((Value.slice A21 x.rows.length c22)).ownBlock = some i → i ≠ b44) ∧ (∀ i, ((Value.slice A21 x.rows.length c22)).ownBlock = some i → i ≠ b65) ∧ q ≤ x.rows.length ∧ ys.length = x.rows.length ∧ Keeps none_ w wx ∧ Has wx d (rowL [(Value.slice A l.length c)] 84) ∧ Has wx r (rowL [(Value.slice A2 l2.length c2)] 55) ∧ Has wx b1 (rowL [(ptr r)] 52) ∧ Has wx b10 (rowL [(Value.bool false)] 4) ∧ Has wx b34 (rowL [(i64 x.op.kind), (Value.string (str x.op.frm)), (Value.string (str x.op.to)), (i64 x.op.amount), (Value.string (str x.op.key)), (i64 x.op.slot), (i64 x.op.shard)] 23) ∧ Has wx b44 (rowL [(i64 x.why), (i64 x.amount), (Value.slice A21 x.rows.length c22)] 27) ∧ Has wx b65 (rowL [(i64 y.op.kind), (Value.string (str y.op.frm)), (Value.string (str y.op.to)), (i64 y.op.amount), (Value.string (str y.op.key)), (i64 y.op.slot), (i64 y.op.shard), (i64 y.why), (i64 y.amount), (Value.slice y.A y.rows.length y.c), (Value.bool y.is)] 87)) (fun (gs : Nat × (List RowM)) => match gs with | (q, ys) => x.rows.length - q) (0, x.rows) (by kernel_rfl) ⟨rfl, rfl, O24, ob87, ob88, ob89, ob90, ob91, ob92, ob93, Nat.zero_le _, rfl, K0, Hd, Hr, H4, H13, H55, H58, H76⟩ ?_
  clear Hd Hr H4 H13 H55 H58 H76 hO hR hO2 O24 K0
  rintro ⟨q, ys⟩ _ _ w94 ⟨rfl, rfl, hOV, obVd, obVr, obVb1, obVb10, obVb34, obVb44, obVb65, hq, hyl, K95, H96, H97, H98, H99, H100, H101, H102⟩
  have hO103 := own_keep0 hO0 K95
  have hR104 := RowsE.keep hR0 K95 (fun _ _ h => h)
  have hP105 := own_keep0 hO20 K95
  refine qr_seq (by kernel_rfl) ?_
  refine qr_seq (by kernel_rfl) ?_
  refine qr_region Open.wide (by kernel_rfl) (by kernel_rfl) ?_
  refine og 2 [(0, (ptr d)), (4, (ptr b1)), (6, (ptr b10)), (8, (ptr b44)), (11, (i64 ((q : Nat) : Int))), (70, (i64 ((q : Nat) : Int))), (71, (Value.pointer (some ⟨b44, 2, none⟩)))] 2 ?_
  refine Ops.go (v := (Value.slice A21 x.rows.length c22)) (by kernel_rfl) (Runs.load (t := 25) (a := ⟨b44, 2, none⟩) (by kernel_rfl) (H101.loads (by kernel_rfl))) (d := (some 72)) (by kernel_rfl) rfl ?_
  refine og 2 [(0, (ptr d)), (4, (ptr b1)), (6, (ptr b10)), (8, (ptr b44)), (11, (i64 ((q : Nat) : Int))), (74, (Value.bool (decide (((q : Nat) : Int) < ((x.rows.length : Nat) : Int)))))] 5 ?_
  refine od ?_
  refine qr_cond (o := .tmp 74) (b := (decide (((q : Nat) : Int) < ((x.rows.length : Nat) : Int)))) (by kernel_rfl) rfl (fun h107 => ?_) (fun h107 => ?_)
  ·rw [h107]
   have p108 : ((q : Nat) : Int) < ((x.rows.length : Nat) : Int) := of_decide_eq_true h107
   obtain ⟨y, hy⟩ : ∃ y, ys[q]? = some y := ⟨_, List.getElem?_eq_getElem (by omega)⟩
   obtain ⟨gb, pre, suf, hA, hgb, hp, Hg, hput⟩ := OwnT.mid RowM.two (by decide) hy hOV
   have ngb : w.heap.size ≤ gb := hgb
   have Hgl := Hg.lt
   have dgbd : gb ≠ d := obVd gb (by rw [hA]; rfl)
   have dgbr : gb ≠ r := obVr gb (by rw [hA]; rfl)
   have dgbb1 : gb ≠ b1 := obVb1 gb (by rw [hA]; rfl)
   have dgbb10 : gb ≠ b10 := obVb10 gb (by rw [hA]; rfl)
   have dgbb34 : gb ≠ b34 := obVb34 gb (by rw [hA]; rfl)
   have dgbb44 : gb ≠ b44 := obVb44 gb (by rw [hA]; rfl)
   have dgbb65 : gb ≠ b65 := obVb65 gb (by rw [hA]; rfl)
   have ogbV : ∀ i, ((Value.slice A l.length c)).ownBlock = some i → i ≠ gb := fun i hi q => by have := (World.ownsRow.lt hO0 i hi).2; omega
   have ogbW : ∀ i, ((Value.slice A2 l2.length c2)).ownBlock = some i → i ≠ gb := fun i hi q => by have := (World.ownsRow.lt hO20 i hi).2; omega
   have ogbT : ∀ i, T i → i ≠ gb := fun i hi q => by have := RowsE.lt hR0 i hi; omega
   refine qr_skip (by kernel_rfl) ?_
   refine qr_seq (by kernel_rfl) ?_
   refine qr_block (id := 1) (by kernel_rfl) ?_
   refine qr_region Open.wide (by kernel_rfl) (by kernel_rfl) ?_
   refine og 1 [(0, (ptr d)), (4, (ptr b1)), (6, (ptr b10)), (8, (ptr b44)), (11, (i64 ((q : Nat) : Int))), (77, (Value.pointer (some ⟨b44, 2, none⟩)))] 1 ?_
   refine Ops.go (v := (Value.slice A21 x.rows.length c22)) (by kernel_rfl) (Runs.load (t := 25) (a := ⟨b44, 2, none⟩) (by kernel_rfl) (H101.loads (by kernel_rfl))) (d := (some 78)) (by kernel_rfl) rfl ?_
   refine og 1 [(0, (ptr d)), (4, (ptr b1)), (6, (ptr b10)), (8, (ptr b44)), (11, (i64 ((q : Nat) : Int))), (78, (Value.slice A21 x.rows.length c22)), (79, (i64 ((q : Nat) : Int)))] 3 ?_
   refine Ops.go (by kernel_rfl) (Runs.ixSliceE (k := IntKind.i64) (t := 25) (len := x.rows.length) (cap := c22) (s := 2) (off' := q * 2) (i := ((q : Nat) : Int)) hA (by kernel_rfl) (by kernel_rfl) (by omega) (by omega) (by omega)) (d := (some 80)) (by kernel_rfl) rfl ?_
   refine og 1 [(0, (ptr d)), (4, (ptr b1)), (6, (ptr b10)), (8, (ptr b44)), (11, (i64 ((q : Nat) : Int))), (81, (Value.pointer (some ⟨gb, q * 2 + 1, none⟩)))] 5 ?_
   refine Ops.put (t := 2) (b := gb) (off := q * 2 + 1) (v := (i64 99)) (ys := (pre ++ [(Value.string (str y.name)), (i64 99)] ++ suf)) (by kernel_rfl) (by kernel_rfl) Hg (storeC1 (by kernel_rfl) (by kernel_rfl) (Nat.lt_of_lt_of_le (Nat.lt_succ_self _) (mid_len (vs := [(i64 99)]) (k := 1) (by have := hp; omega) (Nat.le_of_ble_eq_true (by kernel_rfl)))) (mid_set1 (k := 1) (by have := hp; omega) (Nat.le_of_ble_eq_true (by kernel_rfl)))) (d := none) (by kernel_rfl) rfl (fun w109 H110 K111 => ?_)
   clear Hg
   replace K95 := K95.trans K111 (U := none_) (fun i h1 h2 => h2) (fun i h1 h2 => by have h2 : i = gb := h2; exfalso; omega)
   replace H96 := H96.k1 K111 (by omega)
   replace H97 := H97.k1 K111 (by omega)
   replace H98 := H98.k1 K111 (by omega)
   replace H99 := H99.k1 K111 (by omega)
   replace H100 := H100.k1 K111 (by omega)
   replace H101 := H101.k1 K111 (by omega)
   replace H102 := H102.k1 K111 (by omega)
   replace hO103 := own_keep hO103 K111 (fun i hi => by have := ogbV i hi; omega)
   replace hR104 := RowsE.keep hR104 K111 (fun i hi hs => by have hs : i = gb := hs; have := ogbT i hi; omega)
   replace hP105 := own_keep hP105 K111 (fun i hi => by have := ogbW i hi; omega)
   clear K111
   refine od ?_
   refine qr_region Open.wide (by kernel_rfl) (by kernel_rfl) ?_
   refine og 2 [(0, (ptr d)), (4, (ptr b1)), (6, (ptr b10)), (8, (ptr b44)), (11, (i64 ((q : Nat) : Int))), (76, (i64 (IntKind.i64.wrap (((q : Nat) : Int) + 1))))] 2 ?_
   have e112 : IntKind.i64.wrap (((q : Nat) : Int) + 1) = ((q + 1 : Nat) : Int) := by rw [wrap_i64 (by omega) (by omega)]; omega
   rw [e112]
   clear e112
   refine og 1 [(0, (ptr d)), (4, (ptr b1)), (6, (ptr b10)), (8, (ptr b44)), (11, (i64 ((q + 1 : Nat) : Int)))] 3 ?_
   refine Ops.keep (R := [(0, (ptr d)), (4, (ptr b1)), (6, (ptr b10)), (8, (ptr b44)), (11, (i64 ((q + 1 : Nat) : Int)))]) (by kernel_rfl) ?_
   refine od ?_
   exact ⟨(q + 1, ys.set q ⟨y.name, 99⟩), ⟨rfl, rfl, (by rw [List.length_set]; exact hput ⟨y.name, 99⟩ _ H110), obVd, obVr, obVb1, obVb10, obVb34, obVb44, obVb65, (by omega), (by rw [List.length_set]; exact hyl), K95, H96, H97, H98, H99, H100, H101, H102⟩, (show x.rows.length - (q + 1) < x.rows.length - q from by omega)⟩
  ·rw [h107]
   have p113 : ¬ (((q : Nat) : Int) < ((x.rows.length : Nat) : Int)) := of_decide_eq_false h107
   refine qr_exit (id := 0) (by kernel_rfl) ?_
   refine qr_seq (by kernel_rfl) ?_
   refine qr_region Open.wide (by kernel_rfl) (by kernel_rfl) ?_
   refine og 1 [(0, (ptr d)), (4, (ptr b1)), (6, (ptr b10)), (82, (ptr d))] 1 ?_
   refine Ops.call (by kernel_rfl) (d := (some 83)) (by kernel_rfl) (Open_calls _ F d l A c T H96 hO103 hR104 hT7 hV7 hFd (fun i hi => Nat.lt_of_lt_of_le (hFl i hi) K95.size) h20) ?_
   rintro _ w117 ⟨b114, A115, c116, rfl, K118, H119, hO120, nb122, hn123⟩
   have ob124 : ∀ i, ((Value.slice A115 l.length c116)).ownBlock = some i → i ≠ d := fun i hi => by have := (World.ownsRow.lt hO120 i hi).1; have := H96.lt; omega
   have ob125 : ∀ i, ((Value.slice A115 l.length c116)).ownBlock = some i → i ≠ r := fun i hi => by have := (World.ownsRow.lt hO120 i hi).1; have := H97.lt; omega
   have ob126 : ∀ i, ((Value.slice A115 l.length c116)).ownBlock = some i → i ≠ b1 := fun i hi => by have := (World.ownsRow.lt hO120 i hi).1; have := H98.lt; omega
   have ob127 : ∀ i, ((Value.slice A115 l.length c116)).ownBlock = some i → i ≠ b10 := fun i hi => by have := (World.ownsRow.lt hO120 i hi).1; have := H99.lt; omega
   have ob128 : ∀ i, ((Value.slice A115 l.length c116)).ownBlock = some i → i ≠ b34 := fun i hi => by have := (World.ownsRow.lt hO120 i hi).1; have := H100.lt; omega
   have ob129 : ∀ i, ((Value.slice A115 l.length c116)).ownBlock = some i → i ≠ b44 := fun i hi => by have := (World.ownsRow.lt hO120 i hi).1; have := H101.lt; omega
   have ob130 : ∀ i, ((Value.slice A115 l.length c116)).ownBlock = some i → i ≠ b65 := fun i hi => by have := (World.ownsRow.lt hO120 i hi).1; have := H102.lt; omega
   have oo131 : ∀ i, ((Value.slice A l.length c)).ownBlock = some i → ((Value.slice A115 l.length c116)).ownBlock = some i → False := fun i hi hs => by have := (World.ownsRow.lt hO120 i hs).1; have := (World.ownsRow.lt hO103 i hi).2; omega
   have oo132 : ∀ i, ((Value.slice A115 l.length c116)).ownBlock = some i → ((Value.slice A l.length c)).ownBlock = some i → False := fun i hi hs => oo131 i hs hi
   have oo133 : ∀ i, ((Value.slice A2 l2.length c2)).ownBlock = some i → ((Value.slice A115 l.length c116)).ownBlock = some i → False := fun i hi hs => by have := (World.ownsRow.lt hO120 i hs).1; have := (World.ownsRow.lt hP105 i hi).2; omega
   have oo134 : ∀ i, ((Value.slice A115 l.length c116)).ownBlock = some i → ((Value.slice A2 l2.length c2)).ownBlock = some i → False := fun i hi hs => oo133 i hs hi
   have O121 := own_base hO120 K95.size
   have lb114d : d < b114 := by have := H96.lt; omega
   have lb114r : r < b114 := by have := H97.lt; omega
   have lb114b1 : b1 < b114 := by have := H98.lt; omega
   have lb114b10 : b10 < b114 := by have := H99.lt; omega
   have lb114b34 : b34 < b114 := by have := H100.lt; omega
   have lb114b44 : b44 < b114 := by have := H101.lt; omega
   have lb114b65 : b65 < b114 := by have := H102.lt; omega
   have nb114 : w.heap.size ≤ b114 := by have := K95.size; omega
   refine ⟨_, _, rfl, rfl, ?_⟩
   replace K95 := K95.trans K118 (U := none_) (fun i h1 h2 => h2) (fun i h1 h2 => by exact h2)
   replace H96 := H96.keep K118 (fun h => h)
   replace H97 := H97.keep K118 (fun h => h)
   replace H98 := H98.keep K118 (fun h => h)
   replace H99 := H99.keep K118 (fun h => h)
   replace H100 := H100.keep K118 (fun h => h)
   replace H101 := H101.keep K118 (fun h => h)
   replace H102 := H102.keep K118 (fun h => h)
   replace hO103 := own_keep0 hO103 K118
   replace hR104 := RowsE.keep hR104 K118 (fun _ _ h => h)
   replace hP105 := own_keep0 hP105 K118
   clear K118
   refine og 1 [(0, (ptr d)), (4, (ptr b1)), (6, (ptr b10)), (12, (Value.func (Fn.func 40) ⟨[]⟩ ⟨[(ptr b114)]⟩))] 3 ?_
   refine od ?_
   refine qr_seq (by kernel_rfl) ?_
   refine qr_seq (by kernel_rfl) ?_
   refine qr_draw Open.wide (fun wz => Keeps none_ w117 wz) 12 (by kernel_rfl) (by kernel_rfl) (by kernel_rfl) (by kernel_rfl) (fun w135 K136 _ _ => ⟨K136, ?_⟩)
   replace K95 := K95.trans K136 (U := none_) (fun i h1 h2 => h2) (fun i h1 h2 => by exact h2)
   replace H96 := H96.keep K136 (fun h => h)
   replace H97 := H97.keep K136 (fun h => h)
   replace H98 := H98.keep K136 (fun h => h)
   replace H99 := H99.keep K136 (fun h => h)
   replace H100 := H100.keep K136 (fun h => h)
   replace H101 := H101.keep K136 (fun h => h)
   replace H102 := H102.keep K136 (fun h => h)
   replace H119 := H119.keep K136 (fun h => h)
   replace hO103 := own_keep0 hO103 K136
   replace hR104 := RowsE.keep hR104 K136 (fun _ _ h => h)
   replace hP105 := own_keep0 hP105 K136
   replace O121 := own_keep0 O121 K136
   refine Dr.strong (S' := (fun wz => Keeps none_ w135 wz)) (Keeps.refl w135) (fun wz hx => K136.trans hx (fun i _ h => h) (fun _ _ h => h)) ?_
   clear K136
   refine Dr.takes (fuel' := 8) (is' := _) [0, 1, 2, 3] [(4, (ptr b1)), (6, (ptr b10)), (12, (Value.func (Fn.func 40) ⟨[]⟩ ⟨[(ptr b114)]⟩)), (86, (Value.bool false)), (87, (ptr d))] (by kernel_rfl) rfl (by kernel_rfl) ?_
   refine Dr.take (i := 5) (v := (ptr r)) (by kernel_rfl) (by kernel_rfl) (fun wz hS => Runs.load (t := 52) (a := ⟨b1, 0, none⟩) (by kernel_rfl) ((H98.keep hS (fun h => h)).loads (by kernel_rfl))) (d := (some 89)) (by kernel_rfl) rfl ?_
   refine Dr.takes (fuel' := 5) (is' := _) [6, 7] [(4, (ptr b1)), (6, (ptr b10)), (12, (Value.func (Fn.func 40) ⟨[]⟩ ⟨[(ptr b114)]⟩)), (86, (Value.bool false)), (87, (ptr d)), (91, (ptr r))] (by kernel_rfl) rfl (by kernel_rfl) ?_
   refine Dr.take (i := 8) (v := (Value.slice A2 l2.length c2)) (by kernel_rfl) (by kernel_rfl) (fun wz hS => Runs.load (t := 53) (a := ⟨r, 0, none⟩) (by kernel_rfl) ((H97.keep hS (fun h => h)).loads (by kernel_rfl))) (d := (some 92)) (by kernel_rfl) rfl ?_
   refine Dr.takes (fuel' := 3) (is' := _) [9] [(4, (ptr b1)), (6, (ptr b10)), (12, (Value.func (Fn.func 40) ⟨[]⟩ ⟨[(ptr b114)]⟩)), (86, (Value.bool false)), (87, (ptr d)), (93, (i64 ((l2.length : Nat) : Int)))] (by kernel_rfl) rfl (by kernel_rfl) ?_
   refine Dr.call (i := 4) (by kernel_rfl) (by kernel_rfl) (d := (some 88)) (by kernel_rfl) (fun _ => Len_calls _ d l A c H96) ?_
   rintro _ w138 ⟨rfl, K137⟩
   replace K95 := K95.trans K137 (U := none_) (fun i h1 h2 => h2) (fun i h1 h2 => by exact h2)
   replace H96 := H96.keep K137 (fun h => h)
   replace H97 := H97.keep K137 (fun h => h)
   replace H98 := H98.keep K137 (fun h => h)
   replace H99 := H99.keep K137 (fun h => h)
   replace H100 := H100.keep K137 (fun h => h)
   replace H101 := H101.keep K137 (fun h => h)
   replace H102 := H102.keep K137 (fun h => h)
   replace H119 := H119.keep K137 (fun h => h)
   replace hO103 := own_keep0 hO103 K137
   replace hR104 := RowsE.keep hR104 K137 (fun _ _ h => h)
   replace hP105 := own_keep0 hP105 K137
   replace O121 := own_keep0 O121 K137
   refine ⟨_, _, rfl, rfl, K137, ?_⟩
   refine Dr.strong (S' := (fun wz => Keeps none_ w138 wz)) (Keeps.refl w138) (fun wz hx => K137.trans hx (fun i _ h => h) (fun _ _ h => h)) ?_
   clear K137
   refine Dr.takes (fuel' := 0) (is' := _) [10, 11] [(4, (ptr b1)), (6, (ptr b10)), (12, (Value.func (Fn.func 40) ⟨[]⟩ ⟨[(ptr b114)]⟩)), (95, (Value.bool (((l.length : Nat) : Int) != ((l2.length : Nat) : Int))))] (by kernel_rfl) rfl (by kernel_rfl) ?_
   refine Dr.done (by kernel_rfl) ?_
   have h139 : (((l.length : Nat) : Int) != ((l2.length : Nat) : Int)) = false := bne_f (by omega)
   rw [h139]
   refine qr_else (o := .tmp 95) (by kernel_rfl) rfl ?_
   refine qr_skip (by kernel_rfl) ?_
   refine qr_seq (by kernel_rfl) ?_
   refine qr_region Open.wide (by kernel_rfl) (by kernel_rfl) ?_
   refine Ops.new (o := rowL [(i64 0)] 3) (V := fun b => (ptr b)) (by kernel_rfl) (d := (some 13)) (by kernel_rfl) (fun b => rfl) (fun b140 w141 hb142 H143 K144 hs145 => ?_)
   have lb140d : d < b140 := by have := H96.lt; omega
   have lb140r : r < b140 := by have := H97.lt; omega
   have lb140b1 : b1 < b140 := by have := H98.lt; omega
   have lb140b10 : b10 < b140 := by have := H99.lt; omega
   have lb140b34 : b34 < b140 := by have := H100.lt; omega
   have lb140b44 : b44 < b140 := by have := H101.lt; omega
   have lb140b65 : b65 < b140 := by have := H102.lt; omega
   have lb140b114 : b114 < b140 := by have := H119.lt; omega
   have nb140 : w.heap.size ≤ b140 := by have := K95.size; omega
   have ob146 : ∀ i, ((Value.slice A l.length c)).ownBlock = some i → i < b140 := fun i hi => by have := (World.ownsRow.lt hO103 i hi).2; omega
   have of147 : ∀ i, T i → i ≠ b140 := fun i hi => by have := RowsE.lt hR104 i hi; omega
   have ob148 : ∀ i, ((Value.slice A2 l2.length c2)).ownBlock = some i → i < b140 := fun i hi => by have := (World.ownsRow.lt hP105 i hi).2; omega
   have ob149 : ∀ i, ((Value.slice A115 l.length c116)).ownBlock = some i → i < b140 := fun i hi => by have := (World.ownsRow.lt O121 i hi).2; omega
   replace K95 := K95.trans K144 (U := none_) (fun i h1 h2 => h2) (fun i h1 h2 => by exact h2)
   replace H96 := H96.keep K144 (fun h => h)
   replace H97 := H97.keep K144 (fun h => h)
   replace H98 := H98.keep K144 (fun h => h)
   replace H99 := H99.keep K144 (fun h => h)
   replace H100 := H100.keep K144 (fun h => h)
   replace H101 := H101.keep K144 (fun h => h)
   replace H102 := H102.keep K144 (fun h => h)
   replace H119 := H119.keep K144 (fun h => h)
   replace hO103 := own_keep0 hO103 K144
   replace hR104 := RowsE.keep hR104 K144 (fun _ _ h => h)
   replace hP105 := own_keep0 hP105 K144
   replace O121 := own_keep0 O121 K144
   clear K144 hs145
   refine Ops.put (t := 3) (b := b140) (off := 0) (v := (i64 0)) (ys := [(i64 0)]) (by kernel_rfl) (by kernel_rfl) H143 (by kernel_rfl) (d := none) (by kernel_rfl) rfl (fun w150 H151 K152 => ?_)
   clear H143
   replace K95 := K95.trans K152 (U := none_) (fun i h1 h2 => h2) (fun i h1 h2 => by have h2 : i = b140 := h2; exfalso; omega)
   replace H96 := H96.k1 K152 (by omega)
   replace H97 := H97.k1 K152 (by omega)
   replace H98 := H98.k1 K152 (by omega)
   replace H99 := H99.k1 K152 (by omega)
   replace H100 := H100.k1 K152 (by omega)
   replace H101 := H101.k1 K152 (by omega)
   replace H102 := H102.k1 K152 (by omega)
   replace H119 := H119.k1 K152 (by omega)
   replace hO103 := own_keep hO103 K152 (fun i hi => by have := ob146 i hi; omega)
   replace hR104 := RowsE.keep hR104 K152 (fun i hi hs => by have hs : i = b140 := hs; have := of147 i hi; omega)
   replace hP105 := own_keep hP105 K152 (fun i hi => by have := ob148 i hi; omega)
   replace O121 := own_keep O121 K152 (fun i hi => by have := ob149 i hi; omega)
   clear K152
   refine od ?_
   refine qr_seq (by kernel_rfl) ?_
   refine qr_seq (by kernel_rfl) ?_
   refine qr_region Open.wide (by kernel_rfl) (by kernel_rfl) ?_
   refine og 1 [(4, (ptr b1)), (6, (ptr b10)), (13, (ptr b140)), (96, (Value.func (Fn.func 40) ⟨[]⟩ ⟨[(ptr b114)]⟩))] 1 ?_
   refine od ?_
   refine qr_block (id := 2) (by kernel_rfl) ?_
   have zd := H96.lt
   have zr := H97.lt
   have zb1 := H98.lt
   have zb10 := H99.lt
   have zb34 := H100.lt
   have zb44 := H101.lt
   have zb65 := H102.lt
   have zb114 := H119.lt
   have zb140 := H151.lt
   have hnE : ∀ i, ((Value.slice A115 l.length c116)).ownBlock = some i → i ≠ b140 := fun i hi => by have := ob149 i hi; omega
   have hn2 : ∀ i, ((Value.slice A2 l2.length c2)).ownBlock = some i → i ≠ b140 := fun i hi => by have := (World.ownsRow.lt hO20 i hi).2; omega
   refine qr_keep (R := [(4, (ptr b1)), (6, (ptr b10)), (13, (ptr b140)), (96, (Value.func (Fn.func 40) ⟨[]⟩ ⟨[(ptr b114)]⟩))]) (by kernel_rfl) ?_
   refine qr_eachM (g := .tmp 96) (ts := [97, 98]) (m := 11) (enc := fun x : Nat × Opm => [i64 ((x.1 : Nat) : Int), agg [(i64 x.2.kind), (Value.string (str x.2.frm)), (Value.string (str x.2.to)), (i64 x.2.amount), (Value.string (str x.2.key)), (i64 x.2.slot), (i64 x.2.shard)]]) (S := fun all => all = openF 0 l) (w0 := w150) (T := fun i => i = b140 ∨ w150.heap.size ≤ i) (by kernel_rfl) (by decide) (gf := 40) (lb := [ptr b114]) rfl (enters Try.func40 (by kernel_rfl) (by kernel_rfl))
    (Open1_tells w150 9 b114 A115 c116 l _ H119 (by intro h; change b114 = b140 ∨ w150.heap.size ≤ b114 at h; omega) (OwnT.rd O121) (fun i hi h => by have q1 := hnE i hi; have q2 := (World.ownsRow.lt O121 i hi).2; have h : i = b140 ∨ w150.heap.size ≤ i := h; omega))
    (fun i h => .inr h) ((Keeps.refl _).mono (fun _ _ h => h.elim)) (fun pre W => Has W b140 (rowL [(i64 ((behind 0 pre : Nat) : Int))] 3) ∧ Keeps (fun i => i = b140) w150 W)
    (fun k W1 W2 h lo => ⟨lo.has h.1, h.2.trans lo.keeps (fun _ _ h => h) (fun i hi h => by have h : w150.heap.size ≤ i := h; omega)⟩) ⟨H151, (Keeps.refl _).mono (fun _ _ h => h.elim)⟩
    (fun x => (98, agg [(i64 x.2.kind), (Value.string (str x.2.frm)), (Value.string (str x.2.to)), (i64 x.2.amount), (Value.string (str x.2.key)), (i64 x.2.slot), (i64 x.2.shard)]) :: (97, i64 ((x.1 : Nat) : Int)) :: [(4, (ptr b1)), (6, (ptr b10)), (13, (ptr b140)), (96, (Value.func (Fn.func 40) ⟨[]⟩ ⟨[(ptr b114)]⟩))]) (fun x => rfl)
    (fun x L W1 => ∃ b15, L = [(4, ptr b1), (6, ptr b10), (13, ptr b140), (14, (i64 ((x.1 : Nat) : Int))), (15, ptr b15)] ∧ w150.heap.size ≤ b15 ∧ Has W1 b15 (rowL [(i64 x.2.kind), (Value.string (str x.2.frm)), (Value.string (str x.2.to)), (i64 x.2.amount), (Value.string (str x.2.key)), (i64 x.2.slot), (i64 x.2.shard)] 23)) (fun x L W1 W2 h lo => let ⟨b15, h1, h2, h3⟩ := h; ⟨b15, h1, h2, lo.has h3⟩) ?_ ?_ ?_
   ·rintro ln pre x W1 hlt ⟨h3, hk⟩ hp
    refine qr_seq (by kernel_rfl) ?_
    refine qr_region (Open.round ln) (by kernel_rfl) (by kernel_rfl) ?_
    refine og 1 [(4, ptr b1), (6, ptr b10), (13, ptr b140), (14, (i64 ((x.1 : Nat) : Int))), (98, agg [(i64 x.2.kind), (Value.string (str x.2.frm)), (Value.string (str x.2.to)), (i64 x.2.amount), (Value.string (str x.2.key)), (i64 x.2.slot), (i64 x.2.shard)])] 1 ?_
    refine od ?_
    refine qr_region (Open.round ln) (by kernel_rfl) (by kernel_rfl) ?_
    refine Ops.new (o := rowL [(i64 0), (Value.string ByteArray.empty), (Value.string ByteArray.empty), (i64 0), (Value.string ByteArray.empty), (i64 0), (i64 0)] 23) (V := fun b => ptr b) (by kernel_rfl) (d := some 15) (by kernel_rfl) (fun b => rfl) (fun b w3 hb H3 k3 hs3 => ?_)
    refine Ops.put (t := 23) (b := b) (off := 0) (v := agg [(i64 x.2.kind), (Value.string (str x.2.frm)), (Value.string (str x.2.to)), (i64 x.2.amount), (Value.string (str x.2.key)), (i64 x.2.slot), (i64 x.2.shard)]) (ys := [(i64 x.2.kind), (Value.string (str x.2.frm)), (Value.string (str x.2.to)), (i64 x.2.amount), (Value.string (str x.2.key)), (i64 x.2.slot), (i64 x.2.shard)]) (by kernel_rfl) (by kernel_rfl) H3 (by kernel_rfl) (d := none) (by kernel_rfl) rfl (fun w4 H4 k4 => ?_)
    refine Ops.keep (R := [(4, ptr b1), (6, ptr b10), (13, ptr b140), (14, (i64 ((x.1 : Nat) : Int))), (15, ptr b)]) (by kernel_rfl) ?_
    refine od ?_
    exact ⟨rfl, rfl, k3.trans k4 (fun _ _ h => h) (fun i hi h => by have h : i = b := h; omega), b, rfl, by have := hk.size; omega, H4⟩
   ·rintro ln pre x _ W1 ⟨h3, hk⟩ ⟨post, hp⟩ ⟨b15, rfl, hb4, h4⟩
    obtain ⟨hle, hgap, y0, hy0, hs0, ho0⟩ := openF_next (l := l2) (by rw [← openF_congr hm]; exact hp)
    refine qr_mono (alike_body W1 ln b1 r b10 b140 b15 (behind 0 pre) A2 c2 l2 x y0 (H98.keep hk (by intro h; change b1 = b140 at h; omega)) (H97.keep hk (by intro h; change r = b140 at h; omega)) h3 h4 (OwnT.rd (own_keep hP105 hk (fun i hi h => by have h : i = b140 := h; exact hn2 i hi h))) hn2 (by omega) hle hgap hy0 hs0 ho0 (by omega)) ?_
    rintro ds e L W2 ⟨rfl, k2, h2⟩
    exact ⟨rfl, keepsFrom_of k2 (fun i hi hB => by exfalso; have hi : i = b140 := hi; omega), k2.mono (fun i _ h => .inl h), by rw [behind_append]; exact h2, hk.trans k2 (fun _ _ h => h) (fun i _ h => h)⟩
   ·rintro D all W hDw hall ⟨h3, hk⟩ hD
    rw [hall, openF_congr hm] at h3
    obtain ⟨hlb, hlast⟩ := openF_last (l := l2) rfl
    have K153 : Keeps none_ w W := K95.trans hk (U := none_) (fun _ _ h => h) (fun i hi h => by have h : i = b140 := h; have := nb140; omega)
    have H154 := H96.keep hk (by intro h; change d = b140 at h; omega)
    have H155 := H97.keep hk (by intro h; change r = b140 at h; omega)
    have H156 := H98.keep hk (by intro h; change b1 = b140 at h; omega)
    have H157 := H99.keep hk (by intro h; change b10 = b140 at h; omega)
    clear H96 H97 H98 H99 H100 H101 H102 H119 H151 K95
    have hO158 := own_keep0 hO0 K153
    have hR159 := RowsE.keep hR0 K153 (fun _ _ h => h)
    have hP160 := own_keep0 hO20 K153
    have hbD : d < D ∧ r < D ∧ b1 < D ∧ b10 < D ∧ b140 < D := by omega
    have hwD : w.heap.size ≤ D := by have := K153.size; omega
    have hD1 : Has W D (.deferred (some [])) := hD
    clear hD
    refine qr_seq (by kernel_rfl) ?_
    refine qr_block (id := 6) (by kernel_rfl) ?_
    refine qr_keep (R := [(4, (ptr b1)), (6, (ptr b10)), (13, (ptr b140))]) (by kernel_rfl) ?_
    refine qr_loop (fun (kk : Nat) (ds : List Deferred) L (wx : World) => ds = [{ target := .collected D, args := #[] }] ∧ L = [(4, (ptr b1)), (6, (ptr b10)), (13, (ptr b140))] ∧ behind 0 (openF 0 l2) ≤ kk ∧ kk ≤ l2.length ∧ Keeps none_ w wx ∧ Has wx d (rowL [(Value.slice A l.length c)] 84) ∧ Has wx r (rowL [(Value.slice A2 l2.length c2)] 55) ∧ Has wx b1 (rowL [(ptr r)] 52) ∧ Has wx b10 (rowL [(Value.bool false)] 4) ∧ Has wx b140 (rowL [(i64 ((kk : Nat) : Int))] 3) ∧ Has wx D (.deferred (some []))) (fun (kk : Nat) => l2.length - kk) (behind 0 (openF 0 l2)) (by kernel_rfl) ⟨rfl, rfl, Nat.le_refl _, hlb, K153, H154, H155, H156, H157, h3, hD1⟩ ?_
    clear H154 H155 H156 H157 h3 hD1 hO158 hR159 hP160 K153
    rintro kk _ _ w162 ⟨rfl, rfl, hk1, hk2, K163, H164, H165, H166, H167, H168, H169⟩
    have hO170 := own_keep0 hO0 K163
    have hR171 := RowsE.keep hR0 K163 (fun _ _ h => h)
    have hP172 := own_keep0 hO20 K163
    refine qr_seq (by kernel_rfl) ?_
    refine qr_seq (by kernel_rfl) ?_
    refine qr_draw Open.wide (fun wz => Keeps none_ w162 wz) 17 (by kernel_rfl) (by kernel_rfl) (by kernel_rfl) (by kernel_rfl) (fun w174 K175 _ _ => ⟨K175, ?_⟩)
    replace K163 := K163.trans K175 (U := none_) (fun i h1 h2 => h2) (fun i h1 h2 => by exact h2)
    replace H164 := H164.keep K175 (fun h => h)
    replace H165 := H165.keep K175 (fun h => h)
    replace H166 := H166.keep K175 (fun h => h)
    replace H167 := H167.keep K175 (fun h => h)
    replace H168 := H168.keep K175 (fun h => h)
    replace H169 := H169.keep K175 (fun h => h)
    replace hO170 := own_keep0 hO170 K175
    replace hR171 := RowsE.keep hR171 K175 (fun _ _ h => h)
    replace hP172 := own_keep0 hP172 K175
    refine Dr.strong (S' := (fun wz => Keeps none_ w174 wz)) (Keeps.refl w174) (fun wz hx => K175.trans hx (fun i _ h => h) (fun _ _ h => h)) ?_
    clear K175
    refine Dr.take (i := 0) (v := (i64 ((kk : Nat) : Int))) (by kernel_rfl) (by kernel_rfl) (fun wz hS => Runs.load (t := 3) (a := ⟨b140, 0, none⟩) (by kernel_rfl) ((H168.keep hS (fun h => h)).loads (by kernel_rfl))) (d := (some 144)) (by kernel_rfl) rfl ?_
    refine Dr.take (i := 1) (v := (ptr r)) (by kernel_rfl) (by kernel_rfl) (fun wz hS => Runs.load (t := 52) (a := ⟨b1, 0, none⟩) (by kernel_rfl) ((H166.keep hS (fun h => h)).loads (by kernel_rfl))) (d := (some 145)) (by kernel_rfl) rfl ?_
    refine Dr.takes (fuel' := 13) (is' := _) [2, 3] [(4, (ptr b1)), (6, (ptr b10)), (13, (ptr b140)), (144, (i64 ((kk : Nat) : Int))), (147, (ptr r))] (by kernel_rfl) rfl (by kernel_rfl) ?_
    refine Dr.take (i := 4) (v := (Value.slice A2 l2.length c2)) (by kernel_rfl) (by kernel_rfl) (fun wz hS => Runs.load (t := 53) (a := ⟨r, 0, none⟩) (by kernel_rfl) ((H165.keep hS (fun h => h)).loads (by kernel_rfl))) (d := (some 148)) (by kernel_rfl) rfl ?_
    refine Dr.takes (fuel' := 9) (is' := _) [5, 6, 7] [(4, (ptr b1)), (6, (ptr b10)), (13, (ptr b140)), (151, (Value.bool (decide (((kk : Nat) : Int) < ((l2.length : Nat) : Int)))))] (by kernel_rfl) rfl (by kernel_rfl) ?_
    refine Dr.split (decide (((kk : Nat) : Int) < ((l2.length : Nat) : Int))) (fun h176 => ?_) (fun h176 => ?_)
    ·rw [h176]
     have p177 : ((kk : Nat) : Int) < ((l2.length : Nat) : Int) := of_decide_eq_true h176
     refine Dr.take (i := 8) (v := (ptr r)) (by kernel_rfl) (by kernel_rfl) (fun wz hS => Runs.load (t := 52) (a := ⟨b1, 0, none⟩) (by kernel_rfl) ((H166.keep hS (fun h => h)).loads (by kernel_rfl))) (d := (some 152)) (by kernel_rfl) rfl ?_
     refine Dr.takes (fuel' := 6) (is' := _) [9, 10] [(4, (ptr b1)), (6, (ptr b10)), (13, (ptr b140)), (151, (Value.bool true)), (154, (ptr r))] (by kernel_rfl) rfl (by kernel_rfl) ?_
     refine Dr.take (i := 11) (v := (Value.slice A2 l2.length c2)) (by kernel_rfl) (by kernel_rfl) (fun wz hS => Runs.load (t := 53) (a := ⟨r, 0, none⟩) (by kernel_rfl) ((H165.keep hS (fun h => h)).loads (by kernel_rfl))) (d := (some 155)) (by kernel_rfl) rfl ?_
     refine Dr.take (i := 12) (v := (i64 ((kk : Nat) : Int))) (by kernel_rfl) (by kernel_rfl) (fun wz hS => Runs.load (t := 3) (a := ⟨b140, 0, none⟩) (by kernel_rfl) ((H168.keep hS (fun h => h)).loads (by kernel_rfl))) (d := (some 156)) (by kernel_rfl) rfl ?_
     obtain ⟨z, hzz⟩ : ∃ z, l2[kk]? = some z := ⟨_, List.getElem?_eq_getElem (by omega)⟩
     obtain ⟨rb178, ro179, hA180⟩ := Rd.addr (OwnT.rd hP172) (by omega)
     refine Dr.take (i := 13) (v := (Value.pointer (some ⟨rb178, ro179 + kk * 11, none⟩))) (by kernel_rfl) (by kernel_rfl) (fun wz hS => Runs.ixSliceE (k := IntKind.i64) (t := 53) (len := l2.length) (cap := c2) (s := 11) (off' := ro179 + kk * 11) (i := ((kk : Nat) : Int)) hA180 (by kernel_rfl) (by kernel_rfl) (by omega) (by omega) (by omega)) (d := (some 157)) (by kernel_rfl) rfl ?_
     refine Dr.takes (fuel' := 2) (is' := _) [14] [(4, (ptr b1)), (6, (ptr b10)), (13, (ptr b140)), (151, (Value.bool true)), (158, (Value.pointer (some ⟨rb178, ro179 + kk * 11 + 10, none⟩)))] (by kernel_rfl) rfl (by kernel_rfl) ?_
     refine Dr.take (i := 15) (v := (Value.bool z.is)) (by kernel_rfl) (by kernel_rfl) (fun wz hS => Runs.load (t := 4) (a := ⟨rb178, ro179 + kk * 11 + 10, none⟩) (by kernel_rfl) (RdT.ldf (f := DCall.cells) (x := z) (o := 10) DCall.two (OwnT.rd (own_keep0 hP172 hS)) (by kernel_rfl) hA180 hzz rfl)) (d := (some 159)) (by kernel_rfl) rfl ?_
     refine Dr.takes (fuel' := 0) (is' := _) [16] [(4, (ptr b1)), (6, (ptr b10)), (13, (ptr b140)), (160, (Value.bool z.is))] (by kernel_rfl) rfl (by kernel_rfl) ?_
     refine Dr.done (by kernel_rfl) ?_
     have h181 : z.is = true := hlast kk (by omega) z hzz
     rw [h181]
     refine qr_then (o := .tmp 160) (by kernel_rfl) rfl ?_
     refine qr_skip (by kernel_rfl) ?_
     refine qr_block (id := 7) (by kernel_rfl) ?_
     refine qr_region Open.wide (by kernel_rfl) (by kernel_rfl) ?_
     refine Ops.go (v := (i64 ((kk : Nat) : Int))) (by kernel_rfl) (Runs.load (t := 3) (a := ⟨b140, 0, none⟩) (by kernel_rfl) (H168.loads (by kernel_rfl))) (d := (some 161)) (by kernel_rfl) rfl ?_
     refine og 1 [(4, (ptr b1)), (6, (ptr b10)), (13, (ptr b140)), (162, (i64 (IntKind.i64.wrap (((kk : Nat) : Int) + 1))))] 2 ?_
     have e182 : IntKind.i64.wrap (((kk : Nat) : Int) + 1) = ((kk + 1 : Nat) : Int) := by rw [wrap_i64 (by omega) (by omega)]; omega
     rw [e182]
     clear e182
     refine Ops.put (t := 3) (b := b140) (off := 0) (v := (i64 ((kk + 1 : Nat) : Int))) (ys := [(i64 ((kk + 1 : Nat) : Int))]) (by kernel_rfl) (by kernel_rfl) H168 (by kernel_rfl) (d := none) (by kernel_rfl) rfl (fun w183 H184 K185 => ?_)
     clear H168
     replace K163 := K163.trans K185 (U := none_) (fun i h1 h2 => h2) (fun i h1 h2 => by have h2 : i = b140 := h2; exfalso; omega)
     replace H164 := H164.k1 K185 (by omega)
     replace H165 := H165.k1 K185 (by omega)
     replace H166 := H166.k1 K185 (by omega)
     replace H167 := H167.k1 K185 (by omega)
     replace H169 := H169.k1 K185 (by omega)
     replace hO170 := own_keep hO170 K185 (fun i hi => by have := ob146 i hi; omega)
     replace hR171 := RowsE.keep hR171 K185 (fun i hi hs => by have hs : i = b140 := hs; have := of147 i hi; omega)
     replace hP172 := own_keep hP172 K185 (fun i hi => by have := ob148 i hi; omega)
     clear K185
     refine Ops.keep (R := [(4, (ptr b1)), (6, (ptr b10)), (13, (ptr b140))]) (by kernel_rfl) ?_
     refine od ?_
     exact ⟨kk + 1, ⟨rfl, rfl, (by omega), (by omega), K163, H164, H165, H166, H167, H184, H169⟩, (show l2.length - (kk + 1) < l2.length - kk from by omega)⟩
    ·rw [h176]
     have p186 : ¬ (((kk : Nat) : Int) < ((l2.length : Nat) : Int)) := of_decide_eq_false h176
     refine Dr.takes (fuel' := 0) (is' := _) [8, 9, 10, 11, 12, 13, 14, 15, 16] [(4, (ptr b1)), (6, (ptr b10)), (13, (ptr b140)), (160, (Value.bool false))] (by kernel_rfl) rfl (by kernel_rfl) ?_
     refine Dr.done (by kernel_rfl) ?_
     refine qr_else (o := .tmp 160) (by kernel_rfl) rfl ?_
     refine qr_exit (id := 6) (by kernel_rfl) ?_
     refine qr_seq (by kernel_rfl) ?_
     refine qr_draw Open.wide (fun wz => Keeps (fun i => i = b10) w174 wz) 8 (by kernel_rfl) (by kernel_rfl) (by kernel_rfl) (by kernel_rfl) (fun w187 K188 _ _ => ⟨(K188.mono (fun _ _ h => h.elim)), ?_⟩)
     replace K163 := K163.trans K188 (U := none_) (fun i h1 h2 => h2) (fun i h1 h2 => by exact h2)
     replace H164 := H164.keep K188 (fun h => h)
     replace H165 := H165.keep K188 (fun h => h)
     replace H166 := H166.keep K188 (fun h => h)
     replace H167 := H167.keep K188 (fun h => h)
     replace H168 := H168.keep K188 (fun h => h)
     replace H169 := H169.keep K188 (fun h => h)
     replace hO170 := own_keep0 hO170 K188
     replace hR171 := RowsE.keep hR171 K188 (fun _ _ h => h)
     replace hP172 := own_keep0 hP172 K188
     refine Dr.strong (S' := (fun wz => Keeps (fun i => i = b10) w187 wz)) ((Keeps.refl w187).mono (fun _ _ h => h.elim)) (fun wz hx => K188.trans hx (fun i _ h => h.elim) (fun _ _ h => h)) ?_
     clear K188
     refine Dr.take (i := 0) (v := (i64 ((kk : Nat) : Int))) (by kernel_rfl) (by kernel_rfl) (fun wz hS => Runs.load (t := 3) (a := ⟨b140, 0, none⟩) (by kernel_rfl) ((H168.keep hS (by intro h; change b140 = b10 at h; omega)).loads (by kernel_rfl))) (d := (some 163)) (by kernel_rfl) rfl ?_
     refine Dr.take (i := 1) (v := (ptr r)) (by kernel_rfl) (by kernel_rfl) (fun wz hS => Runs.load (t := 52) (a := ⟨b1, 0, none⟩) (by kernel_rfl) ((H166.keep hS (by intro h; change b1 = b10 at h; omega)).loads (by kernel_rfl))) (d := (some 164)) (by kernel_rfl) rfl ?_
     refine Dr.takes (fuel' := 4) (is' := _) [2, 3] [(6, (ptr b10)), (163, (i64 ((kk : Nat) : Int))), (166, (ptr r))] (by kernel_rfl) rfl (by kernel_rfl) ?_
     refine Dr.take (i := 4) (v := (Value.slice A2 l2.length c2)) (by kernel_rfl) (by kernel_rfl) (fun wz hS => Runs.load (t := 53) (a := ⟨r, 0, none⟩) (by kernel_rfl) ((H165.keep hS (by intro h; change r = b10 at h; omega)).loads (by kernel_rfl))) (d := (some 167)) (by kernel_rfl) rfl ?_
     refine Dr.takes (fuel' := 1) (is' := _) [5, 6] [(6, (ptr b10)), (169, (Value.bool (((kk : Nat) : Int) == ((l2.length : Nat) : Int))))] (by kernel_rfl) rfl (by kernel_rfl) ?_
     refine Dr.put (i := 7) (t := 4) (b := b10) (off := 0) (v := (Value.bool (((kk : Nat) : Int) == ((l2.length : Nat) : Int)))) (ys := [(Value.bool (((kk : Nat) : Int) == ((l2.length : Nat) : Int)))]) (by kernel_rfl) (by kernel_rfl) (by kernel_rfl) H167 (by kernel_rfl) (d := none) (by kernel_rfl) rfl (fun w189 H190 K191 => ?_)
     clear H167
     replace K163 := K163.trans K191 (U := none_) (fun i h1 h2 => h2) (fun i h1 h2 => by have h2 : i = b10 := h2; exfalso; omega)
     replace H164 := H164.k1 K191 (by omega)
     replace H165 := H165.k1 K191 (by omega)
     replace H166 := H166.k1 K191 (by omega)
     replace H168 := H168.k1 K191 (by omega)
     replace H169 := H169.k1 K191 (by omega)
     replace hO170 := own_keep hO170 K191 (fun i hi => by have := ob16 i hi; omega)
     replace hR171 := RowsE.keep hR171 K191 (fun i hi hs => by have hs : i = b10 := hs; have := of17 i hi; omega)
     replace hP172 := own_keep hP172 K191 (fun i hi => by have := ob18 i hi; omega)
     refine ⟨K191, ?_⟩
     refine Dr.strong (S' := (fun wz => Keeps (fun i => i = b10) w189 wz)) ((Keeps.refl w189).mono (fun _ _ h => h.elim)) (fun wz hx => K191.trans hx (fun i _ h => by have h : i = b10 := h; show i = b10; omega) (fun _ _ h => h)) ?_
     clear K191
     refine Dr.done (by kernel_rfl) ?_
     refine qr_ret (by kernel_rfl) ?_
     refine retR_one (D := D) H169 (v := (Value.bool (((kk : Nat) : Int) == ((l2.length : Nat) : Int)))) (retv_cell rfl rfl (((Loose.put (B := D) (.deferred none) (Nat.le_refl _) H169 rfl).has H190).loads (by kernel_rfl))) ?_
     exact ⟨by rw [show (((kk : Nat) : Int) == ((l2.length : Nat) : Int)) = true from beq_t (by omega)], (K163.trans (Loose.put (B := D) (.deferred none) (Nat.le_refl _) H169 rfl).keeps (fun _ _ h => h) (fun i hi h => by have h : D ≤ i := h; omega))⟩
 ·rw [h84]
  have p192 : x.is = false := h84
  have h193 : y.is = false := by rw [hisy]; exact h84
  rw [h193]
  refine og 2 [(0, (ptr d)), (4, (ptr b1)), (6, (ptr b10)), (7, (ptr b34)), (8, (ptr b44)), (9, (Value.bool false)), (57, (Value.bool false))] 17 ?_
  refine od ?_
  refine qr_else (o := .tmp 57) (by kernel_rfl) rfl ?_
  refine qr_skip (by kernel_rfl) ?_
  refine qr_seq (by kernel_rfl) ?_
  refine qr_seq (by kernel_rfl) ?_
  refine qr_region Open.wide (by kernel_rfl) (by kernel_rfl) ?_
  refine og 1 [(0, (ptr d)), (4, (ptr b1)), (6, (ptr b10)), (8, (ptr b44)), (11, (i64 0))] 1 ?_
  refine od ?_
  refine qr_block (id := 0) (by kernel_rfl) ?_
  have ob194 : ∀ i, ((Value.slice A21 x.rows.length c22)).ownBlock = some i → i ≠ d := fun i hi => by have := ob25 i hi; omega
  have ob195 : ∀ i, ((Value.slice A21 x.rows.length c22)).ownBlock = some i → i ≠ r := fun i hi => by have := ob26 i hi; omega
  have ob196 : ∀ i, ((Value.slice A21 x.rows.length c22)).ownBlock = some i → i ≠ b1 := fun i hi => by have := ob27 i hi; omega
  have ob197 : ∀ i, ((Value.slice A21 x.rows.length c22)).ownBlock = some i → i ≠ b10 := fun i hi => by have := ob28 i hi; omega
  have ob198 : ∀ i, ((Value.slice A21 x.rows.length c22)).ownBlock = some i → i ≠ b34 := fun i hi => by have := ob43 i hi; omega
  have ob199 : ∀ i, ((Value.slice A21 x.rows.length c22)).ownBlock = some i → i ≠ b44 := fun i hi => by have := ob53 i hi; omega
  have ob200 : ∀ i, ((Value.slice A21 x.rows.length c22)).ownBlock = some i → i ≠ b65 := fun i hi => by have := ob74 i hi; omega
  refine qr_keep (R := [(0, (ptr d)), (4, (ptr b1)), (6, (ptr b10)), (8, (ptr b44)), (11, (i64 0))]) (by kernel_rfl) ?_
  refine qr_loop (fun (gs : Nat × (List RowM)) (ds : List Deferred) L (wx : World) => match gs with | (q, ys) => ds = [] ∧ L = [(0, (ptr d)), (4, (ptr b1)), (6, (ptr b10)), (8, (ptr b44)), (11, (i64 ((q : Nat) : Int)))] ∧ OwnR wx w.heap.size 59 (.slice A21 ys.length c22) ys ∧ (∀ i, ((Value.slice A21 x.rows.length c22)).ownBlock = some i → i ≠ d) ∧ (∀ i, ((Value.slice A21 x.rows.length c22)).ownBlock = some i → i ≠ r) ∧ (∀ i, ((Value.slice A21 x.rows.length c22)).ownBlock = some i → i ≠ b1) ∧ (∀ i, ((Value.slice A21 x.rows.length c22)).ownBlock = some i → i ≠ b10) ∧ (∀ i, ((Value.slice A21 x.rows.length c22)).ownBlock = some i → i ≠ b34) ∧ (∀ i, ((Value.slice A21 x.rows.length c22)).ownBlock = some i → i ≠ b44) ∧ (∀ i, ((Value.slice A21 x.rows.length c22)).ownBlock = some i → i ≠ b65) ∧ q ≤ x.rows.length ∧ ys.length = x.rows.length ∧ Keeps none_ w wx ∧ Has wx d (rowL [(Value.slice A l.length c)] 84) ∧ Has wx r (rowL [(Value.slice A2 l2.length c2)] 55) ∧ Has wx b1 (rowL [(ptr r)] 52) ∧ Has wx b10 (rowL [(Value.bool false)] 4) ∧ Has wx b34 (rowL [(i64 x.op.kind), (Value.string (str x.op.frm)), (Value.string (str x.op.to)), (i64 x.op.amount), (Value.string (str x.op.key)), (i64 x.op.slot), (i64 x.op.shard)] 23) ∧ Has wx b44 (rowL [(i64 x.why), (i64 x.amount), (Value.slice A21 x.rows.length c22)] 27) ∧ Has wx b65 (rowL [(i64 y.op.kind), (Value.string (str y.op.frm)), (Value.string (str y.op.to)), (i64 y.op.amount), (Value.string (str y.op.key)), (i64 y.op.slot), (i64 y.op.shard), (i64 y.why), (i64 y.amount), (Value.slice y.A y.rows.length y.c), (Value.bool y.is)] 87)) (fun (gs : Nat × (List RowM)) => match gs with | (q, ys) => x.rows.length - q) (0, x.rows) (by kernel_rfl) ⟨rfl, rfl, O24, ob194, ob195, ob196, ob197, ob198, ob199, ob200, Nat.zero_le _, rfl, K0, Hd, Hr, H4, H13, H55, H58, H76⟩ ?_
  clear Hd Hr H4 H13 H55 H58 H76 hO hR hO2 O24 K0
  rintro ⟨q, ys⟩ _ _ w201 ⟨rfl, rfl, hOV, obVd, obVr, obVb1, obVb10, obVb34, obVb44, obVb65, hq, hyl, K202, H203, H204, H205, H206, H207, H208, H209⟩
  have hO210 := own_keep0 hO0 K202
  have hR211 := RowsE.keep hR0 K202 (fun _ _ h => h)
  have hP212 := own_keep0 hO20 K202
  refine qr_seq (by kernel_rfl) ?_
  refine qr_seq (by kernel_rfl) ?_
  refine qr_region Open.wide (by kernel_rfl) (by kernel_rfl) ?_
  refine og 2 [(0, (ptr d)), (4, (ptr b1)), (6, (ptr b10)), (8, (ptr b44)), (11, (i64 ((q : Nat) : Int))), (70, (i64 ((q : Nat) : Int))), (71, (Value.pointer (some ⟨b44, 2, none⟩)))] 2 ?_
  refine Ops.go (v := (Value.slice A21 x.rows.length c22)) (by kernel_rfl) (Runs.load (t := 25) (a := ⟨b44, 2, none⟩) (by kernel_rfl) (H208.loads (by kernel_rfl))) (d := (some 72)) (by kernel_rfl) rfl ?_
  refine og 2 [(0, (ptr d)), (4, (ptr b1)), (6, (ptr b10)), (8, (ptr b44)), (11, (i64 ((q : Nat) : Int))), (74, (Value.bool (decide (((q : Nat) : Int) < ((x.rows.length : Nat) : Int)))))] 5 ?_
  refine od ?_
  refine qr_cond (o := .tmp 74) (b := (decide (((q : Nat) : Int) < ((x.rows.length : Nat) : Int)))) (by kernel_rfl) rfl (fun h214 => ?_) (fun h214 => ?_)
  ·rw [h214]
   have p215 : ((q : Nat) : Int) < ((x.rows.length : Nat) : Int) := of_decide_eq_true h214
   obtain ⟨y, hy⟩ : ∃ y, ys[q]? = some y := ⟨_, List.getElem?_eq_getElem (by omega)⟩
   obtain ⟨gb, pre, suf, hA, hgb, hp, Hg, hput⟩ := OwnT.mid RowM.two (by decide) hy hOV
   have ngb : w.heap.size ≤ gb := hgb
   have Hgl := Hg.lt
   have dgbd : gb ≠ d := obVd gb (by rw [hA]; rfl)
   have dgbr : gb ≠ r := obVr gb (by rw [hA]; rfl)
   have dgbb1 : gb ≠ b1 := obVb1 gb (by rw [hA]; rfl)
   have dgbb10 : gb ≠ b10 := obVb10 gb (by rw [hA]; rfl)
   have dgbb34 : gb ≠ b34 := obVb34 gb (by rw [hA]; rfl)
   have dgbb44 : gb ≠ b44 := obVb44 gb (by rw [hA]; rfl)
   have dgbb65 : gb ≠ b65 := obVb65 gb (by rw [hA]; rfl)
   have ogbV : ∀ i, ((Value.slice A l.length c)).ownBlock = some i → i ≠ gb := fun i hi q => by have := (World.ownsRow.lt hO0 i hi).2; omega
   have ogbW : ∀ i, ((Value.slice A2 l2.length c2)).ownBlock = some i → i ≠ gb := fun i hi q => by have := (World.ownsRow.lt hO20 i hi).2; omega
   have ogbT : ∀ i, T i → i ≠ gb := fun i hi q => by have := RowsE.lt hR0 i hi; omega
   refine qr_skip (by kernel_rfl) ?_
   refine qr_seq (by kernel_rfl) ?_
   refine qr_block (id := 1) (by kernel_rfl) ?_
   refine qr_region Open.wide (by kernel_rfl) (by kernel_rfl) ?_
   refine og 1 [(0, (ptr d)), (4, (ptr b1)), (6, (ptr b10)), (8, (ptr b44)), (11, (i64 ((q : Nat) : Int))), (77, (Value.pointer (some ⟨b44, 2, none⟩)))] 1 ?_
   refine Ops.go (v := (Value.slice A21 x.rows.length c22)) (by kernel_rfl) (Runs.load (t := 25) (a := ⟨b44, 2, none⟩) (by kernel_rfl) (H208.loads (by kernel_rfl))) (d := (some 78)) (by kernel_rfl) rfl ?_
   refine og 1 [(0, (ptr d)), (4, (ptr b1)), (6, (ptr b10)), (8, (ptr b44)), (11, (i64 ((q : Nat) : Int))), (78, (Value.slice A21 x.rows.length c22)), (79, (i64 ((q : Nat) : Int)))] 3 ?_
   refine Ops.go (by kernel_rfl) (Runs.ixSliceE (k := IntKind.i64) (t := 25) (len := x.rows.length) (cap := c22) (s := 2) (off' := q * 2) (i := ((q : Nat) : Int)) hA (by kernel_rfl) (by kernel_rfl) (by omega) (by omega) (by omega)) (d := (some 80)) (by kernel_rfl) rfl ?_
   refine og 1 [(0, (ptr d)), (4, (ptr b1)), (6, (ptr b10)), (8, (ptr b44)), (11, (i64 ((q : Nat) : Int))), (81, (Value.pointer (some ⟨gb, q * 2 + 1, none⟩)))] 5 ?_
   refine Ops.put (t := 2) (b := gb) (off := q * 2 + 1) (v := (i64 99)) (ys := (pre ++ [(Value.string (str y.name)), (i64 99)] ++ suf)) (by kernel_rfl) (by kernel_rfl) Hg (storeC1 (by kernel_rfl) (by kernel_rfl) (Nat.lt_of_lt_of_le (Nat.lt_succ_self _) (mid_len (vs := [(i64 99)]) (k := 1) (by have := hp; omega) (Nat.le_of_ble_eq_true (by kernel_rfl)))) (mid_set1 (k := 1) (by have := hp; omega) (Nat.le_of_ble_eq_true (by kernel_rfl)))) (d := none) (by kernel_rfl) rfl (fun w216 H217 K218 => ?_)
   clear Hg
   replace K202 := K202.trans K218 (U := none_) (fun i h1 h2 => h2) (fun i h1 h2 => by have h2 : i = gb := h2; exfalso; omega)
   replace H203 := H203.k1 K218 (by omega)
   replace H204 := H204.k1 K218 (by omega)
   replace H205 := H205.k1 K218 (by omega)
   replace H206 := H206.k1 K218 (by omega)
   replace H207 := H207.k1 K218 (by omega)
   replace H208 := H208.k1 K218 (by omega)
   replace H209 := H209.k1 K218 (by omega)
   replace hO210 := own_keep hO210 K218 (fun i hi => by have := ogbV i hi; omega)
   replace hR211 := RowsE.keep hR211 K218 (fun i hi hs => by have hs : i = gb := hs; have := ogbT i hi; omega)
   replace hP212 := own_keep hP212 K218 (fun i hi => by have := ogbW i hi; omega)
   clear K218
   refine od ?_
   refine qr_region Open.wide (by kernel_rfl) (by kernel_rfl) ?_
   refine og 2 [(0, (ptr d)), (4, (ptr b1)), (6, (ptr b10)), (8, (ptr b44)), (11, (i64 ((q : Nat) : Int))), (76, (i64 (IntKind.i64.wrap (((q : Nat) : Int) + 1))))] 2 ?_
   have e219 : IntKind.i64.wrap (((q : Nat) : Int) + 1) = ((q + 1 : Nat) : Int) := by rw [wrap_i64 (by omega) (by omega)]; omega
   rw [e219]
   clear e219
   refine og 1 [(0, (ptr d)), (4, (ptr b1)), (6, (ptr b10)), (8, (ptr b44)), (11, (i64 ((q + 1 : Nat) : Int)))] 3 ?_
   refine Ops.keep (R := [(0, (ptr d)), (4, (ptr b1)), (6, (ptr b10)), (8, (ptr b44)), (11, (i64 ((q + 1 : Nat) : Int)))]) (by kernel_rfl) ?_
   refine od ?_
   exact ⟨(q + 1, ys.set q ⟨y.name, 99⟩), ⟨rfl, rfl, (by rw [List.length_set]; exact hput ⟨y.name, 99⟩ _ H217), obVd, obVr, obVb1, obVb10, obVb34, obVb44, obVb65, (by omega), (by rw [List.length_set]; exact hyl), K202, H203, H204, H205, H206, H207, H208, H209⟩, (show x.rows.length - (q + 1) < x.rows.length - q from by omega)⟩
  ·rw [h214]
   have p220 : ¬ (((q : Nat) : Int) < ((x.rows.length : Nat) : Int)) := of_decide_eq_false h214
   refine qr_exit (id := 0) (by kernel_rfl) ?_
   refine qr_seq (by kernel_rfl) ?_
   refine qr_region Open.wide (by kernel_rfl) (by kernel_rfl) ?_
   refine og 1 [(0, (ptr d)), (4, (ptr b1)), (6, (ptr b10)), (82, (ptr d))] 1 ?_
   refine Ops.call (by kernel_rfl) (d := (some 83)) (by kernel_rfl) (Open_calls _ F d l A c T H203 hO210 hR211 hT7 hV7 hFd (fun i hi => Nat.lt_of_lt_of_le (hFl i hi) K202.size) h20) ?_
   rintro _ w224 ⟨b221, A222, c223, rfl, K225, H226, hO227, nb229, hn230⟩
   have ob231 : ∀ i, ((Value.slice A222 l.length c223)).ownBlock = some i → i ≠ d := fun i hi => by have := (World.ownsRow.lt hO227 i hi).1; have := H203.lt; omega
   have ob232 : ∀ i, ((Value.slice A222 l.length c223)).ownBlock = some i → i ≠ r := fun i hi => by have := (World.ownsRow.lt hO227 i hi).1; have := H204.lt; omega
   have ob233 : ∀ i, ((Value.slice A222 l.length c223)).ownBlock = some i → i ≠ b1 := fun i hi => by have := (World.ownsRow.lt hO227 i hi).1; have := H205.lt; omega
   have ob234 : ∀ i, ((Value.slice A222 l.length c223)).ownBlock = some i → i ≠ b10 := fun i hi => by have := (World.ownsRow.lt hO227 i hi).1; have := H206.lt; omega
   have ob235 : ∀ i, ((Value.slice A222 l.length c223)).ownBlock = some i → i ≠ b34 := fun i hi => by have := (World.ownsRow.lt hO227 i hi).1; have := H207.lt; omega
   have ob236 : ∀ i, ((Value.slice A222 l.length c223)).ownBlock = some i → i ≠ b44 := fun i hi => by have := (World.ownsRow.lt hO227 i hi).1; have := H208.lt; omega
   have ob237 : ∀ i, ((Value.slice A222 l.length c223)).ownBlock = some i → i ≠ b65 := fun i hi => by have := (World.ownsRow.lt hO227 i hi).1; have := H209.lt; omega
   have oo238 : ∀ i, ((Value.slice A l.length c)).ownBlock = some i → ((Value.slice A222 l.length c223)).ownBlock = some i → False := fun i hi hs => by have := (World.ownsRow.lt hO227 i hs).1; have := (World.ownsRow.lt hO210 i hi).2; omega
   have oo239 : ∀ i, ((Value.slice A222 l.length c223)).ownBlock = some i → ((Value.slice A l.length c)).ownBlock = some i → False := fun i hi hs => oo238 i hs hi
   have oo240 : ∀ i, ((Value.slice A2 l2.length c2)).ownBlock = some i → ((Value.slice A222 l.length c223)).ownBlock = some i → False := fun i hi hs => by have := (World.ownsRow.lt hO227 i hs).1; have := (World.ownsRow.lt hP212 i hi).2; omega
   have oo241 : ∀ i, ((Value.slice A222 l.length c223)).ownBlock = some i → ((Value.slice A2 l2.length c2)).ownBlock = some i → False := fun i hi hs => oo240 i hs hi
   have O228 := own_base hO227 K202.size
   have lb221d : d < b221 := by have := H203.lt; omega
   have lb221r : r < b221 := by have := H204.lt; omega
   have lb221b1 : b1 < b221 := by have := H205.lt; omega
   have lb221b10 : b10 < b221 := by have := H206.lt; omega
   have lb221b34 : b34 < b221 := by have := H207.lt; omega
   have lb221b44 : b44 < b221 := by have := H208.lt; omega
   have lb221b65 : b65 < b221 := by have := H209.lt; omega
   have nb221 : w.heap.size ≤ b221 := by have := K202.size; omega
   refine ⟨_, _, rfl, rfl, ?_⟩
   replace K202 := K202.trans K225 (U := none_) (fun i h1 h2 => h2) (fun i h1 h2 => by exact h2)
   replace H203 := H203.keep K225 (fun h => h)
   replace H204 := H204.keep K225 (fun h => h)
   replace H205 := H205.keep K225 (fun h => h)
   replace H206 := H206.keep K225 (fun h => h)
   replace H207 := H207.keep K225 (fun h => h)
   replace H208 := H208.keep K225 (fun h => h)
   replace H209 := H209.keep K225 (fun h => h)
   replace hO210 := own_keep0 hO210 K225
   replace hR211 := RowsE.keep hR211 K225 (fun _ _ h => h)
   replace hP212 := own_keep0 hP212 K225
   clear K225
   refine og 1 [(0, (ptr d)), (4, (ptr b1)), (6, (ptr b10)), (12, (Value.func (Fn.func 40) ⟨[]⟩ ⟨[(ptr b221)]⟩))] 3 ?_
   refine od ?_
   refine qr_seq (by kernel_rfl) ?_
   refine qr_seq (by kernel_rfl) ?_
   refine qr_draw Open.wide (fun wz => Keeps none_ w224 wz) 12 (by kernel_rfl) (by kernel_rfl) (by kernel_rfl) (by kernel_rfl) (fun w242 K243 _ _ => ⟨K243, ?_⟩)
   replace K202 := K202.trans K243 (U := none_) (fun i h1 h2 => h2) (fun i h1 h2 => by exact h2)
   replace H203 := H203.keep K243 (fun h => h)
   replace H204 := H204.keep K243 (fun h => h)
   replace H205 := H205.keep K243 (fun h => h)
   replace H206 := H206.keep K243 (fun h => h)
   replace H207 := H207.keep K243 (fun h => h)
   replace H208 := H208.keep K243 (fun h => h)
   replace H209 := H209.keep K243 (fun h => h)
   replace H226 := H226.keep K243 (fun h => h)
   replace hO210 := own_keep0 hO210 K243
   replace hR211 := RowsE.keep hR211 K243 (fun _ _ h => h)
   replace hP212 := own_keep0 hP212 K243
   replace O228 := own_keep0 O228 K243
   refine Dr.strong (S' := (fun wz => Keeps none_ w242 wz)) (Keeps.refl w242) (fun wz hx => K243.trans hx (fun i _ h => h) (fun _ _ h => h)) ?_
   clear K243
   refine Dr.takes (fuel' := 8) (is' := _) [0, 1, 2, 3] [(4, (ptr b1)), (6, (ptr b10)), (12, (Value.func (Fn.func 40) ⟨[]⟩ ⟨[(ptr b221)]⟩)), (86, (Value.bool false)), (87, (ptr d))] (by kernel_rfl) rfl (by kernel_rfl) ?_
   refine Dr.take (i := 5) (v := (ptr r)) (by kernel_rfl) (by kernel_rfl) (fun wz hS => Runs.load (t := 52) (a := ⟨b1, 0, none⟩) (by kernel_rfl) ((H205.keep hS (fun h => h)).loads (by kernel_rfl))) (d := (some 89)) (by kernel_rfl) rfl ?_
   refine Dr.takes (fuel' := 5) (is' := _) [6, 7] [(4, (ptr b1)), (6, (ptr b10)), (12, (Value.func (Fn.func 40) ⟨[]⟩ ⟨[(ptr b221)]⟩)), (86, (Value.bool false)), (87, (ptr d)), (91, (ptr r))] (by kernel_rfl) rfl (by kernel_rfl) ?_
   refine Dr.take (i := 8) (v := (Value.slice A2 l2.length c2)) (by kernel_rfl) (by kernel_rfl) (fun wz hS => Runs.load (t := 53) (a := ⟨r, 0, none⟩) (by kernel_rfl) ((H204.keep hS (fun h => h)).loads (by kernel_rfl))) (d := (some 92)) (by kernel_rfl) rfl ?_
   refine Dr.takes (fuel' := 3) (is' := _) [9] [(4, (ptr b1)), (6, (ptr b10)), (12, (Value.func (Fn.func 40) ⟨[]⟩ ⟨[(ptr b221)]⟩)), (86, (Value.bool false)), (87, (ptr d)), (93, (i64 ((l2.length : Nat) : Int)))] (by kernel_rfl) rfl (by kernel_rfl) ?_
   refine Dr.call (i := 4) (by kernel_rfl) (by kernel_rfl) (d := (some 88)) (by kernel_rfl) (fun _ => Len_calls _ d l A c H203) ?_
   rintro _ w245 ⟨rfl, K244⟩
   replace K202 := K202.trans K244 (U := none_) (fun i h1 h2 => h2) (fun i h1 h2 => by exact h2)
   replace H203 := H203.keep K244 (fun h => h)
   replace H204 := H204.keep K244 (fun h => h)
   replace H205 := H205.keep K244 (fun h => h)
   replace H206 := H206.keep K244 (fun h => h)
   replace H207 := H207.keep K244 (fun h => h)
   replace H208 := H208.keep K244 (fun h => h)
   replace H209 := H209.keep K244 (fun h => h)
   replace H226 := H226.keep K244 (fun h => h)
   replace hO210 := own_keep0 hO210 K244
   replace hR211 := RowsE.keep hR211 K244 (fun _ _ h => h)
   replace hP212 := own_keep0 hP212 K244
   replace O228 := own_keep0 O228 K244
   refine ⟨_, _, rfl, rfl, K244, ?_⟩
   refine Dr.strong (S' := (fun wz => Keeps none_ w245 wz)) (Keeps.refl w245) (fun wz hx => K244.trans hx (fun i _ h => h) (fun _ _ h => h)) ?_
   clear K244
   refine Dr.takes (fuel' := 0) (is' := _) [10, 11] [(4, (ptr b1)), (6, (ptr b10)), (12, (Value.func (Fn.func 40) ⟨[]⟩ ⟨[(ptr b221)]⟩)), (95, (Value.bool (((l.length : Nat) : Int) != ((l2.length : Nat) : Int))))] (by kernel_rfl) rfl (by kernel_rfl) ?_
   refine Dr.done (by kernel_rfl) ?_
   have h246 : (((l.length : Nat) : Int) != ((l2.length : Nat) : Int)) = false := bne_f (by omega)
   rw [h246]
   refine qr_else (o := .tmp 95) (by kernel_rfl) rfl ?_
   refine qr_skip (by kernel_rfl) ?_
   refine qr_seq (by kernel_rfl) ?_
   refine qr_region Open.wide (by kernel_rfl) (by kernel_rfl) ?_
   refine Ops.new (o := rowL [(i64 0)] 3) (V := fun b => (ptr b)) (by kernel_rfl) (d := (some 13)) (by kernel_rfl) (fun b => rfl) (fun b247 w248 hb249 H250 K251 hs252 => ?_)
   have lb247d : d < b247 := by have := H203.lt; omega
   have lb247r : r < b247 := by have := H204.lt; omega
   have lb247b1 : b1 < b247 := by have := H205.lt; omega
   have lb247b10 : b10 < b247 := by have := H206.lt; omega
   have lb247b34 : b34 < b247 := by have := H207.lt; omega
   have lb247b44 : b44 < b247 := by have := H208.lt; omega
   have lb247b65 : b65 < b247 := by have := H209.lt; omega
   have lb247b221 : b221 < b247 := by have := H226.lt; omega
   have nb247 : w.heap.size ≤ b247 := by have := K202.size; omega
   have ob253 : ∀ i, ((Value.slice A l.length c)).ownBlock = some i → i < b247 := fun i hi => by have := (World.ownsRow.lt hO210 i hi).2; omega
   have of254 : ∀ i, T i → i ≠ b247 := fun i hi => by have := RowsE.lt hR211 i hi; omega
   have ob255 : ∀ i, ((Value.slice A2 l2.length c2)).ownBlock = some i → i < b247 := fun i hi => by have := (World.ownsRow.lt hP212 i hi).2; omega
   have ob256 : ∀ i, ((Value.slice A222 l.length c223)).ownBlock = some i → i < b247 := fun i hi => by have := (World.ownsRow.lt O228 i hi).2; omega
   replace K202 := K202.trans K251 (U := none_) (fun i h1 h2 => h2) (fun i h1 h2 => by exact h2)
   replace H203 := H203.keep K251 (fun h => h)
   replace H204 := H204.keep K251 (fun h => h)
   replace H205 := H205.keep K251 (fun h => h)
   replace H206 := H206.keep K251 (fun h => h)
   replace H207 := H207.keep K251 (fun h => h)
   replace H208 := H208.keep K251 (fun h => h)
   replace H209 := H209.keep K251 (fun h => h)
   replace H226 := H226.keep K251 (fun h => h)
   replace hO210 := own_keep0 hO210 K251
   replace hR211 := RowsE.keep hR211 K251 (fun _ _ h => h)
   replace hP212 := own_keep0 hP212 K251
   replace O228 := own_keep0 O228 K251
   clear K251 hs252
   refine Ops.put (t := 3) (b := b247) (off := 0) (v := (i64 0)) (ys := [(i64 0)]) (by kernel_rfl) (by kernel_rfl) H250 (by kernel_rfl) (d := none) (by kernel_rfl) rfl (fun w257 H258 K259 => ?_)
   clear H250
   replace K202 := K202.trans K259 (U := none_) (fun i h1 h2 => h2) (fun i h1 h2 => by have h2 : i = b247 := h2; exfalso; omega)
   replace H203 := H203.k1 K259 (by omega)
   replace H204 := H204.k1 K259 (by omega)
   replace H205 := H205.k1 K259 (by omega)
   replace H206 := H206.k1 K259 (by omega)
   replace H207 := H207.k1 K259 (by omega)
   replace H208 := H208.k1 K259 (by omega)
   replace H209 := H209.k1 K259 (by omega)
   replace H226 := H226.k1 K259 (by omega)
   replace hO210 := own_keep hO210 K259 (fun i hi => by have := ob253 i hi; omega)
   replace hR211 := RowsE.keep hR211 K259 (fun i hi hs => by have hs : i = b247 := hs; have := of254 i hi; omega)
   replace hP212 := own_keep hP212 K259 (fun i hi => by have := ob255 i hi; omega)
   replace O228 := own_keep O228 K259 (fun i hi => by have := ob256 i hi; omega)
   clear K259
   refine od ?_
   refine qr_seq (by kernel_rfl) ?_
   refine qr_seq (by kernel_rfl) ?_
   refine qr_region Open.wide (by kernel_rfl) (by kernel_rfl) ?_
   refine og 1 [(4, (ptr b1)), (6, (ptr b10)), (13, (ptr b247)), (96, (Value.func (Fn.func 40) ⟨[]⟩ ⟨[(ptr b221)]⟩))] 1 ?_
   refine od ?_
   refine qr_block (id := 2) (by kernel_rfl) ?_
   have zd := H203.lt
   have zr := H204.lt
   have zb1 := H205.lt
   have zb10 := H206.lt
   have zb34 := H207.lt
   have zb44 := H208.lt
   have zb65 := H209.lt
   have zb221 := H226.lt
   have zb247 := H258.lt
   have hnE : ∀ i, ((Value.slice A222 l.length c223)).ownBlock = some i → i ≠ b247 := fun i hi => by have := ob256 i hi; omega
   have hn2 : ∀ i, ((Value.slice A2 l2.length c2)).ownBlock = some i → i ≠ b247 := fun i hi => by have := (World.ownsRow.lt hO20 i hi).2; omega
   refine qr_keep (R := [(4, (ptr b1)), (6, (ptr b10)), (13, (ptr b247)), (96, (Value.func (Fn.func 40) ⟨[]⟩ ⟨[(ptr b221)]⟩))]) (by kernel_rfl) ?_
   refine qr_eachM (g := .tmp 96) (ts := [97, 98]) (m := 11) (enc := fun x : Nat × Opm => [i64 ((x.1 : Nat) : Int), agg [(i64 x.2.kind), (Value.string (str x.2.frm)), (Value.string (str x.2.to)), (i64 x.2.amount), (Value.string (str x.2.key)), (i64 x.2.slot), (i64 x.2.shard)]]) (S := fun all => all = openF 0 l) (w0 := w257) (T := fun i => i = b247 ∨ w257.heap.size ≤ i) (by kernel_rfl) (by decide) (gf := 40) (lb := [ptr b221]) rfl (enters Try.func40 (by kernel_rfl) (by kernel_rfl))
    (Open1_tells w257 9 b221 A222 c223 l _ H226 (by intro h; change b221 = b247 ∨ w257.heap.size ≤ b221 at h; omega) (OwnT.rd O228) (fun i hi h => by have q1 := hnE i hi; have q2 := (World.ownsRow.lt O228 i hi).2; have h : i = b247 ∨ w257.heap.size ≤ i := h; omega))
    (fun i h => .inr h) ((Keeps.refl _).mono (fun _ _ h => h.elim)) (fun pre W => Has W b247 (rowL [(i64 ((behind 0 pre : Nat) : Int))] 3) ∧ Keeps (fun i => i = b247) w257 W)
    (fun k W1 W2 h lo => ⟨lo.has h.1, h.2.trans lo.keeps (fun _ _ h => h) (fun i hi h => by have h : w257.heap.size ≤ i := h; omega)⟩) ⟨H258, (Keeps.refl _).mono (fun _ _ h => h.elim)⟩
    (fun x => (98, agg [(i64 x.2.kind), (Value.string (str x.2.frm)), (Value.string (str x.2.to)), (i64 x.2.amount), (Value.string (str x.2.key)), (i64 x.2.slot), (i64 x.2.shard)]) :: (97, i64 ((x.1 : Nat) : Int)) :: [(4, (ptr b1)), (6, (ptr b10)), (13, (ptr b247)), (96, (Value.func (Fn.func 40) ⟨[]⟩ ⟨[(ptr b221)]⟩))]) (fun x => rfl)
    (fun x L W1 => ∃ b15, L = [(4, ptr b1), (6, ptr b10), (13, ptr b247), (14, (i64 ((x.1 : Nat) : Int))), (15, ptr b15)] ∧ w257.heap.size ≤ b15 ∧ Has W1 b15 (rowL [(i64 x.2.kind), (Value.string (str x.2.frm)), (Value.string (str x.2.to)), (i64 x.2.amount), (Value.string (str x.2.key)), (i64 x.2.slot), (i64 x.2.shard)] 23)) (fun x L W1 W2 h lo => let ⟨b15, h1, h2, h3⟩ := h; ⟨b15, h1, h2, lo.has h3⟩) ?_ ?_ ?_
   ·rintro ln pre x W1 hlt ⟨h3, hk⟩ hp
    refine qr_seq (by kernel_rfl) ?_
    refine qr_region (Open.round ln) (by kernel_rfl) (by kernel_rfl) ?_
    refine og 1 [(4, ptr b1), (6, ptr b10), (13, ptr b247), (14, (i64 ((x.1 : Nat) : Int))), (98, agg [(i64 x.2.kind), (Value.string (str x.2.frm)), (Value.string (str x.2.to)), (i64 x.2.amount), (Value.string (str x.2.key)), (i64 x.2.slot), (i64 x.2.shard)])] 1 ?_
    refine od ?_
    refine qr_region (Open.round ln) (by kernel_rfl) (by kernel_rfl) ?_
    refine Ops.new (o := rowL [(i64 0), (Value.string ByteArray.empty), (Value.string ByteArray.empty), (i64 0), (Value.string ByteArray.empty), (i64 0), (i64 0)] 23) (V := fun b => ptr b) (by kernel_rfl) (d := some 15) (by kernel_rfl) (fun b => rfl) (fun b w3 hb H3 k3 hs3 => ?_)
    refine Ops.put (t := 23) (b := b) (off := 0) (v := agg [(i64 x.2.kind), (Value.string (str x.2.frm)), (Value.string (str x.2.to)), (i64 x.2.amount), (Value.string (str x.2.key)), (i64 x.2.slot), (i64 x.2.shard)]) (ys := [(i64 x.2.kind), (Value.string (str x.2.frm)), (Value.string (str x.2.to)), (i64 x.2.amount), (Value.string (str x.2.key)), (i64 x.2.slot), (i64 x.2.shard)]) (by kernel_rfl) (by kernel_rfl) H3 (by kernel_rfl) (d := none) (by kernel_rfl) rfl (fun w4 H4 k4 => ?_)
    refine Ops.keep (R := [(4, ptr b1), (6, ptr b10), (13, ptr b247), (14, (i64 ((x.1 : Nat) : Int))), (15, ptr b)]) (by kernel_rfl) ?_
    refine od ?_
    exact ⟨rfl, rfl, k3.trans k4 (fun _ _ h => h) (fun i hi h => by have h : i = b := h; omega), b, rfl, by have := hk.size; omega, H4⟩
   ·rintro ln pre x _ W1 ⟨h3, hk⟩ ⟨post, hp⟩ ⟨b15, rfl, hb4, h4⟩
    obtain ⟨hle, hgap, y0, hy0, hs0, ho0⟩ := openF_next (l := l2) (by rw [← openF_congr hm]; exact hp)
    refine qr_mono (alike_body W1 ln b1 r b10 b247 b15 (behind 0 pre) A2 c2 l2 x y0 (H205.keep hk (by intro h; change b1 = b247 at h; omega)) (H204.keep hk (by intro h; change r = b247 at h; omega)) h3 h4 (OwnT.rd (own_keep hP212 hk (fun i hi h => by have h : i = b247 := h; exact hn2 i hi h))) hn2 (by omega) hle hgap hy0 hs0 ho0 (by omega)) ?_
    rintro ds e L W2 ⟨rfl, k2, h2⟩
    exact ⟨rfl, keepsFrom_of k2 (fun i hi hB => by exfalso; have hi : i = b247 := hi; omega), k2.mono (fun i _ h => .inl h), by rw [behind_append]; exact h2, hk.trans k2 (fun _ _ h => h) (fun i _ h => h)⟩
   ·rintro D all W hDw hall ⟨h3, hk⟩ hD
    rw [hall, openF_congr hm] at h3
    obtain ⟨hlb, hlast⟩ := openF_last (l := l2) rfl
    have K260 : Keeps none_ w W := K202.trans hk (U := none_) (fun _ _ h => h) (fun i hi h => by have h : i = b247 := h; have := nb247; omega)
    have H261 := H203.keep hk (by intro h; change d = b247 at h; omega)
    have H262 := H204.keep hk (by intro h; change r = b247 at h; omega)
    have H263 := H205.keep hk (by intro h; change b1 = b247 at h; omega)
    have H264 := H206.keep hk (by intro h; change b10 = b247 at h; omega)
    clear H203 H204 H205 H206 H207 H208 H209 H226 H258 K202
    have hO265 := own_keep0 hO0 K260
    have hR266 := RowsE.keep hR0 K260 (fun _ _ h => h)
    have hP267 := own_keep0 hO20 K260
    have hbD : d < D ∧ r < D ∧ b1 < D ∧ b10 < D ∧ b247 < D := by omega
    have hwD : w.heap.size ≤ D := by have := K260.size; omega
    have hD1 : Has W D (.deferred (some [])) := hD
    clear hD
    refine qr_seq (by kernel_rfl) ?_
    refine qr_block (id := 6) (by kernel_rfl) ?_
    refine qr_keep (R := [(4, (ptr b1)), (6, (ptr b10)), (13, (ptr b247))]) (by kernel_rfl) ?_
    refine qr_loop (fun (kk : Nat) (ds : List Deferred) L (wx : World) => ds = [{ target := .collected D, args := #[] }] ∧ L = [(4, (ptr b1)), (6, (ptr b10)), (13, (ptr b247))] ∧ behind 0 (openF 0 l2) ≤ kk ∧ kk ≤ l2.length ∧ Keeps none_ w wx ∧ Has wx d (rowL [(Value.slice A l.length c)] 84) ∧ Has wx r (rowL [(Value.slice A2 l2.length c2)] 55) ∧ Has wx b1 (rowL [(ptr r)] 52) ∧ Has wx b10 (rowL [(Value.bool false)] 4) ∧ Has wx b247 (rowL [(i64 ((kk : Nat) : Int))] 3) ∧ Has wx D (.deferred (some []))) (fun (kk : Nat) => l2.length - kk) (behind 0 (openF 0 l2)) (by kernel_rfl) ⟨rfl, rfl, Nat.le_refl _, hlb, K260, H261, H262, H263, H264, h3, hD1⟩ ?_
    clear H261 H262 H263 H264 h3 hD1 hO265 hR266 hP267 K260
    rintro kk _ _ w269 ⟨rfl, rfl, hk1, hk2, K270, H271, H272, H273, H274, H275, H276⟩
    have hO277 := own_keep0 hO0 K270
    have hR278 := RowsE.keep hR0 K270 (fun _ _ h => h)
    have hP279 := own_keep0 hO20 K270
    refine qr_seq (by kernel_rfl) ?_
    refine qr_seq (by kernel_rfl) ?_
    refine qr_draw Open.wide (fun wz => Keeps none_ w269 wz) 17 (by kernel_rfl) (by kernel_rfl) (by kernel_rfl) (by kernel_rfl) (fun w281 K282 _ _ => ⟨K282, ?_⟩)
    replace K270 := K270.trans K282 (U := none_) (fun i h1 h2 => h2) (fun i h1 h2 => by exact h2)
    replace H271 := H271.keep K282 (fun h => h)
    replace H272 := H272.keep K282 (fun h => h)
    replace H273 := H273.keep K282 (fun h => h)
    replace H274 := H274.keep K282 (fun h => h)
    replace H275 := H275.keep K282 (fun h => h)
    replace H276 := H276.keep K282 (fun h => h)
    replace hO277 := own_keep0 hO277 K282
    replace hR278 := RowsE.keep hR278 K282 (fun _ _ h => h)
    replace hP279 := own_keep0 hP279 K282
    refine Dr.strong (S' := (fun wz => Keeps none_ w281 wz)) (Keeps.refl w281) (fun wz hx => K282.trans hx (fun i _ h => h) (fun _ _ h => h)) ?_
    clear K282
    refine Dr.take (i := 0) (v := (i64 ((kk : Nat) : Int))) (by kernel_rfl) (by kernel_rfl) (fun wz hS => Runs.load (t := 3) (a := ⟨b247, 0, none⟩) (by kernel_rfl) ((H275.keep hS (fun h => h)).loads (by kernel_rfl))) (d := (some 144)) (by kernel_rfl) rfl ?_
    refine Dr.take (i := 1) (v := (ptr r)) (by kernel_rfl) (by kernel_rfl) (fun wz hS => Runs.load (t := 52) (a := ⟨b1, 0, none⟩) (by kernel_rfl) ((H273.keep hS (fun h => h)).loads (by kernel_rfl))) (d := (some 145)) (by kernel_rfl) rfl ?_
    refine Dr.takes (fuel' := 13) (is' := _) [2, 3] [(4, (ptr b1)), (6, (ptr b10)), (13, (ptr b247)), (144, (i64 ((kk : Nat) : Int))), (147, (ptr r))] (by kernel_rfl) rfl (by kernel_rfl) ?_
    refine Dr.take (i := 4) (v := (Value.slice A2 l2.length c2)) (by kernel_rfl) (by kernel_rfl) (fun wz hS => Runs.load (t := 53) (a := ⟨r, 0, none⟩) (by kernel_rfl) ((H272.keep hS (fun h => h)).loads (by kernel_rfl))) (d := (some 148)) (by kernel_rfl) rfl ?_
    refine Dr.takes (fuel' := 9) (is' := _) [5, 6, 7] [(4, (ptr b1)), (6, (ptr b10)), (13, (ptr b247)), (151, (Value.bool (decide (((kk : Nat) : Int) < ((l2.length : Nat) : Int)))))] (by kernel_rfl) rfl (by kernel_rfl) ?_
    refine Dr.split (decide (((kk : Nat) : Int) < ((l2.length : Nat) : Int))) (fun h283 => ?_) (fun h283 => ?_)
    ·rw [h283]
     have p284 : ((kk : Nat) : Int) < ((l2.length : Nat) : Int) := of_decide_eq_true h283
     refine Dr.take (i := 8) (v := (ptr r)) (by kernel_rfl) (by kernel_rfl) (fun wz hS => Runs.load (t := 52) (a := ⟨b1, 0, none⟩) (by kernel_rfl) ((H273.keep hS (fun h => h)).loads (by kernel_rfl))) (d := (some 152)) (by kernel_rfl) rfl ?_
     refine Dr.takes (fuel' := 6) (is' := _) [9, 10] [(4, (ptr b1)), (6, (ptr b10)), (13, (ptr b247)), (151, (Value.bool true)), (154, (ptr r))] (by kernel_rfl) rfl (by kernel_rfl) ?_
     refine Dr.take (i := 11) (v := (Value.slice A2 l2.length c2)) (by kernel_rfl) (by kernel_rfl) (fun wz hS => Runs.load (t := 53) (a := ⟨r, 0, none⟩) (by kernel_rfl) ((H272.keep hS (fun h => h)).loads (by kernel_rfl))) (d := (some 155)) (by kernel_rfl) rfl ?_
     refine Dr.take (i := 12) (v := (i64 ((kk : Nat) : Int))) (by kernel_rfl) (by kernel_rfl) (fun wz hS => Runs.load (t := 3) (a := ⟨b247, 0, none⟩) (by kernel_rfl) ((H275.keep hS (fun h => h)).loads (by kernel_rfl))) (d := (some 156)) (by kernel_rfl) rfl ?_
     obtain ⟨z, hzz⟩ : ∃ z, l2[kk]? = some z := ⟨_, List.getElem?_eq_getElem (by omega)⟩
     obtain ⟨rb285, ro286, hA287⟩ := Rd.addr (OwnT.rd hP279) (by omega)
     refine Dr.take (i := 13) (v := (Value.pointer (some ⟨rb285, ro286 + kk * 11, none⟩))) (by kernel_rfl) (by kernel_rfl) (fun wz hS => Runs.ixSliceE (k := IntKind.i64) (t := 53) (len := l2.length) (cap := c2) (s := 11) (off' := ro286 + kk * 11) (i := ((kk : Nat) : Int)) hA287 (by kernel_rfl) (by kernel_rfl) (by omega) (by omega) (by omega)) (d := (some 157)) (by kernel_rfl) rfl ?_
     refine Dr.takes (fuel' := 2) (is' := _) [14] [(4, (ptr b1)), (6, (ptr b10)), (13, (ptr b247)), (151, (Value.bool true)), (158, (Value.pointer (some ⟨rb285, ro286 + kk * 11 + 10, none⟩)))] (by kernel_rfl) rfl (by kernel_rfl) ?_
     refine Dr.take (i := 15) (v := (Value.bool z.is)) (by kernel_rfl) (by kernel_rfl) (fun wz hS => Runs.load (t := 4) (a := ⟨rb285, ro286 + kk * 11 + 10, none⟩) (by kernel_rfl) (RdT.ldf (f := DCall.cells) (x := z) (o := 10) DCall.two (OwnT.rd (own_keep0 hP279 hS)) (by kernel_rfl) hA287 hzz rfl)) (d := (some 159)) (by kernel_rfl) rfl ?_
     refine Dr.takes (fuel' := 0) (is' := _) [16] [(4, (ptr b1)), (6, (ptr b10)), (13, (ptr b247)), (160, (Value.bool z.is))] (by kernel_rfl) rfl (by kernel_rfl) ?_
     refine Dr.done (by kernel_rfl) ?_
     have h288 : z.is = true := hlast kk (by omega) z hzz
     rw [h288]
     refine qr_then (o := .tmp 160) (by kernel_rfl) rfl ?_
     refine qr_skip (by kernel_rfl) ?_
     refine qr_block (id := 7) (by kernel_rfl) ?_
     refine qr_region Open.wide (by kernel_rfl) (by kernel_rfl) ?_
     refine Ops.go (v := (i64 ((kk : Nat) : Int))) (by kernel_rfl) (Runs.load (t := 3) (a := ⟨b247, 0, none⟩) (by kernel_rfl) (H275.loads (by kernel_rfl))) (d := (some 161)) (by kernel_rfl) rfl ?_
     refine og 1 [(4, (ptr b1)), (6, (ptr b10)), (13, (ptr b247)), (162, (i64 (IntKind.i64.wrap (((kk : Nat) : Int) + 1))))] 2 ?_
     have e289 : IntKind.i64.wrap (((kk : Nat) : Int) + 1) = ((kk + 1 : Nat) : Int) := by rw [wrap_i64 (by omega) (by omega)]; omega
     rw [e289]
     clear e289
     refine Ops.put (t := 3) (b := b247) (off := 0) (v := (i64 ((kk + 1 : Nat) : Int))) (ys := [(i64 ((kk + 1 : Nat) : Int))]) (by kernel_rfl) (by kernel_rfl) H275 (by kernel_rfl) (d := none) (by kernel_rfl) rfl (fun w290 H291 K292 => ?_)
     clear H275
     replace K270 := K270.trans K292 (U := none_) (fun i h1 h2 => h2) (fun i h1 h2 => by have h2 : i = b247 := h2; exfalso; omega)
     replace H271 := H271.k1 K292 (by omega)
     replace H272 := H272.k1 K292 (by omega)
     replace H273 := H273.k1 K292 (by omega)
     replace H274 := H274.k1 K292 (by omega)
     replace H276 := H276.k1 K292 (by omega)
     replace hO277 := own_keep hO277 K292 (fun i hi => by have := ob253 i hi; omega)
     replace hR278 := RowsE.keep hR278 K292 (fun i hi hs => by have hs : i = b247 := hs; have := of254 i hi; omega)
     replace hP279 := own_keep hP279 K292 (fun i hi => by have := ob255 i hi; omega)
     clear K292
     refine Ops.keep (R := [(4, (ptr b1)), (6, (ptr b10)), (13, (ptr b247))]) (by kernel_rfl) ?_
     refine od ?_
     exact ⟨kk + 1, ⟨rfl, rfl, (by omega), (by omega), K270, H271, H272, H273, H274, H291, H276⟩, (show l2.length - (kk + 1) < l2.length - kk from by omega)⟩
    ·rw [h283]
     have p293 : ¬ (((kk : Nat) : Int) < ((l2.length : Nat) : Int)) := of_decide_eq_false h283
     refine Dr.takes (fuel' := 0) (is' := _) [8, 9, 10, 11, 12, 13, 14, 15, 16] [(4, (ptr b1)), (6, (ptr b10)), (13, (ptr b247)), (160, (Value.bool false))] (by kernel_rfl) rfl (by kernel_rfl) ?_
     refine Dr.done (by kernel_rfl) ?_
     refine qr_else (o := .tmp 160) (by kernel_rfl) rfl ?_
     refine qr_exit (id := 6) (by kernel_rfl) ?_
     refine qr_seq (by kernel_rfl) ?_
     refine qr_draw Open.wide (fun wz => Keeps (fun i => i = b10) w281 wz) 8 (by kernel_rfl) (by kernel_rfl) (by kernel_rfl) (by kernel_rfl) (fun w294 K295 _ _ => ⟨(K295.mono (fun _ _ h => h.elim)), ?_⟩)
     replace K270 := K270.trans K295 (U := none_) (fun i h1 h2 => h2) (fun i h1 h2 => by exact h2)
     replace H271 := H271.keep K295 (fun h => h)
     replace H272 := H272.keep K295 (fun h => h)
     replace H273 := H273.keep K295 (fun h => h)
     replace H274 := H274.keep K295 (fun h => h)
     replace H275 := H275.keep K295 (fun h => h)
     replace H276 := H276.keep K295 (fun h => h)
     replace hO277 := own_keep0 hO277 K295
     replace hR278 := RowsE.keep hR278 K295 (fun _ _ h => h)
     replace hP279 := own_keep0 hP279 K295
     refine Dr.strong (S' := (fun wz => Keeps (fun i => i = b10) w294 wz)) ((Keeps.refl w294).mono (fun _ _ h => h.elim)) (fun wz hx => K295.trans hx (fun i _ h => h.elim) (fun _ _ h => h)) ?_
     clear K295
     refine Dr.take (i := 0) (v := (i64 ((kk : Nat) : Int))) (by kernel_rfl) (by kernel_rfl) (fun wz hS => Runs.load (t := 3) (a := ⟨b247, 0, none⟩) (by kernel_rfl) ((H275.keep hS (by intro h; change b247 = b10 at h; omega)).loads (by kernel_rfl))) (d := (some 163)) (by kernel_rfl) rfl ?_
     refine Dr.take (i := 1) (v := (ptr r)) (by kernel_rfl) (by kernel_rfl) (fun wz hS => Runs.load (t := 52) (a := ⟨b1, 0, none⟩) (by kernel_rfl) ((H273.keep hS (by intro h; change b1 = b10 at h; omega)).loads (by kernel_rfl))) (d := (some 164)) (by kernel_rfl) rfl ?_
     refine Dr.takes (fuel' := 4) (is' := _) [2, 3] [(6, (ptr b10)), (163, (i64 ((kk : Nat) : Int))), (166, (ptr r))] (by kernel_rfl) rfl (by kernel_rfl) ?_
     refine Dr.take (i := 4) (v := (Value.slice A2 l2.length c2)) (by kernel_rfl) (by kernel_rfl) (fun wz hS => Runs.load (t := 53) (a := ⟨r, 0, none⟩) (by kernel_rfl) ((H272.keep hS (by intro h; change r = b10 at h; omega)).loads (by kernel_rfl))) (d := (some 167)) (by kernel_rfl) rfl ?_
     refine Dr.takes (fuel' := 1) (is' := _) [5, 6] [(6, (ptr b10)), (169, (Value.bool (((kk : Nat) : Int) == ((l2.length : Nat) : Int))))] (by kernel_rfl) rfl (by kernel_rfl) ?_
     refine Dr.put (i := 7) (t := 4) (b := b10) (off := 0) (v := (Value.bool (((kk : Nat) : Int) == ((l2.length : Nat) : Int)))) (ys := [(Value.bool (((kk : Nat) : Int) == ((l2.length : Nat) : Int)))]) (by kernel_rfl) (by kernel_rfl) (by kernel_rfl) H274 (by kernel_rfl) (d := none) (by kernel_rfl) rfl (fun w296 H297 K298 => ?_)
     clear H274
     replace K270 := K270.trans K298 (U := none_) (fun i h1 h2 => h2) (fun i h1 h2 => by have h2 : i = b10 := h2; exfalso; omega)
     replace H271 := H271.k1 K298 (by omega)
     replace H272 := H272.k1 K298 (by omega)
     replace H273 := H273.k1 K298 (by omega)
     replace H275 := H275.k1 K298 (by omega)
     replace H276 := H276.k1 K298 (by omega)
     replace hO277 := own_keep hO277 K298 (fun i hi => by have := ob16 i hi; omega)
     replace hR278 := RowsE.keep hR278 K298 (fun i hi hs => by have hs : i = b10 := hs; have := of17 i hi; omega)
     replace hP279 := own_keep hP279 K298 (fun i hi => by have := ob18 i hi; omega)
     refine ⟨K298, ?_⟩
     refine Dr.strong (S' := (fun wz => Keeps (fun i => i = b10) w296 wz)) ((Keeps.refl w296).mono (fun _ _ h => h.elim)) (fun wz hx => K298.trans hx (fun i _ h => by have h : i = b10 := h; show i = b10; omega) (fun _ _ h => h)) ?_
     clear K298
     refine Dr.done (by kernel_rfl) ?_
     refine qr_ret (by kernel_rfl) ?_
     refine retR_one (D := D) H276 (v := (Value.bool (((kk : Nat) : Int) == ((l2.length : Nat) : Int)))) (retv_cell rfl rfl (((Loose.put (B := D) (.deferred none) (Nat.le_refl _) H276 rfl).has H297).loads (by kernel_rfl))) ?_
     exact ⟨by rw [show (((kk : Nat) : Int) == ((l2.length : Nat) : Int)) = true from beq_t (by omega)], (K270.trans (Loose.put (B := D) (.deferred none) (Nat.le_refl _) H276 rfl).keeps (fun _ _ h => h) (fun i hi h => by have h : D ≤ i := h; omega))⟩

set_option maxHeartbeats 4000000 in
theorem alike_out (w : World) (F : Nat → Prop) (d : Nat) (l : List DCall) (A : Option Addr) (c : Nat) (T : Nat → Prop) (r : Nat) (l2 : List DCall) (A2 : Option Addr) (c2 : Nat) (T2 : Nat → Prop) (n : Int) (Hd : Has w d (rowL [(Value.slice A l.length c)] 84)) (hO : OwnT w 0 79 11 DCall.cells ((Value.slice A l.length c)) l) (hR : RowsE w DCall.rv DCall.rows T l) (hT7 : ∀ i, T i → i ≠ d ∧ F i) (hV7 : ∀ i, ((Value.slice A l.length c)).ownBlock = some i → i ≠ d ∧ F i ∧ ¬ T i) (hFd : F d) (hFl : ∀ i, F i → i < w.heap.size) (h20 : l.length ≤ 2000) (Hr : Has w r (rowL [(Value.slice A2 l2.length c2)] 55)) (hO2 : OwnT w 0 87 11 DCall.cells ((Value.slice A2 l2.length c2)) l2) (hR2 : RowsE w DCall.rv DCall.rows T2 l2) (hm : l.map DCall.m = l2.map DCall.m) (hz : ∀ x ∈ l, x.rows.length * 24 ≤ 140737488351232) (hn : n < 0 ∨ (l.length : Int) ≤ n) : Calls Try.prog 22 ⟨[(ptr d), (ptr r), (i64 n)]⟩ w (fun e w' => e = .returned (.bool true) ∧ Keeps none_ w w') := by
 have Hdl := Hd.lt
 have hTd : ∀ i, T i → i ≠ d := fun i hi => (hT7 i hi).1
 have hVd : ∀ i, ((Value.slice A l.length c)).ownBlock = some i → i ≠ d := fun i hi => (hV7 i hi).1
 have hVT : ∀ i, ((Value.slice A l.length c)).ownBlock = some i → T i → False := fun i hi h => (hV7 i hi).2.2 h
 have hcap := RdT.len DCall.two (by decide) (OwnT.rd hO)
 have hrl := Hr.lt
 have hO0 := hO
 have hR0 := hR
 have hO20 := hO2
 have hll : l2.length = l.length := by have := congrArg List.length hm; simp only [List.length_map] at this; exact this.symm
 have hcap2 := RdT.len DCall.two (by decide) (OwnT.rd hO2)
 have K0 : Keeps none_ w w := Keeps.refl w
 refine qr_calls 11 Try.func22 (by kernel_rfl) (by kernel_rfl) ?_
 refine qr_seq (by kernel_rfl) ?_
 refine qr_region Open.wide (by kernel_rfl) (by kernel_rfl) ?_
 refine Ops.new (o := rowL [(ptr r)] 52) (V := fun b => (ptr b)) (by kernel_rfl) (d := (some 4)) (by kernel_rfl) (fun b => rfl) (fun b1 w2 hb3 H4 K5 hs6 => ?_)
 have lb1d : d < b1 := by have := Hd.lt; omega
 have lb1r : r < b1 := by have := Hr.lt; omega
 have nb1 : w.heap.size ≤ b1 := by have := K0.size; omega
 have ob7 : ∀ i, ((Value.slice A l.length c)).ownBlock = some i → i < b1 := fun i hi => by have := (World.ownsRow.lt hO i hi).2; omega
 have of8 : ∀ i, T i → i ≠ b1 := fun i hi => by have := RowsE.lt hR i hi; omega
 have ob9 : ∀ i, ((Value.slice A2 l2.length c2)).ownBlock = some i → i < b1 := fun i hi => by have := (World.ownsRow.lt hO2 i hi).2; omega
 replace K0 := K0.t0 K5
 replace Hd := Hd.keep K5 (fun h => h)
 replace Hr := Hr.keep K5 (fun h => h)
 replace hO := own_keep0 hO K5
 replace hR := RowsE.keep hR K5 (fun _ _ h => h)
 replace hO2 := own_keep0 hO2 K5
 clear K5 hs6
 refine Ops.new (o := rowL [(Value.bool false)] 4) (V := fun b => (ptr b)) (by kernel_rfl) (d := (some 6)) (by kernel_rfl) (fun b => rfl) (fun b10 w11 hb12 H13 K14 hs15 => ?_)
 have lb10d : d < b10 := by have := Hd.lt; omega
 have lb10r : r < b10 := by have := Hr.lt; omega
 have lb10b1 : b1 < b10 := by have := H4.lt; omega
 have nb10 : w.heap.size ≤ b10 := by have := K0.size; omega
 have ob16 : ∀ i, ((Value.slice A l.length c)).ownBlock = some i → i < b10 := fun i hi => by have := (World.ownsRow.lt hO i hi).2; omega
 have of17 : ∀ i, T i → i ≠ b10 := fun i hi => by have := RowsE.lt hR i hi; omega
 have ob18 : ∀ i, ((Value.slice A2 l2.length c2)).ownBlock = some i → i < b10 := fun i hi => by have := (World.ownsRow.lt hO2 i hi).2; omega
 replace K0 := K0.t0 K14
 replace Hd := Hd.keep K14 (fun h => h)
 replace Hr := Hr.keep K14 (fun h => h)
 replace H4 := H4.keep K14 (fun h => h)
 replace hO := own_keep0 hO K14
 replace hR := RowsE.keep hR K14 (fun _ _ h => h)
 replace hO2 := own_keep0 hO2 K14
 clear K14 hs15
 refine od ?_
 refine qr_seq (by kernel_rfl) ?_
 refine qr_region Open.wide (by kernel_rfl) (by kernel_rfl) ?_
 refine og 2 [(0, (ptr d)), (2, (i64 n)), (4, (ptr b1)), (6, (ptr b10)), (17, (ptr d)), (18, (i64 n))] 2 ?_
 refine Ops.call (by kernel_rfl) (d := (some 19)) (by kernel_rfl) (Get_out _ F d l A c T n Hd hO hR hT7 hV7 hFd (fun i hi => Nat.lt_of_lt_of_le (hFl i hi) K0.size) h20 (by omega)) ?_
 rintro _ w19 ⟨rfl, K20⟩
 refine ⟨_, _, rfl, rfl, ?_⟩
 replace K0 := K0.t0 K20
 replace Hd := Hd.keep K20 (fun h => h)
 replace Hr := Hr.keep K20 (fun h => h)
 replace H4 := H4.keep K20 (fun h => h)
 replace H13 := H13.keep K20 (fun h => h)
 replace hO := own_keep0 hO K20
 replace hR := RowsE.keep hR K20 (fun _ _ h => h)
 replace hO2 := own_keep0 hO2 K20
 clear K20
 refine og 4 [(0, (ptr d)), (2, (i64 n)), (4, (ptr b1)), (6, (ptr b10)), (20, (agg [(i64 0), (Value.string ByteArray.empty), (Value.string ByteArray.empty), (i64 0), (Value.string ByteArray.empty), (i64 0), (i64 0)])), (21, (agg [(i64 0), (i64 0), (Value.slice none 0 0)])), (22, (Value.bool false))] 7 ?_
 refine Ops.new (o := rowL [(i64 0), (Value.string ByteArray.empty), (Value.string ByteArray.empty), (i64 0), (Value.string ByteArray.empty), (i64 0), (i64 0)] 23) (V := fun b => (ptr b)) (by kernel_rfl) (d := (some 7)) (by kernel_rfl) (fun b => rfl) (fun b21 w22 hb23 H24 K25 hs26 => ?_)
 have lb21d : d < b21 := by have := Hd.lt; omega
 have lb21r : r < b21 := by have := Hr.lt; omega
 have lb21b1 : b1 < b21 := by have := H4.lt; omega
 have lb21b10 : b10 < b21 := by have := H13.lt; omega
 have nb21 : w.heap.size ≤ b21 := by have := K0.size; omega
 have ob27 : ∀ i, ((Value.slice A l.length c)).ownBlock = some i → i < b21 := fun i hi => by have := (World.ownsRow.lt hO i hi).2; omega
 have of28 : ∀ i, T i → i ≠ b21 := fun i hi => by have := RowsE.lt hR i hi; omega
 have ob29 : ∀ i, ((Value.slice A2 l2.length c2)).ownBlock = some i → i < b21 := fun i hi => by have := (World.ownsRow.lt hO2 i hi).2; omega
 replace K0 := K0.t0 K25
 replace Hd := Hd.keep K25 (fun h => h)
 replace Hr := Hr.keep K25 (fun h => h)
 replace H4 := H4.keep K25 (fun h => h)
 replace H13 := H13.keep K25 (fun h => h)
 replace hO := own_keep0 hO K25
 replace hR := RowsE.keep hR K25 (fun _ _ h => h)
 replace hO2 := own_keep0 hO2 K25
 clear K25 hs26
 refine Ops.new (o := rowL [(i64 0), (i64 0), (Value.slice none 0 0)] 27) (V := fun b => (ptr b)) (by kernel_rfl) (d := (some 8)) (by kernel_rfl) (fun b => rfl) (fun b30 w31 hb32 H33 K34 hs35 => ?_)
 have lb30d : d < b30 := by have := Hd.lt; omega
 have lb30r : r < b30 := by have := Hr.lt; omega
 have lb30b1 : b1 < b30 := by have := H4.lt; omega
 have lb30b10 : b10 < b30 := by have := H13.lt; omega
 have lb30b21 : b21 < b30 := by have := H24.lt; omega
 have nb30 : w.heap.size ≤ b30 := by have := K0.size; omega
 have ob36 : ∀ i, ((Value.slice A l.length c)).ownBlock = some i → i < b30 := fun i hi => by have := (World.ownsRow.lt hO i hi).2; omega
 have of37 : ∀ i, T i → i ≠ b30 := fun i hi => by have := RowsE.lt hR i hi; omega
 have ob38 : ∀ i, ((Value.slice A2 l2.length c2)).ownBlock = some i → i < b30 := fun i hi => by have := (World.ownsRow.lt hO2 i hi).2; omega
 replace K0 := K0.t0 K34
 replace Hd := Hd.keep K34 (fun h => h)
 replace Hr := Hr.keep K34 (fun h => h)
 replace H4 := H4.keep K34 (fun h => h)
 replace H13 := H13.keep K34 (fun h => h)
 replace H24 := H24.keep K34 (fun h => h)
 replace hO := own_keep0 hO K34
 replace hR := RowsE.keep hR K34 (fun _ _ h => h)
 replace hO2 := own_keep0 hO2 K34
 clear K34 hs35
 refine Ops.put (t := 23) (b := b21) (off := 0) (v := (agg [(i64 0), (Value.string ByteArray.empty), (Value.string ByteArray.empty), (i64 0), (Value.string ByteArray.empty), (i64 0), (i64 0)])) (ys := [(i64 0), (Value.string ByteArray.empty), (Value.string ByteArray.empty), (i64 0), (Value.string ByteArray.empty), (i64 0), (i64 0)]) (by kernel_rfl) (by kernel_rfl) H24 (by kernel_rfl) (d := none) (by kernel_rfl) rfl (fun w39 H40 K41 => ?_)
 clear H24
 replace K0 := K0.trans K41 (U := none_) (fun i h1 h2 => h2) (fun i h1 h2 => by have h2 : i = b21 := h2; exfalso; omega)
 replace Hd := Hd.k1 K41 (by omega)
 replace Hr := Hr.k1 K41 (by omega)
 replace H4 := H4.k1 K41 (by omega)
 replace H13 := H13.k1 K41 (by omega)
 replace H33 := H33.k1 K41 (by omega)
 replace hO := own_keep hO K41 (fun i hi => by have := ob27 i hi; omega)
 replace hR := RowsE.keep hR K41 (fun i hi hs => by have hs : i = b21 := hs; have := of28 i hi; omega)
 replace hO2 := own_keep hO2 K41 (fun i hi => by have := ob29 i hi; omega)
 clear K41
 refine Ops.put (t := 27) (b := b30) (off := 0) (v := (agg [(i64 0), (i64 0), (Value.slice none 0 0)])) (ys := [(i64 0), (i64 0), (Value.slice none 0 0)]) (by kernel_rfl) (by kernel_rfl) H33 (by kernel_rfl) (d := none) (by kernel_rfl) rfl (fun w42 H43 K44 => ?_)
 clear H33
 replace K0 := K0.trans K44 (U := none_) (fun i h1 h2 => h2) (fun i h1 h2 => by have h2 : i = b30 := h2; exfalso; omega)
 replace Hd := Hd.k1 K44 (by omega)
 replace Hr := Hr.k1 K44 (by omega)
 replace H4 := H4.k1 K44 (by omega)
 replace H13 := H13.k1 K44 (by omega)
 replace H40 := H40.k1 K44 (by omega)
 replace hO := own_keep hO K44 (fun i hi => by have := ob36 i hi; omega)
 replace hR := RowsE.keep hR K44 (fun i hi hs => by have hs : i = b30 := hs; have := of37 i hi; omega)
 replace hO2 := own_keep hO2 K44 (fun i hi => by have := ob38 i hi; omega)
 clear K44
 refine og 1 [(0, (ptr d)), (2, (i64 n)), (4, (ptr b1)), (6, (ptr b10)), (7, (ptr b21)), (8, (ptr b30)), (9, (Value.bool false))] 12 ?_
 refine od ?_
 refine qr_seq (by kernel_rfl) ?_
 refine qr_seq (by kernel_rfl) ?_
 refine qr_region Open.wide (by kernel_rfl) (by kernel_rfl) ?_
 refine og 3 [(0, (ptr d)), (2, (i64 n)), (4, (ptr b1)), (6, (ptr b10)), (7, (ptr b21)), (8, (ptr b30)), (9, (Value.bool false)), (25, (Value.bool (decide (n ≥ 0))))] 3 ?_
 refine Ops.split (decide (n ≥ 0)) (fun h45 => ?_) (fun h45 => ?_)
 ·rw [h45]
  have p46 : n ≥ 0 := of_decide_eq_true h45
  refine og 1 [(0, (ptr d)), (2, (i64 n)), (4, (ptr b1)), (6, (ptr b10)), (7, (ptr b21)), (8, (ptr b30)), (9, (Value.bool false)), (25, (Value.bool true)), (26, (i64 n))] 4 ?_
  refine Ops.go (v := (ptr r)) (by kernel_rfl) (Runs.load (t := 52) (a := ⟨b1, 0, none⟩) (by kernel_rfl) (H4.loads (by kernel_rfl))) (d := (some 27)) (by kernel_rfl) rfl ?_
  refine og 2 [(0, (ptr d)), (2, (i64 n)), (4, (ptr b1)), (6, (ptr b10)), (7, (ptr b21)), (8, (ptr b30)), (9, (Value.bool false)), (25, (Value.bool true)), (26, (i64 n)), (29, (ptr r))] 7 ?_
  refine Ops.go (v := (Value.slice A2 l2.length c2)) (by kernel_rfl) (Runs.load (t := 53) (a := ⟨r, 0, none⟩) (by kernel_rfl) (Hr.loads (by kernel_rfl))) (d := (some 30)) (by kernel_rfl) rfl ?_
  refine og 3 [(0, (ptr d)), (2, (i64 n)), (4, (ptr b1)), (6, (ptr b10)), (7, (ptr b21)), (8, (ptr b30)), (9, (Value.bool false)), (33, (Value.bool (decide (n < ((l2.length : Nat) : Int)))))] 11 ?_
  refine od ?_
  have h47 : (decide (n < ((l2.length : Nat) : Int))) = false := decide_eq_false (by omega)
  rw [h47]
  refine qr_else (o := .tmp 33) (by kernel_rfl) rfl ?_
  refine qr_seq (by kernel_rfl) ?_
  refine qr_draw Open.wide (fun wz => Keeps none_ w42 wz) 12 (by kernel_rfl) (by kernel_rfl) (by kernel_rfl) (by kernel_rfl) (fun w48 K49 _ _ => ⟨K49, ?_⟩)
  replace K0 := K0.t0 K49
  replace Hd := Hd.keep K49 (fun h => h)
  replace Hr := Hr.keep K49 (fun h => h)
  replace H4 := H4.keep K49 (fun h => h)
  replace H13 := H13.keep K49 (fun h => h)
  replace H40 := H40.keep K49 (fun h => h)
  replace H43 := H43.keep K49 (fun h => h)
  replace hO := own_keep0 hO K49
  replace hR := RowsE.keep hR K49 (fun _ _ h => h)
  replace hO2 := own_keep0 hO2 K49
  refine Dr.strong (S' := (fun wz => Keeps none_ w48 wz)) (Keeps.refl w48) (fun wz hx => K49.trans hx (fun i _ h => h) (fun _ _ h => h)) ?_
  clear K49
  refine Dr.take (i := 0) (v := (agg [(i64 0), (Value.string ByteArray.empty), (Value.string ByteArray.empty), (i64 0), (Value.string ByteArray.empty), (i64 0), (i64 0)])) (by kernel_rfl) (by kernel_rfl) (fun wz hS => Runs.load (t := 23) (a := ⟨b21, 0, none⟩) (by kernel_rfl) ((H40.keep hS (fun h => h)).loads (by kernel_rfl))) (d := (some 58)) (by kernel_rfl) rfl ?_
  refine Dr.call (i := 1) (by kernel_rfl) (by kernel_rfl) (d := (some 59)) (by kernel_rfl) (fun _ => none_calls _) ?_
  rintro _ w51 ⟨rfl, K50⟩
  replace K0 := K0.t0 K50
  replace Hd := Hd.keep K50 (fun h => h)
  replace Hr := Hr.keep K50 (fun h => h)
  replace H4 := H4.keep K50 (fun h => h)
  replace H13 := H13.keep K50 (fun h => h)
  replace H40 := H40.keep K50 (fun h => h)
  replace H43 := H43.keep K50 (fun h => h)
  replace hO := own_keep0 hO K50
  replace hR := RowsE.keep hR K50 (fun _ _ h => h)
  replace hO2 := own_keep0 hO2 K50
  refine ⟨_, _, rfl, rfl, K50, ?_⟩
  refine Dr.strong (S' := (fun wz => Keeps none_ w51 wz)) (Keeps.refl w51) (fun wz hx => K50.trans hx (fun i _ h => h) (fun _ _ h => h)) ?_
  clear K50
  refine Dr.take (i := 2) (v := (Value.bool (!(aggB [(i64 0), (Value.string ByteArray.empty), (Value.string ByteArray.empty), (i64 0), (Value.string ByteArray.empty), (i64 0), (i64 0)] [(i64 0), (Value.string ByteArray.empty), (Value.string ByteArray.empty), (i64 0), (Value.string ByteArray.empty), (i64 0), (i64 0)])))) (by kernel_rfl) (by kernel_rfl) (fun wz hS => Runs.aggne (t := 23) (by kernel_rfl) (by kernel_rfl)) (d := (some 60)) (by kernel_rfl) rfl ?_
  refine Dr.takes (fuel' := 8) (is' := _) [3] [(0, (ptr d)), (4, (ptr b1)), (6, (ptr b10)), (8, (ptr b30)), (9, (Value.bool false)), (61, (Value.bool (!(aggB [(i64 0), (Value.string ByteArray.empty), (Value.string ByteArray.empty), (i64 0), (Value.string ByteArray.empty), (i64 0), (i64 0)] [(i64 0), (Value.string ByteArray.empty), (Value.string ByteArray.empty), (i64 0), (Value.string ByteArray.empty), (i64 0), (i64 0)]))))] (by kernel_rfl) rfl (by kernel_rfl) ?_
  have h52 : (!(aggB [(i64 0), (Value.string ByteArray.empty), (Value.string ByteArray.empty), (i64 0), (Value.string ByteArray.empty), (i64 0), (i64 0)] [(i64 0), (Value.string ByteArray.empty), (Value.string ByteArray.empty), (i64 0), (Value.string ByteArray.empty), (i64 0), (i64 0)])) = false := by simp [aggB, cellB]
  rw [h52]
  refine Dr.take (i := 4) (v := (agg [(i64 0), (i64 0), (Value.slice none 0 0)])) (by kernel_rfl) (by kernel_rfl) (fun wz hS => Runs.load (t := 27) (a := ⟨b30, 0, none⟩) (by kernel_rfl) ((H43.keep hS (fun h => h)).loads (by kernel_rfl))) (d := (some 62)) (by kernel_rfl) rfl ?_
  refine Dr.takes (fuel' := 6) (is' := _) [5] [(0, (ptr d)), (4, (ptr b1)), (6, (ptr b10)), (8, (ptr b30)), (9, (Value.bool false)), (61, (Value.bool false)), (62, (agg [(i64 0), (i64 0), (Value.slice none 0 0)])), (63, (agg [(i64 0), (i64 0), (Value.slice none 0 0)]))] (by kernel_rfl) rfl (by kernel_rfl) ?_
  refine Dr.call (i := 6) (by kernel_rfl) (by kernel_rfl) (d := (some 64)) (by kernel_rfl) (fun _ => SameReply_calls _ none 0 (⟨0, 0, []⟩ : ReplyM) none 0 (⟨0, 0, []⟩ : ReplyM) (Rd.nil _ _) (Rd.nil _ _)) ?_
  rintro _ w56 ⟨t53, rfl, ht54, K55⟩
  replace K0 := K0.t0 K55
  replace Hd := Hd.keep K55 (fun h => h)
  replace Hr := Hr.keep K55 (fun h => h)
  replace H4 := H4.keep K55 (fun h => h)
  replace H13 := H13.keep K55 (fun h => h)
  replace H40 := H40.keep K55 (fun h => h)
  replace H43 := H43.keep K55 (fun h => h)
  replace hO := own_keep0 hO K55
  replace hR := RowsE.keep hR K55 (fun _ _ h => h)
  replace hO2 := own_keep0 hO2 K55
  refine ⟨_, _, rfl, rfl, K55, ?_⟩
  refine Dr.strong (S' := (fun wz => Keeps none_ w56 wz)) (Keeps.refl w56) (fun wz hx => K55.trans hx (fun i _ h => h) (fun _ _ h => h)) ?_
  clear K55
  refine Dr.takes (fuel' := 2) (is' := _) [7, 8, 9] [(0, (ptr d)), (4, (ptr b1)), (6, (ptr b10)), (8, (ptr b30)), (9, (Value.bool false)), (67, (Value.bool (!t53)))] (by kernel_rfl) rfl (by kernel_rfl) ?_
  have h57 : (!t53) = false := by rw [ht54.2 rfl]; rfl
  rw [h57]
  refine Dr.takes (fuel' := 0) (is' := _) [10, 11] [(0, (ptr d)), (4, (ptr b1)), (6, (ptr b10)), (8, (ptr b30)), (69, (Value.bool false))] (by kernel_rfl) rfl (by kernel_rfl) ?_
  refine Dr.done (by kernel_rfl) ?_
  refine qr_else (o := .tmp 69) (by kernel_rfl) rfl ?_
  refine qr_skip (by kernel_rfl) ?_
  refine qr_seq (by kernel_rfl) ?_
  refine qr_seq (by kernel_rfl) ?_
  refine qr_region Open.wide (by kernel_rfl) (by kernel_rfl) ?_
  refine og 1 [(0, (ptr d)), (4, (ptr b1)), (6, (ptr b10)), (8, (ptr b30)), (11, (i64 0))] 1 ?_
  refine od ?_
  refine qr_block (id := 0) (by kernel_rfl) ?_
  refine qr_keep (R := [(0, (ptr d)), (4, (ptr b1)), (6, (ptr b10)), (8, (ptr b30)), (11, (i64 0))]) (by kernel_rfl) ?_
  refine qr_loop (fun (q : Nat) (ds : List Deferred) L (wx : World) => ds = [] ∧ L = [(0, (ptr d)), (4, (ptr b1)), (6, (ptr b10)), (8, (ptr b30)), (11, (i64 ((q : Nat) : Int)))] ∧ Keeps none_ w wx ∧ Has wx d (rowL [(Value.slice A l.length c)] 84) ∧ Has wx r (rowL [(Value.slice A2 l2.length c2)] 55) ∧ Has wx b1 (rowL [(ptr r)] 52) ∧ Has wx b10 (rowL [(Value.bool false)] 4) ∧ Has wx b21 (rowL [(i64 0), (Value.string ByteArray.empty), (Value.string ByteArray.empty), (i64 0), (Value.string ByteArray.empty), (i64 0), (i64 0)] 23) ∧ Has wx b30 (rowL [(i64 0), (i64 0), (Value.slice none 0 0)] 27)) (fun (q : Nat) => 0) 0 (by kernel_rfl) ⟨rfl, rfl, K0, Hd, Hr, H4, H13, H40, H43⟩ ?_
  clear Hd Hr H4 H13 H40 H43 hO hR hO2 K0
  rintro q _ _ w58 ⟨rfl, rfl, K59, H60, H61, H62, H63, H64, H65⟩
  have hO66 := own_keep0 hO0 K59
  have hR67 := RowsE.keep hR0 K59 (fun _ _ h => h)
  have hP68 := own_keep0 hO20 K59
  refine qr_seq (by kernel_rfl) ?_
  refine qr_seq (by kernel_rfl) ?_
  refine qr_region Open.wide (by kernel_rfl) (by kernel_rfl) ?_
  refine og 2 [(0, (ptr d)), (4, (ptr b1)), (6, (ptr b10)), (8, (ptr b30)), (11, (i64 ((q : Nat) : Int))), (70, (i64 ((q : Nat) : Int))), (71, (Value.pointer (some ⟨b30, 2, none⟩)))] 2 ?_
  refine Ops.go (v := (Value.slice none 0 0)) (by kernel_rfl) (Runs.load (t := 25) (a := ⟨b30, 2, none⟩) (by kernel_rfl) (H65.loads (by kernel_rfl))) (d := (some 72)) (by kernel_rfl) rfl ?_
  refine og 2 [(0, (ptr d)), (4, (ptr b1)), (6, (ptr b10)), (8, (ptr b30)), (11, (i64 ((q : Nat) : Int))), (74, (Value.bool (decide (((q : Nat) : Int) < 0))))] 5 ?_
  refine od ?_
  have h70 : (decide (((q : Nat) : Int) < 0)) = false := decide_eq_false (by omega)
  rw [h70]
  refine qr_else (o := .tmp 74) (by kernel_rfl) rfl ?_
  refine qr_exit (id := 0) (by kernel_rfl) ?_
  refine qr_seq (by kernel_rfl) ?_
  refine qr_region Open.wide (by kernel_rfl) (by kernel_rfl) ?_
  refine og 1 [(0, (ptr d)), (4, (ptr b1)), (6, (ptr b10)), (82, (ptr d))] 1 ?_
  refine Ops.call (by kernel_rfl) (d := (some 83)) (by kernel_rfl) (Open_calls _ F d l A c T H60 hO66 hR67 hT7 hV7 hFd (fun i hi => Nat.lt_of_lt_of_le (hFl i hi) K59.size) h20) ?_
  rintro _ w74 ⟨b71, A72, c73, rfl, K75, H76, hO77, nb79, hn80⟩
  have ob81 : ∀ i, ((Value.slice A72 l.length c73)).ownBlock = some i → i ≠ d := fun i hi => by have := (World.ownsRow.lt hO77 i hi).1; have := H60.lt; omega
  have ob82 : ∀ i, ((Value.slice A72 l.length c73)).ownBlock = some i → i ≠ r := fun i hi => by have := (World.ownsRow.lt hO77 i hi).1; have := H61.lt; omega
  have ob83 : ∀ i, ((Value.slice A72 l.length c73)).ownBlock = some i → i ≠ b1 := fun i hi => by have := (World.ownsRow.lt hO77 i hi).1; have := H62.lt; omega
  have ob84 : ∀ i, ((Value.slice A72 l.length c73)).ownBlock = some i → i ≠ b10 := fun i hi => by have := (World.ownsRow.lt hO77 i hi).1; have := H63.lt; omega
  have ob85 : ∀ i, ((Value.slice A72 l.length c73)).ownBlock = some i → i ≠ b21 := fun i hi => by have := (World.ownsRow.lt hO77 i hi).1; have := H64.lt; omega
  have ob86 : ∀ i, ((Value.slice A72 l.length c73)).ownBlock = some i → i ≠ b30 := fun i hi => by have := (World.ownsRow.lt hO77 i hi).1; have := H65.lt; omega
  have oo87 : ∀ i, ((Value.slice A l.length c)).ownBlock = some i → ((Value.slice A72 l.length c73)).ownBlock = some i → False := fun i hi hs => by have := (World.ownsRow.lt hO77 i hs).1; have := (World.ownsRow.lt hO66 i hi).2; omega
  have oo88 : ∀ i, ((Value.slice A72 l.length c73)).ownBlock = some i → ((Value.slice A l.length c)).ownBlock = some i → False := fun i hi hs => oo87 i hs hi
  have oo89 : ∀ i, ((Value.slice A2 l2.length c2)).ownBlock = some i → ((Value.slice A72 l.length c73)).ownBlock = some i → False := fun i hi hs => by have := (World.ownsRow.lt hO77 i hs).1; have := (World.ownsRow.lt hP68 i hi).2; omega
  have oo90 : ∀ i, ((Value.slice A72 l.length c73)).ownBlock = some i → ((Value.slice A2 l2.length c2)).ownBlock = some i → False := fun i hi hs => oo89 i hs hi
  have O78 := own_base hO77 K59.size
  have lb71d : d < b71 := by have := H60.lt; omega
  have lb71r : r < b71 := by have := H61.lt; omega
  have lb71b1 : b1 < b71 := by have := H62.lt; omega
  have lb71b10 : b10 < b71 := by have := H63.lt; omega
  have lb71b21 : b21 < b71 := by have := H64.lt; omega
  have lb71b30 : b30 < b71 := by have := H65.lt; omega
  have nb71 : w.heap.size ≤ b71 := by have := K59.size; omega
  refine ⟨_, _, rfl, rfl, ?_⟩
  replace K59 := K59.trans K75 (U := none_) (fun i h1 h2 => h2) (fun i h1 h2 => by exact h2)
  replace H60 := H60.keep K75 (fun h => h)
  replace H61 := H61.keep K75 (fun h => h)
  replace H62 := H62.keep K75 (fun h => h)
  replace H63 := H63.keep K75 (fun h => h)
  replace H64 := H64.keep K75 (fun h => h)
  replace H65 := H65.keep K75 (fun h => h)
  replace hO66 := own_keep0 hO66 K75
  replace hR67 := RowsE.keep hR67 K75 (fun _ _ h => h)
  replace hP68 := own_keep0 hP68 K75
  clear K75
  refine og 1 [(0, (ptr d)), (4, (ptr b1)), (6, (ptr b10)), (12, (Value.func (Fn.func 40) ⟨[]⟩ ⟨[(ptr b71)]⟩))] 3 ?_
  refine od ?_
  refine qr_seq (by kernel_rfl) ?_
  refine qr_seq (by kernel_rfl) ?_
  refine qr_draw Open.wide (fun wz => Keeps none_ w74 wz) 12 (by kernel_rfl) (by kernel_rfl) (by kernel_rfl) (by kernel_rfl) (fun w91 K92 _ _ => ⟨K92, ?_⟩)
  replace K59 := K59.trans K92 (U := none_) (fun i h1 h2 => h2) (fun i h1 h2 => by exact h2)
  replace H60 := H60.keep K92 (fun h => h)
  replace H61 := H61.keep K92 (fun h => h)
  replace H62 := H62.keep K92 (fun h => h)
  replace H63 := H63.keep K92 (fun h => h)
  replace H64 := H64.keep K92 (fun h => h)
  replace H65 := H65.keep K92 (fun h => h)
  replace H76 := H76.keep K92 (fun h => h)
  replace hO66 := own_keep0 hO66 K92
  replace hR67 := RowsE.keep hR67 K92 (fun _ _ h => h)
  replace hP68 := own_keep0 hP68 K92
  replace O78 := own_keep0 O78 K92
  refine Dr.strong (S' := (fun wz => Keeps none_ w91 wz)) (Keeps.refl w91) (fun wz hx => K92.trans hx (fun i _ h => h) (fun _ _ h => h)) ?_
  clear K92
  refine Dr.takes (fuel' := 8) (is' := _) [0, 1, 2, 3] [(4, (ptr b1)), (6, (ptr b10)), (12, (Value.func (Fn.func 40) ⟨[]⟩ ⟨[(ptr b71)]⟩)), (86, (Value.bool false)), (87, (ptr d))] (by kernel_rfl) rfl (by kernel_rfl) ?_
  refine Dr.take (i := 5) (v := (ptr r)) (by kernel_rfl) (by kernel_rfl) (fun wz hS => Runs.load (t := 52) (a := ⟨b1, 0, none⟩) (by kernel_rfl) ((H62.keep hS (fun h => h)).loads (by kernel_rfl))) (d := (some 89)) (by kernel_rfl) rfl ?_
  refine Dr.takes (fuel' := 5) (is' := _) [6, 7] [(4, (ptr b1)), (6, (ptr b10)), (12, (Value.func (Fn.func 40) ⟨[]⟩ ⟨[(ptr b71)]⟩)), (86, (Value.bool false)), (87, (ptr d)), (91, (ptr r))] (by kernel_rfl) rfl (by kernel_rfl) ?_
  refine Dr.take (i := 8) (v := (Value.slice A2 l2.length c2)) (by kernel_rfl) (by kernel_rfl) (fun wz hS => Runs.load (t := 53) (a := ⟨r, 0, none⟩) (by kernel_rfl) ((H61.keep hS (fun h => h)).loads (by kernel_rfl))) (d := (some 92)) (by kernel_rfl) rfl ?_
  refine Dr.takes (fuel' := 3) (is' := _) [9] [(4, (ptr b1)), (6, (ptr b10)), (12, (Value.func (Fn.func 40) ⟨[]⟩ ⟨[(ptr b71)]⟩)), (86, (Value.bool false)), (87, (ptr d)), (93, (i64 ((l2.length : Nat) : Int)))] (by kernel_rfl) rfl (by kernel_rfl) ?_
  refine Dr.call (i := 4) (by kernel_rfl) (by kernel_rfl) (d := (some 88)) (by kernel_rfl) (fun _ => Len_calls _ d l A c H60) ?_
  rintro _ w94 ⟨rfl, K93⟩
  replace K59 := K59.trans K93 (U := none_) (fun i h1 h2 => h2) (fun i h1 h2 => by exact h2)
  replace H60 := H60.keep K93 (fun h => h)
  replace H61 := H61.keep K93 (fun h => h)
  replace H62 := H62.keep K93 (fun h => h)
  replace H63 := H63.keep K93 (fun h => h)
  replace H64 := H64.keep K93 (fun h => h)
  replace H65 := H65.keep K93 (fun h => h)
  replace H76 := H76.keep K93 (fun h => h)
  replace hO66 := own_keep0 hO66 K93
  replace hR67 := RowsE.keep hR67 K93 (fun _ _ h => h)
  replace hP68 := own_keep0 hP68 K93
  replace O78 := own_keep0 O78 K93
  refine ⟨_, _, rfl, rfl, K93, ?_⟩
  refine Dr.strong (S' := (fun wz => Keeps none_ w94 wz)) (Keeps.refl w94) (fun wz hx => K93.trans hx (fun i _ h => h) (fun _ _ h => h)) ?_
  clear K93
  refine Dr.takes (fuel' := 0) (is' := _) [10, 11] [(4, (ptr b1)), (6, (ptr b10)), (12, (Value.func (Fn.func 40) ⟨[]⟩ ⟨[(ptr b71)]⟩)), (95, (Value.bool (((l.length : Nat) : Int) != ((l2.length : Nat) : Int))))] (by kernel_rfl) rfl (by kernel_rfl) ?_
  refine Dr.done (by kernel_rfl) ?_
  have h95 : (((l.length : Nat) : Int) != ((l2.length : Nat) : Int)) = false := bne_f (by omega)
  rw [h95]
  refine qr_else (o := .tmp 95) (by kernel_rfl) rfl ?_
  refine qr_skip (by kernel_rfl) ?_
  refine qr_seq (by kernel_rfl) ?_
  refine qr_region Open.wide (by kernel_rfl) (by kernel_rfl) ?_
  refine Ops.new (o := rowL [(i64 0)] 3) (V := fun b => (ptr b)) (by kernel_rfl) (d := (some 13)) (by kernel_rfl) (fun b => rfl) (fun b96 w97 hb98 H99 K100 hs101 => ?_)
  have lb96d : d < b96 := by have := H60.lt; omega
  have lb96r : r < b96 := by have := H61.lt; omega
  have lb96b1 : b1 < b96 := by have := H62.lt; omega
  have lb96b10 : b10 < b96 := by have := H63.lt; omega
  have lb96b21 : b21 < b96 := by have := H64.lt; omega
  have lb96b30 : b30 < b96 := by have := H65.lt; omega
  have lb96b71 : b71 < b96 := by have := H76.lt; omega
  have nb96 : w.heap.size ≤ b96 := by have := K59.size; omega
  have ob102 : ∀ i, ((Value.slice A l.length c)).ownBlock = some i → i < b96 := fun i hi => by have := (World.ownsRow.lt hO66 i hi).2; omega
  have of103 : ∀ i, T i → i ≠ b96 := fun i hi => by have := RowsE.lt hR67 i hi; omega
  have ob104 : ∀ i, ((Value.slice A2 l2.length c2)).ownBlock = some i → i < b96 := fun i hi => by have := (World.ownsRow.lt hP68 i hi).2; omega
  have ob105 : ∀ i, ((Value.slice A72 l.length c73)).ownBlock = some i → i < b96 := fun i hi => by have := (World.ownsRow.lt O78 i hi).2; omega
  replace K59 := K59.trans K100 (U := none_) (fun i h1 h2 => h2) (fun i h1 h2 => by exact h2)
  replace H60 := H60.keep K100 (fun h => h)
  replace H61 := H61.keep K100 (fun h => h)
  replace H62 := H62.keep K100 (fun h => h)
  replace H63 := H63.keep K100 (fun h => h)
  replace H64 := H64.keep K100 (fun h => h)
  replace H65 := H65.keep K100 (fun h => h)
  replace H76 := H76.keep K100 (fun h => h)
  replace hO66 := own_keep0 hO66 K100
  replace hR67 := RowsE.keep hR67 K100 (fun _ _ h => h)
  replace hP68 := own_keep0 hP68 K100
  replace O78 := own_keep0 O78 K100
  clear K100 hs101
  refine Ops.put (t := 3) (b := b96) (off := 0) (v := (i64 0)) (ys := [(i64 0)]) (by kernel_rfl) (by kernel_rfl) H99 (by kernel_rfl) (d := none) (by kernel_rfl) rfl (fun w106 H107 K108 => ?_)
  clear H99
  replace K59 := K59.trans K108 (U := none_) (fun i h1 h2 => h2) (fun i h1 h2 => by have h2 : i = b96 := h2; exfalso; omega)
  replace H60 := H60.k1 K108 (by omega)
  replace H61 := H61.k1 K108 (by omega)
  replace H62 := H62.k1 K108 (by omega)
  replace H63 := H63.k1 K108 (by omega)
  replace H64 := H64.k1 K108 (by omega)
  replace H65 := H65.k1 K108 (by omega)
  replace H76 := H76.k1 K108 (by omega)
  replace hO66 := own_keep hO66 K108 (fun i hi => by have := ob102 i hi; omega)
  replace hR67 := RowsE.keep hR67 K108 (fun i hi hs => by have hs : i = b96 := hs; have := of103 i hi; omega)
  replace hP68 := own_keep hP68 K108 (fun i hi => by have := ob104 i hi; omega)
  replace O78 := own_keep O78 K108 (fun i hi => by have := ob105 i hi; omega)
  clear K108
  refine od ?_
  refine qr_seq (by kernel_rfl) ?_
  refine qr_seq (by kernel_rfl) ?_
  refine qr_region Open.wide (by kernel_rfl) (by kernel_rfl) ?_
  refine og 1 [(4, (ptr b1)), (6, (ptr b10)), (13, (ptr b96)), (96, (Value.func (Fn.func 40) ⟨[]⟩ ⟨[(ptr b71)]⟩))] 1 ?_
  refine od ?_
  refine qr_block (id := 2) (by kernel_rfl) ?_
  have zd := H60.lt
  have zr := H61.lt
  have zb1 := H62.lt
  have zb10 := H63.lt
  have zb21 := H64.lt
  have zb30 := H65.lt
  have zb71 := H76.lt
  have zb96 := H107.lt
  have hnE : ∀ i, ((Value.slice A72 l.length c73)).ownBlock = some i → i ≠ b96 := fun i hi => by have := ob105 i hi; omega
  have hn2 : ∀ i, ((Value.slice A2 l2.length c2)).ownBlock = some i → i ≠ b96 := fun i hi => by have := (World.ownsRow.lt hO20 i hi).2; omega
  refine qr_keep (R := [(4, (ptr b1)), (6, (ptr b10)), (13, (ptr b96)), (96, (Value.func (Fn.func 40) ⟨[]⟩ ⟨[(ptr b71)]⟩))]) (by kernel_rfl) ?_
  refine qr_eachM (g := .tmp 96) (ts := [97, 98]) (m := 11) (enc := fun x : Nat × Opm => [i64 ((x.1 : Nat) : Int), agg [(i64 x.2.kind), (Value.string (str x.2.frm)), (Value.string (str x.2.to)), (i64 x.2.amount), (Value.string (str x.2.key)), (i64 x.2.slot), (i64 x.2.shard)]]) (S := fun all => all = openF 0 l) (w0 := w106) (T := fun i => i = b96 ∨ w106.heap.size ≤ i) (by kernel_rfl) (by decide) (gf := 40) (lb := [ptr b71]) rfl (enters Try.func40 (by kernel_rfl) (by kernel_rfl))
   (Open1_tells w106 9 b71 A72 c73 l _ H76 (by intro h; change b71 = b96 ∨ w106.heap.size ≤ b71 at h; omega) (OwnT.rd O78) (fun i hi h => by have q1 := hnE i hi; have q2 := (World.ownsRow.lt O78 i hi).2; have h : i = b96 ∨ w106.heap.size ≤ i := h; omega))
   (fun i h => .inr h) ((Keeps.refl _).mono (fun _ _ h => h.elim)) (fun pre W => Has W b96 (rowL [(i64 ((behind 0 pre : Nat) : Int))] 3) ∧ Keeps (fun i => i = b96) w106 W)
   (fun k W1 W2 h lo => ⟨lo.has h.1, h.2.trans lo.keeps (fun _ _ h => h) (fun i hi h => by have h : w106.heap.size ≤ i := h; omega)⟩) ⟨H107, (Keeps.refl _).mono (fun _ _ h => h.elim)⟩
   (fun x => (98, agg [(i64 x.2.kind), (Value.string (str x.2.frm)), (Value.string (str x.2.to)), (i64 x.2.amount), (Value.string (str x.2.key)), (i64 x.2.slot), (i64 x.2.shard)]) :: (97, i64 ((x.1 : Nat) : Int)) :: [(4, (ptr b1)), (6, (ptr b10)), (13, (ptr b96)), (96, (Value.func (Fn.func 40) ⟨[]⟩ ⟨[(ptr b71)]⟩))]) (fun x => rfl)
   (fun x L W1 => ∃ b15, L = [(4, ptr b1), (6, ptr b10), (13, ptr b96), (14, (i64 ((x.1 : Nat) : Int))), (15, ptr b15)] ∧ w106.heap.size ≤ b15 ∧ Has W1 b15 (rowL [(i64 x.2.kind), (Value.string (str x.2.frm)), (Value.string (str x.2.to)), (i64 x.2.amount), (Value.string (str x.2.key)), (i64 x.2.slot), (i64 x.2.shard)] 23)) (fun x L W1 W2 h lo => let ⟨b15, h1, h2, h3⟩ := h; ⟨b15, h1, h2, lo.has h3⟩) ?_ ?_ ?_
  ·rintro ln pre x W1 hlt ⟨h3, hk⟩ hp
   refine qr_seq (by kernel_rfl) ?_
   refine qr_region (Open.round ln) (by kernel_rfl) (by kernel_rfl) ?_
   refine og 1 [(4, ptr b1), (6, ptr b10), (13, ptr b96), (14, (i64 ((x.1 : Nat) : Int))), (98, agg [(i64 x.2.kind), (Value.string (str x.2.frm)), (Value.string (str x.2.to)), (i64 x.2.amount), (Value.string (str x.2.key)), (i64 x.2.slot), (i64 x.2.shard)])] 1 ?_
   refine od ?_
   refine qr_region (Open.round ln) (by kernel_rfl) (by kernel_rfl) ?_
   refine Ops.new (o := rowL [(i64 0), (Value.string ByteArray.empty), (Value.string ByteArray.empty), (i64 0), (Value.string ByteArray.empty), (i64 0), (i64 0)] 23) (V := fun b => ptr b) (by kernel_rfl) (d := some 15) (by kernel_rfl) (fun b => rfl) (fun b w3 hb H3 k3 hs3 => ?_)
   refine Ops.put (t := 23) (b := b) (off := 0) (v := agg [(i64 x.2.kind), (Value.string (str x.2.frm)), (Value.string (str x.2.to)), (i64 x.2.amount), (Value.string (str x.2.key)), (i64 x.2.slot), (i64 x.2.shard)]) (ys := [(i64 x.2.kind), (Value.string (str x.2.frm)), (Value.string (str x.2.to)), (i64 x.2.amount), (Value.string (str x.2.key)), (i64 x.2.slot), (i64 x.2.shard)]) (by kernel_rfl) (by kernel_rfl) H3 (by kernel_rfl) (d := none) (by kernel_rfl) rfl (fun w4 H4 k4 => ?_)
   refine Ops.keep (R := [(4, ptr b1), (6, ptr b10), (13, ptr b96), (14, (i64 ((x.1 : Nat) : Int))), (15, ptr b)]) (by kernel_rfl) ?_
   refine od ?_
   exact ⟨rfl, rfl, k3.trans k4 (fun _ _ h => h) (fun i hi h => by have h : i = b := h; omega), b, rfl, by have := hk.size; omega, H4⟩
  ·rintro ln pre x _ W1 ⟨h3, hk⟩ ⟨post, hp⟩ ⟨b15, rfl, hb4, h4⟩
   obtain ⟨hle, hgap, y0, hy0, hs0, ho0⟩ := openF_next (l := l2) (by rw [← openF_congr hm]; exact hp)
   refine qr_mono (alike_body W1 ln b1 r b10 b96 b15 (behind 0 pre) A2 c2 l2 x y0 (H62.keep hk (by intro h; change b1 = b96 at h; omega)) (H61.keep hk (by intro h; change r = b96 at h; omega)) h3 h4 (OwnT.rd (own_keep hP68 hk (fun i hi h => by have h : i = b96 := h; exact hn2 i hi h))) hn2 (by omega) hle hgap hy0 hs0 ho0 (by omega)) ?_
   rintro ds e L W2 ⟨rfl, k2, h2⟩
   exact ⟨rfl, keepsFrom_of k2 (fun i hi hB => by exfalso; have hi : i = b96 := hi; omega), k2.mono (fun i _ h => .inl h), by rw [behind_append]; exact h2, hk.trans k2 (fun _ _ h => h) (fun i _ h => h)⟩
  ·rintro D all W hDw hall ⟨h3, hk⟩ hD
   rw [hall, openF_congr hm] at h3
   obtain ⟨hlb, hlast⟩ := openF_last (l := l2) rfl
   have K109 : Keeps none_ w W := K59.trans hk (U := none_) (fun _ _ h => h) (fun i hi h => by have h : i = b96 := h; have := nb96; omega)
   have H110 := H60.keep hk (by intro h; change d = b96 at h; omega)
   have H111 := H61.keep hk (by intro h; change r = b96 at h; omega)
   have H112 := H62.keep hk (by intro h; change b1 = b96 at h; omega)
   have H113 := H63.keep hk (by intro h; change b10 = b96 at h; omega)
   clear H60 H61 H62 H63 H64 H65 H76 H107 K59
   have hO114 := own_keep0 hO0 K109
   have hR115 := RowsE.keep hR0 K109 (fun _ _ h => h)
   have hP116 := own_keep0 hO20 K109
   have hbD : d < D ∧ r < D ∧ b1 < D ∧ b10 < D ∧ b96 < D := by omega
   have hwD : w.heap.size ≤ D := by have := K109.size; omega
   have hD1 : Has W D (.deferred (some [])) := hD
   clear hD
   refine qr_seq (by kernel_rfl) ?_
   refine qr_block (id := 6) (by kernel_rfl) ?_
   refine qr_keep (R := [(4, (ptr b1)), (6, (ptr b10)), (13, (ptr b96))]) (by kernel_rfl) ?_
   refine qr_loop (fun (kk : Nat) (ds : List Deferred) L (wx : World) => ds = [{ target := .collected D, args := #[] }] ∧ L = [(4, (ptr b1)), (6, (ptr b10)), (13, (ptr b96))] ∧ behind 0 (openF 0 l2) ≤ kk ∧ kk ≤ l2.length ∧ Keeps none_ w wx ∧ Has wx d (rowL [(Value.slice A l.length c)] 84) ∧ Has wx r (rowL [(Value.slice A2 l2.length c2)] 55) ∧ Has wx b1 (rowL [(ptr r)] 52) ∧ Has wx b10 (rowL [(Value.bool false)] 4) ∧ Has wx b96 (rowL [(i64 ((kk : Nat) : Int))] 3) ∧ Has wx D (.deferred (some []))) (fun (kk : Nat) => l2.length - kk) (behind 0 (openF 0 l2)) (by kernel_rfl) ⟨rfl, rfl, Nat.le_refl _, hlb, K109, H110, H111, H112, H113, h3, hD1⟩ ?_
   clear H110 H111 H112 H113 h3 hD1 hO114 hR115 hP116 K109
   rintro kk _ _ w118 ⟨rfl, rfl, hk1, hk2, K119, H120, H121, H122, H123, H124, H125⟩
   have hO126 := own_keep0 hO0 K119
   have hR127 := RowsE.keep hR0 K119 (fun _ _ h => h)
   have hP128 := own_keep0 hO20 K119
   refine qr_seq (by kernel_rfl) ?_
   refine qr_seq (by kernel_rfl) ?_
   refine qr_draw Open.wide (fun wz => Keeps none_ w118 wz) 17 (by kernel_rfl) (by kernel_rfl) (by kernel_rfl) (by kernel_rfl) (fun w130 K131 _ _ => ⟨K131, ?_⟩)
   replace K119 := K119.trans K131 (U := none_) (fun i h1 h2 => h2) (fun i h1 h2 => by exact h2)
   replace H120 := H120.keep K131 (fun h => h)
   replace H121 := H121.keep K131 (fun h => h)
   replace H122 := H122.keep K131 (fun h => h)
   replace H123 := H123.keep K131 (fun h => h)
   replace H124 := H124.keep K131 (fun h => h)
   replace H125 := H125.keep K131 (fun h => h)
   replace hO126 := own_keep0 hO126 K131
   replace hR127 := RowsE.keep hR127 K131 (fun _ _ h => h)
   replace hP128 := own_keep0 hP128 K131
   refine Dr.strong (S' := (fun wz => Keeps none_ w130 wz)) (Keeps.refl w130) (fun wz hx => K131.trans hx (fun i _ h => h) (fun _ _ h => h)) ?_
   clear K131
   refine Dr.take (i := 0) (v := (i64 ((kk : Nat) : Int))) (by kernel_rfl) (by kernel_rfl) (fun wz hS => Runs.load (t := 3) (a := ⟨b96, 0, none⟩) (by kernel_rfl) ((H124.keep hS (fun h => h)).loads (by kernel_rfl))) (d := (some 144)) (by kernel_rfl) rfl ?_
   refine Dr.take (i := 1) (v := (ptr r)) (by kernel_rfl) (by kernel_rfl) (fun wz hS => Runs.load (t := 52) (a := ⟨b1, 0, none⟩) (by kernel_rfl) ((H122.keep hS (fun h => h)).loads (by kernel_rfl))) (d := (some 145)) (by kernel_rfl) rfl ?_
   refine Dr.takes (fuel' := 13) (is' := _) [2, 3] [(4, (ptr b1)), (6, (ptr b10)), (13, (ptr b96)), (144, (i64 ((kk : Nat) : Int))), (147, (ptr r))] (by kernel_rfl) rfl (by kernel_rfl) ?_
   refine Dr.take (i := 4) (v := (Value.slice A2 l2.length c2)) (by kernel_rfl) (by kernel_rfl) (fun wz hS => Runs.load (t := 53) (a := ⟨r, 0, none⟩) (by kernel_rfl) ((H121.keep hS (fun h => h)).loads (by kernel_rfl))) (d := (some 148)) (by kernel_rfl) rfl ?_
   refine Dr.takes (fuel' := 9) (is' := _) [5, 6, 7] [(4, (ptr b1)), (6, (ptr b10)), (13, (ptr b96)), (151, (Value.bool (decide (((kk : Nat) : Int) < ((l2.length : Nat) : Int)))))] (by kernel_rfl) rfl (by kernel_rfl) ?_
   refine Dr.split (decide (((kk : Nat) : Int) < ((l2.length : Nat) : Int))) (fun h132 => ?_) (fun h132 => ?_)
   ·rw [h132]
    have p133 : ((kk : Nat) : Int) < ((l2.length : Nat) : Int) := of_decide_eq_true h132
    refine Dr.take (i := 8) (v := (ptr r)) (by kernel_rfl) (by kernel_rfl) (fun wz hS => Runs.load (t := 52) (a := ⟨b1, 0, none⟩) (by kernel_rfl) ((H122.keep hS (fun h => h)).loads (by kernel_rfl))) (d := (some 152)) (by kernel_rfl) rfl ?_
    refine Dr.takes (fuel' := 6) (is' := _) [9, 10] [(4, (ptr b1)), (6, (ptr b10)), (13, (ptr b96)), (151, (Value.bool true)), (154, (ptr r))] (by kernel_rfl) rfl (by kernel_rfl) ?_
    refine Dr.take (i := 11) (v := (Value.slice A2 l2.length c2)) (by kernel_rfl) (by kernel_rfl) (fun wz hS => Runs.load (t := 53) (a := ⟨r, 0, none⟩) (by kernel_rfl) ((H121.keep hS (fun h => h)).loads (by kernel_rfl))) (d := (some 155)) (by kernel_rfl) rfl ?_
    refine Dr.take (i := 12) (v := (i64 ((kk : Nat) : Int))) (by kernel_rfl) (by kernel_rfl) (fun wz hS => Runs.load (t := 3) (a := ⟨b96, 0, none⟩) (by kernel_rfl) ((H124.keep hS (fun h => h)).loads (by kernel_rfl))) (d := (some 156)) (by kernel_rfl) rfl ?_
    obtain ⟨z, hzz⟩ : ∃ z, l2[kk]? = some z := ⟨_, List.getElem?_eq_getElem (by omega)⟩
    obtain ⟨rb134, ro135, hA136⟩ := Rd.addr (OwnT.rd hP128) (by omega)
    refine Dr.take (i := 13) (v := (Value.pointer (some ⟨rb134, ro135 + kk * 11, none⟩))) (by kernel_rfl) (by kernel_rfl) (fun wz hS => Runs.ixSliceE (k := IntKind.i64) (t := 53) (len := l2.length) (cap := c2) (s := 11) (off' := ro135 + kk * 11) (i := ((kk : Nat) : Int)) hA136 (by kernel_rfl) (by kernel_rfl) (by omega) (by omega) (by omega)) (d := (some 157)) (by kernel_rfl) rfl ?_
    refine Dr.takes (fuel' := 2) (is' := _) [14] [(4, (ptr b1)), (6, (ptr b10)), (13, (ptr b96)), (151, (Value.bool true)), (158, (Value.pointer (some ⟨rb134, ro135 + kk * 11 + 10, none⟩)))] (by kernel_rfl) rfl (by kernel_rfl) ?_
    refine Dr.take (i := 15) (v := (Value.bool z.is)) (by kernel_rfl) (by kernel_rfl) (fun wz hS => Runs.load (t := 4) (a := ⟨rb134, ro135 + kk * 11 + 10, none⟩) (by kernel_rfl) (RdT.ldf (f := DCall.cells) (x := z) (o := 10) DCall.two (OwnT.rd (own_keep0 hP128 hS)) (by kernel_rfl) hA136 hzz rfl)) (d := (some 159)) (by kernel_rfl) rfl ?_
    refine Dr.takes (fuel' := 0) (is' := _) [16] [(4, (ptr b1)), (6, (ptr b10)), (13, (ptr b96)), (160, (Value.bool z.is))] (by kernel_rfl) rfl (by kernel_rfl) ?_
    refine Dr.done (by kernel_rfl) ?_
    have h137 : z.is = true := hlast kk (by omega) z hzz
    rw [h137]
    refine qr_then (o := .tmp 160) (by kernel_rfl) rfl ?_
    refine qr_skip (by kernel_rfl) ?_
    refine qr_block (id := 7) (by kernel_rfl) ?_
    refine qr_region Open.wide (by kernel_rfl) (by kernel_rfl) ?_
    refine Ops.go (v := (i64 ((kk : Nat) : Int))) (by kernel_rfl) (Runs.load (t := 3) (a := ⟨b96, 0, none⟩) (by kernel_rfl) (H124.loads (by kernel_rfl))) (d := (some 161)) (by kernel_rfl) rfl ?_
    refine og 1 [(4, (ptr b1)), (6, (ptr b10)), (13, (ptr b96)), (162, (i64 (IntKind.i64.wrap (((kk : Nat) : Int) + 1))))] 2 ?_
    have e138 : IntKind.i64.wrap (((kk : Nat) : Int) + 1) = ((kk + 1 : Nat) : Int) := by rw [wrap_i64 (by omega) (by omega)]; omega
    rw [e138]
    clear e138
    refine Ops.put (t := 3) (b := b96) (off := 0) (v := (i64 ((kk + 1 : Nat) : Int))) (ys := [(i64 ((kk + 1 : Nat) : Int))]) (by kernel_rfl) (by kernel_rfl) H124 (by kernel_rfl) (d := none) (by kernel_rfl) rfl (fun w139 H140 K141 => ?_)
    clear H124
    replace K119 := K119.trans K141 (U := none_) (fun i h1 h2 => h2) (fun i h1 h2 => by have h2 : i = b96 := h2; exfalso; omega)
    replace H120 := H120.k1 K141 (by omega)
    replace H121 := H121.k1 K141 (by omega)
    replace H122 := H122.k1 K141 (by omega)
    replace H123 := H123.k1 K141 (by omega)
    replace H125 := H125.k1 K141 (by omega)
    replace hO126 := own_keep hO126 K141 (fun i hi => by have := ob102 i hi; omega)
    replace hR127 := RowsE.keep hR127 K141 (fun i hi hs => by have hs : i = b96 := hs; have := of103 i hi; omega)
    replace hP128 := own_keep hP128 K141 (fun i hi => by have := ob104 i hi; omega)
    clear K141
    refine Ops.keep (R := [(4, (ptr b1)), (6, (ptr b10)), (13, (ptr b96))]) (by kernel_rfl) ?_
    refine od ?_
    exact ⟨kk + 1, ⟨rfl, rfl, (by omega), (by omega), K119, H120, H121, H122, H123, H140, H125⟩, (show l2.length - (kk + 1) < l2.length - kk from by omega)⟩
   ·rw [h132]
    have p142 : ¬ (((kk : Nat) : Int) < ((l2.length : Nat) : Int)) := of_decide_eq_false h132
    refine Dr.takes (fuel' := 0) (is' := _) [8, 9, 10, 11, 12, 13, 14, 15, 16] [(4, (ptr b1)), (6, (ptr b10)), (13, (ptr b96)), (160, (Value.bool false))] (by kernel_rfl) rfl (by kernel_rfl) ?_
    refine Dr.done (by kernel_rfl) ?_
    refine qr_else (o := .tmp 160) (by kernel_rfl) rfl ?_
    refine qr_exit (id := 6) (by kernel_rfl) ?_
    refine qr_seq (by kernel_rfl) ?_
    refine qr_draw Open.wide (fun wz => Keeps (fun i => i = b10) w130 wz) 8 (by kernel_rfl) (by kernel_rfl) (by kernel_rfl) (by kernel_rfl) (fun w143 K144 _ _ => ⟨(K144.mono (fun _ _ h => h.elim)), ?_⟩)
    replace K119 := K119.trans K144 (U := none_) (fun i h1 h2 => h2) (fun i h1 h2 => by exact h2)
    replace H120 := H120.keep K144 (fun h => h)
    replace H121 := H121.keep K144 (fun h => h)
    replace H122 := H122.keep K144 (fun h => h)
    replace H123 := H123.keep K144 (fun h => h)
    replace H124 := H124.keep K144 (fun h => h)
    replace H125 := H125.keep K144 (fun h => h)
    replace hO126 := own_keep0 hO126 K144
    replace hR127 := RowsE.keep hR127 K144 (fun _ _ h => h)
    replace hP128 := own_keep0 hP128 K144
    refine Dr.strong (S' := (fun wz => Keeps (fun i => i = b10) w143 wz)) ((Keeps.refl w143).mono (fun _ _ h => h.elim)) (fun wz hx => K144.trans hx (fun i _ h => h.elim) (fun _ _ h => h)) ?_
    clear K144
    refine Dr.take (i := 0) (v := (i64 ((kk : Nat) : Int))) (by kernel_rfl) (by kernel_rfl) (fun wz hS => Runs.load (t := 3) (a := ⟨b96, 0, none⟩) (by kernel_rfl) ((H124.keep hS (by intro h; change b96 = b10 at h; omega)).loads (by kernel_rfl))) (d := (some 163)) (by kernel_rfl) rfl ?_
    refine Dr.take (i := 1) (v := (ptr r)) (by kernel_rfl) (by kernel_rfl) (fun wz hS => Runs.load (t := 52) (a := ⟨b1, 0, none⟩) (by kernel_rfl) ((H122.keep hS (by intro h; change b1 = b10 at h; omega)).loads (by kernel_rfl))) (d := (some 164)) (by kernel_rfl) rfl ?_
    refine Dr.takes (fuel' := 4) (is' := _) [2, 3] [(6, (ptr b10)), (163, (i64 ((kk : Nat) : Int))), (166, (ptr r))] (by kernel_rfl) rfl (by kernel_rfl) ?_
    refine Dr.take (i := 4) (v := (Value.slice A2 l2.length c2)) (by kernel_rfl) (by kernel_rfl) (fun wz hS => Runs.load (t := 53) (a := ⟨r, 0, none⟩) (by kernel_rfl) ((H121.keep hS (by intro h; change r = b10 at h; omega)).loads (by kernel_rfl))) (d := (some 167)) (by kernel_rfl) rfl ?_
    refine Dr.takes (fuel' := 1) (is' := _) [5, 6] [(6, (ptr b10)), (169, (Value.bool (((kk : Nat) : Int) == ((l2.length : Nat) : Int))))] (by kernel_rfl) rfl (by kernel_rfl) ?_
    refine Dr.put (i := 7) (t := 4) (b := b10) (off := 0) (v := (Value.bool (((kk : Nat) : Int) == ((l2.length : Nat) : Int)))) (ys := [(Value.bool (((kk : Nat) : Int) == ((l2.length : Nat) : Int)))]) (by kernel_rfl) (by kernel_rfl) (by kernel_rfl) H123 (by kernel_rfl) (d := none) (by kernel_rfl) rfl (fun w145 H146 K147 => ?_)
    clear H123
    replace K119 := K119.trans K147 (U := none_) (fun i h1 h2 => h2) (fun i h1 h2 => by have h2 : i = b10 := h2; exfalso; omega)
    replace H120 := H120.k1 K147 (by omega)
    replace H121 := H121.k1 K147 (by omega)
    replace H122 := H122.k1 K147 (by omega)
    replace H124 := H124.k1 K147 (by omega)
    replace H125 := H125.k1 K147 (by omega)
    replace hO126 := own_keep hO126 K147 (fun i hi => by have := ob16 i hi; omega)
    replace hR127 := RowsE.keep hR127 K147 (fun i hi hs => by have hs : i = b10 := hs; have := of17 i hi; omega)
    replace hP128 := own_keep hP128 K147 (fun i hi => by have := ob18 i hi; omega)
    refine ⟨K147, ?_⟩
    refine Dr.strong (S' := (fun wz => Keeps (fun i => i = b10) w145 wz)) ((Keeps.refl w145).mono (fun _ _ h => h.elim)) (fun wz hx => K147.trans hx (fun i _ h => by have h : i = b10 := h; show i = b10; omega) (fun _ _ h => h)) ?_
    clear K147
    refine Dr.done (by kernel_rfl) ?_
    refine qr_ret (by kernel_rfl) ?_
    refine retR_one (D := D) H125 (v := (Value.bool (((kk : Nat) : Int) == ((l2.length : Nat) : Int)))) (retv_cell rfl rfl (((Loose.put (B := D) (.deferred none) (Nat.le_refl _) H125 rfl).has H146).loads (by kernel_rfl))) ?_
    exact ⟨by rw [show (((kk : Nat) : Int) == ((l2.length : Nat) : Int)) = true from beq_t (by omega)], (K119.trans (Loose.put (B := D) (.deferred none) (Nat.le_refl _) H125 rfl).keeps (fun _ _ h => h) (fun i hi h => by have h : D ≤ i := h; omega))⟩
 ·rw [h45]
  have p148 : ¬ (n ≥ 0) := of_decide_eq_false h45
  refine og 8 [(0, (ptr d)), (2, (i64 n)), (4, (ptr b1)), (6, (ptr b10)), (7, (ptr b21)), (8, (ptr b30)), (9, (Value.bool false)), (33, (Value.bool false))] 11 ?_
  refine od ?_
  refine qr_else (o := .tmp 33) (by kernel_rfl) rfl ?_
  refine qr_seq (by kernel_rfl) ?_
  refine qr_draw Open.wide (fun wz => Keeps none_ w42 wz) 12 (by kernel_rfl) (by kernel_rfl) (by kernel_rfl) (by kernel_rfl) (fun w149 K150 _ _ => ⟨K150, ?_⟩)
  replace K0 := K0.t0 K150
  replace Hd := Hd.keep K150 (fun h => h)
  replace Hr := Hr.keep K150 (fun h => h)
  replace H4 := H4.keep K150 (fun h => h)
  replace H13 := H13.keep K150 (fun h => h)
  replace H40 := H40.keep K150 (fun h => h)
  replace H43 := H43.keep K150 (fun h => h)
  replace hO := own_keep0 hO K150
  replace hR := RowsE.keep hR K150 (fun _ _ h => h)
  replace hO2 := own_keep0 hO2 K150
  refine Dr.strong (S' := (fun wz => Keeps none_ w149 wz)) (Keeps.refl w149) (fun wz hx => K150.trans hx (fun i _ h => h) (fun _ _ h => h)) ?_
  clear K150
  refine Dr.take (i := 0) (v := (agg [(i64 0), (Value.string ByteArray.empty), (Value.string ByteArray.empty), (i64 0), (Value.string ByteArray.empty), (i64 0), (i64 0)])) (by kernel_rfl) (by kernel_rfl) (fun wz hS => Runs.load (t := 23) (a := ⟨b21, 0, none⟩) (by kernel_rfl) ((H40.keep hS (fun h => h)).loads (by kernel_rfl))) (d := (some 58)) (by kernel_rfl) rfl ?_
  refine Dr.call (i := 1) (by kernel_rfl) (by kernel_rfl) (d := (some 59)) (by kernel_rfl) (fun _ => none_calls _) ?_
  rintro _ w152 ⟨rfl, K151⟩
  replace K0 := K0.t0 K151
  replace Hd := Hd.keep K151 (fun h => h)
  replace Hr := Hr.keep K151 (fun h => h)
  replace H4 := H4.keep K151 (fun h => h)
  replace H13 := H13.keep K151 (fun h => h)
  replace H40 := H40.keep K151 (fun h => h)
  replace H43 := H43.keep K151 (fun h => h)
  replace hO := own_keep0 hO K151
  replace hR := RowsE.keep hR K151 (fun _ _ h => h)
  replace hO2 := own_keep0 hO2 K151
  refine ⟨_, _, rfl, rfl, K151, ?_⟩
  refine Dr.strong (S' := (fun wz => Keeps none_ w152 wz)) (Keeps.refl w152) (fun wz hx => K151.trans hx (fun i _ h => h) (fun _ _ h => h)) ?_
  clear K151
  refine Dr.take (i := 2) (v := (Value.bool (!(aggB [(i64 0), (Value.string ByteArray.empty), (Value.string ByteArray.empty), (i64 0), (Value.string ByteArray.empty), (i64 0), (i64 0)] [(i64 0), (Value.string ByteArray.empty), (Value.string ByteArray.empty), (i64 0), (Value.string ByteArray.empty), (i64 0), (i64 0)])))) (by kernel_rfl) (by kernel_rfl) (fun wz hS => Runs.aggne (t := 23) (by kernel_rfl) (by kernel_rfl)) (d := (some 60)) (by kernel_rfl) rfl ?_
  refine Dr.takes (fuel' := 8) (is' := _) [3] [(0, (ptr d)), (4, (ptr b1)), (6, (ptr b10)), (8, (ptr b30)), (9, (Value.bool false)), (61, (Value.bool (!(aggB [(i64 0), (Value.string ByteArray.empty), (Value.string ByteArray.empty), (i64 0), (Value.string ByteArray.empty), (i64 0), (i64 0)] [(i64 0), (Value.string ByteArray.empty), (Value.string ByteArray.empty), (i64 0), (Value.string ByteArray.empty), (i64 0), (i64 0)]))))] (by kernel_rfl) rfl (by kernel_rfl) ?_
  have h153 : (!(aggB [(i64 0), (Value.string ByteArray.empty), (Value.string ByteArray.empty), (i64 0), (Value.string ByteArray.empty), (i64 0), (i64 0)] [(i64 0), (Value.string ByteArray.empty), (Value.string ByteArray.empty), (i64 0), (Value.string ByteArray.empty), (i64 0), (i64 0)])) = false := by simp [aggB, cellB]
  rw [h153]
  refine Dr.take (i := 4) (v := (agg [(i64 0), (i64 0), (Value.slice none 0 0)])) (by kernel_rfl) (by kernel_rfl) (fun wz hS => Runs.load (t := 27) (a := ⟨b30, 0, none⟩) (by kernel_rfl) ((H43.keep hS (fun h => h)).loads (by kernel_rfl))) (d := (some 62)) (by kernel_rfl) rfl ?_
  refine Dr.takes (fuel' := 6) (is' := _) [5] [(0, (ptr d)), (4, (ptr b1)), (6, (ptr b10)), (8, (ptr b30)), (9, (Value.bool false)), (61, (Value.bool false)), (62, (agg [(i64 0), (i64 0), (Value.slice none 0 0)])), (63, (agg [(i64 0), (i64 0), (Value.slice none 0 0)]))] (by kernel_rfl) rfl (by kernel_rfl) ?_
  refine Dr.call (i := 6) (by kernel_rfl) (by kernel_rfl) (d := (some 64)) (by kernel_rfl) (fun _ => SameReply_calls _ none 0 (⟨0, 0, []⟩ : ReplyM) none 0 (⟨0, 0, []⟩ : ReplyM) (Rd.nil _ _) (Rd.nil _ _)) ?_
  rintro _ w157 ⟨t154, rfl, ht155, K156⟩
  replace K0 := K0.t0 K156
  replace Hd := Hd.keep K156 (fun h => h)
  replace Hr := Hr.keep K156 (fun h => h)
  replace H4 := H4.keep K156 (fun h => h)
  replace H13 := H13.keep K156 (fun h => h)
  replace H40 := H40.keep K156 (fun h => h)
  replace H43 := H43.keep K156 (fun h => h)
  replace hO := own_keep0 hO K156
  replace hR := RowsE.keep hR K156 (fun _ _ h => h)
  replace hO2 := own_keep0 hO2 K156
  refine ⟨_, _, rfl, rfl, K156, ?_⟩
  refine Dr.strong (S' := (fun wz => Keeps none_ w157 wz)) (Keeps.refl w157) (fun wz hx => K156.trans hx (fun i _ h => h) (fun _ _ h => h)) ?_
  clear K156
  refine Dr.takes (fuel' := 2) (is' := _) [7, 8, 9] [(0, (ptr d)), (4, (ptr b1)), (6, (ptr b10)), (8, (ptr b30)), (9, (Value.bool false)), (67, (Value.bool (!t154)))] (by kernel_rfl) rfl (by kernel_rfl) ?_
  have h158 : (!t154) = false := by rw [ht155.2 rfl]; rfl
  rw [h158]
  refine Dr.takes (fuel' := 0) (is' := _) [10, 11] [(0, (ptr d)), (4, (ptr b1)), (6, (ptr b10)), (8, (ptr b30)), (69, (Value.bool false))] (by kernel_rfl) rfl (by kernel_rfl) ?_
  refine Dr.done (by kernel_rfl) ?_
  refine qr_else (o := .tmp 69) (by kernel_rfl) rfl ?_
  refine qr_skip (by kernel_rfl) ?_
  refine qr_seq (by kernel_rfl) ?_
  refine qr_seq (by kernel_rfl) ?_
  refine qr_region Open.wide (by kernel_rfl) (by kernel_rfl) ?_
  refine og 1 [(0, (ptr d)), (4, (ptr b1)), (6, (ptr b10)), (8, (ptr b30)), (11, (i64 0))] 1 ?_
  refine od ?_
  refine qr_block (id := 0) (by kernel_rfl) ?_
  refine qr_keep (R := [(0, (ptr d)), (4, (ptr b1)), (6, (ptr b10)), (8, (ptr b30)), (11, (i64 0))]) (by kernel_rfl) ?_
  refine qr_loop (fun (q : Nat) (ds : List Deferred) L (wx : World) => ds = [] ∧ L = [(0, (ptr d)), (4, (ptr b1)), (6, (ptr b10)), (8, (ptr b30)), (11, (i64 ((q : Nat) : Int)))] ∧ Keeps none_ w wx ∧ Has wx d (rowL [(Value.slice A l.length c)] 84) ∧ Has wx r (rowL [(Value.slice A2 l2.length c2)] 55) ∧ Has wx b1 (rowL [(ptr r)] 52) ∧ Has wx b10 (rowL [(Value.bool false)] 4) ∧ Has wx b21 (rowL [(i64 0), (Value.string ByteArray.empty), (Value.string ByteArray.empty), (i64 0), (Value.string ByteArray.empty), (i64 0), (i64 0)] 23) ∧ Has wx b30 (rowL [(i64 0), (i64 0), (Value.slice none 0 0)] 27)) (fun (q : Nat) => 0) 0 (by kernel_rfl) ⟨rfl, rfl, K0, Hd, Hr, H4, H13, H40, H43⟩ ?_
  clear Hd Hr H4 H13 H40 H43 hO hR hO2 K0
  rintro q _ _ w159 ⟨rfl, rfl, K160, H161, H162, H163, H164, H165, H166⟩
  have hO167 := own_keep0 hO0 K160
  have hR168 := RowsE.keep hR0 K160 (fun _ _ h => h)
  have hP169 := own_keep0 hO20 K160
  refine qr_seq (by kernel_rfl) ?_
  refine qr_seq (by kernel_rfl) ?_
  refine qr_region Open.wide (by kernel_rfl) (by kernel_rfl) ?_
  refine og 2 [(0, (ptr d)), (4, (ptr b1)), (6, (ptr b10)), (8, (ptr b30)), (11, (i64 ((q : Nat) : Int))), (70, (i64 ((q : Nat) : Int))), (71, (Value.pointer (some ⟨b30, 2, none⟩)))] 2 ?_
  refine Ops.go (v := (Value.slice none 0 0)) (by kernel_rfl) (Runs.load (t := 25) (a := ⟨b30, 2, none⟩) (by kernel_rfl) (H166.loads (by kernel_rfl))) (d := (some 72)) (by kernel_rfl) rfl ?_
  refine og 2 [(0, (ptr d)), (4, (ptr b1)), (6, (ptr b10)), (8, (ptr b30)), (11, (i64 ((q : Nat) : Int))), (74, (Value.bool (decide (((q : Nat) : Int) < 0))))] 5 ?_
  refine od ?_
  have h171 : (decide (((q : Nat) : Int) < 0)) = false := decide_eq_false (by omega)
  rw [h171]
  refine qr_else (o := .tmp 74) (by kernel_rfl) rfl ?_
  refine qr_exit (id := 0) (by kernel_rfl) ?_
  refine qr_seq (by kernel_rfl) ?_
  refine qr_region Open.wide (by kernel_rfl) (by kernel_rfl) ?_
  refine og 1 [(0, (ptr d)), (4, (ptr b1)), (6, (ptr b10)), (82, (ptr d))] 1 ?_
  refine Ops.call (by kernel_rfl) (d := (some 83)) (by kernel_rfl) (Open_calls _ F d l A c T H161 hO167 hR168 hT7 hV7 hFd (fun i hi => Nat.lt_of_lt_of_le (hFl i hi) K160.size) h20) ?_
  rintro _ w175 ⟨b172, A173, c174, rfl, K176, H177, hO178, nb180, hn181⟩
  have ob182 : ∀ i, ((Value.slice A173 l.length c174)).ownBlock = some i → i ≠ d := fun i hi => by have := (World.ownsRow.lt hO178 i hi).1; have := H161.lt; omega
  have ob183 : ∀ i, ((Value.slice A173 l.length c174)).ownBlock = some i → i ≠ r := fun i hi => by have := (World.ownsRow.lt hO178 i hi).1; have := H162.lt; omega
  have ob184 : ∀ i, ((Value.slice A173 l.length c174)).ownBlock = some i → i ≠ b1 := fun i hi => by have := (World.ownsRow.lt hO178 i hi).1; have := H163.lt; omega
  have ob185 : ∀ i, ((Value.slice A173 l.length c174)).ownBlock = some i → i ≠ b10 := fun i hi => by have := (World.ownsRow.lt hO178 i hi).1; have := H164.lt; omega
  have ob186 : ∀ i, ((Value.slice A173 l.length c174)).ownBlock = some i → i ≠ b21 := fun i hi => by have := (World.ownsRow.lt hO178 i hi).1; have := H165.lt; omega
  have ob187 : ∀ i, ((Value.slice A173 l.length c174)).ownBlock = some i → i ≠ b30 := fun i hi => by have := (World.ownsRow.lt hO178 i hi).1; have := H166.lt; omega
  have oo188 : ∀ i, ((Value.slice A l.length c)).ownBlock = some i → ((Value.slice A173 l.length c174)).ownBlock = some i → False := fun i hi hs => by have := (World.ownsRow.lt hO178 i hs).1; have := (World.ownsRow.lt hO167 i hi).2; omega
  have oo189 : ∀ i, ((Value.slice A173 l.length c174)).ownBlock = some i → ((Value.slice A l.length c)).ownBlock = some i → False := fun i hi hs => oo188 i hs hi
  have oo190 : ∀ i, ((Value.slice A2 l2.length c2)).ownBlock = some i → ((Value.slice A173 l.length c174)).ownBlock = some i → False := fun i hi hs => by have := (World.ownsRow.lt hO178 i hs).1; have := (World.ownsRow.lt hP169 i hi).2; omega
  have oo191 : ∀ i, ((Value.slice A173 l.length c174)).ownBlock = some i → ((Value.slice A2 l2.length c2)).ownBlock = some i → False := fun i hi hs => oo190 i hs hi
  have O179 := own_base hO178 K160.size
  have lb172d : d < b172 := by have := H161.lt; omega
  have lb172r : r < b172 := by have := H162.lt; omega
  have lb172b1 : b1 < b172 := by have := H163.lt; omega
  have lb172b10 : b10 < b172 := by have := H164.lt; omega
  have lb172b21 : b21 < b172 := by have := H165.lt; omega
  have lb172b30 : b30 < b172 := by have := H166.lt; omega
  have nb172 : w.heap.size ≤ b172 := by have := K160.size; omega
  refine ⟨_, _, rfl, rfl, ?_⟩
  replace K160 := K160.trans K176 (U := none_) (fun i h1 h2 => h2) (fun i h1 h2 => by exact h2)
  replace H161 := H161.keep K176 (fun h => h)
  replace H162 := H162.keep K176 (fun h => h)
  replace H163 := H163.keep K176 (fun h => h)
  replace H164 := H164.keep K176 (fun h => h)
  replace H165 := H165.keep K176 (fun h => h)
  replace H166 := H166.keep K176 (fun h => h)
  replace hO167 := own_keep0 hO167 K176
  replace hR168 := RowsE.keep hR168 K176 (fun _ _ h => h)
  replace hP169 := own_keep0 hP169 K176
  clear K176
  refine og 1 [(0, (ptr d)), (4, (ptr b1)), (6, (ptr b10)), (12, (Value.func (Fn.func 40) ⟨[]⟩ ⟨[(ptr b172)]⟩))] 3 ?_
  refine od ?_
  refine qr_seq (by kernel_rfl) ?_
  refine qr_seq (by kernel_rfl) ?_
  refine qr_draw Open.wide (fun wz => Keeps none_ w175 wz) 12 (by kernel_rfl) (by kernel_rfl) (by kernel_rfl) (by kernel_rfl) (fun w192 K193 _ _ => ⟨K193, ?_⟩)
  replace K160 := K160.trans K193 (U := none_) (fun i h1 h2 => h2) (fun i h1 h2 => by exact h2)
  replace H161 := H161.keep K193 (fun h => h)
  replace H162 := H162.keep K193 (fun h => h)
  replace H163 := H163.keep K193 (fun h => h)
  replace H164 := H164.keep K193 (fun h => h)
  replace H165 := H165.keep K193 (fun h => h)
  replace H166 := H166.keep K193 (fun h => h)
  replace H177 := H177.keep K193 (fun h => h)
  replace hO167 := own_keep0 hO167 K193
  replace hR168 := RowsE.keep hR168 K193 (fun _ _ h => h)
  replace hP169 := own_keep0 hP169 K193
  replace O179 := own_keep0 O179 K193
  refine Dr.strong (S' := (fun wz => Keeps none_ w192 wz)) (Keeps.refl w192) (fun wz hx => K193.trans hx (fun i _ h => h) (fun _ _ h => h)) ?_
  clear K193
  refine Dr.takes (fuel' := 8) (is' := _) [0, 1, 2, 3] [(4, (ptr b1)), (6, (ptr b10)), (12, (Value.func (Fn.func 40) ⟨[]⟩ ⟨[(ptr b172)]⟩)), (86, (Value.bool false)), (87, (ptr d))] (by kernel_rfl) rfl (by kernel_rfl) ?_
  refine Dr.take (i := 5) (v := (ptr r)) (by kernel_rfl) (by kernel_rfl) (fun wz hS => Runs.load (t := 52) (a := ⟨b1, 0, none⟩) (by kernel_rfl) ((H163.keep hS (fun h => h)).loads (by kernel_rfl))) (d := (some 89)) (by kernel_rfl) rfl ?_
  refine Dr.takes (fuel' := 5) (is' := _) [6, 7] [(4, (ptr b1)), (6, (ptr b10)), (12, (Value.func (Fn.func 40) ⟨[]⟩ ⟨[(ptr b172)]⟩)), (86, (Value.bool false)), (87, (ptr d)), (91, (ptr r))] (by kernel_rfl) rfl (by kernel_rfl) ?_
  refine Dr.take (i := 8) (v := (Value.slice A2 l2.length c2)) (by kernel_rfl) (by kernel_rfl) (fun wz hS => Runs.load (t := 53) (a := ⟨r, 0, none⟩) (by kernel_rfl) ((H162.keep hS (fun h => h)).loads (by kernel_rfl))) (d := (some 92)) (by kernel_rfl) rfl ?_
  refine Dr.takes (fuel' := 3) (is' := _) [9] [(4, (ptr b1)), (6, (ptr b10)), (12, (Value.func (Fn.func 40) ⟨[]⟩ ⟨[(ptr b172)]⟩)), (86, (Value.bool false)), (87, (ptr d)), (93, (i64 ((l2.length : Nat) : Int)))] (by kernel_rfl) rfl (by kernel_rfl) ?_
  refine Dr.call (i := 4) (by kernel_rfl) (by kernel_rfl) (d := (some 88)) (by kernel_rfl) (fun _ => Len_calls _ d l A c H161) ?_
  rintro _ w195 ⟨rfl, K194⟩
  replace K160 := K160.trans K194 (U := none_) (fun i h1 h2 => h2) (fun i h1 h2 => by exact h2)
  replace H161 := H161.keep K194 (fun h => h)
  replace H162 := H162.keep K194 (fun h => h)
  replace H163 := H163.keep K194 (fun h => h)
  replace H164 := H164.keep K194 (fun h => h)
  replace H165 := H165.keep K194 (fun h => h)
  replace H166 := H166.keep K194 (fun h => h)
  replace H177 := H177.keep K194 (fun h => h)
  replace hO167 := own_keep0 hO167 K194
  replace hR168 := RowsE.keep hR168 K194 (fun _ _ h => h)
  replace hP169 := own_keep0 hP169 K194
  replace O179 := own_keep0 O179 K194
  refine ⟨_, _, rfl, rfl, K194, ?_⟩
  refine Dr.strong (S' := (fun wz => Keeps none_ w195 wz)) (Keeps.refl w195) (fun wz hx => K194.trans hx (fun i _ h => h) (fun _ _ h => h)) ?_
  clear K194
  refine Dr.takes (fuel' := 0) (is' := _) [10, 11] [(4, (ptr b1)), (6, (ptr b10)), (12, (Value.func (Fn.func 40) ⟨[]⟩ ⟨[(ptr b172)]⟩)), (95, (Value.bool (((l.length : Nat) : Int) != ((l2.length : Nat) : Int))))] (by kernel_rfl) rfl (by kernel_rfl) ?_
  refine Dr.done (by kernel_rfl) ?_
  have h196 : (((l.length : Nat) : Int) != ((l2.length : Nat) : Int)) = false := bne_f (by omega)
  rw [h196]
  refine qr_else (o := .tmp 95) (by kernel_rfl) rfl ?_
  refine qr_skip (by kernel_rfl) ?_
  refine qr_seq (by kernel_rfl) ?_
  refine qr_region Open.wide (by kernel_rfl) (by kernel_rfl) ?_
  refine Ops.new (o := rowL [(i64 0)] 3) (V := fun b => (ptr b)) (by kernel_rfl) (d := (some 13)) (by kernel_rfl) (fun b => rfl) (fun b197 w198 hb199 H200 K201 hs202 => ?_)
  have lb197d : d < b197 := by have := H161.lt; omega
  have lb197r : r < b197 := by have := H162.lt; omega
  have lb197b1 : b1 < b197 := by have := H163.lt; omega
  have lb197b10 : b10 < b197 := by have := H164.lt; omega
  have lb197b21 : b21 < b197 := by have := H165.lt; omega
  have lb197b30 : b30 < b197 := by have := H166.lt; omega
  have lb197b172 : b172 < b197 := by have := H177.lt; omega
  have nb197 : w.heap.size ≤ b197 := by have := K160.size; omega
  have ob203 : ∀ i, ((Value.slice A l.length c)).ownBlock = some i → i < b197 := fun i hi => by have := (World.ownsRow.lt hO167 i hi).2; omega
  have of204 : ∀ i, T i → i ≠ b197 := fun i hi => by have := RowsE.lt hR168 i hi; omega
  have ob205 : ∀ i, ((Value.slice A2 l2.length c2)).ownBlock = some i → i < b197 := fun i hi => by have := (World.ownsRow.lt hP169 i hi).2; omega
  have ob206 : ∀ i, ((Value.slice A173 l.length c174)).ownBlock = some i → i < b197 := fun i hi => by have := (World.ownsRow.lt O179 i hi).2; omega
  replace K160 := K160.trans K201 (U := none_) (fun i h1 h2 => h2) (fun i h1 h2 => by exact h2)
  replace H161 := H161.keep K201 (fun h => h)
  replace H162 := H162.keep K201 (fun h => h)
  replace H163 := H163.keep K201 (fun h => h)
  replace H164 := H164.keep K201 (fun h => h)
  replace H165 := H165.keep K201 (fun h => h)
  replace H166 := H166.keep K201 (fun h => h)
  replace H177 := H177.keep K201 (fun h => h)
  replace hO167 := own_keep0 hO167 K201
  replace hR168 := RowsE.keep hR168 K201 (fun _ _ h => h)
  replace hP169 := own_keep0 hP169 K201
  replace O179 := own_keep0 O179 K201
  clear K201 hs202
  refine Ops.put (t := 3) (b := b197) (off := 0) (v := (i64 0)) (ys := [(i64 0)]) (by kernel_rfl) (by kernel_rfl) H200 (by kernel_rfl) (d := none) (by kernel_rfl) rfl (fun w207 H208 K209 => ?_)
  clear H200
  replace K160 := K160.trans K209 (U := none_) (fun i h1 h2 => h2) (fun i h1 h2 => by have h2 : i = b197 := h2; exfalso; omega)
  replace H161 := H161.k1 K209 (by omega)
  replace H162 := H162.k1 K209 (by omega)
  replace H163 := H163.k1 K209 (by omega)
  replace H164 := H164.k1 K209 (by omega)
  replace H165 := H165.k1 K209 (by omega)
  replace H166 := H166.k1 K209 (by omega)
  replace H177 := H177.k1 K209 (by omega)
  replace hO167 := own_keep hO167 K209 (fun i hi => by have := ob203 i hi; omega)
  replace hR168 := RowsE.keep hR168 K209 (fun i hi hs => by have hs : i = b197 := hs; have := of204 i hi; omega)
  replace hP169 := own_keep hP169 K209 (fun i hi => by have := ob205 i hi; omega)
  replace O179 := own_keep O179 K209 (fun i hi => by have := ob206 i hi; omega)
  clear K209
  refine od ?_
  refine qr_seq (by kernel_rfl) ?_
  refine qr_seq (by kernel_rfl) ?_
  refine qr_region Open.wide (by kernel_rfl) (by kernel_rfl) ?_
  refine og 1 [(4, (ptr b1)), (6, (ptr b10)), (13, (ptr b197)), (96, (Value.func (Fn.func 40) ⟨[]⟩ ⟨[(ptr b172)]⟩))] 1 ?_
  refine od ?_
  refine qr_block (id := 2) (by kernel_rfl) ?_
  have zd := H161.lt
  have zr := H162.lt
  have zb1 := H163.lt
  have zb10 := H164.lt
  have zb21 := H165.lt
  have zb30 := H166.lt
  have zb172 := H177.lt
  have zb197 := H208.lt
  have hnE : ∀ i, ((Value.slice A173 l.length c174)).ownBlock = some i → i ≠ b197 := fun i hi => by have := ob206 i hi; omega
  have hn2 : ∀ i, ((Value.slice A2 l2.length c2)).ownBlock = some i → i ≠ b197 := fun i hi => by have := (World.ownsRow.lt hO20 i hi).2; omega
  refine qr_keep (R := [(4, (ptr b1)), (6, (ptr b10)), (13, (ptr b197)), (96, (Value.func (Fn.func 40) ⟨[]⟩ ⟨[(ptr b172)]⟩))]) (by kernel_rfl) ?_
  refine qr_eachM (g := .tmp 96) (ts := [97, 98]) (m := 11) (enc := fun x : Nat × Opm => [i64 ((x.1 : Nat) : Int), agg [(i64 x.2.kind), (Value.string (str x.2.frm)), (Value.string (str x.2.to)), (i64 x.2.amount), (Value.string (str x.2.key)), (i64 x.2.slot), (i64 x.2.shard)]]) (S := fun all => all = openF 0 l) (w0 := w207) (T := fun i => i = b197 ∨ w207.heap.size ≤ i) (by kernel_rfl) (by decide) (gf := 40) (lb := [ptr b172]) rfl (enters Try.func40 (by kernel_rfl) (by kernel_rfl))
   (Open1_tells w207 9 b172 A173 c174 l _ H177 (by intro h; change b172 = b197 ∨ w207.heap.size ≤ b172 at h; omega) (OwnT.rd O179) (fun i hi h => by have q1 := hnE i hi; have q2 := (World.ownsRow.lt O179 i hi).2; have h : i = b197 ∨ w207.heap.size ≤ i := h; omega))
   (fun i h => .inr h) ((Keeps.refl _).mono (fun _ _ h => h.elim)) (fun pre W => Has W b197 (rowL [(i64 ((behind 0 pre : Nat) : Int))] 3) ∧ Keeps (fun i => i = b197) w207 W)
   (fun k W1 W2 h lo => ⟨lo.has h.1, h.2.trans lo.keeps (fun _ _ h => h) (fun i hi h => by have h : w207.heap.size ≤ i := h; omega)⟩) ⟨H208, (Keeps.refl _).mono (fun _ _ h => h.elim)⟩
   (fun x => (98, agg [(i64 x.2.kind), (Value.string (str x.2.frm)), (Value.string (str x.2.to)), (i64 x.2.amount), (Value.string (str x.2.key)), (i64 x.2.slot), (i64 x.2.shard)]) :: (97, i64 ((x.1 : Nat) : Int)) :: [(4, (ptr b1)), (6, (ptr b10)), (13, (ptr b197)), (96, (Value.func (Fn.func 40) ⟨[]⟩ ⟨[(ptr b172)]⟩))]) (fun x => rfl)
   (fun x L W1 => ∃ b15, L = [(4, ptr b1), (6, ptr b10), (13, ptr b197), (14, (i64 ((x.1 : Nat) : Int))), (15, ptr b15)] ∧ w207.heap.size ≤ b15 ∧ Has W1 b15 (rowL [(i64 x.2.kind), (Value.string (str x.2.frm)), (Value.string (str x.2.to)), (i64 x.2.amount), (Value.string (str x.2.key)), (i64 x.2.slot), (i64 x.2.shard)] 23)) (fun x L W1 W2 h lo => let ⟨b15, h1, h2, h3⟩ := h; ⟨b15, h1, h2, lo.has h3⟩) ?_ ?_ ?_
  ·rintro ln pre x W1 hlt ⟨h3, hk⟩ hp
   refine qr_seq (by kernel_rfl) ?_
   refine qr_region (Open.round ln) (by kernel_rfl) (by kernel_rfl) ?_
   refine og 1 [(4, ptr b1), (6, ptr b10), (13, ptr b197), (14, (i64 ((x.1 : Nat) : Int))), (98, agg [(i64 x.2.kind), (Value.string (str x.2.frm)), (Value.string (str x.2.to)), (i64 x.2.amount), (Value.string (str x.2.key)), (i64 x.2.slot), (i64 x.2.shard)])] 1 ?_
   refine od ?_
   refine qr_region (Open.round ln) (by kernel_rfl) (by kernel_rfl) ?_
   refine Ops.new (o := rowL [(i64 0), (Value.string ByteArray.empty), (Value.string ByteArray.empty), (i64 0), (Value.string ByteArray.empty), (i64 0), (i64 0)] 23) (V := fun b => ptr b) (by kernel_rfl) (d := some 15) (by kernel_rfl) (fun b => rfl) (fun b w3 hb H3 k3 hs3 => ?_)
   refine Ops.put (t := 23) (b := b) (off := 0) (v := agg [(i64 x.2.kind), (Value.string (str x.2.frm)), (Value.string (str x.2.to)), (i64 x.2.amount), (Value.string (str x.2.key)), (i64 x.2.slot), (i64 x.2.shard)]) (ys := [(i64 x.2.kind), (Value.string (str x.2.frm)), (Value.string (str x.2.to)), (i64 x.2.amount), (Value.string (str x.2.key)), (i64 x.2.slot), (i64 x.2.shard)]) (by kernel_rfl) (by kernel_rfl) H3 (by kernel_rfl) (d := none) (by kernel_rfl) rfl (fun w4 H4 k4 => ?_)
   refine Ops.keep (R := [(4, ptr b1), (6, ptr b10), (13, ptr b197), (14, (i64 ((x.1 : Nat) : Int))), (15, ptr b)]) (by kernel_rfl) ?_
   refine od ?_
   exact ⟨rfl, rfl, k3.trans k4 (fun _ _ h => h) (fun i hi h => by have h : i = b := h; omega), b, rfl, by have := hk.size; omega, H4⟩
  ·rintro ln pre x _ W1 ⟨h3, hk⟩ ⟨post, hp⟩ ⟨b15, rfl, hb4, h4⟩
   obtain ⟨hle, hgap, y0, hy0, hs0, ho0⟩ := openF_next (l := l2) (by rw [← openF_congr hm]; exact hp)
   refine qr_mono (alike_body W1 ln b1 r b10 b197 b15 (behind 0 pre) A2 c2 l2 x y0 (H163.keep hk (by intro h; change b1 = b197 at h; omega)) (H162.keep hk (by intro h; change r = b197 at h; omega)) h3 h4 (OwnT.rd (own_keep hP169 hk (fun i hi h => by have h : i = b197 := h; exact hn2 i hi h))) hn2 (by omega) hle hgap hy0 hs0 ho0 (by omega)) ?_
   rintro ds e L W2 ⟨rfl, k2, h2⟩
   exact ⟨rfl, keepsFrom_of k2 (fun i hi hB => by exfalso; have hi : i = b197 := hi; omega), k2.mono (fun i _ h => .inl h), by rw [behind_append]; exact h2, hk.trans k2 (fun _ _ h => h) (fun i _ h => h)⟩
  ·rintro D all W hDw hall ⟨h3, hk⟩ hD
   rw [hall, openF_congr hm] at h3
   obtain ⟨hlb, hlast⟩ := openF_last (l := l2) rfl
   have K210 : Keeps none_ w W := K160.trans hk (U := none_) (fun _ _ h => h) (fun i hi h => by have h : i = b197 := h; have := nb197; omega)
   have H211 := H161.keep hk (by intro h; change d = b197 at h; omega)
   have H212 := H162.keep hk (by intro h; change r = b197 at h; omega)
   have H213 := H163.keep hk (by intro h; change b1 = b197 at h; omega)
   have H214 := H164.keep hk (by intro h; change b10 = b197 at h; omega)
   clear H161 H162 H163 H164 H165 H166 H177 H208 K160
   have hO215 := own_keep0 hO0 K210
   have hR216 := RowsE.keep hR0 K210 (fun _ _ h => h)
   have hP217 := own_keep0 hO20 K210
   have hbD : d < D ∧ r < D ∧ b1 < D ∧ b10 < D ∧ b197 < D := by omega
   have hwD : w.heap.size ≤ D := by have := K210.size; omega
   have hD1 : Has W D (.deferred (some [])) := hD
   clear hD
   refine qr_seq (by kernel_rfl) ?_
   refine qr_block (id := 6) (by kernel_rfl) ?_
   refine qr_keep (R := [(4, (ptr b1)), (6, (ptr b10)), (13, (ptr b197))]) (by kernel_rfl) ?_
   refine qr_loop (fun (kk : Nat) (ds : List Deferred) L (wx : World) => ds = [{ target := .collected D, args := #[] }] ∧ L = [(4, (ptr b1)), (6, (ptr b10)), (13, (ptr b197))] ∧ behind 0 (openF 0 l2) ≤ kk ∧ kk ≤ l2.length ∧ Keeps none_ w wx ∧ Has wx d (rowL [(Value.slice A l.length c)] 84) ∧ Has wx r (rowL [(Value.slice A2 l2.length c2)] 55) ∧ Has wx b1 (rowL [(ptr r)] 52) ∧ Has wx b10 (rowL [(Value.bool false)] 4) ∧ Has wx b197 (rowL [(i64 ((kk : Nat) : Int))] 3) ∧ Has wx D (.deferred (some []))) (fun (kk : Nat) => l2.length - kk) (behind 0 (openF 0 l2)) (by kernel_rfl) ⟨rfl, rfl, Nat.le_refl _, hlb, K210, H211, H212, H213, H214, h3, hD1⟩ ?_
   clear H211 H212 H213 H214 h3 hD1 hO215 hR216 hP217 K210
   rintro kk _ _ w219 ⟨rfl, rfl, hk1, hk2, K220, H221, H222, H223, H224, H225, H226⟩
   have hO227 := own_keep0 hO0 K220
   have hR228 := RowsE.keep hR0 K220 (fun _ _ h => h)
   have hP229 := own_keep0 hO20 K220
   refine qr_seq (by kernel_rfl) ?_
   refine qr_seq (by kernel_rfl) ?_
   refine qr_draw Open.wide (fun wz => Keeps none_ w219 wz) 17 (by kernel_rfl) (by kernel_rfl) (by kernel_rfl) (by kernel_rfl) (fun w231 K232 _ _ => ⟨K232, ?_⟩)
   replace K220 := K220.trans K232 (U := none_) (fun i h1 h2 => h2) (fun i h1 h2 => by exact h2)
   replace H221 := H221.keep K232 (fun h => h)
   replace H222 := H222.keep K232 (fun h => h)
   replace H223 := H223.keep K232 (fun h => h)
   replace H224 := H224.keep K232 (fun h => h)
   replace H225 := H225.keep K232 (fun h => h)
   replace H226 := H226.keep K232 (fun h => h)
   replace hO227 := own_keep0 hO227 K232
   replace hR228 := RowsE.keep hR228 K232 (fun _ _ h => h)
   replace hP229 := own_keep0 hP229 K232
   refine Dr.strong (S' := (fun wz => Keeps none_ w231 wz)) (Keeps.refl w231) (fun wz hx => K232.trans hx (fun i _ h => h) (fun _ _ h => h)) ?_
   clear K232
   refine Dr.take (i := 0) (v := (i64 ((kk : Nat) : Int))) (by kernel_rfl) (by kernel_rfl) (fun wz hS => Runs.load (t := 3) (a := ⟨b197, 0, none⟩) (by kernel_rfl) ((H225.keep hS (fun h => h)).loads (by kernel_rfl))) (d := (some 144)) (by kernel_rfl) rfl ?_
   refine Dr.take (i := 1) (v := (ptr r)) (by kernel_rfl) (by kernel_rfl) (fun wz hS => Runs.load (t := 52) (a := ⟨b1, 0, none⟩) (by kernel_rfl) ((H223.keep hS (fun h => h)).loads (by kernel_rfl))) (d := (some 145)) (by kernel_rfl) rfl ?_
   refine Dr.takes (fuel' := 13) (is' := _) [2, 3] [(4, (ptr b1)), (6, (ptr b10)), (13, (ptr b197)), (144, (i64 ((kk : Nat) : Int))), (147, (ptr r))] (by kernel_rfl) rfl (by kernel_rfl) ?_
   refine Dr.take (i := 4) (v := (Value.slice A2 l2.length c2)) (by kernel_rfl) (by kernel_rfl) (fun wz hS => Runs.load (t := 53) (a := ⟨r, 0, none⟩) (by kernel_rfl) ((H222.keep hS (fun h => h)).loads (by kernel_rfl))) (d := (some 148)) (by kernel_rfl) rfl ?_
   refine Dr.takes (fuel' := 9) (is' := _) [5, 6, 7] [(4, (ptr b1)), (6, (ptr b10)), (13, (ptr b197)), (151, (Value.bool (decide (((kk : Nat) : Int) < ((l2.length : Nat) : Int)))))] (by kernel_rfl) rfl (by kernel_rfl) ?_
   refine Dr.split (decide (((kk : Nat) : Int) < ((l2.length : Nat) : Int))) (fun h233 => ?_) (fun h233 => ?_)
   ·rw [h233]
    have p234 : ((kk : Nat) : Int) < ((l2.length : Nat) : Int) := of_decide_eq_true h233
    refine Dr.take (i := 8) (v := (ptr r)) (by kernel_rfl) (by kernel_rfl) (fun wz hS => Runs.load (t := 52) (a := ⟨b1, 0, none⟩) (by kernel_rfl) ((H223.keep hS (fun h => h)).loads (by kernel_rfl))) (d := (some 152)) (by kernel_rfl) rfl ?_
    refine Dr.takes (fuel' := 6) (is' := _) [9, 10] [(4, (ptr b1)), (6, (ptr b10)), (13, (ptr b197)), (151, (Value.bool true)), (154, (ptr r))] (by kernel_rfl) rfl (by kernel_rfl) ?_
    refine Dr.take (i := 11) (v := (Value.slice A2 l2.length c2)) (by kernel_rfl) (by kernel_rfl) (fun wz hS => Runs.load (t := 53) (a := ⟨r, 0, none⟩) (by kernel_rfl) ((H222.keep hS (fun h => h)).loads (by kernel_rfl))) (d := (some 155)) (by kernel_rfl) rfl ?_
    refine Dr.take (i := 12) (v := (i64 ((kk : Nat) : Int))) (by kernel_rfl) (by kernel_rfl) (fun wz hS => Runs.load (t := 3) (a := ⟨b197, 0, none⟩) (by kernel_rfl) ((H225.keep hS (fun h => h)).loads (by kernel_rfl))) (d := (some 156)) (by kernel_rfl) rfl ?_
    obtain ⟨z, hzz⟩ : ∃ z, l2[kk]? = some z := ⟨_, List.getElem?_eq_getElem (by omega)⟩
    obtain ⟨rb235, ro236, hA237⟩ := Rd.addr (OwnT.rd hP229) (by omega)
    refine Dr.take (i := 13) (v := (Value.pointer (some ⟨rb235, ro236 + kk * 11, none⟩))) (by kernel_rfl) (by kernel_rfl) (fun wz hS => Runs.ixSliceE (k := IntKind.i64) (t := 53) (len := l2.length) (cap := c2) (s := 11) (off' := ro236 + kk * 11) (i := ((kk : Nat) : Int)) hA237 (by kernel_rfl) (by kernel_rfl) (by omega) (by omega) (by omega)) (d := (some 157)) (by kernel_rfl) rfl ?_
    refine Dr.takes (fuel' := 2) (is' := _) [14] [(4, (ptr b1)), (6, (ptr b10)), (13, (ptr b197)), (151, (Value.bool true)), (158, (Value.pointer (some ⟨rb235, ro236 + kk * 11 + 10, none⟩)))] (by kernel_rfl) rfl (by kernel_rfl) ?_
    refine Dr.take (i := 15) (v := (Value.bool z.is)) (by kernel_rfl) (by kernel_rfl) (fun wz hS => Runs.load (t := 4) (a := ⟨rb235, ro236 + kk * 11 + 10, none⟩) (by kernel_rfl) (RdT.ldf (f := DCall.cells) (x := z) (o := 10) DCall.two (OwnT.rd (own_keep0 hP229 hS)) (by kernel_rfl) hA237 hzz rfl)) (d := (some 159)) (by kernel_rfl) rfl ?_
    refine Dr.takes (fuel' := 0) (is' := _) [16] [(4, (ptr b1)), (6, (ptr b10)), (13, (ptr b197)), (160, (Value.bool z.is))] (by kernel_rfl) rfl (by kernel_rfl) ?_
    refine Dr.done (by kernel_rfl) ?_
    have h238 : z.is = true := hlast kk (by omega) z hzz
    rw [h238]
    refine qr_then (o := .tmp 160) (by kernel_rfl) rfl ?_
    refine qr_skip (by kernel_rfl) ?_
    refine qr_block (id := 7) (by kernel_rfl) ?_
    refine qr_region Open.wide (by kernel_rfl) (by kernel_rfl) ?_
    refine Ops.go (v := (i64 ((kk : Nat) : Int))) (by kernel_rfl) (Runs.load (t := 3) (a := ⟨b197, 0, none⟩) (by kernel_rfl) (H225.loads (by kernel_rfl))) (d := (some 161)) (by kernel_rfl) rfl ?_
    refine og 1 [(4, (ptr b1)), (6, (ptr b10)), (13, (ptr b197)), (162, (i64 (IntKind.i64.wrap (((kk : Nat) : Int) + 1))))] 2 ?_
    have e239 : IntKind.i64.wrap (((kk : Nat) : Int) + 1) = ((kk + 1 : Nat) : Int) := by rw [wrap_i64 (by omega) (by omega)]; omega
    rw [e239]
    clear e239
    refine Ops.put (t := 3) (b := b197) (off := 0) (v := (i64 ((kk + 1 : Nat) : Int))) (ys := [(i64 ((kk + 1 : Nat) : Int))]) (by kernel_rfl) (by kernel_rfl) H225 (by kernel_rfl) (d := none) (by kernel_rfl) rfl (fun w240 H241 K242 => ?_)
    clear H225
    replace K220 := K220.trans K242 (U := none_) (fun i h1 h2 => h2) (fun i h1 h2 => by have h2 : i = b197 := h2; exfalso; omega)
    replace H221 := H221.k1 K242 (by omega)
    replace H222 := H222.k1 K242 (by omega)
    replace H223 := H223.k1 K242 (by omega)
    replace H224 := H224.k1 K242 (by omega)
    replace H226 := H226.k1 K242 (by omega)
    replace hO227 := own_keep hO227 K242 (fun i hi => by have := ob203 i hi; omega)
    replace hR228 := RowsE.keep hR228 K242 (fun i hi hs => by have hs : i = b197 := hs; have := of204 i hi; omega)
    replace hP229 := own_keep hP229 K242 (fun i hi => by have := ob205 i hi; omega)
    clear K242
    refine Ops.keep (R := [(4, (ptr b1)), (6, (ptr b10)), (13, (ptr b197))]) (by kernel_rfl) ?_
    refine od ?_
    exact ⟨kk + 1, ⟨rfl, rfl, (by omega), (by omega), K220, H221, H222, H223, H224, H241, H226⟩, (show l2.length - (kk + 1) < l2.length - kk from by omega)⟩
   ·rw [h233]
    have p243 : ¬ (((kk : Nat) : Int) < ((l2.length : Nat) : Int)) := of_decide_eq_false h233
    refine Dr.takes (fuel' := 0) (is' := _) [8, 9, 10, 11, 12, 13, 14, 15, 16] [(4, (ptr b1)), (6, (ptr b10)), (13, (ptr b197)), (160, (Value.bool false))] (by kernel_rfl) rfl (by kernel_rfl) ?_
    refine Dr.done (by kernel_rfl) ?_
    refine qr_else (o := .tmp 160) (by kernel_rfl) rfl ?_
    refine qr_exit (id := 6) (by kernel_rfl) ?_
    refine qr_seq (by kernel_rfl) ?_
    refine qr_draw Open.wide (fun wz => Keeps (fun i => i = b10) w231 wz) 8 (by kernel_rfl) (by kernel_rfl) (by kernel_rfl) (by kernel_rfl) (fun w244 K245 _ _ => ⟨(K245.mono (fun _ _ h => h.elim)), ?_⟩)
    replace K220 := K220.trans K245 (U := none_) (fun i h1 h2 => h2) (fun i h1 h2 => by exact h2)
    replace H221 := H221.keep K245 (fun h => h)
    replace H222 := H222.keep K245 (fun h => h)
    replace H223 := H223.keep K245 (fun h => h)
    replace H224 := H224.keep K245 (fun h => h)
    replace H225 := H225.keep K245 (fun h => h)
    replace H226 := H226.keep K245 (fun h => h)
    replace hO227 := own_keep0 hO227 K245
    replace hR228 := RowsE.keep hR228 K245 (fun _ _ h => h)
    replace hP229 := own_keep0 hP229 K245
    refine Dr.strong (S' := (fun wz => Keeps (fun i => i = b10) w244 wz)) ((Keeps.refl w244).mono (fun _ _ h => h.elim)) (fun wz hx => K245.trans hx (fun i _ h => h.elim) (fun _ _ h => h)) ?_
    clear K245
    refine Dr.take (i := 0) (v := (i64 ((kk : Nat) : Int))) (by kernel_rfl) (by kernel_rfl) (fun wz hS => Runs.load (t := 3) (a := ⟨b197, 0, none⟩) (by kernel_rfl) ((H225.keep hS (by intro h; change b197 = b10 at h; omega)).loads (by kernel_rfl))) (d := (some 163)) (by kernel_rfl) rfl ?_
    refine Dr.take (i := 1) (v := (ptr r)) (by kernel_rfl) (by kernel_rfl) (fun wz hS => Runs.load (t := 52) (a := ⟨b1, 0, none⟩) (by kernel_rfl) ((H223.keep hS (by intro h; change b1 = b10 at h; omega)).loads (by kernel_rfl))) (d := (some 164)) (by kernel_rfl) rfl ?_
    refine Dr.takes (fuel' := 4) (is' := _) [2, 3] [(6, (ptr b10)), (163, (i64 ((kk : Nat) : Int))), (166, (ptr r))] (by kernel_rfl) rfl (by kernel_rfl) ?_
    refine Dr.take (i := 4) (v := (Value.slice A2 l2.length c2)) (by kernel_rfl) (by kernel_rfl) (fun wz hS => Runs.load (t := 53) (a := ⟨r, 0, none⟩) (by kernel_rfl) ((H222.keep hS (by intro h; change r = b10 at h; omega)).loads (by kernel_rfl))) (d := (some 167)) (by kernel_rfl) rfl ?_
    refine Dr.takes (fuel' := 1) (is' := _) [5, 6] [(6, (ptr b10)), (169, (Value.bool (((kk : Nat) : Int) == ((l2.length : Nat) : Int))))] (by kernel_rfl) rfl (by kernel_rfl) ?_
    refine Dr.put (i := 7) (t := 4) (b := b10) (off := 0) (v := (Value.bool (((kk : Nat) : Int) == ((l2.length : Nat) : Int)))) (ys := [(Value.bool (((kk : Nat) : Int) == ((l2.length : Nat) : Int)))]) (by kernel_rfl) (by kernel_rfl) (by kernel_rfl) H224 (by kernel_rfl) (d := none) (by kernel_rfl) rfl (fun w246 H247 K248 => ?_)
    clear H224
    replace K220 := K220.trans K248 (U := none_) (fun i h1 h2 => h2) (fun i h1 h2 => by have h2 : i = b10 := h2; exfalso; omega)
    replace H221 := H221.k1 K248 (by omega)
    replace H222 := H222.k1 K248 (by omega)
    replace H223 := H223.k1 K248 (by omega)
    replace H225 := H225.k1 K248 (by omega)
    replace H226 := H226.k1 K248 (by omega)
    replace hO227 := own_keep hO227 K248 (fun i hi => by have := ob16 i hi; omega)
    replace hR228 := RowsE.keep hR228 K248 (fun i hi hs => by have hs : i = b10 := hs; have := of17 i hi; omega)
    replace hP229 := own_keep hP229 K248 (fun i hi => by have := ob18 i hi; omega)
    refine ⟨K248, ?_⟩
    refine Dr.strong (S' := (fun wz => Keeps (fun i => i = b10) w246 wz)) ((Keeps.refl w246).mono (fun _ _ h => h.elim)) (fun wz hx => K248.trans hx (fun i _ h => by have h : i = b10 := h; show i = b10; omega) (fun _ _ h => h)) ?_
    clear K248
    refine Dr.done (by kernel_rfl) ?_
    refine qr_ret (by kernel_rfl) ?_
    refine retR_one (D := D) H226 (v := (Value.bool (((kk : Nat) : Int) == ((l2.length : Nat) : Int)))) (retv_cell rfl rfl (((Loose.put (B := D) (.deferred none) (Nat.le_refl _) H226 rfl).has H247).loads (by kernel_rfl))) ?_
    exact ⟨by rw [show (((kk : Nat) : Int) == ((l2.length : Nat) : Int)) = true from beq_t (by omega)], (K220.trans (Loose.put (B := D) (.deferred none) (Nat.le_refl _) H226 rfl).keeps (fun _ _ h => h) (fun i hi h => by have h : D ≤ i := h; omega))⟩
end Go.Proofs.Ytlnidnadpdpciaa
namespace Go.Q
open Go.ChangeShapes Go.WideShapes Go.ChangeAt Go.RowKit Go.Deep
section
variable {H : Type} {enc : TypeId × Value → H} {P : Program} {w : World} {base : Nat} {spare : Nat → Bool} {held : Bool}
theorem weightsAll_mem {e : TypeId} : ∀ {l : List (DataW H)} {d : DataW H}, d ∈ l → ∀ {n : Nat}, n ∈ d.weights P e → n ∈ DataW.weightsAll P e l
  | [], d, h, _, _ => by cases h
  | x :: l, d, h, n, hn => by
    simp only [DataW.weightsAll, List.mem_append]
    rcases List.mem_cons.1 h with rfl | h
    · exact .inl hn
    · exact .inr (weightsAll_mem h hn)
theorem open_rows_w {t e : TypeId} {sz : Nat} {v : Value} {d : DataW H} {ps : List MemPlace} (R : List Value → DataW H → Prop) (ht : P.underlying t = some (.slice e)) (hC : P.cellsOf e = sz) (hsz : 0 < sz)
    {fuel : Nat} (h : DataW.trod enc P w base spare held fuel t [v] = some (d, ps))
    (dec : ∀ (m : Nat) (cs : List Value) (y : DataW H × List MemPlace), cs.length = sz → DataW.trod enc P w base spare held m e cs = some y → R cs y.1) :
    ∃ css : List (List Value), Rd w sz v css.flatten ∧ (∀ cs ∈ css, ∃ z, R cs z ∧ ∀ n ∈ z.weights P e, n ∈ d.weights P t) ∧ (css.length = 0 ∨ ∃ k ∈ d.weights P t, css.length * P.bytesOf e ≤ k) ∧ ∃ A c, v = .slice A css.length c := by
  have hv := slice_trod ht h
  rcases open_slice ht h with ⟨hcs, hx⟩ | ⟨a, len, cap', m, k, D, Pl, hcs, hb, hl, hm, hmm, hxx, hi⟩
  · simp only [List.cons.injEq, and_true] at hcs
    subst hcs
    exact ⟨[], Rd.nil w sz, by simp, .inl rfl, none, 0, rfl⟩
  · have hd : d = .slice ((List.range len).map D) ((List.range (m - len)).map fun j => D (len + j)) := by
      simp only [Prod.mk.injEq] at hxx; exact hxx.1
    have hlm : len ≤ m := by rw [hmm]; split <;> omega
    -- each element's cells are read as one of the data
    obtain ⟨css, hr, hc, hdd, A, c, hA⟩ := open_rows (fun cs => ∃ z, R cs z) ht hC hsz hv h fun m cs y hl htr => ⟨y.1, dec m cs y hl htr⟩
    -- the same rows, told with their places
    have hn : css.length = len := by
      simp only [List.cons.injEq, and_true] at hcs
      rw [hA] at hcs
      injection hcs with _ h2 _
    have hat : ∀ i, i < len → ∃ cs z, css[i]? = some cs ∧ R cs z ∧ ∀ n ∈ z.weights P e, n ∈ d.weights P t := by
      intro i hin
      obtain ⟨cs', hc', htr⟩ := hi i (by omega)
      rw [hC] at hc'
      obtain ⟨_, hlen, hcell⟩ := World.cells?_some hc'
      have hci : i < css.length := by omega
      refine ⟨css[i], D i, List.getElem?_eq_getElem hci, ?_, ?_⟩
      · have hcl := (hc css[i] (List.getElem_mem hci)).1
        have heq : css[i] = cs' := by
          apply List.ext_getElem?
          intro j
          rcases Nat.lt_or_ge j sz with hj | hj
          · have h1 : css[i][j]? = some (css[i][j]'(by omega)) := List.getElem?_eq_getElem (by omega)
            have h2 : cs'[j]? = some (cs'[j]'(by omega)) := List.getElem?_eq_getElem (by omega)
            have hfl : (css.flatten)[i * sz + j]? = css[i][j]? := by
              have e1 : css.flatten = css.flatMap id := by simp [List.flatMap]
              have hall : ∀ l : List (List Value), (∀ x ∈ l, x.length = sz) → ∀ (k : Nat) (x : List Value), l[k]? = some x → ∀ q, q < sz → l.flatten[k * sz + q]? = x[q]? := by
                intro l
                induction l with
                | nil => intro _ k x hx; simp at hx
                | cons y l ih =>
                  intro hy k x hx q hq
                  have hyl := hy y (by simp)
                  cases k with
                  | zero =>
                    simp only [List.getElem?_cons_zero, Option.some.injEq] at hx
                    subst hx
                    rw [List.flatten_cons, Nat.zero_mul, Nat.zero_add, List.getElem?_append_left (by omega)]
                  | succ k =>
                    simp only [List.getElem?_cons_succ] at hx
                    rw [List.flatten_cons, List.getElem?_append_right (by rw [hyl, Nat.add_mul]; omega), hyl, show (k + 1) * sz + q - sz = k * sz + q from by rw [Nat.add_mul]; omega]
                    exact ih (fun z hz => hy z (by simp [hz])) k x hx q hq
              exact hall css (fun x hx => (hc x hx).1) i _ (List.getElem?_eq_getElem hci) j hj
            obtain ⟨bk, off, hAA⟩ := Rd.addr (hA ▸ hr : Rd w sz (.slice A css.length c) css.flatten) (by omega)
            have hw1 := Rd.cell (hA ▸ hr : Rd w sz (.slice A css.length c) css.flatten) hAA (hfl.trans h1)
            have hw2 := hcell j hj
            have ha : a = ⟨bk, off, none⟩ := by
              simp only [List.cons.injEq, and_true] at hcs
              rw [hA] at hcs
              injection hcs with h1 _ _
              rw [hAA] at h1
              exact (Option.some.inj h1).symm
            rw [ha, add_plain, add_plain, Nat.add_assoc, hw1, h2] at hw2
            rw [h1, h2]
            exact hw2
          · rw [List.getElem?_eq_none (by omega), List.getElem?_eq_none (by omega)]
        rw [heq]
        exact dec _ cs' _ hlen htr
      · intro n hn'
        rw [hd]
        simp only [DataW.weights, ht]
        exact List.mem_cons.2 (.inr (List.mem_append.2 (.inl (weightsAll_mem (List.mem_map.2 ⟨i, List.mem_range.2 hin, rfl⟩) hn'))))
    refine ⟨css, hr, fun cs hcs => ?_, ?_, A, c, hA⟩
    · obtain ⟨i, hi1, hi2⟩ := List.getElem_of_mem hcs
      obtain ⟨cs2, z, h1, h2, h3⟩ := hat i (by omega)
      rw [List.getElem?_eq_getElem hi1, hi2] at h1
      have := Option.some.inj h1
      subst this
      exact ⟨z, h2, h3⟩
    · refine .inr ⟨_, by rw [hd]; simp only [DataW.weights, ht]; exact List.mem_cons_self .., ?_⟩
      rw [hn]
      exact Nat.mul_le_mul_right _ (by simp)
end
end Go.Q
namespace Go.Q
open Go.ChangeShapes Go.WideShapes Go.ChangeAt Go.RowKit Go.Deep
structure ActM where
  kind : Int
  n : Int
  op : Opm
  rep : ReplyM
  V : Option Addr
  c : Nat
def ActM.cells (x : ActM) : List Value := [i64 x.kind, i64 x.n, i64 x.op.kind, .string (str x.op.frm), .string (str x.op.to), i64 x.op.amount, .string (str x.op.key), i64 x.op.slot, i64 x.op.shard, i64 x.rep.why, i64 x.rep.amount, .slice x.V x.rep.rows.length x.c]
theorem ActM.two (x : ActM) : x.cells.length = 12 := rfl
theorem ActM.one (x : ActM) : oneCells x.cells = true := rfl
structure ActM.In (w : World) (x : ActM) : Prop where
  kind : -9223372036854775808 ≤ x.kind ∧ x.kind ≤ 9223372036854775807
  n : -9223372036854775808 ≤ x.n ∧ x.n ≤ 9223372036854775807
  rows : RdR w (.slice x.V x.rep.rows.length x.c) x.rep.rows
  rlen : x.rep.rows.length * 24 ≤ 140737488351232
section
variable {H : Type} {enc : TypeId × Value → H} {P : Program} {w : World} {base : Nat} {spare : Nat → Bool} {held : Bool}
theorem open_acts {s e i0 i1 to tr r t0 t1 t2 : TypeId} {fs os ps rs : Array Field} {v : Value} {d : DataW H} {pl : List MemPlace} (hs : P.underlying s = some (.slice e)) (he : P.underlying e = some (.struct fs)) (hC : P.cellsOf e = 12)
    (k0 : fieldAt? P fs 0 = some (0, 1, i0)) (k1 : fieldAt? P fs 1 = some (1, 1, i1)) (k2 : fieldAt? P fs 2 = some (2, 7, to)) (k3 : fieldAt? P fs 3 = some (9, 3, tr))
    (u0 : P.underlying i0 = some (.int .i64)) (u1 : P.underlying i1 = some (.int .i64))
    (ho : P.underlying to = some (.struct os)) (oone : oneCellFields P os = true) (oC : P.cellsOf to = os.size) (o7 : os.size = 7)
    (o0 : fieldOf? P os 0 = some (.int .i64)) (o1 : fieldOf? P os 1 = some .string) (o2 : fieldOf? P os 2 = some .string) (o3 : fieldOf? P os 3 = some (.int .i64)) (o4 : fieldOf? P os 4 = some .string) (o5 : fieldOf? P os 5 = some (.int .i64)) (o6 : fieldOf? P os 6 = some (.int .i64))
    (hp : P.underlying tr = some (.struct ps)) (p0 : fieldAt? P ps 0 = some (0, 1, t0)) (p1 : fieldAt? P ps 1 = some (1, 1, t1)) (p2 : fieldAt? P ps 2 = some (2, 1, t2)) (v0 : P.underlying t0 = some (.int .i64)) (v1 : P.underlying t1 = some (.int .i64)) (v2 : P.underlying t2 = some (.slice r))
    (hr : P.underlying r = some (.struct rs)) (hrone : oneCellFields P rs = true) (hrC : P.cellsOf r = rs.size) (hr2 : rs.size = 2) (hrb : P.bytesOf r = 24)
    (j0 : fieldOf? P rs 0 = some .string) (j1 : fieldOf? P rs 1 = some (.int .i64))
    (hv : Value.okWide P w .any 0 s v) (hz : ∀ k ∈ d.weights P s, k ≤ reachBytes) (h : DataW.Trod enc P w base spare held s v d pl) :
    ∃ (l : List ActM) (A : Option Addr) (c : Nat), v = .slice A l.length c ∧ RdT w 12 ActM.cells (.slice A l.length c) l ∧ ∀ x ∈ l, x.In w := by
  obtain ⟨fuel, h⟩ := trod_fuel h (slice_form hs hv)
  obtain ⟨css, hR, hc, _, A, c, hA⟩ := open_rows_w (sz := 12) (fun cs z => (∀ k ∈ z.weights P e, k ≤ reachBytes) → ∃ x : ActM, x.In w ∧ cs = x.cells) hs hC (by decide) h fun m cs y hl htr hz => by
    match cs, hl with
    | [c0, c1, c2, c3, c4, c5, c6, c7, c8, c9, c10, c11], _ =>
      obtain ⟨m0, z0, s0, _⟩ := trod_field he htr k0
      obtain ⟨m1, z1, s1, _⟩ := trod_field he htr k1
      obtain ⟨m3, z3, s3, _⟩ := trod_field he htr k2
      obtain ⟨m4, z4, s4, w4⟩ := trod_field he htr k3
      obtain ⟨n0, e0, _, w0⟩ := DataW.trod_int u0 s0
      obtain ⟨n1, e1, _, w1⟩ := DataW.trod_int u1 s1
      obtain ⟨o, hok, eo⟩ := dec_op ho oone oC o7 o0 o1 o2 o3 o4 o5 o6 (by rw [o7]; rfl) s3
      obtain ⟨p, A, c, hpk, ep, hpR, hpz⟩ := dec_reply hp p0 p1 p2 v0 v1 v2 hr hrone hrC hr2 hrb j0 j1 rfl (fun k hk => hz k (w4 k hk)) s4
      simp only [List.drop_succ_cons, List.drop_zero, List.take_succ_cons, List.take_zero, List.cons.injEq, and_true] at e0 e1 eo ep
      have eo2 : [c2, c3, c4, c5, c6, c7, c8] = o.cells := eo
      have ep2 : [c9, c10, c11] = [i64 p.why, i64 p.amount, .slice A p.rows.length c] := by simpa using ep
      unfold Opm.cells at eo2
      simp only [List.cons.injEq, and_true] at eo2 ep2
      obtain ⟨rfl, rfl, rfl, rfl, rfl, rfl, rfl⟩ := eo2
      obtain ⟨rfl, rfl, rfl⟩ := ep2
      subst e0; subst e1
      exact ⟨⟨n0, n1, o, p, A, c⟩, ⟨wf_i64 w0, wf_i64 w1, hpR, hpz⟩, rfl⟩
  obtain ⟨l, hb, hl2, hg⟩ := flat_models (f := ActM.cells) (Good := fun x => x.In w) (css := css) fun cs hcs => by
    obtain ⟨z, h1, h2⟩ := hc cs hcs
    exact h1 fun k hk => hz k (h2 k hk)
  rw [← hl2] at hA
  subst hA
  exact ⟨l, A, c, rfl, by unfold RdT; rw [← hb]; exact hR, hg⟩
end
/-- The block of a row that comes in is there, unless the row is empty. -/
theorem Rd.blk_lt {w : World} {sz n c : Nat} {A : Option Addr} {xs : List Value} (hsz : 0 < sz) (h : Rd w sz (.slice A n c) xs) (h0 : xs ≠ []) : ∀ i, (Value.slice A n c).ownBlock = some i → i < w.heap.size := by
  obtain ⟨A', n', c', he, hl, hc, hm, hx⟩ := h
  injection he with e1 e2 e3
  subst e1; subst e2; subst e3
  have hn : 0 < n := by
    rcases Nat.eq_zero_or_pos n with q | q
    · exfalso; rw [q, Nat.zero_mul] at hl; exact h0 (List.eq_nil_of_length_eq_zero hl)
    · exact q
  obtain ⟨b, off, rfl, hcell⟩ := hx hn
  intro i hi
  obtain rfl : b = i := by simpa [Value.ownBlock] using hi
  cases xs with
  | nil => exact absurd rfl h0
  | cons u xs =>
    have h1 := hcell 0 u rfl
    rcases Nat.lt_or_ge b w.heap.size with q | q
    · exact q
    · exfalso
      simp [World.cell?, Array.getElem?_eq_none q] at h1
/-! ### two desks side by side -/
/-- Two desks, all that they hold in F. -/
def TwoP (w : World) (F : Nat → Prop) (d a b r a2 b2 : Nat) (ms mr : List DM) : Prop :=
  ∃ FP FR : Nat → Prop, DeskP w FP d a b ms ∧ DeskP w FR r a2 b2 mr ∧ (∀ i, FP i → FR i → False) ∧ (∀ i, FP i → F i) ∧ (∀ i, FR i → F i) ∧ ∀ i, F i → i < w.heap.size
section
variable {w w' : World} {F FP FR : Nat → Prop} {d a b r a2 b2 : Nat} {ms ms' mr mr' : List DM}
theorem TwoP.keep {S : Nat → Prop} (h : TwoP w F d a b r a2 b2 ms mr) (K : Keeps S w w') (hS : ∀ i, F i → ¬ S i) : TwoP w' F d a b r a2 b2 ms mr := by
  obtain ⟨FP, FR, h1, h2, h3, h4, h5, h6⟩ := h
  exact ⟨FP, FR, h1.keep K (fun i hi => hS i (h4 i hi)), h2.keep K (fun i hi => hS i (h5 i hi)), h3, h4, h5, fun i hi => Nat.lt_of_lt_of_le (h6 i hi) K.size⟩
theorem TwoP.lt (h : TwoP w F d a b r a2 b2 ms mr) : ∀ i, F i → i < w.heap.size := by
  obtain ⟨FP, FR, h1, h2, h3, h4, h5, h6⟩ := h
  exact h6
theorem DeskP.new (H : Has w d (rowL [.slice none 0 0] a)) : DeskP w (fun i => i = d) d a b [] :=
  ⟨[], none, 0, none_, rfl, H, OwnT.nil _ _ _ _ _, RowsE.nil _ _ _, fun i hi => hi.elim, fun i hi => (by cases hi), rfl, fun i hi => by have h : i = d := hi; have := H.lt; omega, Nat.zero_le _⟩
theorem TwoP.new (H : Has w d (rowL [.slice none 0 0] a)) (H2 : Has w r (rowL [.slice none 0 0] a2)) (hn : d ≠ r) : TwoP w (fun i => i = d ∨ i = r) d a b r a2 b2 [] [] :=
  ⟨fun i => i = d, fun i => i = r, DeskP.new H, DeskP.new H2, fun i h1 h2 => hn (h1.symm.trans h2), fun i h => .inl h, fun i h => .inr h, fun i h => by have := H.lt; have := H2.lt; rcases h with h | h <;> omega⟩
theorem TwoP.left (h2 : DeskP w FR r a2 b2 mr) (hd : ∀ i, FP i → FR i → False) (hP : ∀ i, FP i → F i) (hR : ∀ i, FR i → F i) (hF : ∀ i, F i → i < w.heap.size) (K : Keeps FP w w') (hD : DeskP w' (fun i => (FP i ∨ w.heap.size ≤ i) ∧ i < w'.heap.size) d a b ms') :
    ∃ F', Keeps F w w' ∧ TwoP w' F' d a b r a2 b2 ms' mr ∧ ∀ i, F' i → F i ∨ w.heap.size ≤ i :=
  ⟨fun i => (F i ∨ w.heap.size ≤ i) ∧ i < w'.heap.size, K.mono (fun i _ h => hP i h), ⟨_, FR, hD, h2.keep K (fun i hi hs => hd i hs hi), fun i h1 h3 => h1.1.elim (fun h => hd i h h3) (fun h => by have := hF i (hR i h3); omega), fun i h => ⟨h.1.imp (hP i) id, h.2⟩, fun i h => ⟨.inl (hR i h), Nat.lt_of_lt_of_le (hF i (hR i h)) K.size⟩, fun i h => h.2⟩, fun i h => h.1⟩
theorem TwoP.right (h1 : DeskP w FP d a b ms) (hd : ∀ i, FP i → FR i → False) (hP : ∀ i, FP i → F i) (hR : ∀ i, FR i → F i) (hF : ∀ i, F i → i < w.heap.size) (K : Keeps FR w w') (hD : DeskP w' (fun i => (FR i ∨ w.heap.size ≤ i) ∧ i < w'.heap.size) r a2 b2 mr') :
    ∃ F', Keeps F w w' ∧ TwoP w' F' d a b r a2 b2 ms mr' ∧ ∀ i, F' i → F i ∨ w.heap.size ≤ i :=
  ⟨fun i => (F i ∨ w.heap.size ≤ i) ∧ i < w'.heap.size, K.mono (fun i _ h => hR i h), ⟨FP, _, h1.keep K (fun i hi hs => hd i hi hs), hD, fun i h3 h1 => h1.1.elim (fun h => hd i h3 h) (fun h => by have := hF i (hP i h3); omega), fun i h => ⟨.inl (hP i h), Nat.lt_of_lt_of_le (hF i (hP i h)) K.size⟩, fun i h => ⟨h.1.imp (hR i) id, h.2⟩, fun i h => h.2⟩, fun i h => h.1⟩
end
/-- The answers' rows are of a size that there is. -/
def MsOk (ms : List DM) : Prop := ∀ m ∈ ms, m.rows.length * 24 ≤ 140737488351232
theorem MsOk.begin {ms : List DM} (h : MsOk ms) (o : Opm) : MsOk (beginM ms o).1 := by
  unfold beginM
  split
  · exact h
  · intro m hm
    rcases List.mem_append.1 hm with q | q
    · exact h m q
    · rw [List.mem_singleton] at q; subst q; show 0 * 24 ≤ _; omega
theorem MsOk.hear {ms : List DM} (h : MsOk ms) (n : Int) {p : ReplyM} (hp : p.rows.length * 24 ≤ 140737488351232) : MsOk (hearM ms n p).1 := by
  unfold hearM
  cases ms[n.toNat]? with
  | none => exact h
  | some x =>
    dsimp only
    split
    · exact h
    · intro m hm
      rcases List.mem_or_eq_of_mem_set hm with q | rfl
      · exact h m q
      · exact hp
theorem RdR.blk_lt {w : World} {n c : Nat} {A : Option Addr} {rs : List RowM} (h : RdR w (.slice A n c) rs) (h0 : rs ≠ []) : ∀ i, (Value.slice A n c).ownBlock = some i → i < w.heap.size :=
  Rd.blk_lt (by decide) h (fun q => h0 (by cases rs with | nil => rfl | cons x l => simp [RowM.cells] at q))
end Go.Q
namespace Go.Proofs.Ytlnidnadpdpciaa
open Go.Q Go.RowKit

theorem BeginP_two (w : World) (F : Nat → Prop) (d r : Nat) (ms mr : List DM) (o : Opm) (h : TwoP w F d 84 79 r 55 87 ms mr) : Calls Try.prog 14 ⟨[ptr d, (agg [(i64 o.kind), (Value.string (str o.frm)), (Value.string (str o.to)), (i64 o.amount), (Value.string (str o.key)), (i64 o.slot), (i64 o.shard)])]⟩ w (fun e w' => ∃ F2, e = .returned (i64 (beginM ms o).2) ∧ Keeps F w w' ∧ TwoP w' F2 d 84 79 r 55 87 ((beginM ms o).1) mr ∧ ∀ i, F2 i → F i ∨ w.heap.size ≤ i) := by
 obtain ⟨FP, FR, hP, hR2, hd, h1, h2, h3⟩ := h
 obtain ⟨l, A, c, T, hl, Hd, hO, hR, hT7, hV7, hFd, hFl, h20⟩ := hP
 subst hl
 rw [List.length_map] at h20
 refine (BeginP_calls w FP d l A c T o Hd hO hR hT7 hV7 hFd hFl h20).mono ?_
 rintro e w' ⟨he, hk, hD⟩
 obtain ⟨F2, k1, k2, k3⟩ := TwoP.left hR2 hd h1 h2 h3 hk hD
 exact ⟨F2, he, k1, k2, k3⟩

theorem HearP_two (w : World) (F : Nat → Prop) (d r : Nat) (ms mr : List DM) (n : Int) (why amount : Int) (V : Option Addr) (rc : Nat) (rs : List RowM) (h : TwoP w F d 84 79 r 55 87 ms mr) (hV : RdR w (.slice V rs.length rc) rs) (hVF : rs ≠ [] → ∀ i, (Value.slice V rs.length rc).ownBlock = some i → ¬ F i) (hz : rs.length * 24 ≤ 140737488351232) : Calls Try.prog 15 ⟨[ptr d, i64 n, (agg [(i64 why), (i64 amount), (Value.slice V rs.length rc)])]⟩ w (fun e w' => ∃ F2, e = .returned (.bool (hearM ms n ⟨why, amount, rs⟩).2) ∧ Keeps F w w' ∧ TwoP w' F2 d 84 79 r 55 87 ((hearM ms n ⟨why, amount, rs⟩).1) mr ∧ ∀ i, F2 i → F i ∨ w.heap.size ≤ i) := by
 obtain ⟨FP, FR, hP, hR2, hd, h1, h2, h3⟩ := h
 obtain ⟨l, A, c, T, hl, Hd, hO, hR, hT7, hV7, hFd, hFl, h20⟩ := hP
 subst hl
 rw [List.length_map] at h20
 have key : Calls Try.prog 15 ⟨[ptr d, i64 n, (agg [(i64 why), (i64 amount), (Value.slice V rs.length rc)])]⟩ w (fun e w' => e = .returned (.bool (hearM (l.map DCall.m) n ⟨why, amount, rs⟩).2) ∧ Keeps FP w w' ∧ DeskP w' (fun i => (FP i ∨ w.heap.size ≤ i) ∧ i < w'.heap.size) d 84 79 ((hearM (l.map DCall.m) n ⟨why, amount, rs⟩).1)) := by
  rcases Int.lt_or_le n 0 with hn | hn
  ·exact HearP_out w FP d l A c T n why amount V rc rs Hd hO hR hT7 hV7 hFd hFl h20 hV (fun hn i hi hf => hVF hn i hi (h1 i hf)) hz (.inl hn)
  ·rcases Nat.lt_or_ge n.toNat l.length with hk | hk
   ·obtain ⟨k, rfl⟩ : ∃ k : Nat, n = k := ⟨n.toNat, by omega⟩
    obtain ⟨x, hx⟩ : ∃ x, l[k]? = some x := ⟨_, List.getElem?_eq_getElem (by omega)⟩
    cases hs : x.is with
    | false => exact HearP_in w FP d l A c T k x why amount V rc rs Hd hO hR hT7 hV7 hFd hFl h20 hV (fun hn i hi hf => hVF hn i hi (h1 i hf)) hz hx hs
    | true => exact HearP_is w FP d l A c T k x why amount V rc rs Hd hO hR hT7 hV7 hFd hFl h20 hV (fun hn i hi hf => hVF hn i hi (h1 i hf)) hz hx hs
   ·exact HearP_out w FP d l A c T n why amount V rc rs Hd hO hR hT7 hV7 hFd hFl h20 hV (fun hn i hi hf => hVF hn i hi (h1 i hf)) hz (.inr (by omega))
 refine key.mono ?_
 rintro e w' ⟨he, hk, hD⟩
 obtain ⟨F2, k1, k2, k3⟩ := TwoP.left hR2 hd h1 h2 h3 hk hD
 exact ⟨F2, he, k1, k2, k3⟩

theorem BeginR_two (w : World) (F : Nat → Prop) (d r : Nat) (ms mr : List DM) (o : Opm) (h : TwoP w F d 84 79 r 55 87 ms mr) : Calls Try.prog 20 ⟨[ptr r, (agg [(i64 o.kind), (Value.string (str o.frm)), (Value.string (str o.to)), (i64 o.amount), (Value.string (str o.key)), (i64 o.slot), (i64 o.shard)])]⟩ w (fun e w' => ∃ F2, e = .returned (i64 (beginM mr o).2) ∧ Keeps F w w' ∧ TwoP w' F2 d 84 79 r 55 87 ms ((beginM mr o).1) ∧ ∀ i, F2 i → F i ∨ w.heap.size ≤ i) := by
 obtain ⟨FP, FR, hP, hR2, hd, h1, h2, h3⟩ := h
 obtain ⟨l, A, c, T, hl, Hd, hO, hR, hT7, hV7, hFd, hFl, h20⟩ := hR2
 subst hl
 rw [List.length_map] at h20
 refine (BeginR_calls w FR r l A c T o Hd hO hR hT7 hV7 hFd hFl h20).mono ?_
 rintro e w' ⟨he, hk, hD⟩
 obtain ⟨F2, k1, k2, k3⟩ := TwoP.right hP hd h1 h2 h3 hk hD
 exact ⟨F2, he, k1, k2, k3⟩

theorem HearR_two (w : World) (F : Nat → Prop) (d r : Nat) (ms mr : List DM) (n : Int) (why amount : Int) (V : Option Addr) (rc : Nat) (rs : List RowM) (h : TwoP w F d 84 79 r 55 87 ms mr) (hV : RdR w (.slice V rs.length rc) rs) (hVF : rs ≠ [] → ∀ i, (Value.slice V rs.length rc).ownBlock = some i → ¬ F i) (hz : rs.length * 24 ≤ 140737488351232) : Calls Try.prog 21 ⟨[ptr r, i64 n, (agg [(i64 why), (i64 amount), (Value.slice V rs.length rc)])]⟩ w (fun e w' => ∃ F2, e = .returned (.bool (hearM mr n ⟨why, amount, rs⟩).2) ∧ Keeps F w w' ∧ TwoP w' F2 d 84 79 r 55 87 ms ((hearM mr n ⟨why, amount, rs⟩).1) ∧ ∀ i, F2 i → F i ∨ w.heap.size ≤ i) := by
 obtain ⟨FP, FR, hP, hR2, hd, h1, h2, h3⟩ := h
 obtain ⟨l, A, c, T, hl, Hd, hO, hR, hT7, hV7, hFd, hFl, h20⟩ := hR2
 subst hl
 rw [List.length_map] at h20
 have key : Calls Try.prog 21 ⟨[ptr r, i64 n, (agg [(i64 why), (i64 amount), (Value.slice V rs.length rc)])]⟩ w (fun e w' => e = .returned (.bool (hearM (l.map DCall.m) n ⟨why, amount, rs⟩).2) ∧ Keeps FR w w' ∧ DeskP w' (fun i => (FR i ∨ w.heap.size ≤ i) ∧ i < w'.heap.size) r 55 87 ((hearM (l.map DCall.m) n ⟨why, amount, rs⟩).1)) := by
  rcases Int.lt_or_le n 0 with hn | hn
  ·exact HearR_out w FR r l A c T n why amount V rc rs Hd hO hR hT7 hV7 hFd hFl h20 hV (fun hn i hi hf => hVF hn i hi (h2 i hf)) hz (.inl hn)
  ·rcases Nat.lt_or_ge n.toNat l.length with hk | hk
   ·obtain ⟨k, rfl⟩ : ∃ k : Nat, n = k := ⟨n.toNat, by omega⟩
    obtain ⟨x, hx⟩ : ∃ x, l[k]? = some x := ⟨_, List.getElem?_eq_getElem (by omega)⟩
    cases hs : x.is with
    | false => exact HearR_in w FR r l A c T k x why amount V rc rs Hd hO hR hT7 hV7 hFd hFl h20 hV (fun hn i hi hf => hVF hn i hi (h2 i hf)) hz hx hs
    | true => exact HearR_is w FR r l A c T k x why amount V rc rs Hd hO hR hT7 hV7 hFd hFl h20 hV (fun hn i hi hf => hVF hn i hi (h2 i hf)) hz hx hs
   ·exact HearR_out w FR r l A c T n why amount V rc rs Hd hO hR hT7 hV7 hFd hFl h20 hV (fun hn i hi hf => hVF hn i hi (h2 i hf)) hz (.inr (by omega))
 refine key.mono ?_
 rintro e w' ⟨he, hk, hD⟩
 obtain ⟨F2, k1, k2, k3⟩ := TwoP.right hP hd h1 h2 h3 hk hD
 exact ⟨F2, he, k1, k2, k3⟩

theorem alike_two (w : World) (F : Nat → Prop) (d r : Nat) (ms : List DM) (n : Int) (h : TwoP w F d 84 79 r 55 87 ms ms) (hz : MsOk ms) : Calls Try.prog 22 ⟨[ptr d, ptr r, i64 n]⟩ w (fun e w' => e = .returned (.bool true) ∧ Keeps none_ w w') := by
 obtain ⟨FP, FR, hP, hR2, hd, h1, h2, h3⟩ := h
 obtain ⟨l, A, c, T, hl, Hd, hO, hR, hT7, hV7, hFd, hFl, h20⟩ := hP
 subst hl
 rw [List.length_map] at h20
 obtain ⟨l2, A2, c2, T2, hl2, Hr, hO2, hR2, _, _, _, _, _⟩ := hR2
 have hz2 : ∀ x ∈ l, x.rows.length * 24 ≤ 140737488351232 := fun x hx => hz x.m (List.mem_map_of_mem hx)
 rcases Int.lt_or_le n 0 with hn | hn
 ·exact alike_out w FP d l A c T r l2 A2 c2 T2 n Hd hO hR hT7 hV7 hFd hFl h20 Hr hO2 hR2 hl2.symm hz2 (.inl hn)
 ·rcases Nat.lt_or_ge n.toNat l.length with hk | hk
  ·obtain ⟨k, rfl⟩ : ∃ k : Nat, n = k := ⟨n.toNat, by omega⟩
   obtain ⟨x, hx⟩ : ∃ x, l[k]? = some x := ⟨_, List.getElem?_eq_getElem (by omega)⟩
   exact alike_in w FP d l A c T r l2 A2 c2 T2 k x Hd hO hR hT7 hV7 hFd hFl h20 Hr hO2 hR2 hl2.symm hz2 hx
  ·exact alike_out w FP d l A c T r l2 A2 c2 T2 n Hd hO hR hT7 hV7 hFd hFl h20 Hr hO2 hR2 hl2.symm hz2 (.inr (by omega))
end Go.Proofs.Ytlnidnadpdpciaa
