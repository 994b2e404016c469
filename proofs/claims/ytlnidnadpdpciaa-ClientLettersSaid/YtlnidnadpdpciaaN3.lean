/- chapter 18: ClientLetters returns true -/
import Derived.Test.YtlnidnadpdpciaaProg
import Derived.Test.YtlnidnadpdpciaaKH
import Derived.Test.YtlnidnadpdpciaaKN
import Derived.Test.YtlnidnadpdpciaaKP
import Derived.Test.YtlnidnadpdpciaaKM
import Derived.Test.YtlnidnadpdpciaaLX
set_option linter.unusedVariables false
namespace Go.Proofs.Ytlnidnadpdpciaa
open Go.Q Go.RowKit

theorem Unpack_calls_any (w : World) (v : Value) (bs : List UInt8) (hv : RdB w v bs) (hbl : bs.length ≤ 140737488351232) : Calls Try.prog 28 ⟨[v]⟩ w (fun e w' => ∃ y er V c D dc, e = .returned (.tuple #[agg (y.cells V c D dc), i64 er]) ∧ Keeps none_ w w' ∧ OwnR w' w.heap.size 59 (.slice V y.rep.rows.length c) y.rep.rows ∧ OwnB w' w.heap.size 5 (.slice D y.body.length dc) y.body ∧ (y, er) = unpackB bs) := by
 obtain ⟨A, c, rfl⟩ := hv.form
 refine (Unpack_calls w A c bs hv hbl).mono ?_
 rintro _ w' ⟨V, c, D, dc, rfl, hk, h1, h2⟩
 exact ⟨_, _, V, c, D, dc, rfl, hk, h1, h2, rfl⟩

theorem RUnpack_calls_any (w : World) (v : Value) (bs : List UInt8) (hv : RdB w v bs) (hbl : bs.length ≤ 140737488351232) : Calls Try.prog 29 ⟨[v]⟩ w (fun e w' => ∃ y er V c D dc, e = .returned (.tuple #[agg (y.cells V c D dc), i64 er]) ∧ Keeps none_ w w' ∧ OwnR w' w.heap.size 59 (.slice V y.rep.rows.length c) y.rep.rows ∧ OwnB w' w.heap.size 5 (.slice D y.body.length dc) y.body ∧ (y, er) = unpackB bs) := by
 obtain ⟨A, c, rfl⟩ := hv.form
 refine (RUnpack_calls w A c bs hv hbl).mono ?_
 rintro _ w' ⟨V, c, D, dc, rfl, hk, h1, h2⟩
 exact ⟨_, _, V, c, D, dc, rfl, hk, h1, h2, rfl⟩

set_option maxHeartbeats 4000000 in
theorem Letters_calls (w : World) (x : LetP) (V : Option Addr) (c : Nat) (D : Option Addr) (dc : Nat) (B : Option Addr) (bc : Nat) (bs : List UInt8) (hok : x.Ok) (hV : RdR w (.slice V x.rep.rows.length c) x.rep.rows) (hD : RdB w (.slice D x.body.length dc) x.body) (hb : RdB w (.slice B bs.length bc) bs) (hrx : x.rep.rows.length * 24 ≤ 140737488351232) (hbx : x.body.length ≤ 140737488351232) (hbl : bs.length ≤ 140737488351232) : Calls Try.prog 6 ⟨[(agg [(i64 x.kind), (i64 x.n), (i64 x.group), (i64 x.op.kind), (Value.string (str x.op.frm)), (Value.string (str x.op.to)), (i64 x.op.amount), (Value.string (str x.op.key)), (i64 x.op.slot), (i64 x.op.shard), (i64 x.rep.why), (i64 x.rep.amount), (Value.slice V x.rep.rows.length c), (Value.slice D x.body.length dc)]), (Value.slice B bs.length bc)]⟩ w (fun e w' => e = .returned (.bool true) ∧ Keeps none_ w w') := by
 have K0 : Keeps none_ w w := Keeps.refl w
 refine q_calls Try.func6 (by kernel_rfl) (by kernel_rfl) ?_
 refine qs ?_
 refine qg ?_
 refine Ops.new (o := rowL [(i64 x.kind), (i64 x.n), (i64 x.group), (i64 x.op.kind), (Value.string (str x.op.frm)), (Value.string (str x.op.to)), (i64 x.op.amount), (Value.string (str x.op.key)), (i64 x.op.slot), (i64 x.op.shard), (i64 x.rep.why), (i64 x.rep.amount), (Value.slice V x.rep.rows.length c), (Value.slice D x.body.length dc)] 30) (V := fun b => (ptr b)) (by kernel_rfl) (d := (some 2)) (by kernel_rfl) (fun b => rfl) (fun b1 w2 hb3 H4 K5 hs6 => ?_)
 have nb1 : w.heap.size ≤ b1 := by have := K0.size; omega
 replace K0 := K0.t0 K5
 clear K5 hs6
 refine og 1 [(1, (Value.slice B bs.length bc)), (2, (ptr b1)), (4, (Value.bool false))] 2 ?_
 refine od ?_
 refine qs ?_
 refine qg ?_
 refine Ops.go (v := (agg [(i64 x.kind), (i64 x.n), (i64 x.group), (i64 x.op.kind), (Value.string (str x.op.frm)), (Value.string (str x.op.to)), (i64 x.op.amount), (Value.string (str x.op.key)), (i64 x.op.slot), (i64 x.op.shard), (i64 x.rep.why), (i64 x.rep.amount), (Value.slice V x.rep.rows.length c), (Value.slice D x.body.length dc)])) (by kernel_rfl) (Runs.load (t := 30) (a := ⟨b1, 0, none⟩) (by kernel_rfl) (H4.loads (by kernel_rfl))) (d := (some 19)) (by kernel_rfl) rfl ?_
 refine Ops.call (by kernel_rfl) (d := (some 20)) (by kernel_rfl) (given_calls _ x V c D dc (Rd.keep0 (by omega) hV K0) (hD.keep0 (by omega) K0) hrx hbx) ?_
 rintro _ w11 ⟨V7, c8, D9, dc10, rfl, K12, hR13, hB14⟩
 have ob17 : ∀ i, ((Value.slice V7 x.rep.rows.length c8)).ownBlock = some i → i ≠ b1 := fun i hi => by have := (World.ownsRow.lt hR13 i hi).1; have := H4.lt; omega
 have ob18 : ∀ i, ((Value.slice D9 x.body.length dc10)).ownBlock = some i → i ≠ b1 := fun i hi => by have := (World.ownsRow.lt hB14 i hi).1; have := H4.lt; omega
 have O15 := own_base hR13 K0.size
 have O16 := own_base hB14 K0.size
 refine ⟨_, _, rfl, rfl, ?_⟩
 replace K0 := K0.t0 K12
 replace H4 := H4.keep K12 (fun h => h)
 clear K12
 refine Ops.new (o := rowL [(i64 0), (i64 0), (i64 0), (i64 0), (Value.string ByteArray.empty), (Value.string ByteArray.empty), (i64 0), (Value.string ByteArray.empty), (i64 0), (i64 0), (i64 0), (i64 0), (Value.slice none 0 0), (Value.slice none 0 0)] 33) (V := fun b => (ptr b)) (by kernel_rfl) (d := (some 5)) (by kernel_rfl) (fun b => rfl) (fun b19 w20 hb21 H22 K23 hs24 => ?_)
 have lb19b1 : b1 < b19 := by have := H4.lt; omega
 have nb19 : w.heap.size ≤ b19 := by have := K0.size; omega
 have ob25 : ∀ i, ((Value.slice V7 x.rep.rows.length c8)).ownBlock = some i → i < b19 := fun i hi => by have := (World.ownsRow.lt O15 i hi).2; omega
 have ob26 : ∀ i, ((Value.slice D9 x.body.length dc10)).ownBlock = some i → i < b19 := fun i hi => by have := (World.ownsRow.lt O16 i hi).2; omega
 replace K0 := K0.t0 K23
 replace H4 := H4.keep K23 (fun h => h)
 replace O15 := own_keep0 O15 K23
 replace O16 := own_keep0 O16 K23
 clear K23 hs24
 refine Ops.put (t := 33) (b := b19) (off := 0) (v := (agg [(i64 x.kind), (i64 x.n), (i64 x.group), (i64 x.op.kind), (Value.string (str x.op.frm)), (Value.string (str x.op.to)), (i64 x.op.amount), (Value.string (str x.op.key)), (i64 x.op.slot), (i64 x.op.shard), (i64 x.rep.why), (i64 x.rep.amount), (Value.slice V7 x.rep.rows.length c8), (Value.slice D9 x.body.length dc10)])) (ys := [(i64 x.kind), (i64 x.n), (i64 x.group), (i64 x.op.kind), (Value.string (str x.op.frm)), (Value.string (str x.op.to)), (i64 x.op.amount), (Value.string (str x.op.key)), (i64 x.op.slot), (i64 x.op.shard), (i64 x.rep.why), (i64 x.rep.amount), (Value.slice V7 x.rep.rows.length c8), (Value.slice D9 x.body.length dc10)]) (by kernel_rfl) (by kernel_rfl) H22 (by kernel_rfl) (d := none) (by kernel_rfl) rfl (fun w27 H28 K29 => ?_)
 clear H22
 replace K0 := K0.trans K29 (U := none_) (fun i h1 h2 => h2) (fun i h1 h2 => by have h2 : i = b19 := h2; exfalso; omega)
 replace H4 := H4.keep K29 (by intro h; change b1 = b19 at h; omega)
 replace O15 := own_keep O15 K29 (fun i hi hs => by have hs : i = b19 := hs; have := ob25 i hi; omega)
 replace O16 := own_keep O16 K29 (fun i hi hs => by have hs : i = b19 := hs; have := ob26 i hi; omega)
 clear K29
 refine od ?_
 refine qs ?_
 refine qg ?_
 refine Ops.go (v := (agg [(i64 x.kind), (i64 x.n), (i64 x.group), (i64 x.op.kind), (Value.string (str x.op.frm)), (Value.string (str x.op.to)), (i64 x.op.amount), (Value.string (str x.op.key)), (i64 x.op.slot), (i64 x.op.shard), (i64 x.rep.why), (i64 x.rep.amount), (Value.slice V7 x.rep.rows.length c8), (Value.slice D9 x.body.length dc10)])) (by kernel_rfl) (Runs.load (t := 33) (a := ⟨b19, 0, none⟩) (by kernel_rfl) (H28.loads (by kernel_rfl))) (d := (some 22)) (by kernel_rfl) rfl ?_
 refine Ops.call (by kernel_rfl) (d := (some 23)) (by kernel_rfl) (Pack_calls _ x V7 c8 D9 dc10 hok (OwnT.rd O15) (OwnB.rd O16)) ?_
 rintro _ w31 ⟨v30, rfl, K32, hO33⟩
 have ob35 : ∀ i, (v30).ownBlock = some i → i ≠ b1 := fun i hi => by have := (World.ownsRow.lt hO33 i hi).1; have := H4.lt; omega
 have ob36 : ∀ i, (v30).ownBlock = some i → i ≠ b19 := fun i hi => by have := (World.ownsRow.lt hO33 i hi).1; have := H28.lt; omega
 have oo37 : ∀ i, ((Value.slice V7 x.rep.rows.length c8)).ownBlock = some i → (v30).ownBlock = some i → False := fun i hi hs => by have := (World.ownsRow.lt hO33 i hs).1; have := (World.ownsRow.lt O15 i hi).2; omega
 have oo38 : ∀ i, (v30).ownBlock = some i → ((Value.slice V7 x.rep.rows.length c8)).ownBlock = some i → False := fun i hi hs => oo37 i hs hi
 have oo39 : ∀ i, ((Value.slice D9 x.body.length dc10)).ownBlock = some i → (v30).ownBlock = some i → False := fun i hi hs => by have := (World.ownsRow.lt hO33 i hs).1; have := (World.ownsRow.lt O16 i hi).2; omega
 have oo40 : ∀ i, (v30).ownBlock = some i → ((Value.slice D9 x.body.length dc10)).ownBlock = some i → False := fun i hi hs => oo39 i hs hi
 have O34 := own_base hO33 K0.size
 refine ⟨_, _, rfl, rfl, ?_⟩
 replace K0 := K0.t0 K32
 replace H4 := H4.keep K32 (fun h => h)
 replace H28 := H28.keep K32 (fun h => h)
 replace O15 := own_keep0 O15 K32
 replace O16 := own_keep0 O16 K32
 clear K32
 refine og 5 [(1, (Value.slice B bs.length bc)), (2, (ptr b1)), (4, (Value.bool false)), (5, (ptr b19)), (6, v30), (7, (i64 ((packB x).2)))] 7 ?_
 refine od ?_
 refine qs ?_
 refine qg ?_
 refine Ops.go (v := (agg [(i64 x.kind), (i64 x.n), (i64 x.group), (i64 x.op.kind), (Value.string (str x.op.frm)), (Value.string (str x.op.to)), (i64 x.op.amount), (Value.string (str x.op.key)), (i64 x.op.slot), (i64 x.op.shard), (i64 x.rep.why), (i64 x.rep.amount), (Value.slice V x.rep.rows.length c), (Value.slice D x.body.length dc)])) (by kernel_rfl) (Runs.load (t := 30) (a := ⟨b1, 0, none⟩) (by kernel_rfl) (H4.loads (by kernel_rfl))) (d := (some 27)) (by kernel_rfl) rfl ?_
 refine Ops.call (by kernel_rfl) (d := (some 28)) (by kernel_rfl) (RPack_calls _ x V c D dc hok (Rd.keep0 (by omega) hV K0) (hD.keep0 (by omega) K0)) ?_
 rintro _ w42 ⟨v41, rfl, K43, hO44⟩
 have ob46 : ∀ i, (v41).ownBlock = some i → i ≠ b1 := fun i hi => by have := (World.ownsRow.lt hO44 i hi).1; have := H4.lt; omega
 have ob47 : ∀ i, (v41).ownBlock = some i → i ≠ b19 := fun i hi => by have := (World.ownsRow.lt hO44 i hi).1; have := H28.lt; omega
 have oo48 : ∀ i, ((Value.slice V7 x.rep.rows.length c8)).ownBlock = some i → (v41).ownBlock = some i → False := fun i hi hs => by have := (World.ownsRow.lt hO44 i hs).1; have := (World.ownsRow.lt O15 i hi).2; omega
 have oo49 : ∀ i, (v41).ownBlock = some i → ((Value.slice V7 x.rep.rows.length c8)).ownBlock = some i → False := fun i hi hs => oo48 i hs hi
 have oo50 : ∀ i, ((Value.slice D9 x.body.length dc10)).ownBlock = some i → (v41).ownBlock = some i → False := fun i hi hs => by have := (World.ownsRow.lt hO44 i hs).1; have := (World.ownsRow.lt O16 i hi).2; omega
 have oo51 : ∀ i, (v41).ownBlock = some i → ((Value.slice D9 x.body.length dc10)).ownBlock = some i → False := fun i hi hs => oo50 i hs hi
 have oo52 : ∀ i, (v30).ownBlock = some i → (v41).ownBlock = some i → False := fun i hi hs => by have := (World.ownsRow.lt hO44 i hs).1; have := (World.ownsRow.lt O34 i hi).2; omega
 have oo53 : ∀ i, (v41).ownBlock = some i → (v30).ownBlock = some i → False := fun i hi hs => oo52 i hs hi
 have O45 := own_base hO44 K0.size
 refine ⟨_, _, rfl, rfl, ?_⟩
 replace K0 := K0.t0 K43
 replace H4 := H4.keep K43 (fun h => h)
 replace H28 := H28.keep K43 (fun h => h)
 replace O15 := own_keep0 O15 K43
 replace O16 := own_keep0 O16 K43
 replace O34 := own_keep0 O34 K43
 clear K43
 refine og 5 [(1, (Value.slice B bs.length bc)), (2, (ptr b1)), (4, (Value.bool false)), (5, (ptr b19)), (6, v30), (7, (i64 ((packB x).2))), (8, v41), (9, (i64 ((packB x).2)))] 7 ?_
 refine od ?_
 refine qs ?_
 refine qs ?_
 refine q_draw (fun wz => Keeps none_ w42 wz) 26 (by kernel_rfl) (by kernel_rfl) (by kernel_rfl) (fun w54 K55 _ _ => ⟨K55, ?_⟩)
 replace K0 := K0.t0 K55
 replace H4 := H4.keep K55 (fun h => h)
 replace H28 := H28.keep K55 (fun h => h)
 replace O15 := own_keep0 O15 K55
 replace O16 := own_keep0 O16 K55
 replace O34 := own_keep0 O34 K55
 replace O45 := own_keep0 O45 K55
 refine Dr.strong (S' := (fun wz => Keeps none_ w54 wz)) (Keeps.refl w54) (fun wz hx => K55.trans hx (fun i _ h => h) (fun _ _ h => h)) ?_
 clear K55
 refine Dr.takes (fuel' := 25) (is' := [0]) [0] [(1, (Value.slice B bs.length bc)), (2, (ptr b1)), (4, (Value.bool false)), (5, (ptr b19)), (6, v30), (7, (i64 ((packB x).2))), (8, v41), (9, (i64 ((packB x).2))), (31, v30)] (by kernel_rfl) rfl (by kernel_rfl) ?_
 refine Dr.take (i := 1) (v := (Value.string (str ((packB x).1)))) (by kernel_rfl) (by kernel_rfl) (fun wz hS => Runs.b2s (s := 28) (d := 9) (e := 5) (by kernel_rfl) (by kernel_rfl) (by kernel_rfl) (Rd.keep0 (by omega) (OwnB.rd O34) hS)) (d := (some 32)) (by kernel_rfl) rfl ?_
 refine Dr.takes (fuel' := 23) (is' := [2, 1, 0]) [2] [(1, (Value.slice B bs.length bc)), (2, (ptr b1)), (4, (Value.bool false)), (5, (ptr b19)), (6, v30), (7, (i64 ((packB x).2))), (9, (i64 ((packB x).2))), (32, (Value.string (str ((packB x).1)))), (33, v41)] (by kernel_rfl) rfl (by kernel_rfl) ?_
 refine Dr.take (i := 3) (v := (Value.string (str ((packB x).1)))) (by kernel_rfl) (by kernel_rfl) (fun wz hS => Runs.b2s (s := 28) (d := 9) (e := 5) (by kernel_rfl) (by kernel_rfl) (by kernel_rfl) (Rd.keep0 (by omega) (OwnB.rd O45) hS)) (d := (some 34)) (by kernel_rfl) rfl ?_
 refine Dr.take (i := 4) (v := (Value.bool (!(((packB x).1) == ((packB x).1))))) (by kernel_rfl) (by kernel_rfl) (fun wz hS => Runs.strne (t := 9) (by kernel_rfl)) (d := (some 35)) (by kernel_rfl) rfl ?_
 refine Dr.takes (fuel' := 20) (is' := [5, 4, 3, 2, 1, 0]) [5] [(1, (Value.slice B bs.length bc)), (2, (ptr b1)), (4, (Value.bool false)), (5, (ptr b19)), (6, v30), (7, (i64 ((packB x).2))), (9, (i64 ((packB x).2))), (36, (Value.bool (!(((packB x).1) == ((packB x).1)))))] (by kernel_rfl) rfl (by kernel_rfl) ?_
 have h56 : (!(((packB x).1) == ((packB x).1))) = false := by simp
 rw [h56]
 refine Dr.takes (fuel' := 15) (is' := [10, 9, 8, 7, 6, 5, 4, 3, 2, 1, 0]) [6, 7, 8, 9, 10] [(1, (Value.slice B bs.length bc)), (2, (ptr b1)), (4, (Value.bool false)), (5, (ptr b19)), (6, v30), (7, (i64 ((packB x).2))), (41, (Value.bool (((packB x).2) != ((packB x).2))))] (by kernel_rfl) rfl (by kernel_rfl) ?_
 have h57 : (((packB x).2) != ((packB x).2)) = false := by simp
 rw [h57]
 refine Dr.take (i := 11) (v := (agg [(i64 x.kind), (i64 x.n), (i64 x.group), (i64 x.op.kind), (Value.string (str x.op.frm)), (Value.string (str x.op.to)), (i64 x.op.amount), (Value.string (str x.op.key)), (i64 x.op.slot), (i64 x.op.shard), (i64 x.rep.why), (i64 x.rep.amount), (Value.slice V7 x.rep.rows.length c8), (Value.slice D9 x.body.length dc10)])) (by kernel_rfl) (by kernel_rfl) (fun wz hS => Runs.load (t := 33) (a := ⟨b19, 0, none⟩) (by kernel_rfl) ((H28.keep hS (fun h => h)).loads (by kernel_rfl))) (d := (some 42)) (by kernel_rfl) rfl ?_
 refine Dr.take (i := 13) (v := (agg [(i64 x.kind), (i64 x.n), (i64 x.group), (i64 x.op.kind), (Value.string (str x.op.frm)), (Value.string (str x.op.to)), (i64 x.op.amount), (Value.string (str x.op.key)), (i64 x.op.slot), (i64 x.op.shard), (i64 x.rep.why), (i64 x.rep.amount), (Value.slice V x.rep.rows.length c), (Value.slice D x.body.length dc)])) (by kernel_rfl) (by kernel_rfl) (fun wz hS => Runs.load (t := 30) (a := ⟨b1, 0, none⟩) (by kernel_rfl) ((H4.keep hS (fun h => h)).loads (by kernel_rfl))) (d := (some 44)) (by kernel_rfl) rfl ?_
 refine Dr.call (i := 12) (by kernel_rfl) (by kernel_rfl) (d := (some 43)) (by kernel_rfl) (fun _ => taken_calls _ x V7 c8 D9 dc10) ?_
 rintro _ w59 ⟨rfl, K58⟩
 replace K0 := K0.t0 K58
 replace H4 := H4.keep K58 (fun h => h)
 replace H28 := H28.keep K58 (fun h => h)
 replace O15 := own_keep0 O15 K58
 replace O16 := own_keep0 O16 K58
 replace O34 := own_keep0 O34 K58
 replace O45 := own_keep0 O45 K58
 refine ⟨_, _, rfl, rfl, K58, ?_⟩
 refine Dr.strong (S' := (fun wz => Keeps none_ w59 wz)) (Keeps.refl w59) (fun wz hx => K58.trans hx (fun i _ h => h) (fun _ _ h => h)) ?_
 clear K58
 refine Dr.call (i := 14) (by kernel_rfl) (by kernel_rfl) (d := (some 45)) (by kernel_rfl) (fun _ => Same_calls _ x V7 c8 D9 dc10 x V c D dc (OwnT.rd O15) (OwnB.rd O16) (Rd.keep0 (by omega) hV K0) (hD.keep0 (by omega) K0)) ?_
 rintro _ w63 ⟨t60, rfl, ht61, K62⟩
 replace K0 := K0.t0 K62
 replace H4 := H4.keep K62 (fun h => h)
 replace H28 := H28.keep K62 (fun h => h)
 replace O15 := own_keep0 O15 K62
 replace O16 := own_keep0 O16 K62
 replace O34 := own_keep0 O34 K62
 replace O45 := own_keep0 O45 K62
 refine ⟨_, _, rfl, rfl, K62, ?_⟩
 refine Dr.strong (S' := (fun wz => Keeps none_ w63 wz)) (Keeps.refl w63) (fun wz hx => K62.trans hx (fun i _ h => h) (fun _ _ h => h)) ?_
 clear K62
 refine Dr.takes (fuel' := 8) (is' := [17, 16, 15, 14, 12, 13, 11, 10, 9, 8, 7, 6, 5, 4, 3, 2, 1, 0]) [15, 16, 17] [(1, (Value.slice B bs.length bc)), (2, (ptr b1)), (4, (Value.bool false)), (6, v30), (7, (i64 ((packB x).2))), (48, (Value.bool (!t60)))] (by kernel_rfl) rfl (by kernel_rfl) ?_
 have h64 : (!t60) = false := by rw [show t60 = true from ht61.2 rfl]; rfl
 rw [h64]
 refine Dr.takes (fuel' := 7) (is' := [18, 17, 16, 15, 14, 12, 13, 11, 10, 9, 8, 7, 6, 5, 4, 3, 2, 1, 0]) [18] [(1, (Value.slice B bs.length bc)), (2, (ptr b1)), (4, (Value.bool false)), (6, v30), (7, (i64 ((packB x).2))), (48, (Value.bool false)), (49, (Value.pointer (some ⟨b1, 3, none⟩)))] (by kernel_rfl) rfl (by kernel_rfl) ?_
 refine Dr.take (i := 19) (v := (agg [(i64 x.op.kind), (Value.string (str x.op.frm)), (Value.string (str x.op.to)), (i64 x.op.amount), (Value.string (str x.op.key)), (i64 x.op.slot), (i64 x.op.shard)])) (by kernel_rfl) (by kernel_rfl) (fun wz hS => Runs.load (t := 23) (a := ⟨b1, 3, none⟩) (by kernel_rfl) ((H4.keep hS (fun h => h)).loads (by kernel_rfl))) (d := (some 50)) (by kernel_rfl) rfl ?_
 refine Dr.takes (fuel' := 5) (is' := [21, 19, 18, 17, 16, 15, 14, 12, 13, 11, 10, 9, 8, 7, 6, 5, 4, 3, 2, 1, 0]) [21] [(1, (Value.slice B bs.length bc)), (2, (ptr b1)), (4, (Value.bool false)), (6, v30), (7, (i64 ((packB x).2))), (48, (Value.bool false)), (50, (agg [(i64 x.op.kind), (Value.string (str x.op.frm)), (Value.string (str x.op.to)), (i64 x.op.amount), (Value.string (str x.op.key)), (i64 x.op.slot), (i64 x.op.shard)])), (52, (Value.pointer (some ⟨b1, 3, none⟩)))] (by kernel_rfl) rfl (by kernel_rfl) ?_
 refine Dr.take (i := 22) (v := (agg [(i64 x.op.kind), (Value.string (str x.op.frm)), (Value.string (str x.op.to)), (i64 x.op.amount), (Value.string (str x.op.key)), (i64 x.op.slot), (i64 x.op.shard)])) (by kernel_rfl) (by kernel_rfl) (fun wz hS => Runs.load (t := 23) (a := ⟨b1, 3, none⟩) (by kernel_rfl) ((H4.keep hS (fun h => h)).loads (by kernel_rfl))) (d := (some 53)) (by kernel_rfl) rfl ?_
 refine Dr.call (i := 20) (by kernel_rfl) (by kernel_rfl) (d := (some 51)) (by kernel_rfl) (fun _ => Group_calls _ x.op) ?_
 rintro _ w66 ⟨rfl, K65⟩
 replace K0 := K0.t0 K65
 replace H4 := H4.keep K65 (fun h => h)
 replace H28 := H28.keep K65 (fun h => h)
 replace O15 := own_keep0 O15 K65
 replace O16 := own_keep0 O16 K65
 replace O34 := own_keep0 O34 K65
 replace O45 := own_keep0 O45 K65
 refine ⟨_, _, rfl, rfl, K65, ?_⟩
 refine Dr.strong (S' := (fun wz => Keeps none_ w66 wz)) (Keeps.refl w66) (fun wz hx => K65.trans hx (fun i _ h => h) (fun _ _ h => h)) ?_
 clear K65
 refine Dr.call (i := 23) (by kernel_rfl) (by kernel_rfl) (d := (some 54)) (by kernel_rfl) (fun _ => LGroup_calls _ x.op) ?_
 rintro _ w68 ⟨rfl, K67⟩
 replace K0 := K0.t0 K67
 replace H4 := H4.keep K67 (fun h => h)
 replace H28 := H28.keep K67 (fun h => h)
 replace O15 := own_keep0 O15 K67
 replace O16 := own_keep0 O16 K67
 replace O34 := own_keep0 O34 K67
 replace O45 := own_keep0 O45 K67
 refine ⟨_, _, rfl, rfl, K67, ?_⟩
 refine Dr.strong (S' := (fun wz => Keeps none_ w68 wz)) (Keeps.refl w68) (fun wz hx => K67.trans hx (fun i _ h => h) (fun _ _ h => h)) ?_
 clear K67
 refine Dr.takes (fuel' := 0) (is' := [25, 24, 23, 20, 22, 21, 19, 18, 17, 16, 15, 14, 12, 13, 11, 10, 9, 8, 7, 6, 5, 4, 3, 2, 1, 0]) [24, 25] [(1, (Value.slice B bs.length bc)), (2, (ptr b1)), (4, (Value.bool false)), (6, v30), (7, (i64 ((packB x).2))), (56, (Value.bool ((groupI x.op.kind) != (groupI x.op.kind))))] (by kernel_rfl) rfl (by kernel_rfl) ?_
 refine Dr.done (by kernel_rfl) ?_
 have h69 : ((groupI x.op.kind) != (groupI x.op.kind)) = false := by simp
 rw [h69]
 refine q_else (o := .tmp 56) (by kernel_rfl) rfl ?_
 refine q_skip (by kernel_rfl) ?_
 refine qs ?_
 refine qg ?_
 refine og 1 [(1, (Value.slice B bs.length bc)), (2, (ptr b1)), (4, (Value.bool false)), (6, v30), (7, (i64 ((packB x).2))), (57, (Value.slice B bs.length bc))] 1 ?_
 refine Ops.call (by kernel_rfl) (d := (some 58)) (by kernel_rfl) (Lent_calls _ B bc bs (hb.keep0 (by omega) K0) (by omega)) ?_
 rintro _ w72 ⟨A70, c71, rfl, K73, hO74⟩
 have O76 := OwnB.cut hO74 (by simp)
 have ob77 : ∀ i, ((Value.slice A70 bs.length c71)).ownBlock = some i → i ≠ b1 := fun i hi => by have := (World.ownsRow.lt O76 i hi).1; have := H4.lt; omega
 have ob78 : ∀ i, ((Value.slice A70 bs.length c71)).ownBlock = some i → i ≠ b19 := fun i hi => by have := (World.ownsRow.lt O76 i hi).1; have := H28.lt; omega
 have oo79 : ∀ i, ((Value.slice V7 x.rep.rows.length c8)).ownBlock = some i → ((Value.slice A70 bs.length c71)).ownBlock = some i → False := fun i hi hs => by have := (World.ownsRow.lt O76 i hs).1; have := (World.ownsRow.lt O15 i hi).2; omega
 have oo80 : ∀ i, ((Value.slice A70 bs.length c71)).ownBlock = some i → ((Value.slice V7 x.rep.rows.length c8)).ownBlock = some i → False := fun i hi hs => oo79 i hs hi
 have oo81 : ∀ i, ((Value.slice D9 x.body.length dc10)).ownBlock = some i → ((Value.slice A70 bs.length c71)).ownBlock = some i → False := fun i hi hs => by have := (World.ownsRow.lt O76 i hs).1; have := (World.ownsRow.lt O16 i hi).2; omega
 have oo82 : ∀ i, ((Value.slice A70 bs.length c71)).ownBlock = some i → ((Value.slice D9 x.body.length dc10)).ownBlock = some i → False := fun i hi hs => oo81 i hs hi
 have oo83 : ∀ i, (v30).ownBlock = some i → ((Value.slice A70 bs.length c71)).ownBlock = some i → False := fun i hi hs => by have := (World.ownsRow.lt O76 i hs).1; have := (World.ownsRow.lt O34 i hi).2; omega
 have oo84 : ∀ i, ((Value.slice A70 bs.length c71)).ownBlock = some i → (v30).ownBlock = some i → False := fun i hi hs => oo83 i hs hi
 have oo85 : ∀ i, (v41).ownBlock = some i → ((Value.slice A70 bs.length c71)).ownBlock = some i → False := fun i hi hs => by have := (World.ownsRow.lt O76 i hs).1; have := (World.ownsRow.lt O45 i hi).2; omega
 have oo86 : ∀ i, ((Value.slice A70 bs.length c71)).ownBlock = some i → (v41).ownBlock = some i → False := fun i hi hs => oo85 i hs hi
 have ob87 : ∀ i, ((Value.slice A70 ((bs ++ [byte 167]).length) c71)).ownBlock = some i → i ≠ b1 := fun i hi => by have := (World.ownsRow.lt hO74 i hi).1; have := H4.lt; omega
 have ob88 : ∀ i, ((Value.slice A70 ((bs ++ [byte 167]).length) c71)).ownBlock = some i → i ≠ b19 := fun i hi => by have := (World.ownsRow.lt hO74 i hi).1; have := H28.lt; omega
 have oo89 : ∀ i, ((Value.slice V7 x.rep.rows.length c8)).ownBlock = some i → ((Value.slice A70 ((bs ++ [byte 167]).length) c71)).ownBlock = some i → False := fun i hi hs => by have := (World.ownsRow.lt hO74 i hs).1; have := (World.ownsRow.lt O15 i hi).2; omega
 have oo90 : ∀ i, ((Value.slice A70 ((bs ++ [byte 167]).length) c71)).ownBlock = some i → ((Value.slice V7 x.rep.rows.length c8)).ownBlock = some i → False := fun i hi hs => oo89 i hs hi
 have oo91 : ∀ i, ((Value.slice D9 x.body.length dc10)).ownBlock = some i → ((Value.slice A70 ((bs ++ [byte 167]).length) c71)).ownBlock = some i → False := fun i hi hs => by have := (World.ownsRow.lt hO74 i hs).1; have := (World.ownsRow.lt O16 i hi).2; omega
 have oo92 : ∀ i, ((Value.slice A70 ((bs ++ [byte 167]).length) c71)).ownBlock = some i → ((Value.slice D9 x.body.length dc10)).ownBlock = some i → False := fun i hi hs => oo91 i hs hi
 have oo93 : ∀ i, (v30).ownBlock = some i → ((Value.slice A70 ((bs ++ [byte 167]).length) c71)).ownBlock = some i → False := fun i hi hs => by have := (World.ownsRow.lt hO74 i hs).1; have := (World.ownsRow.lt O34 i hi).2; omega
 have oo94 : ∀ i, ((Value.slice A70 ((bs ++ [byte 167]).length) c71)).ownBlock = some i → (v30).ownBlock = some i → False := fun i hi hs => oo93 i hs hi
 have oo95 : ∀ i, (v41).ownBlock = some i → ((Value.slice A70 ((bs ++ [byte 167]).length) c71)).ownBlock = some i → False := fun i hi hs => by have := (World.ownsRow.lt hO74 i hs).1; have := (World.ownsRow.lt O45 i hi).2; omega
 have oo96 : ∀ i, ((Value.slice A70 ((bs ++ [byte 167]).length) c71)).ownBlock = some i → (v41).ownBlock = some i → False := fun i hi hs => oo95 i hs hi
 have O75 := own_base O76 K0.size
 clear O76
 have O97 := own_base hO74 K0.size
 clear hO74
 refine ⟨_, _, rfl, rfl, ?_⟩
 replace K0 := K0.t0 K73
 replace H4 := H4.keep K73 (fun h => h)
 replace H28 := H28.keep K73 (fun h => h)
 replace O15 := own_keep0 O15 K73
 replace O16 := own_keep0 O16 K73
 replace O34 := own_keep0 O34 K73
 replace O45 := own_keep0 O45 K73
 clear K73
 refine og 1 [(1, (Value.slice B bs.length bc)), (2, (ptr b1)), (4, (Value.bool false)), (6, v30), (7, (i64 ((packB x).2))), (10, (Value.slice A70 bs.length c71))] 3 ?_
 refine od ?_
 refine qs ?_
 refine qg ?_
 refine og 1 [(1, (Value.slice B bs.length bc)), (2, (ptr b1)), (4, (Value.bool false)), (6, v30), (7, (i64 ((packB x).2))), (10, (Value.slice A70 bs.length c71)), (60, (Value.slice A70 bs.length c71))] 1 ?_
 refine Ops.call (by kernel_rfl) (d := (some 61)) (by kernel_rfl) (Unpack_calls_any _ (Value.slice A70 bs.length c71) bs (OwnB.rd O75) (by omega)) ?_
 rintro _ w104 ⟨y98, er99, V100, c101, D102, dc103, rfl, K105, hR106, hB107, hu108⟩
 have ob111 : ∀ i, ((Value.slice V100 y98.rep.rows.length c101)).ownBlock = some i → i ≠ b1 := fun i hi => by have := (World.ownsRow.lt hR106 i hi).1; have := H4.lt; omega
 have ob112 : ∀ i, ((Value.slice V100 y98.rep.rows.length c101)).ownBlock = some i → i ≠ b19 := fun i hi => by have := (World.ownsRow.lt hR106 i hi).1; have := H28.lt; omega
 have oo113 : ∀ i, ((Value.slice V7 x.rep.rows.length c8)).ownBlock = some i → ((Value.slice V100 y98.rep.rows.length c101)).ownBlock = some i → False := fun i hi hs => by have := (World.ownsRow.lt hR106 i hs).1; have := (World.ownsRow.lt O15 i hi).2; omega
 have oo114 : ∀ i, ((Value.slice V100 y98.rep.rows.length c101)).ownBlock = some i → ((Value.slice V7 x.rep.rows.length c8)).ownBlock = some i → False := fun i hi hs => oo113 i hs hi
 have oo115 : ∀ i, ((Value.slice D9 x.body.length dc10)).ownBlock = some i → ((Value.slice V100 y98.rep.rows.length c101)).ownBlock = some i → False := fun i hi hs => by have := (World.ownsRow.lt hR106 i hs).1; have := (World.ownsRow.lt O16 i hi).2; omega
 have oo116 : ∀ i, ((Value.slice V100 y98.rep.rows.length c101)).ownBlock = some i → ((Value.slice D9 x.body.length dc10)).ownBlock = some i → False := fun i hi hs => oo115 i hs hi
 have oo117 : ∀ i, (v30).ownBlock = some i → ((Value.slice V100 y98.rep.rows.length c101)).ownBlock = some i → False := fun i hi hs => by have := (World.ownsRow.lt hR106 i hs).1; have := (World.ownsRow.lt O34 i hi).2; omega
 have oo118 : ∀ i, ((Value.slice V100 y98.rep.rows.length c101)).ownBlock = some i → (v30).ownBlock = some i → False := fun i hi hs => oo117 i hs hi
 have oo119 : ∀ i, (v41).ownBlock = some i → ((Value.slice V100 y98.rep.rows.length c101)).ownBlock = some i → False := fun i hi hs => by have := (World.ownsRow.lt hR106 i hs).1; have := (World.ownsRow.lt O45 i hi).2; omega
 have oo120 : ∀ i, ((Value.slice V100 y98.rep.rows.length c101)).ownBlock = some i → (v41).ownBlock = some i → False := fun i hi hs => oo119 i hs hi
 have oo121 : ∀ i, ((Value.slice A70 bs.length c71)).ownBlock = some i → ((Value.slice V100 y98.rep.rows.length c101)).ownBlock = some i → False := fun i hi hs => by have := (World.ownsRow.lt hR106 i hs).1; have := (World.ownsRow.lt O75 i hi).2; omega
 have oo122 : ∀ i, ((Value.slice V100 y98.rep.rows.length c101)).ownBlock = some i → ((Value.slice A70 bs.length c71)).ownBlock = some i → False := fun i hi hs => oo121 i hs hi
 have oo123 : ∀ i, ((Value.slice A70 ((bs ++ [byte 167]).length) c71)).ownBlock = some i → ((Value.slice V100 y98.rep.rows.length c101)).ownBlock = some i → False := fun i hi hs => by have := (World.ownsRow.lt hR106 i hs).1; have := (World.ownsRow.lt O97 i hi).2; omega
 have oo124 : ∀ i, ((Value.slice V100 y98.rep.rows.length c101)).ownBlock = some i → ((Value.slice A70 ((bs ++ [byte 167]).length) c71)).ownBlock = some i → False := fun i hi hs => oo123 i hs hi
 have ob125 : ∀ i, ((Value.slice D102 y98.body.length dc103)).ownBlock = some i → i ≠ b1 := fun i hi => by have := (World.ownsRow.lt hB107 i hi).1; have := H4.lt; omega
 have ob126 : ∀ i, ((Value.slice D102 y98.body.length dc103)).ownBlock = some i → i ≠ b19 := fun i hi => by have := (World.ownsRow.lt hB107 i hi).1; have := H28.lt; omega
 have oo127 : ∀ i, ((Value.slice V7 x.rep.rows.length c8)).ownBlock = some i → ((Value.slice D102 y98.body.length dc103)).ownBlock = some i → False := fun i hi hs => by have := (World.ownsRow.lt hB107 i hs).1; have := (World.ownsRow.lt O15 i hi).2; omega
 have oo128 : ∀ i, ((Value.slice D102 y98.body.length dc103)).ownBlock = some i → ((Value.slice V7 x.rep.rows.length c8)).ownBlock = some i → False := fun i hi hs => oo127 i hs hi
 have oo129 : ∀ i, ((Value.slice D9 x.body.length dc10)).ownBlock = some i → ((Value.slice D102 y98.body.length dc103)).ownBlock = some i → False := fun i hi hs => by have := (World.ownsRow.lt hB107 i hs).1; have := (World.ownsRow.lt O16 i hi).2; omega
 have oo130 : ∀ i, ((Value.slice D102 y98.body.length dc103)).ownBlock = some i → ((Value.slice D9 x.body.length dc10)).ownBlock = some i → False := fun i hi hs => oo129 i hs hi
 have oo131 : ∀ i, (v30).ownBlock = some i → ((Value.slice D102 y98.body.length dc103)).ownBlock = some i → False := fun i hi hs => by have := (World.ownsRow.lt hB107 i hs).1; have := (World.ownsRow.lt O34 i hi).2; omega
 have oo132 : ∀ i, ((Value.slice D102 y98.body.length dc103)).ownBlock = some i → (v30).ownBlock = some i → False := fun i hi hs => oo131 i hs hi
 have oo133 : ∀ i, (v41).ownBlock = some i → ((Value.slice D102 y98.body.length dc103)).ownBlock = some i → False := fun i hi hs => by have := (World.ownsRow.lt hB107 i hs).1; have := (World.ownsRow.lt O45 i hi).2; omega
 have oo134 : ∀ i, ((Value.slice D102 y98.body.length dc103)).ownBlock = some i → (v41).ownBlock = some i → False := fun i hi hs => oo133 i hs hi
 have oo135 : ∀ i, ((Value.slice A70 bs.length c71)).ownBlock = some i → ((Value.slice D102 y98.body.length dc103)).ownBlock = some i → False := fun i hi hs => by have := (World.ownsRow.lt hB107 i hs).1; have := (World.ownsRow.lt O75 i hi).2; omega
 have oo136 : ∀ i, ((Value.slice D102 y98.body.length dc103)).ownBlock = some i → ((Value.slice A70 bs.length c71)).ownBlock = some i → False := fun i hi hs => oo135 i hs hi
 have oo137 : ∀ i, ((Value.slice A70 ((bs ++ [byte 167]).length) c71)).ownBlock = some i → ((Value.slice D102 y98.body.length dc103)).ownBlock = some i → False := fun i hi hs => by have := (World.ownsRow.lt hB107 i hs).1; have := (World.ownsRow.lt O97 i hi).2; omega
 have oo138 : ∀ i, ((Value.slice D102 y98.body.length dc103)).ownBlock = some i → ((Value.slice A70 ((bs ++ [byte 167]).length) c71)).ownBlock = some i → False := fun i hi hs => oo137 i hs hi
 have hoky139 : y98.Ok := by have q := unpack_Ok (bs := bs); rw [← hu108] at q; exact q
 have O109 := own_base hR106 K0.size
 have O110 := own_base hB107 K0.size
 refine ⟨_, _, rfl, rfl, ?_⟩
 replace K0 := K0.t0 K105
 replace H4 := H4.keep K105 (fun h => h)
 replace H28 := H28.keep K105 (fun h => h)
 replace O15 := own_keep0 O15 K105
 replace O16 := own_keep0 O16 K105
 replace O34 := own_keep0 O34 K105
 replace O45 := own_keep0 O45 K105
 replace O75 := own_keep0 O75 K105
 replace O97 := own_keep0 O97 K105
 clear K105
 refine og 3 [(1, (Value.slice B bs.length bc)), (2, (ptr b1)), (4, (Value.bool false)), (6, v30), (7, (i64 ((packB x).2))), (10, (Value.slice A70 bs.length c71)), (62, (agg [(i64 y98.kind), (i64 y98.n), (i64 y98.group), (i64 y98.op.kind), (Value.string (str y98.op.frm)), (Value.string (str y98.op.to)), (i64 y98.op.amount), (Value.string (str y98.op.key)), (i64 y98.op.slot), (i64 y98.op.shard), (i64 y98.rep.why), (i64 y98.rep.amount), (Value.slice V100 y98.rep.rows.length c101), (Value.slice D102 y98.body.length dc103)])), (63, (i64 er99))] 5 ?_
 refine Ops.new (o := rowL [(i64 0), (i64 0), (i64 0), (i64 0), (Value.string ByteArray.empty), (Value.string ByteArray.empty), (i64 0), (Value.string ByteArray.empty), (i64 0), (i64 0), (i64 0), (i64 0), (Value.slice none 0 0), (Value.slice none 0 0)] 33) (V := fun b => (ptr b)) (by kernel_rfl) (d := (some 11)) (by kernel_rfl) (fun b => rfl) (fun b140 w141 hb142 H143 K144 hs145 => ?_)
 have lb140b1 : b1 < b140 := by have := H4.lt; omega
 have lb140b19 : b19 < b140 := by have := H28.lt; omega
 have nb140 : w.heap.size ≤ b140 := by have := K0.size; omega
 have ob146 : ∀ i, ((Value.slice V7 x.rep.rows.length c8)).ownBlock = some i → i < b140 := fun i hi => by have := (World.ownsRow.lt O15 i hi).2; omega
 have ob147 : ∀ i, ((Value.slice D9 x.body.length dc10)).ownBlock = some i → i < b140 := fun i hi => by have := (World.ownsRow.lt O16 i hi).2; omega
 have ob148 : ∀ i, (v30).ownBlock = some i → i < b140 := fun i hi => by have := (World.ownsRow.lt O34 i hi).2; omega
 have ob149 : ∀ i, (v41).ownBlock = some i → i < b140 := fun i hi => by have := (World.ownsRow.lt O45 i hi).2; omega
 have ob150 : ∀ i, ((Value.slice A70 bs.length c71)).ownBlock = some i → i < b140 := fun i hi => by have := (World.ownsRow.lt O75 i hi).2; omega
 have ob151 : ∀ i, ((Value.slice A70 ((bs ++ [byte 167]).length) c71)).ownBlock = some i → i < b140 := fun i hi => by have := (World.ownsRow.lt O97 i hi).2; omega
 have ob152 : ∀ i, ((Value.slice V100 y98.rep.rows.length c101)).ownBlock = some i → i < b140 := fun i hi => by have := (World.ownsRow.lt O109 i hi).2; omega
 have ob153 : ∀ i, ((Value.slice D102 y98.body.length dc103)).ownBlock = some i → i < b140 := fun i hi => by have := (World.ownsRow.lt O110 i hi).2; omega
 replace K0 := K0.t0 K144
 replace H4 := H4.keep K144 (fun h => h)
 replace H28 := H28.keep K144 (fun h => h)
 replace O15 := own_keep0 O15 K144
 replace O16 := own_keep0 O16 K144
 replace O34 := own_keep0 O34 K144
 replace O45 := own_keep0 O45 K144
 replace O75 := own_keep0 O75 K144
 replace O97 := own_keep0 O97 K144
 replace O109 := own_keep0 O109 K144
 replace O110 := own_keep0 O110 K144
 clear K144 hs145
 refine Ops.put (t := 33) (b := b140) (off := 0) (v := (agg [(i64 y98.kind), (i64 y98.n), (i64 y98.group), (i64 y98.op.kind), (Value.string (str y98.op.frm)), (Value.string (str y98.op.to)), (i64 y98.op.amount), (Value.string (str y98.op.key)), (i64 y98.op.slot), (i64 y98.op.shard), (i64 y98.rep.why), (i64 y98.rep.amount), (Value.slice V100 y98.rep.rows.length c101), (Value.slice D102 y98.body.length dc103)])) (ys := [(i64 y98.kind), (i64 y98.n), (i64 y98.group), (i64 y98.op.kind), (Value.string (str y98.op.frm)), (Value.string (str y98.op.to)), (i64 y98.op.amount), (Value.string (str y98.op.key)), (i64 y98.op.slot), (i64 y98.op.shard), (i64 y98.rep.why), (i64 y98.rep.amount), (Value.slice V100 y98.rep.rows.length c101), (Value.slice D102 y98.body.length dc103)]) (by kernel_rfl) (by kernel_rfl) H143 (by kernel_rfl) (d := none) (by kernel_rfl) rfl (fun w154 H155 K156 => ?_)
 clear H143
 replace K0 := K0.trans K156 (U := none_) (fun i h1 h2 => h2) (fun i h1 h2 => by have h2 : i = b140 := h2; exfalso; omega)
 replace H4 := H4.keep K156 (by intro h; change b1 = b140 at h; omega)
 replace H28 := H28.keep K156 (by intro h; change b19 = b140 at h; omega)
 replace O15 := own_keep O15 K156 (fun i hi hs => by have hs : i = b140 := hs; have := ob146 i hi; omega)
 replace O16 := own_keep O16 K156 (fun i hi hs => by have hs : i = b140 := hs; have := ob147 i hi; omega)
 replace O34 := own_keep O34 K156 (fun i hi hs => by have hs : i = b140 := hs; have := ob148 i hi; omega)
 replace O45 := own_keep O45 K156 (fun i hi hs => by have hs : i = b140 := hs; have := ob149 i hi; omega)
 replace O75 := own_keep O75 K156 (fun i hi hs => by have hs : i = b140 := hs; have := ob150 i hi; omega)
 replace O97 := own_keep O97 K156 (fun i hi hs => by have hs : i = b140 := hs; have := ob151 i hi; omega)
 replace O109 := own_keep O109 K156 (fun i hi hs => by have hs : i = b140 := hs; have := ob152 i hi; omega)
 replace O110 := own_keep O110 K156 (fun i hi hs => by have hs : i = b140 := hs; have := ob153 i hi; omega)
 clear K156
 refine og 1 [(1, (Value.slice B bs.length bc)), (2, (ptr b1)), (4, (Value.bool false)), (6, v30), (7, (i64 ((packB x).2))), (10, (Value.slice A70 bs.length c71)), (11, (ptr b140)), (12, (i64 er99))] 8 ?_
 refine od ?_
 refine qs ?_
 refine qg ?_
 refine og 1 [(1, (Value.slice B bs.length bc)), (2, (ptr b1)), (4, (Value.bool false)), (6, v30), (7, (i64 ((packB x).2))), (10, (Value.slice A70 bs.length c71)), (11, (ptr b140)), (12, (i64 er99)), (65, (Value.slice B bs.length bc))] 1 ?_
 refine Ops.call (by kernel_rfl) (d := (some 66)) (by kernel_rfl) (RUnpack_calls_any _ (Value.slice B bs.length bc) bs (hb.keep0 (by omega) K0) (by omega)) ?_
 rintro _ w163 ⟨y157, er158, V159, c160, D161, dc162, rfl, K164, hR165, hB166, hu167⟩
 have ob170 : ∀ i, ((Value.slice V159 y157.rep.rows.length c160)).ownBlock = some i → i ≠ b1 := fun i hi => by have := (World.ownsRow.lt hR165 i hi).1; have := H4.lt; omega
 have ob171 : ∀ i, ((Value.slice V159 y157.rep.rows.length c160)).ownBlock = some i → i ≠ b19 := fun i hi => by have := (World.ownsRow.lt hR165 i hi).1; have := H28.lt; omega
 have ob172 : ∀ i, ((Value.slice V159 y157.rep.rows.length c160)).ownBlock = some i → i ≠ b140 := fun i hi => by have := (World.ownsRow.lt hR165 i hi).1; have := H155.lt; omega
 have oo173 : ∀ i, ((Value.slice V7 x.rep.rows.length c8)).ownBlock = some i → ((Value.slice V159 y157.rep.rows.length c160)).ownBlock = some i → False := fun i hi hs => by have := (World.ownsRow.lt hR165 i hs).1; have := (World.ownsRow.lt O15 i hi).2; omega
 have oo174 : ∀ i, ((Value.slice V159 y157.rep.rows.length c160)).ownBlock = some i → ((Value.slice V7 x.rep.rows.length c8)).ownBlock = some i → False := fun i hi hs => oo173 i hs hi
 have oo175 : ∀ i, ((Value.slice D9 x.body.length dc10)).ownBlock = some i → ((Value.slice V159 y157.rep.rows.length c160)).ownBlock = some i → False := fun i hi hs => by have := (World.ownsRow.lt hR165 i hs).1; have := (World.ownsRow.lt O16 i hi).2; omega
 have oo176 : ∀ i, ((Value.slice V159 y157.rep.rows.length c160)).ownBlock = some i → ((Value.slice D9 x.body.length dc10)).ownBlock = some i → False := fun i hi hs => oo175 i hs hi
 have oo177 : ∀ i, (v30).ownBlock = some i → ((Value.slice V159 y157.rep.rows.length c160)).ownBlock = some i → False := fun i hi hs => by have := (World.ownsRow.lt hR165 i hs).1; have := (World.ownsRow.lt O34 i hi).2; omega
 have oo178 : ∀ i, ((Value.slice V159 y157.rep.rows.length c160)).ownBlock = some i → (v30).ownBlock = some i → False := fun i hi hs => oo177 i hs hi
 have oo179 : ∀ i, (v41).ownBlock = some i → ((Value.slice V159 y157.rep.rows.length c160)).ownBlock = some i → False := fun i hi hs => by have := (World.ownsRow.lt hR165 i hs).1; have := (World.ownsRow.lt O45 i hi).2; omega
 have oo180 : ∀ i, ((Value.slice V159 y157.rep.rows.length c160)).ownBlock = some i → (v41).ownBlock = some i → False := fun i hi hs => oo179 i hs hi
 have oo181 : ∀ i, ((Value.slice A70 bs.length c71)).ownBlock = some i → ((Value.slice V159 y157.rep.rows.length c160)).ownBlock = some i → False := fun i hi hs => by have := (World.ownsRow.lt hR165 i hs).1; have := (World.ownsRow.lt O75 i hi).2; omega
 have oo182 : ∀ i, ((Value.slice V159 y157.rep.rows.length c160)).ownBlock = some i → ((Value.slice A70 bs.length c71)).ownBlock = some i → False := fun i hi hs => oo181 i hs hi
 have oo183 : ∀ i, ((Value.slice A70 ((bs ++ [byte 167]).length) c71)).ownBlock = some i → ((Value.slice V159 y157.rep.rows.length c160)).ownBlock = some i → False := fun i hi hs => by have := (World.ownsRow.lt hR165 i hs).1; have := (World.ownsRow.lt O97 i hi).2; omega
 have oo184 : ∀ i, ((Value.slice V159 y157.rep.rows.length c160)).ownBlock = some i → ((Value.slice A70 ((bs ++ [byte 167]).length) c71)).ownBlock = some i → False := fun i hi hs => oo183 i hs hi
 have oo185 : ∀ i, ((Value.slice V100 y98.rep.rows.length c101)).ownBlock = some i → ((Value.slice V159 y157.rep.rows.length c160)).ownBlock = some i → False := fun i hi hs => by have := (World.ownsRow.lt hR165 i hs).1; have := (World.ownsRow.lt O109 i hi).2; omega
 have oo186 : ∀ i, ((Value.slice V159 y157.rep.rows.length c160)).ownBlock = some i → ((Value.slice V100 y98.rep.rows.length c101)).ownBlock = some i → False := fun i hi hs => oo185 i hs hi
 have oo187 : ∀ i, ((Value.slice D102 y98.body.length dc103)).ownBlock = some i → ((Value.slice V159 y157.rep.rows.length c160)).ownBlock = some i → False := fun i hi hs => by have := (World.ownsRow.lt hR165 i hs).1; have := (World.ownsRow.lt O110 i hi).2; omega
 have oo188 : ∀ i, ((Value.slice V159 y157.rep.rows.length c160)).ownBlock = some i → ((Value.slice D102 y98.body.length dc103)).ownBlock = some i → False := fun i hi hs => oo187 i hs hi
 have ob189 : ∀ i, ((Value.slice D161 y157.body.length dc162)).ownBlock = some i → i ≠ b1 := fun i hi => by have := (World.ownsRow.lt hB166 i hi).1; have := H4.lt; omega
 have ob190 : ∀ i, ((Value.slice D161 y157.body.length dc162)).ownBlock = some i → i ≠ b19 := fun i hi => by have := (World.ownsRow.lt hB166 i hi).1; have := H28.lt; omega
 have ob191 : ∀ i, ((Value.slice D161 y157.body.length dc162)).ownBlock = some i → i ≠ b140 := fun i hi => by have := (World.ownsRow.lt hB166 i hi).1; have := H155.lt; omega
 have oo192 : ∀ i, ((Value.slice V7 x.rep.rows.length c8)).ownBlock = some i → ((Value.slice D161 y157.body.length dc162)).ownBlock = some i → False := fun i hi hs => by have := (World.ownsRow.lt hB166 i hs).1; have := (World.ownsRow.lt O15 i hi).2; omega
 have oo193 : ∀ i, ((Value.slice D161 y157.body.length dc162)).ownBlock = some i → ((Value.slice V7 x.rep.rows.length c8)).ownBlock = some i → False := fun i hi hs => oo192 i hs hi
 have oo194 : ∀ i, ((Value.slice D9 x.body.length dc10)).ownBlock = some i → ((Value.slice D161 y157.body.length dc162)).ownBlock = some i → False := fun i hi hs => by have := (World.ownsRow.lt hB166 i hs).1; have := (World.ownsRow.lt O16 i hi).2; omega
 have oo195 : ∀ i, ((Value.slice D161 y157.body.length dc162)).ownBlock = some i → ((Value.slice D9 x.body.length dc10)).ownBlock = some i → False := fun i hi hs => oo194 i hs hi
 have oo196 : ∀ i, (v30).ownBlock = some i → ((Value.slice D161 y157.body.length dc162)).ownBlock = some i → False := fun i hi hs => by have := (World.ownsRow.lt hB166 i hs).1; have := (World.ownsRow.lt O34 i hi).2; omega
 have oo197 : ∀ i, ((Value.slice D161 y157.body.length dc162)).ownBlock = some i → (v30).ownBlock = some i → False := fun i hi hs => oo196 i hs hi
 have oo198 : ∀ i, (v41).ownBlock = some i → ((Value.slice D161 y157.body.length dc162)).ownBlock = some i → False := fun i hi hs => by have := (World.ownsRow.lt hB166 i hs).1; have := (World.ownsRow.lt O45 i hi).2; omega
 have oo199 : ∀ i, ((Value.slice D161 y157.body.length dc162)).ownBlock = some i → (v41).ownBlock = some i → False := fun i hi hs => oo198 i hs hi
 have oo200 : ∀ i, ((Value.slice A70 bs.length c71)).ownBlock = some i → ((Value.slice D161 y157.body.length dc162)).ownBlock = some i → False := fun i hi hs => by have := (World.ownsRow.lt hB166 i hs).1; have := (World.ownsRow.lt O75 i hi).2; omega
 have oo201 : ∀ i, ((Value.slice D161 y157.body.length dc162)).ownBlock = some i → ((Value.slice A70 bs.length c71)).ownBlock = some i → False := fun i hi hs => oo200 i hs hi
 have oo202 : ∀ i, ((Value.slice A70 ((bs ++ [byte 167]).length) c71)).ownBlock = some i → ((Value.slice D161 y157.body.length dc162)).ownBlock = some i → False := fun i hi hs => by have := (World.ownsRow.lt hB166 i hs).1; have := (World.ownsRow.lt O97 i hi).2; omega
 have oo203 : ∀ i, ((Value.slice D161 y157.body.length dc162)).ownBlock = some i → ((Value.slice A70 ((bs ++ [byte 167]).length) c71)).ownBlock = some i → False := fun i hi hs => oo202 i hs hi
 have oo204 : ∀ i, ((Value.slice V100 y98.rep.rows.length c101)).ownBlock = some i → ((Value.slice D161 y157.body.length dc162)).ownBlock = some i → False := fun i hi hs => by have := (World.ownsRow.lt hB166 i hs).1; have := (World.ownsRow.lt O109 i hi).2; omega
 have oo205 : ∀ i, ((Value.slice D161 y157.body.length dc162)).ownBlock = some i → ((Value.slice V100 y98.rep.rows.length c101)).ownBlock = some i → False := fun i hi hs => oo204 i hs hi
 have oo206 : ∀ i, ((Value.slice D102 y98.body.length dc103)).ownBlock = some i → ((Value.slice D161 y157.body.length dc162)).ownBlock = some i → False := fun i hi hs => by have := (World.ownsRow.lt hB166 i hs).1; have := (World.ownsRow.lt O110 i hi).2; omega
 have oo207 : ∀ i, ((Value.slice D161 y157.body.length dc162)).ownBlock = some i → ((Value.slice D102 y98.body.length dc103)).ownBlock = some i → False := fun i hi hs => oo206 i hs hi
 have hoky208 : y157.Ok := by have q := unpack_Ok (bs := bs); rw [← hu167] at q; exact q
 have hyy : y98 = y157 ∧ er99 = er158 := by have q := hu108.trans hu167.symm; simp only [Prod.mk.injEq] at q; exact q
 have hye := hyy.2
 have O168 := own_base hR165 K0.size
 have O169 := own_base hB166 K0.size
 refine ⟨_, _, rfl, rfl, ?_⟩
 replace K0 := K0.t0 K164
 replace H4 := H4.keep K164 (fun h => h)
 replace H28 := H28.keep K164 (fun h => h)
 replace H155 := H155.keep K164 (fun h => h)
 replace O15 := own_keep0 O15 K164
 replace O16 := own_keep0 O16 K164
 replace O34 := own_keep0 O34 K164
 replace O45 := own_keep0 O45 K164
 replace O75 := own_keep0 O75 K164
 replace O97 := own_keep0 O97 K164
 replace O109 := own_keep0 O109 K164
 replace O110 := own_keep0 O110 K164
 clear K164
 refine og 3 [(1, (Value.slice B bs.length bc)), (2, (ptr b1)), (4, (Value.bool false)), (6, v30), (7, (i64 ((packB x).2))), (10, (Value.slice A70 bs.length c71)), (11, (ptr b140)), (12, (i64 er99)), (67, (agg [(i64 y157.kind), (i64 y157.n), (i64 y157.group), (i64 y157.op.kind), (Value.string (str y157.op.frm)), (Value.string (str y157.op.to)), (i64 y157.op.amount), (Value.string (str y157.op.key)), (i64 y157.op.slot), (i64 y157.op.shard), (i64 y157.rep.why), (i64 y157.rep.amount), (Value.slice V159 y157.rep.rows.length c160), (Value.slice D161 y157.body.length dc162)])), (68, (i64 er158))] 5 ?_
 refine Ops.new (o := rowL [(i64 0), (i64 0), (i64 0), (i64 0), (Value.string ByteArray.empty), (Value.string ByteArray.empty), (i64 0), (Value.string ByteArray.empty), (i64 0), (i64 0), (i64 0), (i64 0), (Value.slice none 0 0), (Value.slice none 0 0)] 30) (V := fun b => (ptr b)) (by kernel_rfl) (d := (some 13)) (by kernel_rfl) (fun b => rfl) (fun b209 w210 hb211 H212 K213 hs214 => ?_)
 have lb209b1 : b1 < b209 := by have := H4.lt; omega
 have lb209b19 : b19 < b209 := by have := H28.lt; omega
 have lb209b140 : b140 < b209 := by have := H155.lt; omega
 have nb209 : w.heap.size ≤ b209 := by have := K0.size; omega
 have ob215 : ∀ i, ((Value.slice V7 x.rep.rows.length c8)).ownBlock = some i → i < b209 := fun i hi => by have := (World.ownsRow.lt O15 i hi).2; omega
 have ob216 : ∀ i, ((Value.slice D9 x.body.length dc10)).ownBlock = some i → i < b209 := fun i hi => by have := (World.ownsRow.lt O16 i hi).2; omega
 have ob217 : ∀ i, (v30).ownBlock = some i → i < b209 := fun i hi => by have := (World.ownsRow.lt O34 i hi).2; omega
 have ob218 : ∀ i, (v41).ownBlock = some i → i < b209 := fun i hi => by have := (World.ownsRow.lt O45 i hi).2; omega
 have ob219 : ∀ i, ((Value.slice A70 bs.length c71)).ownBlock = some i → i < b209 := fun i hi => by have := (World.ownsRow.lt O75 i hi).2; omega
 have ob220 : ∀ i, ((Value.slice A70 ((bs ++ [byte 167]).length) c71)).ownBlock = some i → i < b209 := fun i hi => by have := (World.ownsRow.lt O97 i hi).2; omega
 have ob221 : ∀ i, ((Value.slice V100 y98.rep.rows.length c101)).ownBlock = some i → i < b209 := fun i hi => by have := (World.ownsRow.lt O109 i hi).2; omega
 have ob222 : ∀ i, ((Value.slice D102 y98.body.length dc103)).ownBlock = some i → i < b209 := fun i hi => by have := (World.ownsRow.lt O110 i hi).2; omega
 have ob223 : ∀ i, ((Value.slice V159 y157.rep.rows.length c160)).ownBlock = some i → i < b209 := fun i hi => by have := (World.ownsRow.lt O168 i hi).2; omega
 have ob224 : ∀ i, ((Value.slice D161 y157.body.length dc162)).ownBlock = some i → i < b209 := fun i hi => by have := (World.ownsRow.lt O169 i hi).2; omega
 replace K0 := K0.t0 K213
 replace H4 := H4.keep K213 (fun h => h)
 replace H28 := H28.keep K213 (fun h => h)
 replace H155 := H155.keep K213 (fun h => h)
 replace O15 := own_keep0 O15 K213
 replace O16 := own_keep0 O16 K213
 replace O34 := own_keep0 O34 K213
 replace O45 := own_keep0 O45 K213
 replace O75 := own_keep0 O75 K213
 replace O97 := own_keep0 O97 K213
 replace O109 := own_keep0 O109 K213
 replace O110 := own_keep0 O110 K213
 replace O168 := own_keep0 O168 K213
 replace O169 := own_keep0 O169 K213
 clear K213 hs214
 refine Ops.put (t := 30) (b := b209) (off := 0) (v := (agg [(i64 y157.kind), (i64 y157.n), (i64 y157.group), (i64 y157.op.kind), (Value.string (str y157.op.frm)), (Value.string (str y157.op.to)), (i64 y157.op.amount), (Value.string (str y157.op.key)), (i64 y157.op.slot), (i64 y157.op.shard), (i64 y157.rep.why), (i64 y157.rep.amount), (Value.slice V159 y157.rep.rows.length c160), (Value.slice D161 y157.body.length dc162)])) (ys := [(i64 y157.kind), (i64 y157.n), (i64 y157.group), (i64 y157.op.kind), (Value.string (str y157.op.frm)), (Value.string (str y157.op.to)), (i64 y157.op.amount), (Value.string (str y157.op.key)), (i64 y157.op.slot), (i64 y157.op.shard), (i64 y157.rep.why), (i64 y157.rep.amount), (Value.slice V159 y157.rep.rows.length c160), (Value.slice D161 y157.body.length dc162)]) (by kernel_rfl) (by kernel_rfl) H212 (by kernel_rfl) (d := none) (by kernel_rfl) rfl (fun w225 H226 K227 => ?_)
 clear H212
 replace K0 := K0.trans K227 (U := none_) (fun i h1 h2 => h2) (fun i h1 h2 => by have h2 : i = b209 := h2; exfalso; omega)
 replace H4 := H4.keep K227 (by intro h; change b1 = b209 at h; omega)
 replace H28 := H28.keep K227 (by intro h; change b19 = b209 at h; omega)
 replace H155 := H155.keep K227 (by intro h; change b140 = b209 at h; omega)
 replace O15 := own_keep O15 K227 (fun i hi hs => by have hs : i = b209 := hs; have := ob215 i hi; omega)
 replace O16 := own_keep O16 K227 (fun i hi hs => by have hs : i = b209 := hs; have := ob216 i hi; omega)
 replace O34 := own_keep O34 K227 (fun i hi hs => by have hs : i = b209 := hs; have := ob217 i hi; omega)
 replace O45 := own_keep O45 K227 (fun i hi hs => by have hs : i = b209 := hs; have := ob218 i hi; omega)
 replace O75 := own_keep O75 K227 (fun i hi hs => by have hs : i = b209 := hs; have := ob219 i hi; omega)
 replace O97 := own_keep O97 K227 (fun i hi hs => by have hs : i = b209 := hs; have := ob220 i hi; omega)
 replace O109 := own_keep O109 K227 (fun i hi hs => by have hs : i = b209 := hs; have := ob221 i hi; omega)
 replace O110 := own_keep O110 K227 (fun i hi hs => by have hs : i = b209 := hs; have := ob222 i hi; omega)
 replace O168 := own_keep O168 K227 (fun i hi hs => by have hs : i = b209 := hs; have := ob223 i hi; omega)
 replace O169 := own_keep O169 K227 (fun i hi hs => by have hs : i = b209 := hs; have := ob224 i hi; omega)
 clear K227
 refine og 1 [(1, (Value.slice B bs.length bc)), (2, (ptr b1)), (4, (Value.bool false)), (6, v30), (7, (i64 ((packB x).2))), (10, (Value.slice A70 bs.length c71)), (11, (ptr b140)), (12, (i64 er99)), (13, (ptr b209)), (14, (i64 er158))] 8 ?_
 refine od ?_
 refine qs ?_
 refine qs ?_
 refine q_draw (fun wz => Keeps none_ w225 wz) 16 (by kernel_rfl) (by kernel_rfl) (by kernel_rfl) (fun w228 K229 _ _ => ⟨K229, ?_⟩)
 replace K0 := K0.t0 K229
 replace H4 := H4.keep K229 (fun h => h)
 replace H28 := H28.keep K229 (fun h => h)
 replace H155 := H155.keep K229 (fun h => h)
 replace H226 := H226.keep K229 (fun h => h)
 replace O15 := own_keep0 O15 K229
 replace O16 := own_keep0 O16 K229
 replace O34 := own_keep0 O34 K229
 replace O45 := own_keep0 O45 K229
 replace O75 := own_keep0 O75 K229
 replace O97 := own_keep0 O97 K229
 replace O109 := own_keep0 O109 K229
 replace O110 := own_keep0 O110 K229
 replace O168 := own_keep0 O168 K229
 replace O169 := own_keep0 O169 K229
 refine Dr.strong (S' := (fun wz => Keeps none_ w228 wz)) (Keeps.refl w228) (fun wz hx => K229.trans hx (fun i _ h => h) (fun _ _ h => h)) ?_
 clear K229
 refine Dr.take (i := 0) (v := (agg [(i64 y98.kind), (i64 y98.n), (i64 y98.group), (i64 y98.op.kind), (Value.string (str y98.op.frm)), (Value.string (str y98.op.to)), (i64 y98.op.amount), (Value.string (str y98.op.key)), (i64 y98.op.slot), (i64 y98.op.shard), (i64 y98.rep.why), (i64 y98.rep.amount), (Value.slice V100 y98.rep.rows.length c101), (Value.slice D102 y98.body.length dc103)])) (by kernel_rfl) (by kernel_rfl) (fun wz hS => Runs.load (t := 33) (a := ⟨b140, 0, none⟩) (by kernel_rfl) ((H155.keep hS (fun h => h)).loads (by kernel_rfl))) (d := (some 69)) (by kernel_rfl) rfl ?_
 refine Dr.take (i := 2) (v := (agg [(i64 y157.kind), (i64 y157.n), (i64 y157.group), (i64 y157.op.kind), (Value.string (str y157.op.frm)), (Value.string (str y157.op.to)), (i64 y157.op.amount), (Value.string (str y157.op.key)), (i64 y157.op.slot), (i64 y157.op.shard), (i64 y157.rep.why), (i64 y157.rep.amount), (Value.slice V159 y157.rep.rows.length c160), (Value.slice D161 y157.body.length dc162)])) (by kernel_rfl) (by kernel_rfl) (fun wz hS => Runs.load (t := 30) (a := ⟨b209, 0, none⟩) (by kernel_rfl) ((H226.keep hS (fun h => h)).loads (by kernel_rfl))) (d := (some 71)) (by kernel_rfl) rfl ?_
 refine Dr.call (i := 1) (by kernel_rfl) (by kernel_rfl) (d := (some 70)) (by kernel_rfl) (fun _ => taken_calls _ y98 V100 c101 D102 dc103) ?_
 rintro _ w231 ⟨rfl, K230⟩
 replace K0 := K0.t0 K230
 replace H4 := H4.keep K230 (fun h => h)
 replace H28 := H28.keep K230 (fun h => h)
 replace H155 := H155.keep K230 (fun h => h)
 replace H226 := H226.keep K230 (fun h => h)
 replace O15 := own_keep0 O15 K230
 replace O16 := own_keep0 O16 K230
 replace O34 := own_keep0 O34 K230
 replace O45 := own_keep0 O45 K230
 replace O75 := own_keep0 O75 K230
 replace O97 := own_keep0 O97 K230
 replace O109 := own_keep0 O109 K230
 replace O110 := own_keep0 O110 K230
 replace O168 := own_keep0 O168 K230
 replace O169 := own_keep0 O169 K230
 refine ⟨_, _, rfl, rfl, K230, ?_⟩
 refine Dr.strong (S' := (fun wz => Keeps none_ w231 wz)) (Keeps.refl w231) (fun wz hx => K230.trans hx (fun i _ h => h) (fun _ _ h => h)) ?_
 clear K230
 refine Dr.call (i := 3) (by kernel_rfl) (by kernel_rfl) (d := (some 72)) (by kernel_rfl) (fun _ => Same_calls _ y98 V100 c101 D102 dc103 y157 V159 c160 D161 dc162 (OwnT.rd O109) (OwnB.rd O110) (OwnT.rd O168) (OwnB.rd O169)) ?_
 rintro _ w235 ⟨t232, rfl, ht233, K234⟩
 replace K0 := K0.t0 K234
 replace H4 := H4.keep K234 (fun h => h)
 replace H28 := H28.keep K234 (fun h => h)
 replace H155 := H155.keep K234 (fun h => h)
 replace H226 := H226.keep K234 (fun h => h)
 replace O15 := own_keep0 O15 K234
 replace O16 := own_keep0 O16 K234
 replace O34 := own_keep0 O34 K234
 replace O45 := own_keep0 O45 K234
 replace O75 := own_keep0 O75 K234
 replace O97 := own_keep0 O97 K234
 replace O109 := own_keep0 O109 K234
 replace O110 := own_keep0 O110 K234
 replace O168 := own_keep0 O168 K234
 replace O169 := own_keep0 O169 K234
 refine ⟨_, _, rfl, rfl, K234, ?_⟩
 refine Dr.strong (S' := (fun wz => Keeps none_ w235 wz)) (Keeps.refl w235) (fun wz hx => K234.trans hx (fun i _ h => h) (fun _ _ h => h)) ?_
 clear K234
 refine Dr.takes (fuel' := 10) (is' := [5, 4, 3, 1, 2, 0]) [4, 5] [(1, (Value.slice B bs.length bc)), (2, (ptr b1)), (4, (Value.bool false)), (6, v30), (7, (i64 ((packB x).2))), (10, (Value.slice A70 bs.length c71)), (11, (ptr b140)), (12, (i64 er99)), (13, (ptr b209)), (14, (i64 er158)), (74, (Value.bool (!t232)))] (by kernel_rfl) rfl (by kernel_rfl) ?_
 have h236 : (!t232) = false := by rw [show t232 = true from ht233.2 hyy.1]; rfl
 rw [h236]
 refine Dr.takes (fuel' := 5) (is' := [10, 9, 8, 7, 6, 5, 4, 3, 1, 2, 0]) [6, 7, 8, 9, 10] [(1, (Value.slice B bs.length bc)), (2, (ptr b1)), (4, (Value.bool false)), (6, v30), (7, (i64 ((packB x).2))), (10, (Value.slice A70 bs.length c71)), (11, (ptr b140)), (12, (i64 er99)), (13, (ptr b209)), (79, (Value.bool (er99 != er158)))] (by kernel_rfl) rfl (by kernel_rfl) ?_
 have h237 : (er99 != er158) = false := bne_f (by omega)
 rw [h237]
 refine Dr.takes (fuel' := 3) (is' := [12, 11, 10, 9, 8, 7, 6, 5, 4, 3, 1, 2, 0]) [11, 12] [(1, (Value.slice B bs.length bc)), (2, (ptr b1)), (4, (Value.bool false)), (6, v30), (7, (i64 ((packB x).2))), (10, (Value.slice A70 bs.length c71)), (11, (ptr b140)), (12, (i64 er99)), (13, (ptr b209)), (79, (Value.bool false)), (80, (Value.slice A70 bs.length c71)), (81, (Value.slice B bs.length bc))] (by kernel_rfl) rfl (by kernel_rfl) ?_
 refine Dr.call (i := 13) (by kernel_rfl) (by kernel_rfl) (d := (some 82)) (by kernel_rfl) (fun _ => Kept_calls _ A70 c71 bs _ B bc O97 (hb.keep0 (by omega) K0) (by omega)) ?_
 rintro _ w238 ⟨rfl, K239⟩
 replace K0 := K0.t0 K239
 replace H4 := H4.keep K239 (fun h => h)
 replace H28 := H28.keep K239 (fun h => h)
 replace H155 := H155.keep K239 (fun h => h)
 replace H226 := H226.keep K239 (fun h => h)
 replace O15 := own_keep0 O15 K239
 replace O16 := own_keep0 O16 K239
 replace O34 := own_keep0 O34 K239
 replace O45 := own_keep0 O45 K239
 replace O75 := own_keep0 O75 K239
 replace O97 := own_keep0 O97 K239
 replace O109 := own_keep0 O109 K239
 replace O110 := own_keep0 O110 K239
 replace O168 := own_keep0 O168 K239
 replace O169 := own_keep0 O169 K239
 refine ⟨_, _, rfl, rfl, K239, ?_⟩
 refine Dr.strong (S' := (fun wz => Keeps none_ w238 wz)) (Keeps.refl w238) (fun wz hx => K239.trans hx (fun i _ h => h) (fun _ _ h => h)) ?_
 clear K239
 refine Dr.takes (fuel' := 0) (is' := [15, 14, 13, 12, 11, 10, 9, 8, 7, 6, 5, 4, 3, 1, 2, 0]) [14, 15] [(1, (Value.slice B bs.length bc)), (2, (ptr b1)), (4, (Value.bool false)), (6, v30), (7, (i64 ((packB x).2))), (10, (Value.slice A70 bs.length c71)), (11, (ptr b140)), (12, (i64 er99)), (13, (ptr b209)), (84, (Value.bool false))] (by kernel_rfl) rfl (by kernel_rfl) ?_
 refine Dr.done (by kernel_rfl) ?_
 refine q_else (o := .tmp 84) (by kernel_rfl) rfl ?_
 refine q_skip (by kernel_rfl) ?_
 refine qs ?_
 refine qg ?_
 refine og 1 [(1, (Value.slice B bs.length bc)), (2, (ptr b1)), (4, (Value.bool false)), (6, v30), (7, (i64 ((packB x).2))), (11, (ptr b140)), (12, (i64 er99)), (13, (ptr b209)), (85, (Value.slice A70 bs.length c71))] 1 ?_
 refine Ops.call (by kernel_rfl) (d := (some 86)) (by kernel_rfl) (Spoil_calls _ (Value.slice A70 bs.length c71) bs _ O75 (by (try simp only [List.length_append]); omega)) ?_
 rintro _ w241 ⟨rfl, K240⟩
 refine ⟨_, _, rfl, rfl, ?_⟩
 replace K0 := K0.trans K240 (U := none_) (fun i h1 h2 => h2) (fun i h1 h2 => by have h2 : ((Value.slice A70 bs.length c71)).ownBlock = some i := h2; exfalso; have := (World.ownsRow.lt O75 i h2).1; omega)
 replace H4 := H4.keep K240 (by intro h; change ((Value.slice A70 bs.length c71)).ownBlock = some b1 at h; have := ob77 b1 h; omega)
 replace H28 := H28.keep K240 (by intro h; change ((Value.slice A70 bs.length c71)).ownBlock = some b19 at h; have := ob78 b19 h; omega)
 replace H155 := H155.keep K240 (by intro h; change ((Value.slice A70 bs.length c71)).ownBlock = some b140 at h; have := ob150 b140 h; omega)
 replace H226 := H226.keep K240 (by intro h; change ((Value.slice A70 bs.length c71)).ownBlock = some b209 at h; have := ob219 b209 h; omega)
 replace O15 := own_keep O15 K240 (fun i hi hs => by have hs : ((Value.slice A70 bs.length c71)).ownBlock = some i := hs; exact oo79 i hi hs)
 replace O16 := own_keep O16 K240 (fun i hi hs => by have hs : ((Value.slice A70 bs.length c71)).ownBlock = some i := hs; exact oo81 i hi hs)
 replace O34 := own_keep O34 K240 (fun i hi hs => by have hs : ((Value.slice A70 bs.length c71)).ownBlock = some i := hs; exact oo83 i hi hs)
 replace O45 := own_keep O45 K240 (fun i hi hs => by have hs : ((Value.slice A70 bs.length c71)).ownBlock = some i := hs; exact oo85 i hi hs)
 clear O75
 clear O97
 replace O109 := own_keep O109 K240 (fun i hi hs => by have hs : ((Value.slice A70 bs.length c71)).ownBlock = some i := hs; exact oo122 i hi hs)
 replace O110 := own_keep O110 K240 (fun i hi hs => by have hs : ((Value.slice A70 bs.length c71)).ownBlock = some i := hs; exact oo136 i hi hs)
 replace O168 := own_keep O168 K240 (fun i hi hs => by have hs : ((Value.slice A70 bs.length c71)).ownBlock = some i := hs; exact oo182 i hi hs)
 replace O169 := own_keep O169 K240 (fun i hi hs => by have hs : ((Value.slice A70 bs.length c71)).ownBlock = some i := hs; exact oo201 i hi hs)
 clear K240
 refine od ?_
 refine qs ?_
 refine qs ?_
 refine q_draw (fun wz => Keeps none_ w241 wz) 5 (by kernel_rfl) (by kernel_rfl) (by kernel_rfl) (fun w242 K243 _ _ => ⟨K243, ?_⟩)
 replace K0 := K0.t0 K243
 replace H4 := H4.keep K243 (fun h => h)
 replace H28 := H28.keep K243 (fun h => h)
 replace H155 := H155.keep K243 (fun h => h)
 replace H226 := H226.keep K243 (fun h => h)
 replace O15 := own_keep0 O15 K243
 replace O16 := own_keep0 O16 K243
 replace O34 := own_keep0 O34 K243
 replace O45 := own_keep0 O45 K243
 replace O109 := own_keep0 O109 K243
 replace O110 := own_keep0 O110 K243
 replace O168 := own_keep0 O168 K243
 replace O169 := own_keep0 O169 K243
 refine Dr.strong (S' := (fun wz => Keeps none_ w242 wz)) (Keeps.refl w242) (fun wz hx => K243.trans hx (fun i _ h => h) (fun _ _ h => h)) ?_
 clear K243
 refine Dr.take (i := 0) (v := (agg [(i64 y98.kind), (i64 y98.n), (i64 y98.group), (i64 y98.op.kind), (Value.string (str y98.op.frm)), (Value.string (str y98.op.to)), (i64 y98.op.amount), (Value.string (str y98.op.key)), (i64 y98.op.slot), (i64 y98.op.shard), (i64 y98.rep.why), (i64 y98.rep.amount), (Value.slice V100 y98.rep.rows.length c101), (Value.slice D102 y98.body.length dc103)])) (by kernel_rfl) (by kernel_rfl) (fun wz hS => Runs.load (t := 33) (a := ⟨b140, 0, none⟩) (by kernel_rfl) ((H155.keep hS (fun h => h)).loads (by kernel_rfl))) (d := (some 87)) (by kernel_rfl) rfl ?_
 refine Dr.take (i := 2) (v := (agg [(i64 y157.kind), (i64 y157.n), (i64 y157.group), (i64 y157.op.kind), (Value.string (str y157.op.frm)), (Value.string (str y157.op.to)), (i64 y157.op.amount), (Value.string (str y157.op.key)), (i64 y157.op.slot), (i64 y157.op.shard), (i64 y157.rep.why), (i64 y157.rep.amount), (Value.slice V159 y157.rep.rows.length c160), (Value.slice D161 y157.body.length dc162)])) (by kernel_rfl) (by kernel_rfl) (fun wz hS => Runs.load (t := 30) (a := ⟨b209, 0, none⟩) (by kernel_rfl) ((H226.keep hS (fun h => h)).loads (by kernel_rfl))) (d := (some 89)) (by kernel_rfl) rfl ?_
 refine Dr.call (i := 1) (by kernel_rfl) (by kernel_rfl) (d := (some 88)) (by kernel_rfl) (fun _ => taken_calls _ y98 V100 c101 D102 dc103) ?_
 rintro _ w245 ⟨rfl, K244⟩
 replace K0 := K0.t0 K244
 replace H4 := H4.keep K244 (fun h => h)
 replace H28 := H28.keep K244 (fun h => h)
 replace H155 := H155.keep K244 (fun h => h)
 replace H226 := H226.keep K244 (fun h => h)
 replace O15 := own_keep0 O15 K244
 replace O16 := own_keep0 O16 K244
 replace O34 := own_keep0 O34 K244
 replace O45 := own_keep0 O45 K244
 replace O109 := own_keep0 O109 K244
 replace O110 := own_keep0 O110 K244
 replace O168 := own_keep0 O168 K244
 replace O169 := own_keep0 O169 K244
 refine ⟨_, _, rfl, rfl, K244, ?_⟩
 refine Dr.strong (S' := (fun wz => Keeps none_ w245 wz)) (Keeps.refl w245) (fun wz hx => K244.trans hx (fun i _ h => h) (fun _ _ h => h)) ?_
 clear K244
 refine Dr.call (i := 3) (by kernel_rfl) (by kernel_rfl) (d := (some 90)) (by kernel_rfl) (fun _ => Same_calls _ y98 V100 c101 D102 dc103 y157 V159 c160 D161 dc162 (OwnT.rd O109) (OwnB.rd O110) (OwnT.rd O168) (OwnB.rd O169)) ?_
 rintro _ w249 ⟨t246, rfl, ht247, K248⟩
 replace K0 := K0.t0 K248
 replace H4 := H4.keep K248 (fun h => h)
 replace H28 := H28.keep K248 (fun h => h)
 replace H155 := H155.keep K248 (fun h => h)
 replace H226 := H226.keep K248 (fun h => h)
 replace O15 := own_keep0 O15 K248
 replace O16 := own_keep0 O16 K248
 replace O34 := own_keep0 O34 K248
 replace O45 := own_keep0 O45 K248
 replace O109 := own_keep0 O109 K248
 replace O110 := own_keep0 O110 K248
 replace O168 := own_keep0 O168 K248
 replace O169 := own_keep0 O169 K248
 refine ⟨_, _, rfl, rfl, K248, ?_⟩
 refine Dr.strong (S' := (fun wz => Keeps none_ w249 wz)) (Keeps.refl w249) (fun wz hx => K248.trans hx (fun i _ h => h) (fun _ _ h => h)) ?_
 clear K248
 refine Dr.takes (fuel' := 0) (is' := [4, 3, 1, 2, 0]) [4] [(1, (Value.slice B bs.length bc)), (2, (ptr b1)), (4, (Value.bool false)), (6, v30), (7, (i64 ((packB x).2))), (11, (ptr b140)), (12, (i64 er99)), (91, (Value.bool (!t246)))] (by kernel_rfl) rfl (by kernel_rfl) ?_
 refine Dr.done (by kernel_rfl) ?_
 have h250 : (!t246) = false := by rw [show t246 = true from ht247.2 hyy.1]; rfl
 rw [h250]
 refine q_else (o := .tmp 91) (by kernel_rfl) rfl ?_
 refine q_skip (by kernel_rfl) ?_
 refine qs ?_
 refine qs ?_
 refine qg ?_
 refine og 2 [(1, (Value.slice B bs.length bc)), (2, (ptr b1)), (4, (Value.bool false)), (6, v30), (7, (i64 ((packB x).2))), (11, (ptr b140)), (93, (Value.bool (er99 == 0)))] 2 ?_
 refine od ?_
 refine q_cond (o := .tmp 93) (b := (er99 == 0)) (by kernel_rfl) rfl (fun h251 => ?_) (fun h251 => ?_)
 ·rw [h251]
  have p252 : er99 = 0 := of_beq_t h251
  have hpk : packB y98 = (bs, 0) := by have q := pack_unpack (bs := bs) (by rw [← hu108]; exact of_beq_t h251); rw [← hu108] at q; exact q
  refine qs ?_
  refine qg ?_
  refine Ops.go (v := (agg [(i64 y98.kind), (i64 y98.n), (i64 y98.group), (i64 y98.op.kind), (Value.string (str y98.op.frm)), (Value.string (str y98.op.to)), (i64 y98.op.amount), (Value.string (str y98.op.key)), (i64 y98.op.slot), (i64 y98.op.shard), (i64 y98.rep.why), (i64 y98.rep.amount), (Value.slice V100 y98.rep.rows.length c101), (Value.slice D102 y98.body.length dc103)])) (by kernel_rfl) (Runs.load (t := 33) (a := ⟨b140, 0, none⟩) (by kernel_rfl) (H155.loads (by kernel_rfl))) (d := (some 95)) (by kernel_rfl) rfl ?_
  refine Ops.call (by kernel_rfl) (d := (some 96)) (by kernel_rfl) (Pack_calls _ y98 V100 c101 D102 dc103 hoky139 (OwnT.rd O109) (OwnB.rd O110)) ?_
  rintro _ w254 ⟨v253, rfl, K255, hO256⟩
  have ob258 : ∀ i, (v253).ownBlock = some i → i ≠ b1 := fun i hi => by have := (World.ownsRow.lt hO256 i hi).1; have := H4.lt; omega
  have ob259 : ∀ i, (v253).ownBlock = some i → i ≠ b19 := fun i hi => by have := (World.ownsRow.lt hO256 i hi).1; have := H28.lt; omega
  have ob260 : ∀ i, (v253).ownBlock = some i → i ≠ b140 := fun i hi => by have := (World.ownsRow.lt hO256 i hi).1; have := H155.lt; omega
  have ob261 : ∀ i, (v253).ownBlock = some i → i ≠ b209 := fun i hi => by have := (World.ownsRow.lt hO256 i hi).1; have := H226.lt; omega
  have oo262 : ∀ i, ((Value.slice V7 x.rep.rows.length c8)).ownBlock = some i → (v253).ownBlock = some i → False := fun i hi hs => by have := (World.ownsRow.lt hO256 i hs).1; have := (World.ownsRow.lt O15 i hi).2; omega
  have oo263 : ∀ i, (v253).ownBlock = some i → ((Value.slice V7 x.rep.rows.length c8)).ownBlock = some i → False := fun i hi hs => oo262 i hs hi
  have oo264 : ∀ i, ((Value.slice D9 x.body.length dc10)).ownBlock = some i → (v253).ownBlock = some i → False := fun i hi hs => by have := (World.ownsRow.lt hO256 i hs).1; have := (World.ownsRow.lt O16 i hi).2; omega
  have oo265 : ∀ i, (v253).ownBlock = some i → ((Value.slice D9 x.body.length dc10)).ownBlock = some i → False := fun i hi hs => oo264 i hs hi
  have oo266 : ∀ i, (v30).ownBlock = some i → (v253).ownBlock = some i → False := fun i hi hs => by have := (World.ownsRow.lt hO256 i hs).1; have := (World.ownsRow.lt O34 i hi).2; omega
  have oo267 : ∀ i, (v253).ownBlock = some i → (v30).ownBlock = some i → False := fun i hi hs => oo266 i hs hi
  have oo268 : ∀ i, (v41).ownBlock = some i → (v253).ownBlock = some i → False := fun i hi hs => by have := (World.ownsRow.lt hO256 i hs).1; have := (World.ownsRow.lt O45 i hi).2; omega
  have oo269 : ∀ i, (v253).ownBlock = some i → (v41).ownBlock = some i → False := fun i hi hs => oo268 i hs hi
  have oo270 : ∀ i, ((Value.slice V100 y98.rep.rows.length c101)).ownBlock = some i → (v253).ownBlock = some i → False := fun i hi hs => by have := (World.ownsRow.lt hO256 i hs).1; have := (World.ownsRow.lt O109 i hi).2; omega
  have oo271 : ∀ i, (v253).ownBlock = some i → ((Value.slice V100 y98.rep.rows.length c101)).ownBlock = some i → False := fun i hi hs => oo270 i hs hi
  have oo272 : ∀ i, ((Value.slice D102 y98.body.length dc103)).ownBlock = some i → (v253).ownBlock = some i → False := fun i hi hs => by have := (World.ownsRow.lt hO256 i hs).1; have := (World.ownsRow.lt O110 i hi).2; omega
  have oo273 : ∀ i, (v253).ownBlock = some i → ((Value.slice D102 y98.body.length dc103)).ownBlock = some i → False := fun i hi hs => oo272 i hs hi
  have oo274 : ∀ i, ((Value.slice V159 y157.rep.rows.length c160)).ownBlock = some i → (v253).ownBlock = some i → False := fun i hi hs => by have := (World.ownsRow.lt hO256 i hs).1; have := (World.ownsRow.lt O168 i hi).2; omega
  have oo275 : ∀ i, (v253).ownBlock = some i → ((Value.slice V159 y157.rep.rows.length c160)).ownBlock = some i → False := fun i hi hs => oo274 i hs hi
  have oo276 : ∀ i, ((Value.slice D161 y157.body.length dc162)).ownBlock = some i → (v253).ownBlock = some i → False := fun i hi hs => by have := (World.ownsRow.lt hO256 i hs).1; have := (World.ownsRow.lt O169 i hi).2; omega
  have oo277 : ∀ i, (v253).ownBlock = some i → ((Value.slice D161 y157.body.length dc162)).ownBlock = some i → False := fun i hi hs => oo276 i hs hi
  have O257 := own_base hO256 K0.size
  refine ⟨_, _, rfl, rfl, ?_⟩
  replace K0 := K0.t0 K255
  replace H4 := H4.keep K255 (fun h => h)
  replace H28 := H28.keep K255 (fun h => h)
  replace H155 := H155.keep K255 (fun h => h)
  replace H226 := H226.keep K255 (fun h => h)
  replace O15 := own_keep0 O15 K255
  replace O16 := own_keep0 O16 K255
  replace O34 := own_keep0 O34 K255
  replace O45 := own_keep0 O45 K255
  replace O109 := own_keep0 O109 K255
  replace O110 := own_keep0 O110 K255
  replace O168 := own_keep0 O168 K255
  replace O169 := own_keep0 O169 K255
  clear K255
  refine og 5 [(1, (Value.slice B bs.length bc)), (2, (ptr b1)), (4, (Value.bool false)), (6, v30), (7, (i64 ((packB x).2))), (15, v253), (16, (i64 ((packB y98).2)))] 7 ?_
  refine od ?_
  refine qs ?_
  refine qg ?_
  refine og 3 [(1, (Value.slice B bs.length bc)), (2, (ptr b1)), (4, (Value.bool false)), (6, v30), (7, (i64 ((packB x).2))), (15, v253), (101, (Value.bool (((packB y98).2) != 0)))] 3 ?_
  have h278 : (((packB y98).2) != 0) = false := bne_f (by rw [hpk])
  rw [h278]
  refine og 1 [(1, (Value.slice B bs.length bc)), (2, (ptr b1)), (4, (Value.bool false)), (6, v30), (7, (i64 ((packB x).2))), (101, (Value.bool false)), (102, v253)] 4 ?_
  refine Ops.go (v := (Value.string (str ((packB y98).1)))) (by kernel_rfl) (Runs.b2s (s := 28) (d := 9) (e := 5) (by kernel_rfl) (by kernel_rfl) (by kernel_rfl) (OwnB.rd O257)) (d := (some 103)) (by kernel_rfl) rfl ?_
  refine og 1 [(2, (ptr b1)), (4, (Value.bool false)), (6, v30), (7, (i64 ((packB x).2))), (101, (Value.bool false)), (103, (Value.string (str ((packB y98).1)))), (104, (Value.slice B bs.length bc))] 6 ?_
  refine Ops.go (v := (Value.string (str bs))) (by kernel_rfl) (Runs.b2s (s := 28) (d := 9) (e := 5) (by kernel_rfl) (by kernel_rfl) (by kernel_rfl) (hb.keep0 (by omega) K0)) (d := (some 105)) (by kernel_rfl) rfl ?_
  refine Ops.go (v := (Value.bool (!(((packB y98).1) == bs)))) (by kernel_rfl) (Runs.strne (t := 9) (by kernel_rfl)) (d := (some 106)) (by kernel_rfl) rfl ?_
  refine og 1 [(2, (ptr b1)), (4, (Value.bool false)), (6, v30), (7, (i64 ((packB x).2))), (107, (Value.bool (!(((packB y98).1) == bs))))] 9 ?_
  refine od ?_
  have h279 : (!(((packB y98).1) == bs)) = false := by rw [show (((packB y98).1) == bs) = true from by rw [hpk]; simp]; rfl
  rw [h279]
  refine q_else (o := .tmp 107) (by kernel_rfl) rfl ?_
  refine q_skip (by kernel_rfl) ?_
  refine qs ?_
  refine qs ?_
  refine qg ?_
  refine og 2 [(2, (ptr b1)), (4, (Value.bool false)), (6, v30), (109, (Value.bool (((packB x).2) != 0)))] 2 ?_
  refine od ?_
  refine q_cond (o := .tmp 109) (b := (((packB x).2) != 0)) (by kernel_rfl) rfl (fun h280 => ?_) (fun h280 => ?_)
  ·rw [h280]
   have p281 : ¬ ((packB x).2 = 0) := of_bne_t h280
   refine qs ?_
   refine qg ?_
   refine Ops.call (by kernel_rfl) (d := (some 110)) (by kernel_rfl) (known_calls _) ?_
   rintro _ w283 ⟨rfl, K282⟩
   refine ⟨_, _, rfl, rfl, ?_⟩
   replace K0 := K0.t0 K282
   replace H4 := H4.keep K282 (fun h => h)
   replace H28 := H28.keep K282 (fun h => h)
   replace H155 := H155.keep K282 (fun h => h)
   replace H226 := H226.keep K282 (fun h => h)
   replace O15 := own_keep0 O15 K282
   replace O16 := own_keep0 O16 K282
   replace O34 := own_keep0 O34 K282
   replace O45 := own_keep0 O45 K282
   replace O109 := own_keep0 O109 K282
   replace O110 := own_keep0 O110 K282
   replace O168 := own_keep0 O168 K282
   replace O169 := own_keep0 O169 K282
   replace O257 := own_keep0 O257 K282
   clear K282
   refine og 1 [(2, (ptr b1)), (4, (Value.bool true)), (6, v30)] 2 ?_
   refine od ?_
   refine q_ret (by kernel_rfl) ?_
   refine ⟨(Value.bool true), retv_tmp rfl rfl, ?_⟩
   exact ⟨rfl, K0⟩
  ·rw [h280]
   have p284 : (packB x).2 = 0 := of_bne_f h280
   obtain ⟨kx1, kx2, kxf, kxe, kxl⟩ := packB_ok (x := x) (by omega)
   have kxl2 : (packB x).1.length ≤ 1048576 := by rw [kxe]; exact kxl
   refine q_skip (by kernel_rfl) ?_
   refine qs ?_
   refine qg ?_
   refine og 1 [(2, (ptr b1)), (4, (Value.bool false)), (112, v30)] 1 ?_
   refine Ops.call (by kernel_rfl) (d := (some 113)) (by kernel_rfl) (Unpack_calls_any _ v30 ((packB x).1) (OwnB.rd O34) (by omega)) ?_
   rintro _ w291 ⟨y285, er286, V287, c288, D289, dc290, rfl, K292, hR293, hB294, hu295⟩
   have ob298 : ∀ i, ((Value.slice V287 y285.rep.rows.length c288)).ownBlock = some i → i ≠ b1 := fun i hi => by have := (World.ownsRow.lt hR293 i hi).1; have := H4.lt; omega
   have ob299 : ∀ i, ((Value.slice V287 y285.rep.rows.length c288)).ownBlock = some i → i ≠ b19 := fun i hi => by have := (World.ownsRow.lt hR293 i hi).1; have := H28.lt; omega
   have ob300 : ∀ i, ((Value.slice V287 y285.rep.rows.length c288)).ownBlock = some i → i ≠ b140 := fun i hi => by have := (World.ownsRow.lt hR293 i hi).1; have := H155.lt; omega
   have ob301 : ∀ i, ((Value.slice V287 y285.rep.rows.length c288)).ownBlock = some i → i ≠ b209 := fun i hi => by have := (World.ownsRow.lt hR293 i hi).1; have := H226.lt; omega
   have oo302 : ∀ i, ((Value.slice V7 x.rep.rows.length c8)).ownBlock = some i → ((Value.slice V287 y285.rep.rows.length c288)).ownBlock = some i → False := fun i hi hs => by have := (World.ownsRow.lt hR293 i hs).1; have := (World.ownsRow.lt O15 i hi).2; omega
   have oo303 : ∀ i, ((Value.slice V287 y285.rep.rows.length c288)).ownBlock = some i → ((Value.slice V7 x.rep.rows.length c8)).ownBlock = some i → False := fun i hi hs => oo302 i hs hi
   have oo304 : ∀ i, ((Value.slice D9 x.body.length dc10)).ownBlock = some i → ((Value.slice V287 y285.rep.rows.length c288)).ownBlock = some i → False := fun i hi hs => by have := (World.ownsRow.lt hR293 i hs).1; have := (World.ownsRow.lt O16 i hi).2; omega
   have oo305 : ∀ i, ((Value.slice V287 y285.rep.rows.length c288)).ownBlock = some i → ((Value.slice D9 x.body.length dc10)).ownBlock = some i → False := fun i hi hs => oo304 i hs hi
   have oo306 : ∀ i, (v30).ownBlock = some i → ((Value.slice V287 y285.rep.rows.length c288)).ownBlock = some i → False := fun i hi hs => by have := (World.ownsRow.lt hR293 i hs).1; have := (World.ownsRow.lt O34 i hi).2; omega
   have oo307 : ∀ i, ((Value.slice V287 y285.rep.rows.length c288)).ownBlock = some i → (v30).ownBlock = some i → False := fun i hi hs => oo306 i hs hi
   have oo308 : ∀ i, (v41).ownBlock = some i → ((Value.slice V287 y285.rep.rows.length c288)).ownBlock = some i → False := fun i hi hs => by have := (World.ownsRow.lt hR293 i hs).1; have := (World.ownsRow.lt O45 i hi).2; omega
   have oo309 : ∀ i, ((Value.slice V287 y285.rep.rows.length c288)).ownBlock = some i → (v41).ownBlock = some i → False := fun i hi hs => oo308 i hs hi
   have oo310 : ∀ i, ((Value.slice V100 y98.rep.rows.length c101)).ownBlock = some i → ((Value.slice V287 y285.rep.rows.length c288)).ownBlock = some i → False := fun i hi hs => by have := (World.ownsRow.lt hR293 i hs).1; have := (World.ownsRow.lt O109 i hi).2; omega
   have oo311 : ∀ i, ((Value.slice V287 y285.rep.rows.length c288)).ownBlock = some i → ((Value.slice V100 y98.rep.rows.length c101)).ownBlock = some i → False := fun i hi hs => oo310 i hs hi
   have oo312 : ∀ i, ((Value.slice D102 y98.body.length dc103)).ownBlock = some i → ((Value.slice V287 y285.rep.rows.length c288)).ownBlock = some i → False := fun i hi hs => by have := (World.ownsRow.lt hR293 i hs).1; have := (World.ownsRow.lt O110 i hi).2; omega
   have oo313 : ∀ i, ((Value.slice V287 y285.rep.rows.length c288)).ownBlock = some i → ((Value.slice D102 y98.body.length dc103)).ownBlock = some i → False := fun i hi hs => oo312 i hs hi
   have oo314 : ∀ i, ((Value.slice V159 y157.rep.rows.length c160)).ownBlock = some i → ((Value.slice V287 y285.rep.rows.length c288)).ownBlock = some i → False := fun i hi hs => by have := (World.ownsRow.lt hR293 i hs).1; have := (World.ownsRow.lt O168 i hi).2; omega
   have oo315 : ∀ i, ((Value.slice V287 y285.rep.rows.length c288)).ownBlock = some i → ((Value.slice V159 y157.rep.rows.length c160)).ownBlock = some i → False := fun i hi hs => oo314 i hs hi
   have oo316 : ∀ i, ((Value.slice D161 y157.body.length dc162)).ownBlock = some i → ((Value.slice V287 y285.rep.rows.length c288)).ownBlock = some i → False := fun i hi hs => by have := (World.ownsRow.lt hR293 i hs).1; have := (World.ownsRow.lt O169 i hi).2; omega
   have oo317 : ∀ i, ((Value.slice V287 y285.rep.rows.length c288)).ownBlock = some i → ((Value.slice D161 y157.body.length dc162)).ownBlock = some i → False := fun i hi hs => oo316 i hs hi
   have oo318 : ∀ i, (v253).ownBlock = some i → ((Value.slice V287 y285.rep.rows.length c288)).ownBlock = some i → False := fun i hi hs => by have := (World.ownsRow.lt hR293 i hs).1; have := (World.ownsRow.lt O257 i hi).2; omega
   have oo319 : ∀ i, ((Value.slice V287 y285.rep.rows.length c288)).ownBlock = some i → (v253).ownBlock = some i → False := fun i hi hs => oo318 i hs hi
   have ob320 : ∀ i, ((Value.slice D289 y285.body.length dc290)).ownBlock = some i → i ≠ b1 := fun i hi => by have := (World.ownsRow.lt hB294 i hi).1; have := H4.lt; omega
   have ob321 : ∀ i, ((Value.slice D289 y285.body.length dc290)).ownBlock = some i → i ≠ b19 := fun i hi => by have := (World.ownsRow.lt hB294 i hi).1; have := H28.lt; omega
   have ob322 : ∀ i, ((Value.slice D289 y285.body.length dc290)).ownBlock = some i → i ≠ b140 := fun i hi => by have := (World.ownsRow.lt hB294 i hi).1; have := H155.lt; omega
   have ob323 : ∀ i, ((Value.slice D289 y285.body.length dc290)).ownBlock = some i → i ≠ b209 := fun i hi => by have := (World.ownsRow.lt hB294 i hi).1; have := H226.lt; omega
   have oo324 : ∀ i, ((Value.slice V7 x.rep.rows.length c8)).ownBlock = some i → ((Value.slice D289 y285.body.length dc290)).ownBlock = some i → False := fun i hi hs => by have := (World.ownsRow.lt hB294 i hs).1; have := (World.ownsRow.lt O15 i hi).2; omega
   have oo325 : ∀ i, ((Value.slice D289 y285.body.length dc290)).ownBlock = some i → ((Value.slice V7 x.rep.rows.length c8)).ownBlock = some i → False := fun i hi hs => oo324 i hs hi
   have oo326 : ∀ i, ((Value.slice D9 x.body.length dc10)).ownBlock = some i → ((Value.slice D289 y285.body.length dc290)).ownBlock = some i → False := fun i hi hs => by have := (World.ownsRow.lt hB294 i hs).1; have := (World.ownsRow.lt O16 i hi).2; omega
   have oo327 : ∀ i, ((Value.slice D289 y285.body.length dc290)).ownBlock = some i → ((Value.slice D9 x.body.length dc10)).ownBlock = some i → False := fun i hi hs => oo326 i hs hi
   have oo328 : ∀ i, (v30).ownBlock = some i → ((Value.slice D289 y285.body.length dc290)).ownBlock = some i → False := fun i hi hs => by have := (World.ownsRow.lt hB294 i hs).1; have := (World.ownsRow.lt O34 i hi).2; omega
   have oo329 : ∀ i, ((Value.slice D289 y285.body.length dc290)).ownBlock = some i → (v30).ownBlock = some i → False := fun i hi hs => oo328 i hs hi
   have oo330 : ∀ i, (v41).ownBlock = some i → ((Value.slice D289 y285.body.length dc290)).ownBlock = some i → False := fun i hi hs => by have := (World.ownsRow.lt hB294 i hs).1; have := (World.ownsRow.lt O45 i hi).2; omega
   have oo331 : ∀ i, ((Value.slice D289 y285.body.length dc290)).ownBlock = some i → (v41).ownBlock = some i → False := fun i hi hs => oo330 i hs hi
   have oo332 : ∀ i, ((Value.slice V100 y98.rep.rows.length c101)).ownBlock = some i → ((Value.slice D289 y285.body.length dc290)).ownBlock = some i → False := fun i hi hs => by have := (World.ownsRow.lt hB294 i hs).1; have := (World.ownsRow.lt O109 i hi).2; omega
   have oo333 : ∀ i, ((Value.slice D289 y285.body.length dc290)).ownBlock = some i → ((Value.slice V100 y98.rep.rows.length c101)).ownBlock = some i → False := fun i hi hs => oo332 i hs hi
   have oo334 : ∀ i, ((Value.slice D102 y98.body.length dc103)).ownBlock = some i → ((Value.slice D289 y285.body.length dc290)).ownBlock = some i → False := fun i hi hs => by have := (World.ownsRow.lt hB294 i hs).1; have := (World.ownsRow.lt O110 i hi).2; omega
   have oo335 : ∀ i, ((Value.slice D289 y285.body.length dc290)).ownBlock = some i → ((Value.slice D102 y98.body.length dc103)).ownBlock = some i → False := fun i hi hs => oo334 i hs hi
   have oo336 : ∀ i, ((Value.slice V159 y157.rep.rows.length c160)).ownBlock = some i → ((Value.slice D289 y285.body.length dc290)).ownBlock = some i → False := fun i hi hs => by have := (World.ownsRow.lt hB294 i hs).1; have := (World.ownsRow.lt O168 i hi).2; omega
   have oo337 : ∀ i, ((Value.slice D289 y285.body.length dc290)).ownBlock = some i → ((Value.slice V159 y157.rep.rows.length c160)).ownBlock = some i → False := fun i hi hs => oo336 i hs hi
   have oo338 : ∀ i, ((Value.slice D161 y157.body.length dc162)).ownBlock = some i → ((Value.slice D289 y285.body.length dc290)).ownBlock = some i → False := fun i hi hs => by have := (World.ownsRow.lt hB294 i hs).1; have := (World.ownsRow.lt O169 i hi).2; omega
   have oo339 : ∀ i, ((Value.slice D289 y285.body.length dc290)).ownBlock = some i → ((Value.slice D161 y157.body.length dc162)).ownBlock = some i → False := fun i hi hs => oo338 i hs hi
   have oo340 : ∀ i, (v253).ownBlock = some i → ((Value.slice D289 y285.body.length dc290)).ownBlock = some i → False := fun i hi hs => by have := (World.ownsRow.lt hB294 i hs).1; have := (World.ownsRow.lt O257 i hi).2; omega
   have oo341 : ∀ i, ((Value.slice D289 y285.body.length dc290)).ownBlock = some i → (v253).ownBlock = some i → False := fun i hi hs => oo340 i hs hi
   have hoky342 : y285.Ok := by have q := unpack_Ok (bs := (packB x).1); rw [← hu295] at q; exact q
   have hup : (y285, er286) = (x.just, 0) := by rw [hu295]; exact unpack_pack hok (by omega)
   have hupj : y285 = x.just := congrArg Prod.fst hup
   have hup0 : er286 = 0 := congrArg Prod.snd hup
   have O296 := own_base hR293 K0.size
   have O297 := own_base hB294 K0.size
   refine ⟨_, _, rfl, rfl, ?_⟩
   replace K0 := K0.t0 K292
   replace H4 := H4.keep K292 (fun h => h)
   replace H28 := H28.keep K292 (fun h => h)
   replace H155 := H155.keep K292 (fun h => h)
   replace H226 := H226.keep K292 (fun h => h)
   replace O15 := own_keep0 O15 K292
   replace O16 := own_keep0 O16 K292
   replace O34 := own_keep0 O34 K292
   replace O45 := own_keep0 O45 K292
   replace O109 := own_keep0 O109 K292
   replace O110 := own_keep0 O110 K292
   replace O168 := own_keep0 O168 K292
   replace O169 := own_keep0 O169 K292
   replace O257 := own_keep0 O257 K292
   clear K292
   refine og 3 [(2, (ptr b1)), (4, (Value.bool false)), (114, (agg [(i64 y285.kind), (i64 y285.n), (i64 y285.group), (i64 y285.op.kind), (Value.string (str y285.op.frm)), (Value.string (str y285.op.to)), (i64 y285.op.amount), (Value.string (str y285.op.key)), (i64 y285.op.slot), (i64 y285.op.shard), (i64 y285.rep.why), (i64 y285.rep.amount), (Value.slice V287 y285.rep.rows.length c288), (Value.slice D289 y285.body.length dc290)])), (115, (i64 er286))] 5 ?_
   refine Ops.new (o := rowL [(i64 0), (i64 0), (i64 0), (i64 0), (Value.string ByteArray.empty), (Value.string ByteArray.empty), (i64 0), (Value.string ByteArray.empty), (i64 0), (i64 0), (i64 0), (i64 0), (Value.slice none 0 0), (Value.slice none 0 0)] 33) (V := fun b => (ptr b)) (by kernel_rfl) (d := (some 17)) (by kernel_rfl) (fun b => rfl) (fun b343 w344 hb345 H346 K347 hs348 => ?_)
   have lb343b1 : b1 < b343 := by have := H4.lt; omega
   have lb343b19 : b19 < b343 := by have := H28.lt; omega
   have lb343b140 : b140 < b343 := by have := H155.lt; omega
   have lb343b209 : b209 < b343 := by have := H226.lt; omega
   have nb343 : w.heap.size ≤ b343 := by have := K0.size; omega
   have ob349 : ∀ i, ((Value.slice V7 x.rep.rows.length c8)).ownBlock = some i → i < b343 := fun i hi => by have := (World.ownsRow.lt O15 i hi).2; omega
   have ob350 : ∀ i, ((Value.slice D9 x.body.length dc10)).ownBlock = some i → i < b343 := fun i hi => by have := (World.ownsRow.lt O16 i hi).2; omega
   have ob351 : ∀ i, (v30).ownBlock = some i → i < b343 := fun i hi => by have := (World.ownsRow.lt O34 i hi).2; omega
   have ob352 : ∀ i, (v41).ownBlock = some i → i < b343 := fun i hi => by have := (World.ownsRow.lt O45 i hi).2; omega
   have ob353 : ∀ i, ((Value.slice V100 y98.rep.rows.length c101)).ownBlock = some i → i < b343 := fun i hi => by have := (World.ownsRow.lt O109 i hi).2; omega
   have ob354 : ∀ i, ((Value.slice D102 y98.body.length dc103)).ownBlock = some i → i < b343 := fun i hi => by have := (World.ownsRow.lt O110 i hi).2; omega
   have ob355 : ∀ i, ((Value.slice V159 y157.rep.rows.length c160)).ownBlock = some i → i < b343 := fun i hi => by have := (World.ownsRow.lt O168 i hi).2; omega
   have ob356 : ∀ i, ((Value.slice D161 y157.body.length dc162)).ownBlock = some i → i < b343 := fun i hi => by have := (World.ownsRow.lt O169 i hi).2; omega
   have ob357 : ∀ i, (v253).ownBlock = some i → i < b343 := fun i hi => by have := (World.ownsRow.lt O257 i hi).2; omega
   have ob358 : ∀ i, ((Value.slice V287 y285.rep.rows.length c288)).ownBlock = some i → i < b343 := fun i hi => by have := (World.ownsRow.lt O296 i hi).2; omega
   have ob359 : ∀ i, ((Value.slice D289 y285.body.length dc290)).ownBlock = some i → i < b343 := fun i hi => by have := (World.ownsRow.lt O297 i hi).2; omega
   replace K0 := K0.t0 K347
   replace H4 := H4.keep K347 (fun h => h)
   replace H28 := H28.keep K347 (fun h => h)
   replace H155 := H155.keep K347 (fun h => h)
   replace H226 := H226.keep K347 (fun h => h)
   replace O15 := own_keep0 O15 K347
   replace O16 := own_keep0 O16 K347
   replace O34 := own_keep0 O34 K347
   replace O45 := own_keep0 O45 K347
   replace O109 := own_keep0 O109 K347
   replace O110 := own_keep0 O110 K347
   replace O168 := own_keep0 O168 K347
   replace O169 := own_keep0 O169 K347
   replace O257 := own_keep0 O257 K347
   replace O296 := own_keep0 O296 K347
   replace O297 := own_keep0 O297 K347
   clear K347 hs348
   refine Ops.put (t := 33) (b := b343) (off := 0) (v := (agg [(i64 y285.kind), (i64 y285.n), (i64 y285.group), (i64 y285.op.kind), (Value.string (str y285.op.frm)), (Value.string (str y285.op.to)), (i64 y285.op.amount), (Value.string (str y285.op.key)), (i64 y285.op.slot), (i64 y285.op.shard), (i64 y285.rep.why), (i64 y285.rep.amount), (Value.slice V287 y285.rep.rows.length c288), (Value.slice D289 y285.body.length dc290)])) (ys := [(i64 y285.kind), (i64 y285.n), (i64 y285.group), (i64 y285.op.kind), (Value.string (str y285.op.frm)), (Value.string (str y285.op.to)), (i64 y285.op.amount), (Value.string (str y285.op.key)), (i64 y285.op.slot), (i64 y285.op.shard), (i64 y285.rep.why), (i64 y285.rep.amount), (Value.slice V287 y285.rep.rows.length c288), (Value.slice D289 y285.body.length dc290)]) (by kernel_rfl) (by kernel_rfl) H346 (by kernel_rfl) (d := none) (by kernel_rfl) rfl (fun w360 H361 K362 => ?_)
   clear H346
   replace K0 := K0.trans K362 (U := none_) (fun i h1 h2 => h2) (fun i h1 h2 => by have h2 : i = b343 := h2; exfalso; omega)
   replace H4 := H4.keep K362 (by intro h; change b1 = b343 at h; omega)
   replace H28 := H28.keep K362 (by intro h; change b19 = b343 at h; omega)
   replace H155 := H155.keep K362 (by intro h; change b140 = b343 at h; omega)
   replace H226 := H226.keep K362 (by intro h; change b209 = b343 at h; omega)
   replace O15 := own_keep O15 K362 (fun i hi hs => by have hs : i = b343 := hs; have := ob349 i hi; omega)
   replace O16 := own_keep O16 K362 (fun i hi hs => by have hs : i = b343 := hs; have := ob350 i hi; omega)
   replace O34 := own_keep O34 K362 (fun i hi hs => by have hs : i = b343 := hs; have := ob351 i hi; omega)
   replace O45 := own_keep O45 K362 (fun i hi hs => by have hs : i = b343 := hs; have := ob352 i hi; omega)
   replace O109 := own_keep O109 K362 (fun i hi hs => by have hs : i = b343 := hs; have := ob353 i hi; omega)
   replace O110 := own_keep O110 K362 (fun i hi hs => by have hs : i = b343 := hs; have := ob354 i hi; omega)
   replace O168 := own_keep O168 K362 (fun i hi hs => by have hs : i = b343 := hs; have := ob355 i hi; omega)
   replace O169 := own_keep O169 K362 (fun i hi hs => by have hs : i = b343 := hs; have := ob356 i hi; omega)
   replace O257 := own_keep O257 K362 (fun i hi hs => by have hs : i = b343 := hs; have := ob357 i hi; omega)
   replace O296 := own_keep O296 K362 (fun i hi hs => by have hs : i = b343 := hs; have := ob358 i hi; omega)
   replace O297 := own_keep O297 K362 (fun i hi hs => by have hs : i = b343 := hs; have := ob359 i hi; omega)
   clear K362
   refine og 1 [(2, (ptr b1)), (4, (Value.bool false)), (17, (ptr b343)), (18, (i64 er286))] 8 ?_
   refine od ?_
   refine qs ?_
   refine q_draw (fun wz => Keeps none_ w360 wz) 13 (by kernel_rfl) (by kernel_rfl) (by kernel_rfl) (fun w363 K364 _ _ => ⟨K364, ?_⟩)
   replace K0 := K0.t0 K364
   replace H4 := H4.keep K364 (fun h => h)
   replace H28 := H28.keep K364 (fun h => h)
   replace H155 := H155.keep K364 (fun h => h)
   replace H226 := H226.keep K364 (fun h => h)
   replace H361 := H361.keep K364 (fun h => h)
   replace O15 := own_keep0 O15 K364
   replace O16 := own_keep0 O16 K364
   replace O34 := own_keep0 O34 K364
   replace O45 := own_keep0 O45 K364
   replace O109 := own_keep0 O109 K364
   replace O110 := own_keep0 O110 K364
   replace O168 := own_keep0 O168 K364
   replace O169 := own_keep0 O169 K364
   replace O257 := own_keep0 O257 K364
   replace O296 := own_keep0 O296 K364
   replace O297 := own_keep0 O297 K364
   refine Dr.strong (S' := (fun wz => Keeps none_ w363 wz)) (Keeps.refl w363) (fun wz hx => K364.trans hx (fun i _ h => h) (fun _ _ h => h)) ?_
   clear K364
   refine Dr.takes (fuel' := 10) (is' := [2, 1, 0]) [0, 1, 2] [(2, (ptr b1)), (4, (Value.bool false)), (17, (ptr b343)), (118, (Value.bool (er286 == 0)))] (by kernel_rfl) rfl (by kernel_rfl) ?_
   have h365 : (er286 == 0) = true := beq_t (by omega)
   rw [h365]
   refine Dr.take (i := 3) (v := (agg [(i64 y285.kind), (i64 y285.n), (i64 y285.group), (i64 y285.op.kind), (Value.string (str y285.op.frm)), (Value.string (str y285.op.to)), (i64 y285.op.amount), (Value.string (str y285.op.key)), (i64 y285.op.slot), (i64 y285.op.shard), (i64 y285.rep.why), (i64 y285.rep.amount), (Value.slice V287 y285.rep.rows.length c288), (Value.slice D289 y285.body.length dc290)])) (by kernel_rfl) (by kernel_rfl) (fun wz hS => Runs.load (t := 33) (a := ⟨b343, 0, none⟩) (by kernel_rfl) ((H361.keep hS (fun h => h)).loads (by kernel_rfl))) (d := (some 119)) (by kernel_rfl) rfl ?_
   refine Dr.take (i := 5) (v := (agg [(i64 x.kind), (i64 x.n), (i64 x.group), (i64 x.op.kind), (Value.string (str x.op.frm)), (Value.string (str x.op.to)), (i64 x.op.amount), (Value.string (str x.op.key)), (i64 x.op.slot), (i64 x.op.shard), (i64 x.rep.why), (i64 x.rep.amount), (Value.slice V x.rep.rows.length c), (Value.slice D x.body.length dc)])) (by kernel_rfl) (by kernel_rfl) (fun wz hS => Runs.load (t := 30) (a := ⟨b1, 0, none⟩) (by kernel_rfl) ((H4.keep hS (fun h => h)).loads (by kernel_rfl))) (d := (some 121)) (by kernel_rfl) rfl ?_
   refine Dr.call (i := 4) (by kernel_rfl) (by kernel_rfl) (d := (some 120)) (by kernel_rfl) (fun _ => taken_calls _ y285 V287 c288 D289 dc290) ?_
   rintro _ w367 ⟨rfl, K366⟩
   replace K0 := K0.t0 K366
   replace H4 := H4.keep K366 (fun h => h)
   replace H28 := H28.keep K366 (fun h => h)
   replace H155 := H155.keep K366 (fun h => h)
   replace H226 := H226.keep K366 (fun h => h)
   replace H361 := H361.keep K366 (fun h => h)
   replace O15 := own_keep0 O15 K366
   replace O16 := own_keep0 O16 K366
   replace O34 := own_keep0 O34 K366
   replace O45 := own_keep0 O45 K366
   replace O109 := own_keep0 O109 K366
   replace O110 := own_keep0 O110 K366
   replace O168 := own_keep0 O168 K366
   replace O169 := own_keep0 O169 K366
   replace O257 := own_keep0 O257 K366
   replace O296 := own_keep0 O296 K366
   replace O297 := own_keep0 O297 K366
   refine ⟨_, _, rfl, rfl, K366, ?_⟩
   refine Dr.strong (S' := (fun wz => Keeps none_ w367 wz)) (Keeps.refl w367) (fun wz hx => K366.trans hx (fun i _ h => h) (fun _ _ h => h)) ?_
   clear K366
   refine Dr.call (i := 6) (by kernel_rfl) (by kernel_rfl) (d := (some 122)) (by kernel_rfl) (fun _ => Just_calls _ x V c D dc (Rd.keep0 (by omega) hV K0) (hD.keep0 (by omega) K0)) ?_
   rintro _ w372 ⟨V368, c369, D370, dc371, rfl, K373, hR374, hB375⟩
   replace K0 := K0.t0 K373
   replace H4 := H4.keep K373 (fun h => h)
   replace H28 := H28.keep K373 (fun h => h)
   replace H155 := H155.keep K373 (fun h => h)
   replace H226 := H226.keep K373 (fun h => h)
   replace H361 := H361.keep K373 (fun h => h)
   replace O15 := own_keep0 O15 K373
   replace O16 := own_keep0 O16 K373
   replace O34 := own_keep0 O34 K373
   replace O45 := own_keep0 O45 K373
   replace O109 := own_keep0 O109 K373
   replace O110 := own_keep0 O110 K373
   replace O168 := own_keep0 O168 K373
   replace O169 := own_keep0 O169 K373
   replace O257 := own_keep0 O257 K373
   replace O296 := own_keep0 O296 K373
   replace O297 := own_keep0 O297 K373
   refine ⟨_, _, rfl, rfl, K373, ?_⟩
   refine Dr.strong (S' := (fun wz => Keeps none_ w372 wz)) (Keeps.refl w372) (fun wz hx => K373.trans hx (fun i _ h => h) (fun _ _ h => h)) ?_
   clear K373
   refine Dr.call (i := 7) (by kernel_rfl) (by kernel_rfl) (d := (some 123)) (by kernel_rfl) (fun _ => Same_calls _ y285 V287 c288 D289 dc290 x.just V368 c369 D370 dc371 (OwnT.rd O296) (OwnB.rd O297) hR374 hB375) ?_
   rintro _ w379 ⟨t376, rfl, ht377, K378⟩
   replace K0 := K0.t0 K378
   replace H4 := H4.keep K378 (fun h => h)
   replace H28 := H28.keep K378 (fun h => h)
   replace H155 := H155.keep K378 (fun h => h)
   replace H226 := H226.keep K378 (fun h => h)
   replace H361 := H361.keep K378 (fun h => h)
   replace O15 := own_keep0 O15 K378
   replace O16 := own_keep0 O16 K378
   replace O34 := own_keep0 O34 K378
   replace O45 := own_keep0 O45 K378
   replace O109 := own_keep0 O109 K378
   replace O110 := own_keep0 O110 K378
   replace O168 := own_keep0 O168 K378
   replace O169 := own_keep0 O169 K378
   replace O257 := own_keep0 O257 K378
   replace O296 := own_keep0 O296 K378
   replace O297 := own_keep0 O297 K378
   replace hR374 := (Rd.keep0 (by omega) hR374 K378)
   replace hB375 := (Rd.keep0 (by omega) hB375 K378)
   refine ⟨_, _, rfl, rfl, K378, ?_⟩
   refine Dr.strong (S' := (fun wz => Keeps none_ w379 wz)) (Keeps.refl w379) (fun wz hx => K378.trans hx (fun i _ h => h) (fun _ _ h => h)) ?_
   clear K378
   refine Dr.takes (fuel' := 3) (is' := [9, 8, 7, 6, 4, 5, 3, 2, 1, 0]) [8, 9] [(4, (Value.bool false)), (125, (Value.bool t376))] (by kernel_rfl) rfl (by kernel_rfl) ?_
   have h380 : t376 = true := ht377.2 hupj
   rw [h380]
   refine Dr.call (i := 10) (by kernel_rfl) (by kernel_rfl) (d := (some 126)) (by kernel_rfl) (fun _ => known_calls _) ?_
   rintro _ w382 ⟨rfl, K381⟩
   replace K0 := K0.t0 K381
   replace H4 := H4.keep K381 (fun h => h)
   replace H28 := H28.keep K381 (fun h => h)
   replace H155 := H155.keep K381 (fun h => h)
   replace H226 := H226.keep K381 (fun h => h)
   replace H361 := H361.keep K381 (fun h => h)
   replace O15 := own_keep0 O15 K381
   replace O16 := own_keep0 O16 K381
   replace O34 := own_keep0 O34 K381
   replace O45 := own_keep0 O45 K381
   replace O109 := own_keep0 O109 K381
   replace O110 := own_keep0 O110 K381
   replace O168 := own_keep0 O168 K381
   replace O169 := own_keep0 O169 K381
   replace O257 := own_keep0 O257 K381
   replace O296 := own_keep0 O296 K381
   replace O297 := own_keep0 O297 K381
   replace hR374 := (Rd.keep0 (by omega) hR374 K381)
   replace hB375 := (Rd.keep0 (by omega) hB375 K381)
   refine ⟨_, _, rfl, rfl, K381, ?_⟩
   refine Dr.strong (S' := (fun wz => Keeps none_ w382 wz)) (Keeps.refl w382) (fun wz hx => K381.trans hx (fun i _ h => h) (fun _ _ h => h)) ?_
   clear K381
   refine Dr.takes (fuel' := 0) (is' := [12, 11, 10, 9, 8, 7, 6, 4, 5, 3, 2, 1, 0]) [11, 12] [(4, (Value.bool true))] (by kernel_rfl) rfl (by kernel_rfl) ?_
   refine Dr.done (by kernel_rfl) ?_
   refine q_ret (by kernel_rfl) ?_
   refine ⟨(Value.bool true), retv_tmp rfl rfl, ?_⟩
   exact ⟨rfl, K0⟩
 ·rw [h251]
  have p383 : ¬ (er99 = 0) := of_beq_f h251
  refine q_skip (by kernel_rfl) ?_
  refine qs ?_
  refine qs ?_
  refine qg ?_
  refine og 2 [(2, (ptr b1)), (4, (Value.bool false)), (6, v30), (109, (Value.bool (((packB x).2) != 0)))] 2 ?_
  refine od ?_
  refine q_cond (o := .tmp 109) (b := (((packB x).2) != 0)) (by kernel_rfl) rfl (fun h384 => ?_) (fun h384 => ?_)
  ·rw [h384]
   have p385 : ¬ ((packB x).2 = 0) := of_bne_t h384
   refine qs ?_
   refine qg ?_
   refine Ops.call (by kernel_rfl) (d := (some 110)) (by kernel_rfl) (known_calls _) ?_
   rintro _ w387 ⟨rfl, K386⟩
   refine ⟨_, _, rfl, rfl, ?_⟩
   replace K0 := K0.t0 K386
   replace H4 := H4.keep K386 (fun h => h)
   replace H28 := H28.keep K386 (fun h => h)
   replace H155 := H155.keep K386 (fun h => h)
   replace H226 := H226.keep K386 (fun h => h)
   replace O15 := own_keep0 O15 K386
   replace O16 := own_keep0 O16 K386
   replace O34 := own_keep0 O34 K386
   replace O45 := own_keep0 O45 K386
   replace O109 := own_keep0 O109 K386
   replace O110 := own_keep0 O110 K386
   replace O168 := own_keep0 O168 K386
   replace O169 := own_keep0 O169 K386
   clear K386
   refine og 1 [(2, (ptr b1)), (4, (Value.bool true)), (6, v30)] 2 ?_
   refine od ?_
   refine q_ret (by kernel_rfl) ?_
   refine ⟨(Value.bool true), retv_tmp rfl rfl, ?_⟩
   exact ⟨rfl, K0⟩
  ·rw [h384]
   have p388 : (packB x).2 = 0 := of_bne_f h384
   obtain ⟨kx1, kx2, kxf, kxe, kxl⟩ := packB_ok (x := x) (by omega)
   have kxl2 : (packB x).1.length ≤ 1048576 := by rw [kxe]; exact kxl
   refine q_skip (by kernel_rfl) ?_
   refine qs ?_
   refine qg ?_
   refine og 1 [(2, (ptr b1)), (4, (Value.bool false)), (112, v30)] 1 ?_
   refine Ops.call (by kernel_rfl) (d := (some 113)) (by kernel_rfl) (Unpack_calls_any _ v30 ((packB x).1) (OwnB.rd O34) (by omega)) ?_
   rintro _ w395 ⟨y389, er390, V391, c392, D393, dc394, rfl, K396, hR397, hB398, hu399⟩
   have ob402 : ∀ i, ((Value.slice V391 y389.rep.rows.length c392)).ownBlock = some i → i ≠ b1 := fun i hi => by have := (World.ownsRow.lt hR397 i hi).1; have := H4.lt; omega
   have ob403 : ∀ i, ((Value.slice V391 y389.rep.rows.length c392)).ownBlock = some i → i ≠ b19 := fun i hi => by have := (World.ownsRow.lt hR397 i hi).1; have := H28.lt; omega
   have ob404 : ∀ i, ((Value.slice V391 y389.rep.rows.length c392)).ownBlock = some i → i ≠ b140 := fun i hi => by have := (World.ownsRow.lt hR397 i hi).1; have := H155.lt; omega
   have ob405 : ∀ i, ((Value.slice V391 y389.rep.rows.length c392)).ownBlock = some i → i ≠ b209 := fun i hi => by have := (World.ownsRow.lt hR397 i hi).1; have := H226.lt; omega
   have oo406 : ∀ i, ((Value.slice V7 x.rep.rows.length c8)).ownBlock = some i → ((Value.slice V391 y389.rep.rows.length c392)).ownBlock = some i → False := fun i hi hs => by have := (World.ownsRow.lt hR397 i hs).1; have := (World.ownsRow.lt O15 i hi).2; omega
   have oo407 : ∀ i, ((Value.slice V391 y389.rep.rows.length c392)).ownBlock = some i → ((Value.slice V7 x.rep.rows.length c8)).ownBlock = some i → False := fun i hi hs => oo406 i hs hi
   have oo408 : ∀ i, ((Value.slice D9 x.body.length dc10)).ownBlock = some i → ((Value.slice V391 y389.rep.rows.length c392)).ownBlock = some i → False := fun i hi hs => by have := (World.ownsRow.lt hR397 i hs).1; have := (World.ownsRow.lt O16 i hi).2; omega
   have oo409 : ∀ i, ((Value.slice V391 y389.rep.rows.length c392)).ownBlock = some i → ((Value.slice D9 x.body.length dc10)).ownBlock = some i → False := fun i hi hs => oo408 i hs hi
   have oo410 : ∀ i, (v30).ownBlock = some i → ((Value.slice V391 y389.rep.rows.length c392)).ownBlock = some i → False := fun i hi hs => by have := (World.ownsRow.lt hR397 i hs).1; have := (World.ownsRow.lt O34 i hi).2; omega
   have oo411 : ∀ i, ((Value.slice V391 y389.rep.rows.length c392)).ownBlock = some i → (v30).ownBlock = some i → False := fun i hi hs => oo410 i hs hi
   have oo412 : ∀ i, (v41).ownBlock = some i → ((Value.slice V391 y389.rep.rows.length c392)).ownBlock = some i → False := fun i hi hs => by have := (World.ownsRow.lt hR397 i hs).1; have := (World.ownsRow.lt O45 i hi).2; omega
   have oo413 : ∀ i, ((Value.slice V391 y389.rep.rows.length c392)).ownBlock = some i → (v41).ownBlock = some i → False := fun i hi hs => oo412 i hs hi
   have oo414 : ∀ i, ((Value.slice V100 y98.rep.rows.length c101)).ownBlock = some i → ((Value.slice V391 y389.rep.rows.length c392)).ownBlock = some i → False := fun i hi hs => by have := (World.ownsRow.lt hR397 i hs).1; have := (World.ownsRow.lt O109 i hi).2; omega
   have oo415 : ∀ i, ((Value.slice V391 y389.rep.rows.length c392)).ownBlock = some i → ((Value.slice V100 y98.rep.rows.length c101)).ownBlock = some i → False := fun i hi hs => oo414 i hs hi
   have oo416 : ∀ i, ((Value.slice D102 y98.body.length dc103)).ownBlock = some i → ((Value.slice V391 y389.rep.rows.length c392)).ownBlock = some i → False := fun i hi hs => by have := (World.ownsRow.lt hR397 i hs).1; have := (World.ownsRow.lt O110 i hi).2; omega
   have oo417 : ∀ i, ((Value.slice V391 y389.rep.rows.length c392)).ownBlock = some i → ((Value.slice D102 y98.body.length dc103)).ownBlock = some i → False := fun i hi hs => oo416 i hs hi
   have oo418 : ∀ i, ((Value.slice V159 y157.rep.rows.length c160)).ownBlock = some i → ((Value.slice V391 y389.rep.rows.length c392)).ownBlock = some i → False := fun i hi hs => by have := (World.ownsRow.lt hR397 i hs).1; have := (World.ownsRow.lt O168 i hi).2; omega
   have oo419 : ∀ i, ((Value.slice V391 y389.rep.rows.length c392)).ownBlock = some i → ((Value.slice V159 y157.rep.rows.length c160)).ownBlock = some i → False := fun i hi hs => oo418 i hs hi
   have oo420 : ∀ i, ((Value.slice D161 y157.body.length dc162)).ownBlock = some i → ((Value.slice V391 y389.rep.rows.length c392)).ownBlock = some i → False := fun i hi hs => by have := (World.ownsRow.lt hR397 i hs).1; have := (World.ownsRow.lt O169 i hi).2; omega
   have oo421 : ∀ i, ((Value.slice V391 y389.rep.rows.length c392)).ownBlock = some i → ((Value.slice D161 y157.body.length dc162)).ownBlock = some i → False := fun i hi hs => oo420 i hs hi
   have ob422 : ∀ i, ((Value.slice D393 y389.body.length dc394)).ownBlock = some i → i ≠ b1 := fun i hi => by have := (World.ownsRow.lt hB398 i hi).1; have := H4.lt; omega
   have ob423 : ∀ i, ((Value.slice D393 y389.body.length dc394)).ownBlock = some i → i ≠ b19 := fun i hi => by have := (World.ownsRow.lt hB398 i hi).1; have := H28.lt; omega
   have ob424 : ∀ i, ((Value.slice D393 y389.body.length dc394)).ownBlock = some i → i ≠ b140 := fun i hi => by have := (World.ownsRow.lt hB398 i hi).1; have := H155.lt; omega
   have ob425 : ∀ i, ((Value.slice D393 y389.body.length dc394)).ownBlock = some i → i ≠ b209 := fun i hi => by have := (World.ownsRow.lt hB398 i hi).1; have := H226.lt; omega
   have oo426 : ∀ i, ((Value.slice V7 x.rep.rows.length c8)).ownBlock = some i → ((Value.slice D393 y389.body.length dc394)).ownBlock = some i → False := fun i hi hs => by have := (World.ownsRow.lt hB398 i hs).1; have := (World.ownsRow.lt O15 i hi).2; omega
   have oo427 : ∀ i, ((Value.slice D393 y389.body.length dc394)).ownBlock = some i → ((Value.slice V7 x.rep.rows.length c8)).ownBlock = some i → False := fun i hi hs => oo426 i hs hi
   have oo428 : ∀ i, ((Value.slice D9 x.body.length dc10)).ownBlock = some i → ((Value.slice D393 y389.body.length dc394)).ownBlock = some i → False := fun i hi hs => by have := (World.ownsRow.lt hB398 i hs).1; have := (World.ownsRow.lt O16 i hi).2; omega
   have oo429 : ∀ i, ((Value.slice D393 y389.body.length dc394)).ownBlock = some i → ((Value.slice D9 x.body.length dc10)).ownBlock = some i → False := fun i hi hs => oo428 i hs hi
   have oo430 : ∀ i, (v30).ownBlock = some i → ((Value.slice D393 y389.body.length dc394)).ownBlock = some i → False := fun i hi hs => by have := (World.ownsRow.lt hB398 i hs).1; have := (World.ownsRow.lt O34 i hi).2; omega
   have oo431 : ∀ i, ((Value.slice D393 y389.body.length dc394)).ownBlock = some i → (v30).ownBlock = some i → False := fun i hi hs => oo430 i hs hi
   have oo432 : ∀ i, (v41).ownBlock = some i → ((Value.slice D393 y389.body.length dc394)).ownBlock = some i → False := fun i hi hs => by have := (World.ownsRow.lt hB398 i hs).1; have := (World.ownsRow.lt O45 i hi).2; omega
   have oo433 : ∀ i, ((Value.slice D393 y389.body.length dc394)).ownBlock = some i → (v41).ownBlock = some i → False := fun i hi hs => oo432 i hs hi
   have oo434 : ∀ i, ((Value.slice V100 y98.rep.rows.length c101)).ownBlock = some i → ((Value.slice D393 y389.body.length dc394)).ownBlock = some i → False := fun i hi hs => by have := (World.ownsRow.lt hB398 i hs).1; have := (World.ownsRow.lt O109 i hi).2; omega
   have oo435 : ∀ i, ((Value.slice D393 y389.body.length dc394)).ownBlock = some i → ((Value.slice V100 y98.rep.rows.length c101)).ownBlock = some i → False := fun i hi hs => oo434 i hs hi
   have oo436 : ∀ i, ((Value.slice D102 y98.body.length dc103)).ownBlock = some i → ((Value.slice D393 y389.body.length dc394)).ownBlock = some i → False := fun i hi hs => by have := (World.ownsRow.lt hB398 i hs).1; have := (World.ownsRow.lt O110 i hi).2; omega
   have oo437 : ∀ i, ((Value.slice D393 y389.body.length dc394)).ownBlock = some i → ((Value.slice D102 y98.body.length dc103)).ownBlock = some i → False := fun i hi hs => oo436 i hs hi
   have oo438 : ∀ i, ((Value.slice V159 y157.rep.rows.length c160)).ownBlock = some i → ((Value.slice D393 y389.body.length dc394)).ownBlock = some i → False := fun i hi hs => by have := (World.ownsRow.lt hB398 i hs).1; have := (World.ownsRow.lt O168 i hi).2; omega
   have oo439 : ∀ i, ((Value.slice D393 y389.body.length dc394)).ownBlock = some i → ((Value.slice V159 y157.rep.rows.length c160)).ownBlock = some i → False := fun i hi hs => oo438 i hs hi
   have oo440 : ∀ i, ((Value.slice D161 y157.body.length dc162)).ownBlock = some i → ((Value.slice D393 y389.body.length dc394)).ownBlock = some i → False := fun i hi hs => by have := (World.ownsRow.lt hB398 i hs).1; have := (World.ownsRow.lt O169 i hi).2; omega
   have oo441 : ∀ i, ((Value.slice D393 y389.body.length dc394)).ownBlock = some i → ((Value.slice D161 y157.body.length dc162)).ownBlock = some i → False := fun i hi hs => oo440 i hs hi
   have hoky442 : y389.Ok := by have q := unpack_Ok (bs := (packB x).1); rw [← hu399] at q; exact q
   have hup : (y389, er390) = (x.just, 0) := by rw [hu399]; exact unpack_pack hok (by omega)
   have hupj : y389 = x.just := congrArg Prod.fst hup
   have hup0 : er390 = 0 := congrArg Prod.snd hup
   have O400 := own_base hR397 K0.size
   have O401 := own_base hB398 K0.size
   refine ⟨_, _, rfl, rfl, ?_⟩
   replace K0 := K0.t0 K396
   replace H4 := H4.keep K396 (fun h => h)
   replace H28 := H28.keep K396 (fun h => h)
   replace H155 := H155.keep K396 (fun h => h)
   replace H226 := H226.keep K396 (fun h => h)
   replace O15 := own_keep0 O15 K396
   replace O16 := own_keep0 O16 K396
   replace O34 := own_keep0 O34 K396
   replace O45 := own_keep0 O45 K396
   replace O109 := own_keep0 O109 K396
   replace O110 := own_keep0 O110 K396
   replace O168 := own_keep0 O168 K396
   replace O169 := own_keep0 O169 K396
   clear K396
   refine og 3 [(2, (ptr b1)), (4, (Value.bool false)), (114, (agg [(i64 y389.kind), (i64 y389.n), (i64 y389.group), (i64 y389.op.kind), (Value.string (str y389.op.frm)), (Value.string (str y389.op.to)), (i64 y389.op.amount), (Value.string (str y389.op.key)), (i64 y389.op.slot), (i64 y389.op.shard), (i64 y389.rep.why), (i64 y389.rep.amount), (Value.slice V391 y389.rep.rows.length c392), (Value.slice D393 y389.body.length dc394)])), (115, (i64 er390))] 5 ?_
   refine Ops.new (o := rowL [(i64 0), (i64 0), (i64 0), (i64 0), (Value.string ByteArray.empty), (Value.string ByteArray.empty), (i64 0), (Value.string ByteArray.empty), (i64 0), (i64 0), (i64 0), (i64 0), (Value.slice none 0 0), (Value.slice none 0 0)] 33) (V := fun b => (ptr b)) (by kernel_rfl) (d := (some 17)) (by kernel_rfl) (fun b => rfl) (fun b443 w444 hb445 H446 K447 hs448 => ?_)
   have lb443b1 : b1 < b443 := by have := H4.lt; omega
   have lb443b19 : b19 < b443 := by have := H28.lt; omega
   have lb443b140 : b140 < b443 := by have := H155.lt; omega
   have lb443b209 : b209 < b443 := by have := H226.lt; omega
   have nb443 : w.heap.size ≤ b443 := by have := K0.size; omega
   have ob449 : ∀ i, ((Value.slice V7 x.rep.rows.length c8)).ownBlock = some i → i < b443 := fun i hi => by have := (World.ownsRow.lt O15 i hi).2; omega
   have ob450 : ∀ i, ((Value.slice D9 x.body.length dc10)).ownBlock = some i → i < b443 := fun i hi => by have := (World.ownsRow.lt O16 i hi).2; omega
   have ob451 : ∀ i, (v30).ownBlock = some i → i < b443 := fun i hi => by have := (World.ownsRow.lt O34 i hi).2; omega
   have ob452 : ∀ i, (v41).ownBlock = some i → i < b443 := fun i hi => by have := (World.ownsRow.lt O45 i hi).2; omega
   have ob453 : ∀ i, ((Value.slice V100 y98.rep.rows.length c101)).ownBlock = some i → i < b443 := fun i hi => by have := (World.ownsRow.lt O109 i hi).2; omega
   have ob454 : ∀ i, ((Value.slice D102 y98.body.length dc103)).ownBlock = some i → i < b443 := fun i hi => by have := (World.ownsRow.lt O110 i hi).2; omega
   have ob455 : ∀ i, ((Value.slice V159 y157.rep.rows.length c160)).ownBlock = some i → i < b443 := fun i hi => by have := (World.ownsRow.lt O168 i hi).2; omega
   have ob456 : ∀ i, ((Value.slice D161 y157.body.length dc162)).ownBlock = some i → i < b443 := fun i hi => by have := (World.ownsRow.lt O169 i hi).2; omega
   have ob457 : ∀ i, ((Value.slice V391 y389.rep.rows.length c392)).ownBlock = some i → i < b443 := fun i hi => by have := (World.ownsRow.lt O400 i hi).2; omega
   have ob458 : ∀ i, ((Value.slice D393 y389.body.length dc394)).ownBlock = some i → i < b443 := fun i hi => by have := (World.ownsRow.lt O401 i hi).2; omega
   replace K0 := K0.t0 K447
   replace H4 := H4.keep K447 (fun h => h)
   replace H28 := H28.keep K447 (fun h => h)
   replace H155 := H155.keep K447 (fun h => h)
   replace H226 := H226.keep K447 (fun h => h)
   replace O15 := own_keep0 O15 K447
   replace O16 := own_keep0 O16 K447
   replace O34 := own_keep0 O34 K447
   replace O45 := own_keep0 O45 K447
   replace O109 := own_keep0 O109 K447
   replace O110 := own_keep0 O110 K447
   replace O168 := own_keep0 O168 K447
   replace O169 := own_keep0 O169 K447
   replace O400 := own_keep0 O400 K447
   replace O401 := own_keep0 O401 K447
   clear K447 hs448
   refine Ops.put (t := 33) (b := b443) (off := 0) (v := (agg [(i64 y389.kind), (i64 y389.n), (i64 y389.group), (i64 y389.op.kind), (Value.string (str y389.op.frm)), (Value.string (str y389.op.to)), (i64 y389.op.amount), (Value.string (str y389.op.key)), (i64 y389.op.slot), (i64 y389.op.shard), (i64 y389.rep.why), (i64 y389.rep.amount), (Value.slice V391 y389.rep.rows.length c392), (Value.slice D393 y389.body.length dc394)])) (ys := [(i64 y389.kind), (i64 y389.n), (i64 y389.group), (i64 y389.op.kind), (Value.string (str y389.op.frm)), (Value.string (str y389.op.to)), (i64 y389.op.amount), (Value.string (str y389.op.key)), (i64 y389.op.slot), (i64 y389.op.shard), (i64 y389.rep.why), (i64 y389.rep.amount), (Value.slice V391 y389.rep.rows.length c392), (Value.slice D393 y389.body.length dc394)]) (by kernel_rfl) (by kernel_rfl) H446 (by kernel_rfl) (d := none) (by kernel_rfl) rfl (fun w459 H460 K461 => ?_)
   clear H446
   replace K0 := K0.trans K461 (U := none_) (fun i h1 h2 => h2) (fun i h1 h2 => by have h2 : i = b443 := h2; exfalso; omega)
   replace H4 := H4.keep K461 (by intro h; change b1 = b443 at h; omega)
   replace H28 := H28.keep K461 (by intro h; change b19 = b443 at h; omega)
   replace H155 := H155.keep K461 (by intro h; change b140 = b443 at h; omega)
   replace H226 := H226.keep K461 (by intro h; change b209 = b443 at h; omega)
   replace O15 := own_keep O15 K461 (fun i hi hs => by have hs : i = b443 := hs; have := ob449 i hi; omega)
   replace O16 := own_keep O16 K461 (fun i hi hs => by have hs : i = b443 := hs; have := ob450 i hi; omega)
   replace O34 := own_keep O34 K461 (fun i hi hs => by have hs : i = b443 := hs; have := ob451 i hi; omega)
   replace O45 := own_keep O45 K461 (fun i hi hs => by have hs : i = b443 := hs; have := ob452 i hi; omega)
   replace O109 := own_keep O109 K461 (fun i hi hs => by have hs : i = b443 := hs; have := ob453 i hi; omega)
   replace O110 := own_keep O110 K461 (fun i hi hs => by have hs : i = b443 := hs; have := ob454 i hi; omega)
   replace O168 := own_keep O168 K461 (fun i hi hs => by have hs : i = b443 := hs; have := ob455 i hi; omega)
   replace O169 := own_keep O169 K461 (fun i hi hs => by have hs : i = b443 := hs; have := ob456 i hi; omega)
   replace O400 := own_keep O400 K461 (fun i hi hs => by have hs : i = b443 := hs; have := ob457 i hi; omega)
   replace O401 := own_keep O401 K461 (fun i hi hs => by have hs : i = b443 := hs; have := ob458 i hi; omega)
   clear K461
   refine og 1 [(2, (ptr b1)), (4, (Value.bool false)), (17, (ptr b443)), (18, (i64 er390))] 8 ?_
   refine od ?_
   refine qs ?_
   refine q_draw (fun wz => Keeps none_ w459 wz) 13 (by kernel_rfl) (by kernel_rfl) (by kernel_rfl) (fun w462 K463 _ _ => ⟨K463, ?_⟩)
   replace K0 := K0.t0 K463
   replace H4 := H4.keep K463 (fun h => h)
   replace H28 := H28.keep K463 (fun h => h)
   replace H155 := H155.keep K463 (fun h => h)
   replace H226 := H226.keep K463 (fun h => h)
   replace H460 := H460.keep K463 (fun h => h)
   replace O15 := own_keep0 O15 K463
   replace O16 := own_keep0 O16 K463
   replace O34 := own_keep0 O34 K463
   replace O45 := own_keep0 O45 K463
   replace O109 := own_keep0 O109 K463
   replace O110 := own_keep0 O110 K463
   replace O168 := own_keep0 O168 K463
   replace O169 := own_keep0 O169 K463
   replace O400 := own_keep0 O400 K463
   replace O401 := own_keep0 O401 K463
   refine Dr.strong (S' := (fun wz => Keeps none_ w462 wz)) (Keeps.refl w462) (fun wz hx => K463.trans hx (fun i _ h => h) (fun _ _ h => h)) ?_
   clear K463
   refine Dr.takes (fuel' := 10) (is' := [2, 1, 0]) [0, 1, 2] [(2, (ptr b1)), (4, (Value.bool false)), (17, (ptr b443)), (118, (Value.bool (er390 == 0)))] (by kernel_rfl) rfl (by kernel_rfl) ?_
   have h464 : (er390 == 0) = true := beq_t (by omega)
   rw [h464]
   refine Dr.take (i := 3) (v := (agg [(i64 y389.kind), (i64 y389.n), (i64 y389.group), (i64 y389.op.kind), (Value.string (str y389.op.frm)), (Value.string (str y389.op.to)), (i64 y389.op.amount), (Value.string (str y389.op.key)), (i64 y389.op.slot), (i64 y389.op.shard), (i64 y389.rep.why), (i64 y389.rep.amount), (Value.slice V391 y389.rep.rows.length c392), (Value.slice D393 y389.body.length dc394)])) (by kernel_rfl) (by kernel_rfl) (fun wz hS => Runs.load (t := 33) (a := ⟨b443, 0, none⟩) (by kernel_rfl) ((H460.keep hS (fun h => h)).loads (by kernel_rfl))) (d := (some 119)) (by kernel_rfl) rfl ?_
   refine Dr.take (i := 5) (v := (agg [(i64 x.kind), (i64 x.n), (i64 x.group), (i64 x.op.kind), (Value.string (str x.op.frm)), (Value.string (str x.op.to)), (i64 x.op.amount), (Value.string (str x.op.key)), (i64 x.op.slot), (i64 x.op.shard), (i64 x.rep.why), (i64 x.rep.amount), (Value.slice V x.rep.rows.length c), (Value.slice D x.body.length dc)])) (by kernel_rfl) (by kernel_rfl) (fun wz hS => Runs.load (t := 30) (a := ⟨b1, 0, none⟩) (by kernel_rfl) ((H4.keep hS (fun h => h)).loads (by kernel_rfl))) (d := (some 121)) (by kernel_rfl) rfl ?_
   refine Dr.call (i := 4) (by kernel_rfl) (by kernel_rfl) (d := (some 120)) (by kernel_rfl) (fun _ => taken_calls _ y389 V391 c392 D393 dc394) ?_
   rintro _ w466 ⟨rfl, K465⟩
   replace K0 := K0.t0 K465
   replace H4 := H4.keep K465 (fun h => h)
   replace H28 := H28.keep K465 (fun h => h)
   replace H155 := H155.keep K465 (fun h => h)
   replace H226 := H226.keep K465 (fun h => h)
   replace H460 := H460.keep K465 (fun h => h)
   replace O15 := own_keep0 O15 K465
   replace O16 := own_keep0 O16 K465
   replace O34 := own_keep0 O34 K465
   replace O45 := own_keep0 O45 K465
   replace O109 := own_keep0 O109 K465
   replace O110 := own_keep0 O110 K465
   replace O168 := own_keep0 O168 K465
   replace O169 := own_keep0 O169 K465
   replace O400 := own_keep0 O400 K465
   replace O401 := own_keep0 O401 K465
   refine ⟨_, _, rfl, rfl, K465, ?_⟩
   refine Dr.strong (S' := (fun wz => Keeps none_ w466 wz)) (Keeps.refl w466) (fun wz hx => K465.trans hx (fun i _ h => h) (fun _ _ h => h)) ?_
   clear K465
   refine Dr.call (i := 6) (by kernel_rfl) (by kernel_rfl) (d := (some 122)) (by kernel_rfl) (fun _ => Just_calls _ x V c D dc (Rd.keep0 (by omega) hV K0) (hD.keep0 (by omega) K0)) ?_
   rintro _ w471 ⟨V467, c468, D469, dc470, rfl, K472, hR473, hB474⟩
   replace K0 := K0.t0 K472
   replace H4 := H4.keep K472 (fun h => h)
   replace H28 := H28.keep K472 (fun h => h)
   replace H155 := H155.keep K472 (fun h => h)
   replace H226 := H226.keep K472 (fun h => h)
   replace H460 := H460.keep K472 (fun h => h)
   replace O15 := own_keep0 O15 K472
   replace O16 := own_keep0 O16 K472
   replace O34 := own_keep0 O34 K472
   replace O45 := own_keep0 O45 K472
   replace O109 := own_keep0 O109 K472
   replace O110 := own_keep0 O110 K472
   replace O168 := own_keep0 O168 K472
   replace O169 := own_keep0 O169 K472
   replace O400 := own_keep0 O400 K472
   replace O401 := own_keep0 O401 K472
   refine ⟨_, _, rfl, rfl, K472, ?_⟩
   refine Dr.strong (S' := (fun wz => Keeps none_ w471 wz)) (Keeps.refl w471) (fun wz hx => K472.trans hx (fun i _ h => h) (fun _ _ h => h)) ?_
   clear K472
   refine Dr.call (i := 7) (by kernel_rfl) (by kernel_rfl) (d := (some 123)) (by kernel_rfl) (fun _ => Same_calls _ y389 V391 c392 D393 dc394 x.just V467 c468 D469 dc470 (OwnT.rd O400) (OwnB.rd O401) hR473 hB474) ?_
   rintro _ w478 ⟨t475, rfl, ht476, K477⟩
   replace K0 := K0.t0 K477
   replace H4 := H4.keep K477 (fun h => h)
   replace H28 := H28.keep K477 (fun h => h)
   replace H155 := H155.keep K477 (fun h => h)
   replace H226 := H226.keep K477 (fun h => h)
   replace H460 := H460.keep K477 (fun h => h)
   replace O15 := own_keep0 O15 K477
   replace O16 := own_keep0 O16 K477
   replace O34 := own_keep0 O34 K477
   replace O45 := own_keep0 O45 K477
   replace O109 := own_keep0 O109 K477
   replace O110 := own_keep0 O110 K477
   replace O168 := own_keep0 O168 K477
   replace O169 := own_keep0 O169 K477
   replace O400 := own_keep0 O400 K477
   replace O401 := own_keep0 O401 K477
   replace hR473 := (Rd.keep0 (by omega) hR473 K477)
   replace hB474 := (Rd.keep0 (by omega) hB474 K477)
   refine ⟨_, _, rfl, rfl, K477, ?_⟩
   refine Dr.strong (S' := (fun wz => Keeps none_ w478 wz)) (Keeps.refl w478) (fun wz hx => K477.trans hx (fun i _ h => h) (fun _ _ h => h)) ?_
   clear K477
   refine Dr.takes (fuel' := 3) (is' := [9, 8, 7, 6, 4, 5, 3, 2, 1, 0]) [8, 9] [(4, (Value.bool false)), (125, (Value.bool t475))] (by kernel_rfl) rfl (by kernel_rfl) ?_
   have h479 : t475 = true := ht476.2 hupj
   rw [h479]
   refine Dr.call (i := 10) (by kernel_rfl) (by kernel_rfl) (d := (some 126)) (by kernel_rfl) (fun _ => known_calls _) ?_
   rintro _ w481 ⟨rfl, K480⟩
   replace K0 := K0.t0 K480
   replace H4 := H4.keep K480 (fun h => h)
   replace H28 := H28.keep K480 (fun h => h)
   replace H155 := H155.keep K480 (fun h => h)
   replace H226 := H226.keep K480 (fun h => h)
   replace H460 := H460.keep K480 (fun h => h)
   replace O15 := own_keep0 O15 K480
   replace O16 := own_keep0 O16 K480
   replace O34 := own_keep0 O34 K480
   replace O45 := own_keep0 O45 K480
   replace O109 := own_keep0 O109 K480
   replace O110 := own_keep0 O110 K480
   replace O168 := own_keep0 O168 K480
   replace O169 := own_keep0 O169 K480
   replace O400 := own_keep0 O400 K480
   replace O401 := own_keep0 O401 K480
   replace hR473 := (Rd.keep0 (by omega) hR473 K480)
   replace hB474 := (Rd.keep0 (by omega) hB474 K480)
   refine ⟨_, _, rfl, rfl, K480, ?_⟩
   refine Dr.strong (S' := (fun wz => Keeps none_ w481 wz)) (Keeps.refl w481) (fun wz hx => K480.trans hx (fun i _ h => h) (fun _ _ h => h)) ?_
   clear K480
   refine Dr.takes (fuel' := 0) (is' := [12, 11, 10, 9, 8, 7, 6, 4, 5, 3, 2, 1, 0]) [11, 12] [(4, (Value.bool true))] (by kernel_rfl) rfl (by kernel_rfl) ?_
   refine Dr.done (by kernel_rfl) ?_
   refine q_ret (by kernel_rfl) ?_
   refine ⟨(Value.bool true), retv_tmp rfl rfl, ?_⟩
   exact ⟨rfl, K0⟩
end Go.Proofs.Ytlnidnadpdpciaa
