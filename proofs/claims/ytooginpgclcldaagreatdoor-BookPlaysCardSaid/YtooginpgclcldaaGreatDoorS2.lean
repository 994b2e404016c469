/- all that can be seen of both books -/
import Derived.Test.YtooginpgclcldaaGreatDoorProg
import Derived.Test.YtooginpgclcldaaGreatDoorRC
import Derived.Test.YtooginpgclcldaaGreatDoorRF
import Derived.Test.YtooginpgclcldaaGreatDoorKN
import Derived.Test.YtooginpgclcldaaGreatDoorKO
import Derived.Test.YtooginpgclcldaaGreatDoorKQ
import Derived.Test.YtooginpgclcldaaGreatDoorKI
import Derived.Test.YtooginpgclcldaaGreatDoorKG
import Derived.Test.YtooginpgclcldaaGreatDoorOF
import Derived.Test.YtooginpgclcldaaGreatDoorOL
import Derived.Test.YtooginpgclcldaaGreatDoorLX
set_option linter.unusedVariables false
namespace Go.Proofs.YtooginpgclcldaaGreatDoor
open Go.Q Go.RowKit

theorem alike_body (w : World) (ln : Nat) (b6 b13 b15 b16 n : Nat) (VA : Option Addr) (vc : Nat) (l : List RowM) (x : RowM) (H13 : Has w b13 (rowL [.slice VA l.length vc] 75)) (H15 : Has w b15 (rowL [(i64 ((n : Nat) : Int))] 3)) (H16 : Has w b16 (rowL x.cells 52)) (hV : RdT w 2 RowM.cells (.slice VA l.length vc) l) (hVb : ∀ q, (Value.slice VA l.length vc).ownBlock = some q → q ≠ b15) (hx : l[n]? = some x) (hd : b13 ≠ b15 ∧ b16 ≠ b15) : wpR (Fence.wide.inRound ln) Tryz.prog 9 Tryz.f12.ntmps (cd Tryz.f12 [1, 0, 1, 0, 1, 1, 1, 1, 1, 1, 1, 1, 1, 1]) (fun _ e _ w' => e = .normal ∧ Keeps (fun q => q = b15) w w' ∧ Has w' b15 (rowL [(i64 ((n + 1 : Nat) : Int))] 3)) [] [(6, (ptr b6)), (13, (ptr b13)), (15, (ptr b15)), (16, (ptr b16))] w := by
 have hnl := (List.getElem?_eq_some_iff.1 hx).1
 have hcap := (RdT.len RowM.two (by decide) hV).2
 unfold maxLen at hcap
 have K0 : Keeps (fun q => q = b15) w w := (Keeps.refl w).mono (fun _ _ h => h.elim)
 refine qr_block (id := 3) (by kernel_rfl) ?_
 refine qr_seq (by kernel_rfl) ?_
 refine qr_seq (by kernel_rfl) ?_
 refine qr_draw (Open.round ln) (fun wz => Keeps none_ w wz) 12 (by kernel_rfl) (by kernel_rfl) (by kernel_rfl) (by kernel_rfl) (fun w1 K2 _ _ => ⟨K2, ?_⟩)
 replace K0 := K0.trans K2 (U := (fun i => i = b15)) (fun i h1 h2 => h2) (fun i h1 h2 => by exact h2.elim)
 replace H13 := H13.keep K2 (fun h => h)
 replace H15 := H15.keep K2 (fun h => h)
 replace H16 := H16.keep K2 (fun h => h)
 replace hV := (Rd.keep0 (by omega) hV K2)
 refine Dr.strong (S' := (fun wz => Keeps none_ w1 wz)) (Keeps.refl w1) (fun wz hx => K2.trans hx (fun i _ h => h) (fun _ _ h => h)) ?_
 clear K2
 refine Dr.take (i := 0) (v := (i64 ((n : Nat) : Int))) (by kernel_rfl) (by kernel_rfl) (fun wz hS => Runs.load (t := 3) (a := ⟨b15, 0, none⟩) (by kernel_rfl) ((H15.keep hS (fun h => h)).loads (by kernel_rfl))) (d := (some 107)) (by kernel_rfl) rfl ?_
 refine Dr.take (i := 1) (v := (Value.slice VA l.length vc)) (by kernel_rfl) (by kernel_rfl) (fun wz hS => Runs.load (t := 75) (a := ⟨b13, 0, none⟩) (by kernel_rfl) ((H13.keep hS (fun h => h)).loads (by kernel_rfl))) (d := (some 108)) (by kernel_rfl) rfl ?_
 refine Dr.takes (fuel' := 7) (is' := [4, 3, 2, 1, 0]) [2, 3, 4] [(6, (ptr b6)), (13, (ptr b13)), (15, (ptr b15)), (16, (ptr b16)), (111, (Value.bool (decide (((n : Nat) : Int) ≥ ((l.length : Nat) : Int)))))] (by kernel_rfl) rfl (by kernel_rfl) ?_
 have h3 : (decide (((n : Nat) : Int) ≥ ((l.length : Nat) : Int))) = false := decide_eq_false (by omega)
 rw [h3]
 refine Dr.take (i := 5) (v := (Value.slice VA l.length vc)) (by kernel_rfl) (by kernel_rfl) (fun wz hS => Runs.load (t := 75) (a := ⟨b13, 0, none⟩) (by kernel_rfl) ((H13.keep hS (fun h => h)).loads (by kernel_rfl))) (d := (some 112)) (by kernel_rfl) rfl ?_
 refine Dr.take (i := 6) (v := (i64 ((n : Nat) : Int))) (by kernel_rfl) (by kernel_rfl) (fun wz hS => Runs.load (t := 3) (a := ⟨b15, 0, none⟩) (by kernel_rfl) ((H15.keep hS (fun h => h)).loads (by kernel_rfl))) (d := (some 113)) (by kernel_rfl) rfl ?_
 obtain ⟨rb4, ro5, hA6⟩ := Rd.addr hV (by omega)
 refine Dr.take (i := 7) (v := (Value.pointer (some ⟨rb4, ro5 + n * 2, none⟩))) (by kernel_rfl) (by kernel_rfl) (fun wz hS => Runs.ixSliceE (k := IntKind.i64) (t := 75) (len := l.length) (cap := vc) (s := 2) (off' := ro5 + n * 2) (i := ((n : Nat) : Int)) hA6 (by kernel_rfl) (by kernel_rfl) (by omega) (by omega) (by omega)) (d := (some 114)) (by kernel_rfl) rfl ?_
 refine Dr.take (i := 8) (v := (agg [(Value.string (str x.name)), (i64 x.amount)])) (by kernel_rfl) (by kernel_rfl) (fun wz hS => Runs.load (t := 52) (a := ⟨rb4, ro5 + n * 2, none⟩) (by kernel_rfl) (RdT.ld (f := RowM.cells) (x := x) RowM.two (Rd.keep0 (by decide) hV hS) (by kernel_rfl) (by kernel_rfl) hA6 hx)) (d := (some 115)) (by kernel_rfl) rfl ?_
 refine Dr.take (i := 9) (v := (agg [(Value.string (str x.name)), (i64 x.amount)])) (by kernel_rfl) (by kernel_rfl) (fun wz hS => Runs.load (t := 52) (a := ⟨b16, 0, none⟩) (by kernel_rfl) ((H16.keep hS (fun h => h)).loads (by kernel_rfl))) (d := (some 116)) (by kernel_rfl) rfl ?_
 refine Dr.take (i := 10) (v := (Value.bool (!(aggB [(Value.string (str x.name)), (i64 x.amount)] [(Value.string (str x.name)), (i64 x.amount)])))) (by kernel_rfl) (by kernel_rfl) (fun wz hS => Runs.aggne (t := 52) (by kernel_rfl) (by kernel_rfl)) (d := (some 117)) (by kernel_rfl) rfl ?_
 refine Dr.takes (fuel' := 0) (is' := [11, 10, 9, 8, 7, 6, 5, 4, 3, 2, 1, 0]) [11] [(6, (ptr b6)), (13, (ptr b13)), (15, (ptr b15)), (16, (ptr b16)), (118, (Value.bool (!(aggB [(Value.string (str x.name)), (i64 x.amount)] [(Value.string (str x.name)), (i64 x.amount)]))))] (by kernel_rfl) rfl (by kernel_rfl) ?_
 refine Dr.done (by kernel_rfl) ?_
 have h7 : (!(aggB [(Value.string (str x.name)), (i64 x.amount)] [(Value.string (str x.name)), (i64 x.amount)])) = false := by simp [aggB, cellB]
 rw [h7]
 refine qr_else (o := .tmp 118) (by kernel_rfl) rfl ?_
 refine qr_skip (by kernel_rfl) ?_
 refine qr_region (Open.round ln) (by kernel_rfl) (by kernel_rfl) ?_
 refine Ops.go (v := (i64 ((n : Nat) : Int))) (by kernel_rfl) (Runs.load (t := 3) (a := ⟨b15, 0, none⟩) (by kernel_rfl) (H15.loads (by kernel_rfl))) (d := (some 119)) (by kernel_rfl) rfl ?_
 refine og 1 [(6, (ptr b6)), (13, (ptr b13)), (15, (ptr b15)), (16, (ptr b16)), (118, (Value.bool false)), (120, (i64 (IntKind.i64.wrap (((n : Nat) : Int) + 1))))] 2 ?_
 have e8 : IntKind.i64.wrap (((n : Nat) : Int) + 1) = ((n + 1 : Nat) : Int) := by rw [wrap_i64 (by omega) (by omega)]; omega
 rw [e8]
 clear e8
 refine Ops.put (t := 3) (b := b15) (off := 0) (v := (i64 ((n + 1 : Nat) : Int))) (ys := [(i64 ((n + 1 : Nat) : Int))]) (by kernel_rfl) (by kernel_rfl) H15 (by kernel_rfl) (d := none) (by kernel_rfl) rfl (fun w9 H10 K11 => ?_)
 clear H15
 replace K0 := K0.trans K11 (U := (fun i => i = b15)) (fun i h1 h2 => h2) (fun i h1 h2 => by have h2 : i = b15 := h2; show i = b15; omega)
 replace H13 := H13.keep K11 (by intro h; change b13 = b15 at h; omega)
 replace H16 := H16.keep K11 (by intro h; change b16 = b15 at h; omega)
 replace hV := Rd.keep (by omega) hV K11 (fun i hi hs => by have hs : i = b15 := hs; have := hVb i hi; omega)
 clear K11
 refine od ?_
 exact ⟨rfl, K0, H10⟩

set_option maxHeartbeats 4000000 in
theorem alike_calls (w : World) (b mb : Nat) (m : List (List UInt8 × AccV)) (S : List AccM) (r : Nat) (A : Option Addr) (c : Nat) (o : BopM) (Hb : Has w b (rowL [.map (some mb)] 66)) (Hm : HasMap w mb kstr accv m) (hne : b ≠ mb) (hB : Book m S) (Hr : Has w r (rowL [.slice A S.length c] 43)) (hR : RdT w 3 AccM.cells (.slice A S.length c) S) (hbr : b ≠ r) (hmr : mb ≠ r) (ho : o.Ok) : Calls Tryz.prog 12 ⟨[(ptr b), (ptr r), (agg [(i64 o.kind), (Value.string (str o.name)), (Value.string (str o.own)), (i64 o.n), (i64 o.slot)])]⟩ w (fun e w' => e = .returned (.bool true) ∧ Keeps none_ w w') := by
 have Hbl := Hb.lt
 have Hml := Hm.lt
 have hlen := hB.len
 have hS := hB.accs
 have hSl := hS.len
 have ho3 := ho.slot
 have hrl := rowsS_len S o.slot
 have Hrl := Hr.lt
 have hcap := RdT.len AccM.three (by decide) hR
 unfold maxLen at hcap
 have K0 : Keeps none_ w w := Keeps.refl w
 refine qr_calls 11 Tryz.func12 (by kernel_rfl) (by kernel_rfl) ?_
 refine qr_seq (by kernel_rfl) ?_
 refine qr_region Open.wide (by kernel_rfl) (by kernel_rfl) ?_
 refine Ops.new (o := rowL [(i64 o.kind), (Value.string (str o.name)), (Value.string (str o.own)), (i64 o.n), (i64 o.slot)] 37) (V := fun b => (ptr b)) (by kernel_rfl) (d := (some 5)) (by kernel_rfl) (fun b => rfl) (fun b1 w2 hb3 H4 K5 hs6 => ?_)
 have lb1b : b < b1 := by have := Hb.lt; omega
 have lb1mb : mb < b1 := by have := Hm.lt; omega
 have lb1r : r < b1 := by have := Hr.lt; omega
 have nb1 : w.heap.size ≤ b1 := by have := K0.size; omega
 replace K0 := K0.t0 K5
 replace Hb := Hb.keep K5 (fun h => h)
 replace Hm := Hm.keep K5 (fun h => h)
 replace Hr := Hr.keep K5 (fun h => h)
 clear K5 hs6
 refine Ops.new (o := rowL [(Value.bool false)] 4) (V := fun b => (ptr b)) (by kernel_rfl) (d := (some 6)) (by kernel_rfl) (fun b => rfl) (fun b7 w8 hb9 H10 K11 hs12 => ?_)
 have lb7b : b < b7 := by have := Hb.lt; omega
 have lb7mb : mb < b7 := by have := Hm.lt; omega
 have lb7r : r < b7 := by have := Hr.lt; omega
 have lb7b1 : b1 < b7 := by have := H4.lt; omega
 have nb7 : w.heap.size ≤ b7 := by have := K0.size; omega
 replace K0 := K0.t0 K11
 replace Hb := Hb.keep K11 (fun h => h)
 replace Hm := Hm.keep K11 (fun h => h)
 replace Hr := Hr.keep K11 (fun h => h)
 replace H4 := H4.keep K11 (fun h => h)
 clear K11 hs12
 refine od ?_
 refine qr_seq (by kernel_rfl) ?_
 refine qr_region Open.wide (by kernel_rfl) (by kernel_rfl) ?_
 refine og 2 [(0, (ptr b)), (1, (ptr r)), (5, (ptr b1)), (6, (ptr b7)), (18, (ptr b)), (19, (Value.pointer (some ⟨b1, 1, none⟩)))] 2 ?_
 refine Ops.go (v := (Value.string (str o.name))) (by kernel_rfl) (Runs.load (t := 9) (a := ⟨b1, 1, none⟩) (by kernel_rfl) (H4.loads (by kernel_rfl))) (d := (some 20)) (by kernel_rfl) rfl ?_
 refine Ops.call (by kernel_rfl) (d := (some 21)) (by kernel_rfl) (Get_calls _ b mb m S o.name Hb Hm (by omega) hB) ?_
 rintro _ w14 ⟨rfl, K13⟩
 refine ⟨_, _, rfl, rfl, ?_⟩
 replace K0 := K0.t0 K13
 replace Hb := Hb.keep K13 (fun h => h)
 replace Hm := Hm.keep K13 (fun h => h)
 replace Hr := Hr.keep K13 (fun h => h)
 replace H4 := H4.keep K13 (fun h => h)
 replace H10 := H10.keep K13 (fun h => h)
 clear K13
 refine og 5 [(0, (ptr b)), (1, (ptr r)), (5, (ptr b1)), (6, (ptr b7)), (7, (i64 ((amtE S o.name).1))), (8, (i64 ((amtE S o.name).2)))] 9 ?_
 refine od ?_
 refine qr_seq (by kernel_rfl) ?_
 refine qr_region Open.wide (by kernel_rfl) (by kernel_rfl) ?_
 refine og 2 [(0, (ptr b)), (1, (ptr r)), (5, (ptr b1)), (6, (ptr b7)), (7, (i64 ((amtE S o.name).1))), (8, (i64 ((amtE S o.name).2))), (25, (ptr r)), (26, (Value.pointer (some ⟨b1, 1, none⟩)))] 2 ?_
 refine Ops.go (v := (Value.string (str o.name))) (by kernel_rfl) (Runs.load (t := 9) (a := ⟨b1, 1, none⟩) (by kernel_rfl) (H4.loads (by kernel_rfl))) (d := (some 27)) (by kernel_rfl) rfl ?_
 refine Ops.call (by kernel_rfl) (d := (some 28)) (by kernel_rfl) (RGet_calls _ r A c S o.name Hr (Rd.keep0 (by decide) hR K0) hS) ?_
 rintro _ w16 ⟨rfl, K15⟩
 refine ⟨_, _, rfl, rfl, ?_⟩
 replace K0 := K0.t0 K15
 replace Hb := Hb.keep K15 (fun h => h)
 replace Hm := Hm.keep K15 (fun h => h)
 replace Hr := Hr.keep K15 (fun h => h)
 replace H4 := H4.keep K15 (fun h => h)
 replace H10 := H10.keep K15 (fun h => h)
 clear K15
 refine og 5 [(0, (ptr b)), (1, (ptr r)), (5, (ptr b1)), (6, (ptr b7)), (7, (i64 ((amtE S o.name).1))), (8, (i64 ((amtE S o.name).2))), (9, (i64 ((amtE S o.name).1))), (10, (i64 ((amtE S o.name).2)))] 9 ?_
 refine od ?_
 refine qr_seq (by kernel_rfl) ?_
 refine qr_region Open.wide (by kernel_rfl) (by kernel_rfl) ?_
 refine og 2 [(0, (ptr b)), (1, (ptr r)), (5, (ptr b1)), (6, (ptr b7)), (7, (i64 ((amtE S o.name).1))), (8, (i64 ((amtE S o.name).2))), (9, (i64 ((amtE S o.name).1))), (10, (i64 ((amtE S o.name).2))), (31, (ptr b)), (32, (Value.pointer (some ⟨b1, 4, none⟩)))] 2 ?_
 refine Ops.go (v := (i64 o.slot)) (by kernel_rfl) (Runs.load (t := 3) (a := ⟨b1, 4, none⟩) (by kernel_rfl) (H4.loads (by kernel_rfl))) (d := (some 33)) (by kernel_rfl) rfl ?_
 refine Ops.call (by kernel_rfl) (d := (some 34)) (by kernel_rfl) (Rows_calls _ b mb m S o.slot Hb Hm (by omega) hB) ?_
 rintro _ w19 ⟨A17, c18, rfl, K20, hO21⟩
 have ob23 : ∀ i, ((Value.slice A17 ((rowsS S o.slot).length) c18)).ownBlock = some i → i ≠ b := fun i hi => by have := (World.ownsRow.lt hO21 i hi).1; have := Hb.lt; omega
 have ob24 : ∀ i, ((Value.slice A17 ((rowsS S o.slot).length) c18)).ownBlock = some i → i ≠ mb := fun i hi => by have := (World.ownsRow.lt hO21 i hi).1; have := Hm.lt; omega
 have ob25 : ∀ i, ((Value.slice A17 ((rowsS S o.slot).length) c18)).ownBlock = some i → i ≠ r := fun i hi => by have := (World.ownsRow.lt hO21 i hi).1; have := Hr.lt; omega
 have ob26 : ∀ i, ((Value.slice A17 ((rowsS S o.slot).length) c18)).ownBlock = some i → i ≠ b1 := fun i hi => by have := (World.ownsRow.lt hO21 i hi).1; have := H4.lt; omega
 have ob27 : ∀ i, ((Value.slice A17 ((rowsS S o.slot).length) c18)).ownBlock = some i → i ≠ b7 := fun i hi => by have := (World.ownsRow.lt hO21 i hi).1; have := H10.lt; omega
 have O22 := own_base hO21 K0.size
 clear hO21
 have hl28 := rowsS_len S o.slot
 have hl29 := hB.accs.len
 refine ⟨_, _, rfl, rfl, ?_⟩
 replace K0 := K0.t0 K20
 replace Hb := Hb.keep K20 (fun h => h)
 replace Hm := Hm.keep K20 (fun h => h)
 replace Hr := Hr.keep K20 (fun h => h)
 replace H4 := H4.keep K20 (fun h => h)
 replace H10 := H10.keep K20 (fun h => h)
 clear K20
 refine og 1 [(0, (ptr b)), (1, (ptr r)), (5, (ptr b1)), (6, (ptr b7)), (7, (i64 ((amtE S o.name).1))), (8, (i64 ((amtE S o.name).2))), (9, (i64 ((amtE S o.name).1))), (10, (i64 ((amtE S o.name).2))), (11, (Value.slice A17 ((rowsS S o.slot).length) c18))] 5 ?_
 refine od ?_
 refine qr_seq (by kernel_rfl) ?_
 refine qr_seq (by kernel_rfl) ?_
 refine qr_draw Open.wide (fun wz => Keeps none_ w19 wz) 54 (by kernel_rfl) (by kernel_rfl) (by kernel_rfl) (by kernel_rfl) (fun w30 K31 _ _ => ⟨K31, ?_⟩)
 replace K0 := K0.t0 K31
 replace Hb := Hb.keep K31 (fun h => h)
 replace Hm := Hm.keep K31 (fun h => h)
 replace Hr := Hr.keep K31 (fun h => h)
 replace H4 := H4.keep K31 (fun h => h)
 replace H10 := H10.keep K31 (fun h => h)
 replace O22 := own_keep0 O22 K31
 refine Dr.strong (S' := (fun wz => Keeps none_ w30 wz)) (Keeps.refl w30) (fun wz hx => K31.trans hx (fun i _ h => h) (fun _ _ h => h)) ?_
 clear K31
 refine Dr.takes (fuel' := 50) (is' := [3, 2, 1, 0]) [0, 1, 2, 3] [(0, (ptr b)), (1, (ptr r)), (5, (ptr b1)), (6, (ptr b7)), (8, (i64 ((amtE S o.name).2))), (10, (i64 ((amtE S o.name).2))), (11, (Value.slice A17 ((rowsS S o.slot).length) c18)), (38, (Value.bool (((amtE S o.name).1) != ((amtE S o.name).1))))] (by kernel_rfl) rfl (by kernel_rfl) ?_
 have h32 : (((amtE S o.name).1) != ((amtE S o.name).1)) = false := by simp
 rw [h32]
 refine Dr.takes (fuel' := 45) (is' := [8, 7, 6, 5, 4, 3, 2, 1, 0]) [4, 5, 6, 7, 8] [(0, (ptr b)), (1, (ptr r)), (5, (ptr b1)), (6, (ptr b7)), (11, (Value.slice A17 ((rowsS S o.slot).length) c18)), (43, (Value.bool (((amtE S o.name).2) != ((amtE S o.name).2))))] (by kernel_rfl) rfl (by kernel_rfl) ?_
 have h33 : (((amtE S o.name).2) != ((amtE S o.name).2)) = false := by simp
 rw [h33]
 refine Dr.takes (fuel' := 43) (is' := [10, 9, 8, 7, 6, 5, 4, 3, 2, 1, 0]) [9, 10] [(0, (ptr b)), (1, (ptr r)), (5, (ptr b1)), (6, (ptr b7)), (11, (Value.slice A17 ((rowsS S o.slot).length) c18)), (43, (Value.bool false)), (44, (ptr b)), (45, (Value.pointer (some ⟨b1, 1, none⟩)))] (by kernel_rfl) rfl (by kernel_rfl) ?_
 refine Dr.take (i := 11) (v := (Value.string (str o.name))) (by kernel_rfl) (by kernel_rfl) (fun wz hS => Runs.load (t := 9) (a := ⟨b1, 1, none⟩) (by kernel_rfl) ((H4.keep hS (fun h => h)).loads (by kernel_rfl))) (d := (some 46)) (by kernel_rfl) rfl ?_
 refine Dr.takes (fuel' := 40) (is' := [14, 13, 11, 10, 9, 8, 7, 6, 5, 4, 3, 2, 1, 0]) [13, 14] [(0, (ptr b)), (1, (ptr r)), (5, (ptr b1)), (6, (ptr b7)), (11, (Value.slice A17 ((rowsS S o.slot).length) c18)), (43, (Value.bool false)), (44, (ptr b)), (46, (Value.string (str o.name))), (48, (ptr r)), (49, (Value.pointer (some ⟨b1, 1, none⟩)))] (by kernel_rfl) rfl (by kernel_rfl) ?_
 refine Dr.take (i := 15) (v := (Value.string (str o.name))) (by kernel_rfl) (by kernel_rfl) (fun wz hS => Runs.load (t := 9) (a := ⟨b1, 1, none⟩) (by kernel_rfl) ((H4.keep hS (fun h => h)).loads (by kernel_rfl))) (d := (some 50)) (by kernel_rfl) rfl ?_
 refine Dr.call (i := 12) (by kernel_rfl) (by kernel_rfl) (d := (some 47)) (by kernel_rfl) (fun _ => By_calls _ b mb m S o.name Hb Hm (by omega) hB) ?_
 rintro _ w35 ⟨rfl, K34⟩
 replace K0 := K0.t0 K34
 replace Hb := Hb.keep K34 (fun h => h)
 replace Hm := Hm.keep K34 (fun h => h)
 replace Hr := Hr.keep K34 (fun h => h)
 replace H4 := H4.keep K34 (fun h => h)
 replace H10 := H10.keep K34 (fun h => h)
 replace O22 := own_keep0 O22 K34
 refine ⟨_, _, rfl, rfl, K34, ?_⟩
 refine Dr.strong (S' := (fun wz => Keeps none_ w35 wz)) (Keeps.refl w35) (fun wz hx => K34.trans hx (fun i _ h => h) (fun _ _ h => h)) ?_
 clear K34
 refine Dr.call (i := 16) (by kernel_rfl) (by kernel_rfl) (d := (some 51)) (by kernel_rfl) (fun _ => RBy_calls _ r A c S o.name Hr (Rd.keep0 (by decide) hR K0) hS) ?_
 rintro _ w37 ⟨rfl, K36⟩
 replace K0 := K0.t0 K36
 replace Hb := Hb.keep K36 (fun h => h)
 replace Hm := Hm.keep K36 (fun h => h)
 replace Hr := Hr.keep K36 (fun h => h)
 replace H4 := H4.keep K36 (fun h => h)
 replace H10 := H10.keep K36 (fun h => h)
 replace O22 := own_keep0 O22 K36
 refine ⟨_, _, rfl, rfl, K36, ?_⟩
 refine Dr.strong (S' := (fun wz => Keeps none_ w37 wz)) (Keeps.refl w37) (fun wz hx => K36.trans hx (fun i _ h => h) (fun _ _ h => h)) ?_
 clear K36
 refine Dr.take (i := 17) (v := (Value.bool (!((ownE S o.name) == (ownE S o.name))))) (by kernel_rfl) (by kernel_rfl) (fun wz hS => Runs.strne (t := 9) (by kernel_rfl)) (d := (some 52)) (by kernel_rfl) rfl ?_
 refine Dr.takes (fuel' := 34) (is' := [19, 18, 17, 16, 12, 15, 14, 13, 11, 10, 9, 8, 7, 6, 5, 4, 3, 2, 1, 0]) [18, 19] [(0, (ptr b)), (1, (ptr r)), (5, (ptr b1)), (6, (ptr b7)), (11, (Value.slice A17 ((rowsS S o.slot).length) c18)), (54, (Value.bool (!((ownE S o.name) == (ownE S o.name)))))] (by kernel_rfl) rfl (by kernel_rfl) ?_
 have h38 : (!((ownE S o.name) == (ownE S o.name))) = false := by simp
 rw [h38]
 refine Dr.takes (fuel' := 30) (is' := [24, 23, 22, 20, 19, 18, 17, 16, 12, 15, 14, 13, 11, 10, 9, 8, 7, 6, 5, 4, 3, 2, 1, 0]) [20, 22, 23, 24] [(0, (ptr b)), (1, (ptr r)), (5, (ptr b1)), (6, (ptr b7)), (11, (Value.slice A17 ((rowsS S o.slot).length) c18)), (54, (Value.bool false)), (55, (ptr b)), (59, (ptr r))] (by kernel_rfl) rfl (by kernel_rfl) ?_
 refine Dr.take (i := 25) (v := (Value.slice A S.length c)) (by kernel_rfl) (by kernel_rfl) (fun wz hS => Runs.load (t := 41) (a := ⟨r, 0, none⟩) (by kernel_rfl) ((Hr.keep hS (fun h => h)).loads (by kernel_rfl))) (d := (some 60)) (by kernel_rfl) rfl ?_
 refine Dr.takes (fuel' := 28) (is' := [26, 25, 24, 23, 22, 20, 19, 18, 17, 16, 12, 15, 14, 13, 11, 10, 9, 8, 7, 6, 5, 4, 3, 2, 1, 0]) [26] [(0, (ptr b)), (1, (ptr r)), (5, (ptr b1)), (6, (ptr b7)), (11, (Value.slice A17 ((rowsS S o.slot).length) c18)), (54, (Value.bool false)), (55, (ptr b)), (61, (i64 ((S.length : Nat) : Int)))] (by kernel_rfl) rfl (by kernel_rfl) ?_
 refine Dr.call (i := 21) (by kernel_rfl) (by kernel_rfl) (d := (some 56)) (by kernel_rfl) (fun _ => Len_calls _ b mb m S Hb Hm (by omega) hB) ?_
 rintro _ w40 ⟨rfl, K39⟩
 replace K0 := K0.t0 K39
 replace Hb := Hb.keep K39 (fun h => h)
 replace Hm := Hm.keep K39 (fun h => h)
 replace Hr := Hr.keep K39 (fun h => h)
 replace H4 := H4.keep K39 (fun h => h)
 replace H10 := H10.keep K39 (fun h => h)
 replace O22 := own_keep0 O22 K39
 refine ⟨_, _, rfl, rfl, K39, ?_⟩
 refine Dr.strong (S' := (fun wz => Keeps none_ w40 wz)) (Keeps.refl w40) (fun wz hx => K39.trans hx (fun i _ h => h) (fun _ _ h => h)) ?_
 clear K39
 refine Dr.takes (fuel' := 24) (is' := [29, 28, 27, 21, 26, 25, 24, 23, 22, 20, 19, 18, 17, 16, 12, 15, 14, 13, 11, 10, 9, 8, 7, 6, 5, 4, 3, 2, 1, 0]) [27, 28, 29] [(0, (ptr b)), (1, (ptr r)), (5, (ptr b1)), (6, (ptr b7)), (11, (Value.slice A17 ((rowsS S o.slot).length) c18)), (64, (Value.bool (((S.length : Nat) : Int) != ((S.length : Nat) : Int))))] (by kernel_rfl) rfl (by kernel_rfl) ?_
 have h41 : (((S.length : Nat) : Int) != ((S.length : Nat) : Int)) = false := by simp
 rw [h41]
 refine Dr.takes (fuel' := 22) (is' := [32, 30, 29, 28, 27, 21, 26, 25, 24, 23, 22, 20, 19, 18, 17, 16, 12, 15, 14, 13, 11, 10, 9, 8, 7, 6, 5, 4, 3, 2, 1, 0]) [30, 32] [(0, (ptr b)), (1, (ptr r)), (5, (ptr b1)), (6, (ptr b7)), (11, (Value.slice A17 ((rowsS S o.slot).length) c18)), (64, (Value.bool false)), (65, (ptr b)), (67, (ptr r))] (by kernel_rfl) rfl (by kernel_rfl) ?_
 refine Dr.call (i := 31) (by kernel_rfl) (by kernel_rfl) (d := (some 66)) (by kernel_rfl) (fun _ => Held_calls _ b mb m S Hb Hm (by omega) hB) ?_
 rintro _ w43 ⟨rfl, K42⟩
 replace K0 := K0.t0 K42
 replace Hb := Hb.keep K42 (fun h => h)
 replace Hm := Hm.keep K42 (fun h => h)
 replace Hr := Hr.keep K42 (fun h => h)
 replace H4 := H4.keep K42 (fun h => h)
 replace H10 := H10.keep K42 (fun h => h)
 replace O22 := own_keep0 O22 K42
 refine ⟨_, _, rfl, rfl, K42, ?_⟩
 refine Dr.strong (S' := (fun wz => Keeps none_ w43 wz)) (Keeps.refl w43) (fun wz hx => K42.trans hx (fun i _ h => h) (fun _ _ h => h)) ?_
 clear K42
 refine Dr.call (i := 33) (by kernel_rfl) (by kernel_rfl) (d := (some 68)) (by kernel_rfl) (fun _ => RHeld_calls _ r A c S Hr (Rd.keep0 (by decide) hR K0)) ?_
 rintro _ w45 ⟨rfl, K44⟩
 replace K0 := K0.t0 K44
 replace Hb := Hb.keep K44 (fun h => h)
 replace Hm := Hm.keep K44 (fun h => h)
 replace Hr := Hr.keep K44 (fun h => h)
 replace H4 := H4.keep K44 (fun h => h)
 replace H10 := H10.keep K44 (fun h => h)
 replace O22 := own_keep0 O22 K44
 refine ⟨_, _, rfl, rfl, K44, ?_⟩
 refine Dr.strong (S' := (fun wz => Keeps none_ w45 wz)) (Keeps.refl w45) (fun wz hx => K44.trans hx (fun i _ h => h) (fun _ _ h => h)) ?_
 clear K44
 refine Dr.takes (fuel' := 17) (is' := [36, 35, 34, 33, 31, 32, 30, 29, 28, 27, 21, 26, 25, 24, 23, 22, 20, 19, 18, 17, 16, 12, 15, 14, 13, 11, 10, 9, 8, 7, 6, 5, 4, 3, 2, 1, 0]) [34, 35, 36] [(0, (ptr b)), (1, (ptr r)), (5, (ptr b1)), (6, (ptr b7)), (11, (Value.slice A17 ((rowsS S o.slot).length) c18)), (71, (Value.bool (((heldN S : Nat) : Int) != ((heldN S : Nat) : Int))))] (by kernel_rfl) rfl (by kernel_rfl) ?_
 have h46 : (((heldN S : Nat) : Int) != ((heldN S : Nat) : Int)) = false := by simp
 rw [h46]
 refine Dr.takes (fuel' := 14) (is' := [39, 38, 37, 36, 35, 34, 33, 31, 32, 30, 29, 28, 27, 21, 26, 25, 24, 23, 22, 20, 19, 18, 17, 16, 12, 15, 14, 13, 11, 10, 9, 8, 7, 6, 5, 4, 3, 2, 1, 0]) [37, 38, 39] [(0, (ptr b)), (1, (ptr r)), (6, (ptr b7)), (11, (Value.slice A17 ((rowsS S o.slot).length) c18)), (71, (Value.bool false)), (72, (Value.slice A17 ((rowsS S o.slot).length) c18)), (73, (ptr r)), (74, (Value.pointer (some ⟨b1, 4, none⟩)))] (by kernel_rfl) rfl (by kernel_rfl) ?_
 refine Dr.take (i := 40) (v := (i64 o.slot)) (by kernel_rfl) (by kernel_rfl) (fun wz hS => Runs.load (t := 3) (a := ⟨b1, 4, none⟩) (by kernel_rfl) ((H4.keep hS (fun h => h)).loads (by kernel_rfl))) (d := (some 75)) (by kernel_rfl) rfl ?_
 refine Dr.call (i := 41) (by kernel_rfl) (by kernel_rfl) (d := (some 76)) (by kernel_rfl) (fun _ => RRows_calls _ r A c S o.slot Hr (Rd.keep0 (by decide) hR K0) hS) ?_
 rintro _ w49 ⟨A47, c48, rfl, K50, hO51⟩
 have ob53 : ∀ i, ((Value.slice A47 ((rowsS S o.slot).length) c48)).ownBlock = some i → i ≠ b := fun i hi => by have := (World.ownsRow.lt hO51 i hi).1; have := Hb.lt; omega
 have ob54 : ∀ i, ((Value.slice A47 ((rowsS S o.slot).length) c48)).ownBlock = some i → i ≠ mb := fun i hi => by have := (World.ownsRow.lt hO51 i hi).1; have := Hm.lt; omega
 have ob55 : ∀ i, ((Value.slice A47 ((rowsS S o.slot).length) c48)).ownBlock = some i → i ≠ r := fun i hi => by have := (World.ownsRow.lt hO51 i hi).1; have := Hr.lt; omega
 have ob56 : ∀ i, ((Value.slice A47 ((rowsS S o.slot).length) c48)).ownBlock = some i → i ≠ b1 := fun i hi => by have := (World.ownsRow.lt hO51 i hi).1; have := H4.lt; omega
 have ob57 : ∀ i, ((Value.slice A47 ((rowsS S o.slot).length) c48)).ownBlock = some i → i ≠ b7 := fun i hi => by have := (World.ownsRow.lt hO51 i hi).1; have := H10.lt; omega
 have oo58 : ∀ i, ((Value.slice A17 ((rowsS S o.slot).length) c18)).ownBlock = some i → ((Value.slice A47 ((rowsS S o.slot).length) c48)).ownBlock = some i → False := fun i hi hs => by have := (World.ownsRow.lt hO51 i hs).1; have := (World.ownsRow.lt O22 i hi).2; omega
 have oo59 : ∀ i, ((Value.slice A47 ((rowsS S o.slot).length) c48)).ownBlock = some i → ((Value.slice A17 ((rowsS S o.slot).length) c18)).ownBlock = some i → False := fun i hi hs => oo58 i hs hi
 have O52 := own_base hO51 K0.size
 clear hO51
 have hl60 := rowsS_len S o.slot
 have hl61 := hS.len
 replace K0 := K0.t0 K50
 replace Hb := Hb.keep K50 (fun h => h)
 replace Hm := Hm.keep K50 (fun h => h)
 replace Hr := Hr.keep K50 (fun h => h)
 replace H4 := H4.keep K50 (fun h => h)
 replace H10 := H10.keep K50 (fun h => h)
 replace O22 := own_keep0 O22 K50
 refine ⟨_, _, rfl, rfl, K50, ?_⟩
 refine Dr.strong (S' := (fun wz => Keeps none_ w49 wz)) (Keeps.refl w49) (fun wz hx => K50.trans hx (fun i _ h => h) (fun _ _ h => h)) ?_
 clear K50
 refine Dr.call (i := 42) (by kernel_rfl) (by kernel_rfl) (d := (some 77)) (by kernel_rfl) (fun _ => SameRows_calls _ A17 c18 (rowsS S o.slot) A47 c48 (rowsS S o.slot) (OwnT.rd O22) (OwnT.rd O52)) ?_
 rintro _ w65 ⟨t62, rfl, ht63, K64⟩
 replace K0 := K0.t0 K64
 replace Hb := Hb.keep K64 (fun h => h)
 replace Hm := Hm.keep K64 (fun h => h)
 replace Hr := Hr.keep K64 (fun h => h)
 replace H4 := H4.keep K64 (fun h => h)
 replace H10 := H10.keep K64 (fun h => h)
 replace O22 := own_keep0 O22 K64
 replace O52 := own_keep0 O52 K64
 refine ⟨_, _, rfl, rfl, K64, ?_⟩
 refine Dr.strong (S' := (fun wz => Keeps none_ w65 wz)) (Keeps.refl w65) (fun wz hx => K64.trans hx (fun i _ h => h) (fun _ _ h => h)) ?_
 clear K64
 refine Dr.takes (fuel' := 8) (is' := [45, 44, 43, 42, 41, 40, 39, 38, 37, 36, 35, 34, 33, 31, 32, 30, 29, 28, 27, 21, 26, 25, 24, 23, 22, 20, 19, 18, 17, 16, 12, 15, 14, 13, 11, 10, 9, 8, 7, 6, 5, 4, 3, 2, 1, 0]) [43, 44, 45] [(0, (ptr b)), (1, (ptr r)), (6, (ptr b7)), (11, (Value.slice A17 ((rowsS S o.slot).length) c18)), (80, (Value.bool (!t62)))] (by kernel_rfl) rfl (by kernel_rfl) ?_
 have h66 : (!t62) = false := by rw [show t62 = true from ht63.2 rfl]; rfl
 rw [h66]
 refine Dr.takes (fuel' := 6) (is' := [49, 46, 45, 44, 43, 42, 41, 40, 39, 38, 37, 36, 35, 34, 33, 31, 32, 30, 29, 28, 27, 21, 26, 25, 24, 23, 22, 20, 19, 18, 17, 16, 12, 15, 14, 13, 11, 10, 9, 8, 7, 6, 5, 4, 3, 2, 1, 0]) [46, 49] [(0, (ptr b)), (1, (ptr r)), (6, (ptr b7)), (11, (Value.slice A17 ((rowsS S o.slot).length) c18)), (80, (Value.bool false)), (81, (ptr b)), (84, (ptr r))] (by kernel_rfl) rfl (by kernel_rfl) ?_
 refine Dr.call (i := 47) (by kernel_rfl) (by kernel_rfl) (d := (some 82)) (by kernel_rfl) (fun _ => Bytes_calls _ b mb m S Hb Hm (by omega) hB) ?_
 rintro _ w68 ⟨v67, rfl, K69, hO70⟩
 have ob72 : ∀ i, (v67).ownBlock = some i → i ≠ b := fun i hi => by have := (World.ownsRow.lt hO70 i hi).1; have := Hb.lt; omega
 have ob73 : ∀ i, (v67).ownBlock = some i → i ≠ mb := fun i hi => by have := (World.ownsRow.lt hO70 i hi).1; have := Hm.lt; omega
 have ob74 : ∀ i, (v67).ownBlock = some i → i ≠ r := fun i hi => by have := (World.ownsRow.lt hO70 i hi).1; have := Hr.lt; omega
 have ob75 : ∀ i, (v67).ownBlock = some i → i ≠ b1 := fun i hi => by have := (World.ownsRow.lt hO70 i hi).1; have := H4.lt; omega
 have ob76 : ∀ i, (v67).ownBlock = some i → i ≠ b7 := fun i hi => by have := (World.ownsRow.lt hO70 i hi).1; have := H10.lt; omega
 have oo77 : ∀ i, ((Value.slice A17 ((rowsS S o.slot).length) c18)).ownBlock = some i → (v67).ownBlock = some i → False := fun i hi hs => by have := (World.ownsRow.lt hO70 i hs).1; have := (World.ownsRow.lt O22 i hi).2; omega
 have oo78 : ∀ i, (v67).ownBlock = some i → ((Value.slice A17 ((rowsS S o.slot).length) c18)).ownBlock = some i → False := fun i hi hs => oo77 i hs hi
 have oo79 : ∀ i, ((Value.slice A47 ((rowsS S o.slot).length) c48)).ownBlock = some i → (v67).ownBlock = some i → False := fun i hi hs => by have := (World.ownsRow.lt hO70 i hs).1; have := (World.ownsRow.lt O52 i hi).2; omega
 have oo80 : ∀ i, (v67).ownBlock = some i → ((Value.slice A47 ((rowsS S o.slot).length) c48)).ownBlock = some i → False := fun i hi hs => oo79 i hs hi
 have O71 := own_base hO70 K0.size
 clear hO70
 replace K0 := K0.t0 K69
 replace Hb := Hb.keep K69 (fun h => h)
 replace Hm := Hm.keep K69 (fun h => h)
 replace Hr := Hr.keep K69 (fun h => h)
 replace H4 := H4.keep K69 (fun h => h)
 replace H10 := H10.keep K69 (fun h => h)
 replace O22 := own_keep0 O22 K69
 replace O52 := own_keep0 O52 K69
 refine ⟨_, _, rfl, rfl, K69, ?_⟩
 refine Dr.strong (S' := (fun wz => Keeps none_ w68 wz)) (Keeps.refl w68) (fun wz hx => K69.trans hx (fun i _ h => h) (fun _ _ h => h)) ?_
 clear K69
 refine Dr.take (i := 48) (v := (Value.string (str (bookB S)))) (by kernel_rfl) (by kernel_rfl) (fun wz hS => Runs.b2s (s := 22) (d := 9) (e := 5) (by kernel_rfl) (by kernel_rfl) (by kernel_rfl) (Rd.keep0 (by omega) (OwnB.rd O71) hS)) (d := (some 83)) (by kernel_rfl) rfl ?_
 refine Dr.call (i := 50) (by kernel_rfl) (by kernel_rfl) (d := (some 85)) (by kernel_rfl) (fun _ => RBytes_calls _ r A c S Hr (Rd.keep0 (by decide) hR K0) hS) ?_
 rintro _ w82 ⟨v81, rfl, K83, hO84⟩
 have ob86 : ∀ i, (v81).ownBlock = some i → i ≠ b := fun i hi => by have := (World.ownsRow.lt hO84 i hi).1; have := Hb.lt; omega
 have ob87 : ∀ i, (v81).ownBlock = some i → i ≠ mb := fun i hi => by have := (World.ownsRow.lt hO84 i hi).1; have := Hm.lt; omega
 have ob88 : ∀ i, (v81).ownBlock = some i → i ≠ r := fun i hi => by have := (World.ownsRow.lt hO84 i hi).1; have := Hr.lt; omega
 have ob89 : ∀ i, (v81).ownBlock = some i → i ≠ b1 := fun i hi => by have := (World.ownsRow.lt hO84 i hi).1; have := H4.lt; omega
 have ob90 : ∀ i, (v81).ownBlock = some i → i ≠ b7 := fun i hi => by have := (World.ownsRow.lt hO84 i hi).1; have := H10.lt; omega
 have oo91 : ∀ i, ((Value.slice A17 ((rowsS S o.slot).length) c18)).ownBlock = some i → (v81).ownBlock = some i → False := fun i hi hs => by have := (World.ownsRow.lt hO84 i hs).1; have := (World.ownsRow.lt O22 i hi).2; omega
 have oo92 : ∀ i, (v81).ownBlock = some i → ((Value.slice A17 ((rowsS S o.slot).length) c18)).ownBlock = some i → False := fun i hi hs => oo91 i hs hi
 have oo93 : ∀ i, ((Value.slice A47 ((rowsS S o.slot).length) c48)).ownBlock = some i → (v81).ownBlock = some i → False := fun i hi hs => by have := (World.ownsRow.lt hO84 i hs).1; have := (World.ownsRow.lt O52 i hi).2; omega
 have oo94 : ∀ i, (v81).ownBlock = some i → ((Value.slice A47 ((rowsS S o.slot).length) c48)).ownBlock = some i → False := fun i hi hs => oo93 i hs hi
 have oo95 : ∀ i, (v67).ownBlock = some i → (v81).ownBlock = some i → False := fun i hi hs => by have := (World.ownsRow.lt hO84 i hs).1; have := (World.ownsRow.lt O71 i hi).2; omega
 have oo96 : ∀ i, (v81).ownBlock = some i → (v67).ownBlock = some i → False := fun i hi hs => oo95 i hs hi
 have O85 := own_base hO84 K0.size
 clear hO84
 replace K0 := K0.t0 K83
 replace Hb := Hb.keep K83 (fun h => h)
 replace Hm := Hm.keep K83 (fun h => h)
 replace Hr := Hr.keep K83 (fun h => h)
 replace H4 := H4.keep K83 (fun h => h)
 replace H10 := H10.keep K83 (fun h => h)
 replace O22 := own_keep0 O22 K83
 replace O52 := own_keep0 O52 K83
 replace O71 := own_keep0 O71 K83
 refine ⟨_, _, rfl, rfl, K83, ?_⟩
 refine Dr.strong (S' := (fun wz => Keeps none_ w82 wz)) (Keeps.refl w82) (fun wz hx => K83.trans hx (fun i _ h => h) (fun _ _ h => h)) ?_
 clear K83
 refine Dr.take (i := 51) (v := (Value.string (str (bookB S)))) (by kernel_rfl) (by kernel_rfl) (fun wz hS => Runs.b2s (s := 22) (d := 9) (e := 5) (by kernel_rfl) (by kernel_rfl) (by kernel_rfl) (Rd.keep0 (by omega) (OwnB.rd O85) hS)) (d := (some 86)) (by kernel_rfl) rfl ?_
 refine Dr.take (i := 52) (v := (Value.bool (!((bookB S) == (bookB S))))) (by kernel_rfl) (by kernel_rfl) (fun wz hS => Runs.strne (t := 9) (by kernel_rfl)) (d := (some 87)) (by kernel_rfl) rfl ?_
 refine Dr.takes (fuel' := 0) (is' := [53, 52, 51, 50, 48, 47, 49, 46, 45, 44, 43, 42, 41, 40, 39, 38, 37, 36, 35, 34, 33, 31, 32, 30, 29, 28, 27, 21, 26, 25, 24, 23, 22, 20, 19, 18, 17, 16, 12, 15, 14, 13, 11, 10, 9, 8, 7, 6, 5, 4, 3, 2, 1, 0]) [53] [(0, (ptr b)), (1, (ptr r)), (6, (ptr b7)), (11, (Value.slice A17 ((rowsS S o.slot).length) c18)), (88, (Value.bool (!((bookB S) == (bookB S)))))] (by kernel_rfl) rfl (by kernel_rfl) ?_
 refine Dr.done (by kernel_rfl) ?_
 have h97 : (!((bookB S) == (bookB S))) = false := by simp
 rw [h97]
 refine qr_else (o := .tmp 88) (by kernel_rfl) rfl ?_
 refine qr_skip (by kernel_rfl) ?_
 refine qr_seq (by kernel_rfl) ?_
 refine qr_seq (by kernel_rfl) ?_
 refine qr_region Open.wide (by kernel_rfl) (by kernel_rfl) ?_
 refine og 1 [(0, (ptr b)), (1, (ptr r)), (6, (ptr b7)), (11, (Value.slice A17 ((rowsS S o.slot).length) c18)), (12, (i64 0))] 1 ?_
 refine od ?_
 refine qr_block (id := 0) (by kernel_rfl) ?_
 refine qr_keep (R := [(0, (ptr b)), (1, (ptr r)), (6, (ptr b7)), (11, (Value.slice A17 ((rowsS S o.slot).length) c18)), (12, (i64 0))]) (by kernel_rfl) ?_
 refine qr_loop (fun (gs : Nat × (List RowM)) (ds : List Deferred) L (wx : World) => match gs with | (q, ys) => ds = [] ∧ L = [(0, (ptr b)), (1, (ptr r)), (6, (ptr b7)), (11, (Value.slice A17 ((rowsS S o.slot).length) c18)), (12, (i64 ((q : Nat) : Int)))] ∧ OwnR wx w.heap.size 52 (.slice A17 ys.length c18) ys ∧ (∀ i, ((Value.slice A17 ((rowsS S o.slot).length) c18)).ownBlock = some i → i ≠ b) ∧ (∀ i, ((Value.slice A17 ((rowsS S o.slot).length) c18)).ownBlock = some i → i ≠ mb) ∧ (∀ i, ((Value.slice A17 ((rowsS S o.slot).length) c18)).ownBlock = some i → i ≠ r) ∧ (∀ i, ((Value.slice A17 ((rowsS S o.slot).length) c18)).ownBlock = some i → i ≠ b1) ∧ (∀ i, ((Value.slice A17 ((rowsS S o.slot).length) c18)).ownBlock = some i → i ≠ b7) ∧ q ≤ (rowsS S o.slot).length ∧ ys.length = (rowsS S o.slot).length ∧ Keeps none_ w wx ∧ Has wx b (rowL [(Value.map (some mb))] 66) ∧ HasMap wx mb kstr accv m ∧ Has wx r (rowL [(Value.slice A S.length c)] 43) ∧ Has wx b1 (rowL [(i64 o.kind), (Value.string (str o.name)), (Value.string (str o.own)), (i64 o.n), (i64 o.slot)] 37) ∧ Has wx b7 (rowL [(Value.bool false)] 4)) (fun (gs : Nat × (List RowM)) => match gs with | (q, ys) => (rowsS S o.slot).length - q) (0, (rowsS S o.slot)) (by kernel_rfl) ⟨rfl, rfl, O22, ob23, ob24, ob25, ob26, ob27, Nat.zero_le _, rfl, K0, Hb, Hm, Hr, H4, H10⟩ ?_
 clear Hb Hm Hr H4 H10 O22 O52 O71 O85 K0
 rintro ⟨q, ys⟩ _ _ w98 ⟨rfl, rfl, hOV, obVb, obVmb, obVr, obVb1, obVb7, hq, hyl, K99, H100, H101, H102, H103, H104⟩
 refine qr_seq (by kernel_rfl) ?_
 refine qr_seq (by kernel_rfl) ?_
 refine qr_region Open.wide (by kernel_rfl) (by kernel_rfl) ?_
 refine og 4 [(0, (ptr b)), (1, (ptr r)), (6, (ptr b7)), (11, (Value.slice A17 ((rowsS S o.slot).length) c18)), (12, (i64 ((q : Nat) : Int))), (92, (Value.bool (decide (((q : Nat) : Int) < (((rowsS S o.slot).length : Nat) : Int)))))] 4 ?_
 refine od ?_
 refine qr_cond (o := .tmp 92) (b := (decide (((q : Nat) : Int) < (((rowsS S o.slot).length : Nat) : Int)))) (by kernel_rfl) rfl (fun h105 => ?_) (fun h105 => ?_)
 ·rw [h105]
  have p106 : ((q : Nat) : Int) < (((rowsS S o.slot).length : Nat) : Int) := of_decide_eq_true h105
  obtain ⟨y, hy⟩ : ∃ y, ys[q]? = some y := ⟨_, List.getElem?_eq_getElem (by omega)⟩
  obtain ⟨gb, cur, hA, hgb, Hg, hcl, hca, hput⟩ := OwnT.open RowM.two (by decide) hy hOV
  have ngb : w.heap.size ≤ gb := hgb
  have Hgl := Hg.lt
  have dgbb : gb ≠ b := obVb gb (by rw [hA]; rfl)
  have dgbmb : gb ≠ mb := obVmb gb (by rw [hA]; rfl)
  have dgbr : gb ≠ r := obVr gb (by rw [hA]; rfl)
  have dgbb1 : gb ≠ b1 := obVb1 gb (by rw [hA]; rfl)
  have dgbb7 : gb ≠ b7 := obVb7 gb (by rw [hA]; rfl)
  refine qr_skip (by kernel_rfl) ?_
  refine qr_seq (by kernel_rfl) ?_
  refine qr_block (id := 1) (by kernel_rfl) ?_
  refine qr_region Open.wide (by kernel_rfl) (by kernel_rfl) ?_
  refine og 2 [(0, (ptr b)), (1, (ptr r)), (6, (ptr b7)), (11, (Value.slice A17 ((rowsS S o.slot).length) c18)), (12, (i64 ((q : Nat) : Int))), (92, (Value.bool true)), (95, (Value.slice A17 ((rowsS S o.slot).length) c18)), (96, (i64 ((q : Nat) : Int)))] 2 ?_
  refine Ops.go (by kernel_rfl) (Runs.ixSliceE (k := IntKind.i64) (t := 75) (len := ((rowsS S o.slot).length)) (cap := c18) (s := 2) (off' := q * 2) (i := ((q : Nat) : Int)) hA (by kernel_rfl) (by kernel_rfl) (by omega) (by omega) (by omega)) (d := (some 97)) (by kernel_rfl) rfl ?_
  refine og 1 [(0, (ptr b)), (1, (ptr r)), (6, (ptr b7)), (11, (Value.slice A17 ((rowsS S o.slot).length) c18)), (12, (i64 ((q : Nat) : Int))), (92, (Value.bool true)), (98, (Value.pointer (some ⟨gb, q * 2 + 1, none⟩)))] 4 ?_
  refine Ops.put (t := 2) (b := gb) (off := q * 2 + 1) (v := (i64 99)) (ys := (cur.set (q * 2 + 1) (i64 99))) (by kernel_rfl) (by kernel_rfl) Hg (storeC1 (by kernel_rfl) rfl (by omega) rfl) (d := none) (by kernel_rfl) rfl (fun w107 H108 K109 => ?_)
  clear Hg
  replace K99 := K99.trans K109 (U := none_) (fun i h1 h2 => h2) (fun i h1 h2 => by have h2 : i = gb := h2; exfalso; omega)
  replace H100 := H100.keep K109 (by intro h; change b = gb at h; omega)
  replace H101 := H101.keep K109 (by intro h; change mb = gb at h; omega)
  replace H102 := H102.keep K109 (by intro h; change r = gb at h; omega)
  replace H103 := H103.keep K109 (by intro h; change b1 = gb at h; omega)
  replace H104 := H104.keep K109 (by intro h; change b7 = gb at h; omega)
  clear K109
  refine od ?_
  refine qr_region Open.wide (by kernel_rfl) (by kernel_rfl) ?_
  refine og 2 [(0, (ptr b)), (1, (ptr r)), (6, (ptr b7)), (11, (Value.slice A17 ((rowsS S o.slot).length) c18)), (12, (i64 ((q : Nat) : Int))), (92, (Value.bool true)), (94, (i64 (IntKind.i64.wrap (((q : Nat) : Int) + 1))))] 2 ?_
  have e110 : IntKind.i64.wrap (((q : Nat) : Int) + 1) = ((q + 1 : Nat) : Int) := by rw [wrap_i64 (by omega) (by omega)]; omega
  rw [e110]
  clear e110
  refine og 1 [(0, (ptr b)), (1, (ptr r)), (6, (ptr b7)), (11, (Value.slice A17 ((rowsS S o.slot).length) c18)), (12, (i64 ((q + 1 : Nat) : Int))), (92, (Value.bool true))] 3 ?_
  refine Ops.keep (R := [(0, (ptr b)), (1, (ptr r)), (6, (ptr b7)), (11, (Value.slice A17 ((rowsS S o.slot).length) c18)), (12, (i64 ((q + 1 : Nat) : Int)))]) (by kernel_rfl) ?_
  refine od ?_
  exact ⟨(q + 1, ys.set q ⟨y.name, 99⟩), ⟨rfl, rfl, (by rw [List.length_set]; exact hput 1 (i64 99) ⟨y.name, 99⟩ (by decide) rfl _ H108), obVb, obVmb, obVr, obVb1, obVb7, (by omega), (by rw [List.length_set]; exact hyl), K99, H100, H101, H102, H103, H104⟩, (show (rowsS S o.slot).length - (q + 1) < (rowsS S o.slot).length - q from by omega)⟩
 ·rw [h105]
  have p111 : ¬ (((q : Nat) : Int) < (((rowsS S o.slot).length : Nat) : Int)) := of_decide_eq_false h105
  refine qr_exit (id := 0) (by kernel_rfl) ?_
  refine qr_seq (by kernel_rfl) ?_
  refine qr_region Open.wide (by kernel_rfl) (by kernel_rfl) ?_
  refine og 1 [(0, (ptr b)), (6, (ptr b7)), (99, (ptr r))] 1 ?_
  refine Ops.call (by kernel_rfl) (d := (some 100)) (by kernel_rfl) (RRows_calls _ r A c S (-1) H102 (Rd.keep0 (by decide) hR K99) hS) ?_
  rintro _ w114 ⟨A112, c113, rfl, K115, hO116⟩
  have ob118 : ∀ i, ((Value.slice A112 ((rowsS S (-1)).length) c113)).ownBlock = some i → i ≠ b := fun i hi => by have := (World.ownsRow.lt hO116 i hi).1; have := H100.lt; omega
  have ob119 : ∀ i, ((Value.slice A112 ((rowsS S (-1)).length) c113)).ownBlock = some i → i ≠ mb := fun i hi => by have := (World.ownsRow.lt hO116 i hi).1; have := H101.lt; omega
  have ob120 : ∀ i, ((Value.slice A112 ((rowsS S (-1)).length) c113)).ownBlock = some i → i ≠ r := fun i hi => by have := (World.ownsRow.lt hO116 i hi).1; have := H102.lt; omega
  have ob121 : ∀ i, ((Value.slice A112 ((rowsS S (-1)).length) c113)).ownBlock = some i → i ≠ b1 := fun i hi => by have := (World.ownsRow.lt hO116 i hi).1; have := H103.lt; omega
  have ob122 : ∀ i, ((Value.slice A112 ((rowsS S (-1)).length) c113)).ownBlock = some i → i ≠ b7 := fun i hi => by have := (World.ownsRow.lt hO116 i hi).1; have := H104.lt; omega
  have O117 := own_base hO116 K99.size
  clear hO116
  have hl123 := rowsS_len S (-1)
  have hl124 := hS.len
  refine ⟨_, _, rfl, rfl, ?_⟩
  replace K99 := K99.trans K115 (U := none_) (fun i h1 h2 => h2) (fun i h1 h2 => by exact h2)
  replace H100 := H100.keep K115 (fun h => h)
  replace H101 := H101.keep K115 (fun h => h)
  replace H102 := H102.keep K115 (fun h => h)
  replace H103 := H103.keep K115 (fun h => h)
  replace H104 := H104.keep K115 (fun h => h)
  clear K115
  refine Ops.new (o := rowL [(Value.slice none 0 0)] 75) (V := fun b => (ptr b)) (by kernel_rfl) (d := (some 13)) (by kernel_rfl) (fun b => rfl) (fun b125 w126 hb127 H128 K129 hs130 => ?_)
  have lb125b : b < b125 := by have := H100.lt; omega
  have lb125mb : mb < b125 := by have := H101.lt; omega
  have lb125r : r < b125 := by have := H102.lt; omega
  have lb125b1 : b1 < b125 := by have := H103.lt; omega
  have lb125b7 : b7 < b125 := by have := H104.lt; omega
  have nb125 : w.heap.size ≤ b125 := by have := K99.size; omega
  have ob131 : ∀ i, ((Value.slice A112 ((rowsS S (-1)).length) c113)).ownBlock = some i → i < b125 := fun i hi => by have := (World.ownsRow.lt O117 i hi).2; omega
  replace K99 := K99.trans K129 (U := none_) (fun i h1 h2 => h2) (fun i h1 h2 => by exact h2)
  replace H100 := H100.keep K129 (fun h => h)
  replace H101 := H101.keep K129 (fun h => h)
  replace H102 := H102.keep K129 (fun h => h)
  replace H103 := H103.keep K129 (fun h => h)
  replace H104 := H104.keep K129 (fun h => h)
  replace O117 := own_keep0 O117 K129
  clear K129 hs130
  refine Ops.put (t := 75) (b := b125) (off := 0) (v := (Value.slice A112 ((rowsS S (-1)).length) c113)) (ys := [(Value.slice A112 ((rowsS S (-1)).length) c113)]) (by kernel_rfl) (by kernel_rfl) H128 (by kernel_rfl) (d := none) (by kernel_rfl) rfl (fun w132 H133 K134 => ?_)
  clear H128
  replace K99 := K99.trans K134 (U := none_) (fun i h1 h2 => h2) (fun i h1 h2 => by have h2 : i = b125 := h2; exfalso; omega)
  replace H100 := H100.keep K134 (by intro h; change b = b125 at h; omega)
  replace H101 := H101.keep K134 (by intro h; change mb = b125 at h; omega)
  replace H102 := H102.keep K134 (by intro h; change r = b125 at h; omega)
  replace H103 := H103.keep K134 (by intro h; change b1 = b125 at h; omega)
  replace H104 := H104.keep K134 (by intro h; change b7 = b125 at h; omega)
  replace O117 := own_keep O117 K134 (fun i hi hs => by have hs : i = b125 := hs; have := ob131 i hi; omega)
  clear K134
  refine od ?_
  refine qr_seq (by kernel_rfl) ?_
  refine qr_region Open.wide (by kernel_rfl) (by kernel_rfl) ?_
  refine og 1 [(0, (ptr b)), (6, (ptr b7)), (13, (ptr b125)), (101, (ptr b))] 1 ?_
  refine Ops.call (by kernel_rfl) (d := (some 102)) (by kernel_rfl) (Each_calls _ b mb m S H100 H101 (by omega) hB) ?_
  rintro _ w138 ⟨b135, A136, c137, rfl, K139, H140, hO141, nb143, hn144⟩
  have ob145 : ∀ i, ((Value.slice A136 ((rowsS S (-1)).length) c137)).ownBlock = some i → i ≠ b := fun i hi => by have := (World.ownsRow.lt hO141 i hi).1; have := H100.lt; omega
  have ob146 : ∀ i, ((Value.slice A136 ((rowsS S (-1)).length) c137)).ownBlock = some i → i ≠ mb := fun i hi => by have := (World.ownsRow.lt hO141 i hi).1; have := H101.lt; omega
  have ob147 : ∀ i, ((Value.slice A136 ((rowsS S (-1)).length) c137)).ownBlock = some i → i ≠ r := fun i hi => by have := (World.ownsRow.lt hO141 i hi).1; have := H102.lt; omega
  have ob148 : ∀ i, ((Value.slice A136 ((rowsS S (-1)).length) c137)).ownBlock = some i → i ≠ b1 := fun i hi => by have := (World.ownsRow.lt hO141 i hi).1; have := H103.lt; omega
  have ob149 : ∀ i, ((Value.slice A136 ((rowsS S (-1)).length) c137)).ownBlock = some i → i ≠ b7 := fun i hi => by have := (World.ownsRow.lt hO141 i hi).1; have := H104.lt; omega
  have ob150 : ∀ i, ((Value.slice A136 ((rowsS S (-1)).length) c137)).ownBlock = some i → i ≠ b125 := fun i hi => by have := (World.ownsRow.lt hO141 i hi).1; have := H133.lt; omega
  have oo151 : ∀ i, ((Value.slice A112 ((rowsS S (-1)).length) c113)).ownBlock = some i → ((Value.slice A136 ((rowsS S (-1)).length) c137)).ownBlock = some i → False := fun i hi hs => by have := (World.ownsRow.lt hO141 i hs).1; have := (World.ownsRow.lt O117 i hi).2; omega
  have oo152 : ∀ i, ((Value.slice A136 ((rowsS S (-1)).length) c137)).ownBlock = some i → ((Value.slice A112 ((rowsS S (-1)).length) c113)).ownBlock = some i → False := fun i hi hs => oo151 i hs hi
  have O142 := own_base hO141 K99.size
  clear hO141
  have lb135b : b < b135 := by have := H100.lt; omega
  have lb135mb : mb < b135 := by have := H101.lt; omega
  have lb135r : r < b135 := by have := H102.lt; omega
  have lb135b1 : b1 < b135 := by have := H103.lt; omega
  have lb135b7 : b7 < b135 := by have := H104.lt; omega
  have lb135b125 : b125 < b135 := by have := H133.lt; omega
  have nb135 : w.heap.size ≤ b135 := by have := K99.size; omega
  have ob153 : ∀ i, ((Value.slice A112 ((rowsS S (-1)).length) c113)).ownBlock = some i → i ≠ b135 := fun i hi => by have := (World.ownsRow.lt O117 i hi).2; omega
  refine ⟨_, _, rfl, rfl, ?_⟩
  replace K99 := K99.trans K139 (U := none_) (fun i h1 h2 => h2) (fun i h1 h2 => by exact h2)
  replace H100 := H100.keep K139 (fun h => h)
  replace H101 := H101.keep K139 (fun h => h)
  replace H102 := H102.keep K139 (fun h => h)
  replace H103 := H103.keep K139 (fun h => h)
  replace H104 := H104.keep K139 (fun h => h)
  replace H133 := H133.keep K139 (fun h => h)
  replace O117 := own_keep0 O117 K139
  clear K139
  refine og 1 [(0, (ptr b)), (6, (ptr b7)), (13, (ptr b125)), (14, (Value.func (Fn.func 96) ⟨[]⟩ ⟨[(ptr b135)]⟩))] 3 ?_
  refine od ?_
  refine qr_seq (by kernel_rfl) ?_
  refine qr_seq (by kernel_rfl) ?_
  refine qr_region Open.wide (by kernel_rfl) (by kernel_rfl) ?_
  refine og 2 [(0, (ptr b)), (6, (ptr b7)), (13, (ptr b125)), (14, (Value.func (Fn.func 96) ⟨[]⟩ ⟨[(ptr b135)]⟩)), (104, (Value.bool false))] 2 ?_
  refine od ?_
  refine qr_else (o := .tmp 104) (by kernel_rfl) rfl ?_
  refine qr_skip (by kernel_rfl) ?_
  refine qr_seq (by kernel_rfl) ?_
  refine qr_region Open.wide (by kernel_rfl) (by kernel_rfl) ?_
  refine Ops.new (o := rowL [(i64 0)] 3) (V := fun b => (ptr b)) (by kernel_rfl) (d := (some 15)) (by kernel_rfl) (fun b => rfl) (fun b154 w155 hb156 H157 K158 hs159 => ?_)
  have lb154b : b < b154 := by have := H100.lt; omega
  have lb154mb : mb < b154 := by have := H101.lt; omega
  have lb154r : r < b154 := by have := H102.lt; omega
  have lb154b1 : b1 < b154 := by have := H103.lt; omega
  have lb154b7 : b7 < b154 := by have := H104.lt; omega
  have lb154b125 : b125 < b154 := by have := H133.lt; omega
  have lb154b135 : b135 < b154 := by have := H140.lt; omega
  have nb154 : w.heap.size ≤ b154 := by have := K99.size; omega
  have ob160 : ∀ i, ((Value.slice A112 ((rowsS S (-1)).length) c113)).ownBlock = some i → i < b154 := fun i hi => by have := (World.ownsRow.lt O117 i hi).2; omega
  have ob161 : ∀ i, ((Value.slice A136 ((rowsS S (-1)).length) c137)).ownBlock = some i → i < b154 := fun i hi => by have := (World.ownsRow.lt O142 i hi).2; omega
  replace K99 := K99.trans K158 (U := none_) (fun i h1 h2 => h2) (fun i h1 h2 => by exact h2)
  replace H100 := H100.keep K158 (fun h => h)
  replace H101 := H101.keep K158 (fun h => h)
  replace H102 := H102.keep K158 (fun h => h)
  replace H103 := H103.keep K158 (fun h => h)
  replace H104 := H104.keep K158 (fun h => h)
  replace H133 := H133.keep K158 (fun h => h)
  replace H140 := H140.keep K158 (fun h => h)
  replace O117 := own_keep0 O117 K158
  replace O142 := own_keep0 O142 K158
  clear K158 hs159
  refine Ops.put (t := 3) (b := b154) (off := 0) (v := (i64 0)) (ys := [(i64 0)]) (by kernel_rfl) (by kernel_rfl) H157 (by kernel_rfl) (d := none) (by kernel_rfl) rfl (fun w162 H163 K164 => ?_)
  clear H157
  replace K99 := K99.trans K164 (U := none_) (fun i h1 h2 => h2) (fun i h1 h2 => by have h2 : i = b154 := h2; exfalso; omega)
  replace H100 := H100.keep K164 (by intro h; change b = b154 at h; omega)
  replace H101 := H101.keep K164 (by intro h; change mb = b154 at h; omega)
  replace H102 := H102.keep K164 (by intro h; change r = b154 at h; omega)
  replace H103 := H103.keep K164 (by intro h; change b1 = b154 at h; omega)
  replace H104 := H104.keep K164 (by intro h; change b7 = b154 at h; omega)
  replace H133 := H133.keep K164 (by intro h; change b125 = b154 at h; omega)
  replace H140 := H140.keep K164 (by intro h; change b135 = b154 at h; omega)
  replace O117 := own_keep O117 K164 (fun i hi hs => by have hs : i = b154 := hs; have := ob160 i hi; omega)
  replace O142 := own_keep O142 K164 (fun i hi hs => by have hs : i = b154 := hs; have := ob161 i hi; omega)
  clear K164
  refine od ?_
  refine qr_seq (by kernel_rfl) ?_
  refine qr_seq (by kernel_rfl) ?_
  refine qr_region Open.wide (by kernel_rfl) (by kernel_rfl) ?_
  refine og 1 [(0, (ptr b)), (6, (ptr b7)), (13, (ptr b125)), (15, (ptr b154)), (105, (Value.func (Fn.func 96) ⟨[]⟩ ⟨[(ptr b135)]⟩))] 1 ?_
  refine od ?_
  refine qr_block (id := 2) (by kernel_rfl) ?_
  have zb := H100.lt
  have zmb := H101.lt
  have zr := H102.lt
  have zb1 := H103.lt
  have zb7 := H104.lt
  have zb125 := H133.lt
  have zb135 := H140.lt
  have zb154 := H163.lt
  have hnE : ∀ i, ((Value.slice A136 ((rowsS S (-1)).length) c137)).ownBlock = some i → i ≠ b154 := fun i hi => by have := ob161 i hi; omega
  have hn2 : ∀ i, ((Value.slice A112 ((rowsS S (-1)).length) c113)).ownBlock = some i → i ≠ b154 := fun i hi => by have := ob160 i hi; omega
  refine qr_keep (R := [(0, (ptr b)), (6, (ptr b7)), (13, (ptr b125)), (15, (ptr b154)), (105, (Value.func (Fn.func 96) ⟨[]⟩ ⟨[(ptr b135)]⟩))]) (by kernel_rfl) ?_
  refine qr_eachM (g := .tmp 105) (ts := [106]) (m := 11) (enc := fun x : RowM => [agg x.cells]) (S := fun all => all = (rowsS S (-1))) (w0 := w162) (T := fun i => i = b154 ∨ w162.heap.size ≤ i) (by kernel_rfl) (by decide) (gf := 96) (lb := [ptr b135]) rfl (enters Tryz.func96 (by kernel_rfl) (by kernel_rfl))
   (SValues1_tells w162 9 b135 A136 c137 (rowsS S (-1)) _ H140 (by intro h; change b135 = b154 ∨ w162.heap.size ≤ b135 at h; omega) (OwnT.rd O142) (fun i hi h => by have q1 := hnE i hi; have q2 := (World.ownsRow.lt O142 i hi).2; have h : i = b154 ∨ w162.heap.size ≤ i := h; omega))
   (fun i h => .inr h) ((Keeps.refl _).mono (fun _ _ h => h.elim)) (fun pre W => Has W b154 (rowL [(i64 ((pre.length : Nat) : Int))] 3) ∧ Keeps (fun i => i = b154) w162 W)
   (fun k W1 W2 h lo => ⟨lo.has h.1, h.2.trans lo.keeps (fun _ _ h => h) (fun i hi h => by have h : w162.heap.size ≤ i := h; omega)⟩) ⟨H163, (Keeps.refl _).mono (fun _ _ h => h.elim)⟩
   (fun x => (106, agg x.cells) :: [(0, (ptr b)), (6, (ptr b7)), (13, (ptr b125)), (15, (ptr b154)), (105, (Value.func (Fn.func 96) ⟨[]⟩ ⟨[(ptr b135)]⟩))]) (fun x => rfl)
   (fun x L W1 => ∃ b16, L = [(6, ptr b7), (13, ptr b125), (15, ptr b154), (16, ptr b16)] ∧ w162.heap.size ≤ b16 ∧ Has W1 b16 (rowL x.cells 52)) (fun x L W1 W2 h lo => let ⟨b16, h1, h2, h3⟩ := h; ⟨b16, h1, h2, lo.has h3⟩) ?_ ?_ ?_
  ·rintro ln pre x W1 hlt ⟨h3, hk⟩ hp
   refine qr_region (Open.round ln) (by kernel_rfl) (by kernel_rfl) ?_
   refine Ops.new (o := rowL [.string ByteArray.empty, i64 0] 52) (V := fun b => ptr b) (by kernel_rfl) (d := some 16) (by kernel_rfl) (fun b => rfl) (fun b w3 hb H3 k3 hs3 => ?_)
   refine Ops.put (t := 52) (b := b) (off := 0) (v := agg x.cells) (ys := x.cells) (by kernel_rfl) (by kernel_rfl) H3 (by kernel_rfl) (d := none) (by kernel_rfl) rfl (fun w4 H4 k4 => ?_)
   refine Ops.keep (R := [(6, ptr b7), (13, ptr b125), (15, ptr b154), (16, ptr b)]) (by kernel_rfl) ?_
   refine od ?_
   exact ⟨rfl, rfl, k3.trans k4 (fun _ _ h => h) (fun i hi h => by have h : i = b := h; omega), b, rfl, by have := hk.size; omega, H4⟩
  ·rintro ln pre x _ W1 ⟨h3, hk⟩ ⟨post, hp⟩ ⟨b16, rfl, hb4, h4⟩
   have hx : ((rowsS S (-1)))[pre.length]? = some x := by rw [← hp]; simp
   refine qr_mono (alike_body W1 ln b7 b125 b154 b16 pre.length A112 c113 (rowsS S (-1)) x (H133.keep hk (by intro h; change b125 = b154 at h; omega)) h3 h4 (OwnT.rd (own_keep O117 hk (fun i hi h => by have h : i = b154 := h; exact hn2 i hi h))) hn2 hx (by omega)) ?_
   rintro ds e L W2 ⟨rfl, k2, h2⟩
   exact ⟨rfl, keepsFrom_of k2 (fun i hi hB => by exfalso; have hi : i = b154 := hi; omega), k2.mono (fun i _ h => .inl h), by rw [List.length_append]; exact h2, hk.trans k2 (fun _ _ h => h) (fun i _ h => h)⟩
  ·rintro D all W hDw hall ⟨h3, hk⟩ hD
   rw [hall] at h3
   have K165 : Keeps none_ w W := K99.trans hk (U := none_) (fun _ _ h => h) (fun i hi h => by have h : i = b154 := h; have := nb154; omega)
   have H166 := H100.keep hk (by intro h; change b = b154 at h; omega)
   have H167 := H101.keep hk (by intro h; change mb = b154 at h; omega)
   have H168 := H102.keep hk (by intro h; change r = b154 at h; omega)
   have H169 := H103.keep hk (by intro h; change b1 = b154 at h; omega)
   have H170 := H104.keep hk (by intro h; change b7 = b154 at h; omega)
   have H171 := H133.keep hk (by intro h; change b125 = b154 at h; omega)
   have H172 := H140.keep hk (by intro h; change b135 = b154 at h; omega)
   have F173 := own_keep O117 hk (fun i hi h => by have h : i = b154 := h; exact hn2 i hi h)
   clear H100 H101 H102 H103 H104 H133 H140 H163 K99
   have hbD : b < D ∧ mb < D ∧ r < D ∧ b1 < D ∧ b7 < D ∧ b125 < D ∧ b135 < D ∧ b154 < D := by omega
   have hwD : w.heap.size ≤ D := by have := K165.size; omega
   have hD1 : Has W D (.deferred (some [])) := hD
   clear hD
   refine qr_seq (by kernel_rfl) ?_
   refine qr_draw Open.wide (fun wz => Keeps (fun i => i = b7) W wz) 11 (by kernel_rfl) (by kernel_rfl) (by kernel_rfl) (by kernel_rfl) (fun w174 K175 _ _ => ⟨(K175.mono (fun _ _ h => h.elim)), ?_⟩)
   replace K165 := K165.trans K175 (U := none_) (fun i h1 h2 => h2) (fun i h1 h2 => by exact h2)
   replace H166 := H166.keep K175 (fun h => h)
   replace H167 := H167.keep K175 (fun h => h)
   replace H168 := H168.keep K175 (fun h => h)
   replace H169 := H169.keep K175 (fun h => h)
   replace H170 := H170.keep K175 (fun h => h)
   replace H171 := H171.keep K175 (fun h => h)
   replace H172 := H172.keep K175 (fun h => h)
   replace h3 := h3.keep K175 (fun h => h)
   replace hD1 := hD1.keep K175 (fun h => h)
   replace F173 := own_keep0 F173 K175
   refine Dr.strong (S' := (fun wz => Keeps (fun i => i = b7) w174 wz)) ((Keeps.refl w174).mono (fun _ _ h => h.elim)) (fun wz hx => K175.trans hx (fun i _ h => h.elim) (fun _ _ h => h)) ?_
   clear K175
   refine Dr.take (i := 0) (v := (i64 (((rowsS S (-1)).length : Nat) : Int))) (by kernel_rfl) (by kernel_rfl) (fun wz hS => Runs.load (t := 3) (a := ⟨b154, 0, none⟩) (by kernel_rfl) ((h3.keep hS (by intro h; change b154 = b7 at h; omega)).loads (by kernel_rfl))) (d := (some 121)) (by kernel_rfl) rfl ?_
   refine Dr.take (i := 1) (v := (Value.slice A112 ((rowsS S (-1)).length) c113)) (by kernel_rfl) (by kernel_rfl) (fun wz hS => Runs.load (t := 75) (a := ⟨b125, 0, none⟩) (by kernel_rfl) ((H171.keep hS (by intro h; change b125 = b7 at h; omega)).loads (by kernel_rfl))) (d := (some 122)) (by kernel_rfl) rfl ?_
   refine Dr.takes (fuel' := 6) (is' := [4, 3, 2, 1, 0]) [2, 3, 4] [(0, (ptr b)), (6, (ptr b7)), (13, (ptr b125)), (125, (Value.bool ((((rowsS S (-1)).length : Nat) : Int) == (((rowsS S (-1)).length : Nat) : Int))))] (by kernel_rfl) rfl (by kernel_rfl) ?_
   have h176 : ((((rowsS S (-1)).length : Nat) : Int) == (((rowsS S (-1)).length : Nat) : Int)) = true := by simp
   rw [h176]
   refine Dr.takes (fuel' := 5) (is' := [5, 4, 3, 2, 1, 0]) [5] [(6, (ptr b7)), (13, (ptr b125)), (125, (Value.bool true)), (126, (ptr b))] (by kernel_rfl) rfl (by kernel_rfl) ?_
   refine Dr.take (i := 7) (v := (Value.slice A112 ((rowsS S (-1)).length) c113)) (by kernel_rfl) (by kernel_rfl) (fun wz hS => Runs.load (t := 75) (a := ⟨b125, 0, none⟩) (by kernel_rfl) ((H171.keep hS (by intro h; change b125 = b7 at h; omega)).loads (by kernel_rfl))) (d := (some 128)) (by kernel_rfl) rfl ?_
   refine Dr.call (i := 6) (by kernel_rfl) (by kernel_rfl) (d := (some 127)) (by kernel_rfl) (fun _ => Rows_calls _ b mb m S (-1) H166 H167 (by omega) hB) ?_
   rintro _ w179 ⟨A177, c178, rfl, K180, hO181⟩
   have ob183 : ∀ i, ((Value.slice A177 ((rowsS S (-1)).length) c178)).ownBlock = some i → i ≠ b := fun i hi => by have := (World.ownsRow.lt hO181 i hi).1; have := H166.lt; omega
   have ob184 : ∀ i, ((Value.slice A177 ((rowsS S (-1)).length) c178)).ownBlock = some i → i ≠ mb := fun i hi => by have := (World.ownsRow.lt hO181 i hi).1; have := H167.lt; omega
   have ob185 : ∀ i, ((Value.slice A177 ((rowsS S (-1)).length) c178)).ownBlock = some i → i ≠ r := fun i hi => by have := (World.ownsRow.lt hO181 i hi).1; have := H168.lt; omega
   have ob186 : ∀ i, ((Value.slice A177 ((rowsS S (-1)).length) c178)).ownBlock = some i → i ≠ b1 := fun i hi => by have := (World.ownsRow.lt hO181 i hi).1; have := H169.lt; omega
   have ob187 : ∀ i, ((Value.slice A177 ((rowsS S (-1)).length) c178)).ownBlock = some i → i ≠ b7 := fun i hi => by have := (World.ownsRow.lt hO181 i hi).1; have := H170.lt; omega
   have ob188 : ∀ i, ((Value.slice A177 ((rowsS S (-1)).length) c178)).ownBlock = some i → i ≠ b125 := fun i hi => by have := (World.ownsRow.lt hO181 i hi).1; have := H171.lt; omega
   have ob189 : ∀ i, ((Value.slice A177 ((rowsS S (-1)).length) c178)).ownBlock = some i → i ≠ b135 := fun i hi => by have := (World.ownsRow.lt hO181 i hi).1; have := H172.lt; omega
   have ob190 : ∀ i, ((Value.slice A177 ((rowsS S (-1)).length) c178)).ownBlock = some i → i ≠ b154 := fun i hi => by have := (World.ownsRow.lt hO181 i hi).1; have := h3.lt; omega
   have ob191 : ∀ i, ((Value.slice A177 ((rowsS S (-1)).length) c178)).ownBlock = some i → i ≠ D := fun i hi => by have := (World.ownsRow.lt hO181 i hi).1; have := hD1.lt; omega
   have oo192 : ∀ i, ((Value.slice A112 ((rowsS S (-1)).length) c113)).ownBlock = some i → ((Value.slice A177 ((rowsS S (-1)).length) c178)).ownBlock = some i → False := fun i hi hs => by have := (World.ownsRow.lt hO181 i hs).1; have := (World.ownsRow.lt F173 i hi).2; omega
   have oo193 : ∀ i, ((Value.slice A177 ((rowsS S (-1)).length) c178)).ownBlock = some i → ((Value.slice A112 ((rowsS S (-1)).length) c113)).ownBlock = some i → False := fun i hi hs => oo192 i hs hi
   have O182 := own_base hO181 K165.size
   clear hO181
   have hl194 := rowsS_len S (-1)
   have hl195 := hB.accs.len
   replace K165 := K165.trans K180 (U := none_) (fun i h1 h2 => h2) (fun i h1 h2 => by exact h2)
   replace H166 := H166.keep K180 (fun h => h)
   replace H167 := H167.keep K180 (fun h => h)
   replace H168 := H168.keep K180 (fun h => h)
   replace H169 := H169.keep K180 (fun h => h)
   replace H170 := H170.keep K180 (fun h => h)
   replace H171 := H171.keep K180 (fun h => h)
   replace H172 := H172.keep K180 (fun h => h)
   replace h3 := h3.keep K180 (fun h => h)
   replace hD1 := hD1.keep K180 (fun h => h)
   replace F173 := own_keep0 F173 K180
   refine ⟨_, _, rfl, rfl, (K180.mono (fun _ _ h => h.elim)), ?_⟩
   refine Dr.strong (S' := (fun wz => Keeps (fun i => i = b7) w179 wz)) ((Keeps.refl w179).mono (fun _ _ h => h.elim)) (fun wz hx => K180.trans hx (fun i _ h => h.elim) (fun _ _ h => h)) ?_
   clear K180
   refine Dr.call (i := 8) (by kernel_rfl) (by kernel_rfl) (d := (some 129)) (by kernel_rfl) (fun _ => SameRows_calls _ A177 c178 (rowsS S (-1)) A112 c113 (rowsS S (-1)) (OwnT.rd O182) (OwnT.rd F173)) ?_
   rintro _ w199 ⟨t196, rfl, ht197, K198⟩
   replace K165 := K165.trans K198 (U := none_) (fun i h1 h2 => h2) (fun i h1 h2 => by exact h2)
   replace H166 := H166.keep K198 (fun h => h)
   replace H167 := H167.keep K198 (fun h => h)
   replace H168 := H168.keep K198 (fun h => h)
   replace H169 := H169.keep K198 (fun h => h)
   replace H170 := H170.keep K198 (fun h => h)
   replace H171 := H171.keep K198 (fun h => h)
   replace H172 := H172.keep K198 (fun h => h)
   replace h3 := h3.keep K198 (fun h => h)
   replace hD1 := hD1.keep K198 (fun h => h)
   replace F173 := own_keep0 F173 K198
   replace O182 := own_keep0 O182 K198
   refine ⟨_, _, rfl, rfl, (K198.mono (fun _ _ h => h.elim)), ?_⟩
   refine Dr.strong (S' := (fun wz => Keeps (fun i => i = b7) w199 wz)) ((Keeps.refl w199).mono (fun _ _ h => h.elim)) (fun wz hx => K198.trans hx (fun i _ h => h.elim) (fun _ _ h => h)) ?_
   clear K198
   refine Dr.takes (fuel' := 1) (is' := [9, 8, 6, 7, 5, 4, 3, 2, 1, 0]) [9] [(6, (ptr b7)), (130, (Value.bool t196))] (by kernel_rfl) rfl (by kernel_rfl) ?_
   refine Dr.put (i := 10) (t := 4) (b := b7) (off := 0) (v := (Value.bool t196)) (ys := [(Value.bool t196)]) (by kernel_rfl) (by kernel_rfl) (by kernel_rfl) H170 (by kernel_rfl) (d := none) (by kernel_rfl) rfl (fun w200 H201 K202 => ?_)
   clear H170
   replace K165 := K165.trans K202 (U := none_) (fun i h1 h2 => h2) (fun i h1 h2 => by have h2 : i = b7 := h2; exfalso; omega)
   replace H166 := H166.keep K202 (by intro h; change b = b7 at h; omega)
   replace H167 := H167.keep K202 (by intro h; change mb = b7 at h; omega)
   replace H168 := H168.keep K202 (by intro h; change r = b7 at h; omega)
   replace H169 := H169.keep K202 (by intro h; change b1 = b7 at h; omega)
   replace H171 := H171.keep K202 (by intro h; change b125 = b7 at h; omega)
   replace H172 := H172.keep K202 (by intro h; change b135 = b7 at h; omega)
   replace h3 := h3.keep K202 (by intro h; change b154 = b7 at h; omega)
   replace hD1 := hD1.keep K202 (by intro h; change D = b7 at h; omega)
   replace F173 := own_keep F173 K202 (fun i hi hs => by have hs : i = b7 := hs; have := ob122 i hi; omega)
   replace O182 := own_keep O182 K202 (fun i hi hs => by have hs : i = b7 := hs; have := ob187 i hi; omega)
   refine ⟨K202, ?_⟩
   refine Dr.strong (S' := (fun wz => Keeps (fun i => i = b7) w200 wz)) ((Keeps.refl w200).mono (fun _ _ h => h.elim)) (fun wz hx => K202.trans hx (fun i _ h => by have h : i = b7 := h; show i = b7; omega) (fun _ _ h => h)) ?_
   clear K202
   refine Dr.done (by kernel_rfl) ?_
   refine qr_ret (by kernel_rfl) ?_
   refine retR_one (D := D) hD1 (v := (Value.bool t196)) (retv_cell rfl rfl (((Loose.put (B := D) (.deferred none) (Nat.le_refl _) hD1 rfl).has H201).loads (by kernel_rfl))) ?_
   exact ⟨by rw [ht197.2 rfl], (K165.trans (Loose.put (B := D) (.deferred none) (Nat.le_refl _) hD1 rfl).keeps (fun _ _ h => h) (fun i hi h => by have h : D ≤ i := h; omega))⟩
end Go.Proofs.YtooginpgclcldaaGreatDoor
