/- books: new, put, open -/
import Derived.Test.YtooginpgclcldaaGreatDoorProg
import Derived.Test.YtooginpgclcldaaGreatDoorKA
import Derived.Test.YtooginpgclcldaaGreatDoorLX
set_option linter.unusedVariables false
namespace Go.Proofs.YtooginpgclcldaaGreatDoor
open Go.Q Go.RowKit

theorem New_calls (w : World)   : Calls Tryz.prog 13 ⟨[]⟩ w (fun e w' => ∃ b mb, e = .returned (ptr b) ∧ Keeps none_ w w' ∧ Has w' b (rowL [.map (some mb)] 66) ∧ HasMap w' mb kstr accv ([] : List (List UInt8 × AccV)) ∧ w.heap.size ≤ b ∧ w.heap.size ≤ mb ∧ b ≠ mb) := by
 have K0 : Keeps none_ w w := Keeps.refl w
 refine q_calls Tryz.func13 (by kernel_rfl) (by kernel_rfl) ?_
 refine qs ?_
 refine qg ?_
 refine og 1 [(0, (Value.pointer none))] 1 ?_
 refine od ?_
 refine qs ?_
 refine qg ?_
 obtain ⟨mb5, w1, hr2, K3, hb6, H4⟩ := HasMap.made Tryz.prog w 64 kstr (accv)
 refine Ops.go (v := (Value.map (some mb5))) (by kernel_rfl) (Runs.of_makeMap (by kernel_rfl) hr2) (d := (some 1)) (by kernel_rfl) rfl ?_
 have nmb5 : w.heap.size ≤ mb5 := by have := K0.size; omega
 replace K0 := K0.t0 K3
 clear K3 hr2
 refine og 1 [(0, (Value.pointer none)), (2, (agg [(Value.map (some mb5))]))] 2 ?_
 refine Ops.new (o := rowL [(Value.map (some mb5))] 66) (V := fun b => (ptr b)) (by kernel_rfl) (d := (some 3)) (by kernel_rfl) (fun b => rfl) (fun b7 w8 hb9 H10 K11 hs12 => ?_)
 have lb7mb5 : mb5 < b7 := by have := H4.lt; omega
 have nb7 : w.heap.size ≤ b7 := by have := K0.size; omega
 replace K0 := K0.t0 K11
 replace H4 := H4.keep K11 (fun h => h)
 clear K11 hs12
 refine og 1 [(0, (ptr b7))] 4 ?_
 refine od ?_
 refine q_ret (by kernel_rfl) ?_
 refine ⟨(ptr b7), retv_tmp rfl rfl, ?_⟩
 exact ⟨b7, mb5, rfl, K0, H10, H4, nb7, nmb5, by omega⟩

theorem Put_none (w : World) (b mb : Nat) (m : List (List UInt8 × AccV)) (S : List AccM) (n : List UInt8) (k : Int) (Hb : Has w b (rowL [.map (some mb)] 66)) (Hm : HasMap w mb kstr accv m) (hne : b ≠ mb) (hB : Book m S) (hk : -9223372036854775808 ≤ k ∧ k ≤ 9223372036854775807) (hg : getS S n = none) : Calls Tryz.prog 22 ⟨[(ptr b), (agg [(Value.string (str n)), (i64 k)])]⟩ w (fun e w' => ∃ m', e = .returned (i64 (putE S n k)) ∧ Keeps (fun i => i = mb) w w' ∧ HasMap w' mb kstr accv m' ∧ Book m' (putS S n k)) := by
 have Hbl := Hb.lt
 have Hml := Hm.lt
 have hlen := hB.len
 have K0 : Keeps (fun i => i = mb) w w := (Keeps.refl w).mono (fun _ _ h => h.elim)
 have hgm : getM m n = none := by rw [hB.get, hg]; rfl
 refine q_calls Tryz.func22 (by kernel_rfl) (by kernel_rfl) ?_
 refine qs ?_
 refine qg ?_
 refine Ops.new (o := rowL [(Value.string (str n)), (i64 k)] 52) (V := fun b => (ptr b)) (by kernel_rfl) (d := (some 3)) (by kernel_rfl) (fun b => rfl) (fun b1 w2 hb3 H4 K5 hs6 => ?_)
 have lb1b : b < b1 := by have := Hb.lt; omega
 have lb1mb : mb < b1 := by have := Hm.lt; omega
 have nb1 : w.heap.size ≤ b1 := by have := K0.size; omega
 replace K0 := K0.trans K5 (U := (fun i => i = mb)) (fun i h1 h2 => h2) (fun i h1 h2 => by exact h2.elim)
 replace Hb := Hb.keep K5 (fun h => h)
 replace Hm := Hm.keep K5 (fun h => h)
 clear K5 hs6
 refine og 1 [(0, (ptr b)), (3, (ptr b1)), (4, (i64 0))] 2 ?_
 refine od ?_
 refine qs ?_
 refine qs ?_
 refine qg ?_
 refine og 2 [(0, (ptr b)), (3, (ptr b1)), (4, (i64 0)), (8, (Value.bool false))] 2 ?_
 refine od ?_
 refine q_else (o := .tmp 8) (by kernel_rfl) rfl ?_
 refine q_skip (by kernel_rfl) ?_
 refine qs ?_
 refine q_draw (fun wz => Keeps none_ w2 wz) 13 (by kernel_rfl) (by kernel_rfl) (by kernel_rfl) (fun w7 K8 _ _ => ⟨K8, ?_⟩)
 replace K0 := K0.trans K8 (U := (fun i => i = mb)) (fun i h1 h2 => h2) (fun i h1 h2 => by exact h2.elim)
 replace Hb := Hb.keep K8 (fun h => h)
 replace Hm := Hm.keep K8 (fun h => h)
 replace H4 := H4.keep K8 (fun h => h)
 refine Dr.strong (S' := (fun wz => Keeps none_ w7 wz)) (Keeps.refl w7) (fun wz hx => K8.trans hx (fun i _ h => h) (fun _ _ h => h)) ?_
 clear K8
 refine Dr.takes (fuel' := 10) (is' := [2, 1, 0]) [0, 1, 2] [(0, (ptr b)), (3, (ptr b1)), (4, (i64 0)), (12, (ptr b))] (by kernel_rfl) rfl (by kernel_rfl) ?_
 refine Dr.take (i := 3) (v := (Value.map (some mb))) (by kernel_rfl) (by kernel_rfl) (fun wz hS => Runs.load (t := 64) (a := ⟨b, 0, none⟩) (by kernel_rfl) ((Hb.keep hS (fun h => h)).loads (by kernel_rfl))) (d := (some 13)) (by kernel_rfl) rfl ?_
 refine Dr.takes (fuel' := 8) (is' := [4, 3, 2, 1, 0]) [4] [(0, (ptr b)), (3, (ptr b1)), (4, (i64 0)), (13, (Value.map (some mb))), (14, (ptr b1))] (by kernel_rfl) rfl (by kernel_rfl) ?_
 refine Dr.take (i := 5) (v := (Value.string (str n))) (by kernel_rfl) (by kernel_rfl) (fun wz hS => Runs.load (t := 9) (a := ⟨b1, 0, none⟩) (by kernel_rfl) ((H4.keep hS (fun h => h)).loads (by kernel_rfl))) (d := (some 15)) (by kernel_rfl) rfl ?_
 refine Dr.take (i := 6) (v := (Value.tuple #[(agg [(i64 0), (Value.string ByteArray.empty)]), (Value.bool false)])) (by kernel_rfl) (by kernel_rfl) (fun wz hS => Runs.lookup_none (ok := true) (z := (agg [(i64 0), (Value.string ByteArray.empty)])) KT Tryz.underlying64 (by kernel_rfl) (Hm.keep hS (fun h => h)) hgm (by kernel_rfl)) (d := (some 16)) (by kernel_rfl) rfl ?_
 refine Dr.takes (fuel' := 3) (is' := [9, 8, 7, 6, 5, 4, 3, 2, 1, 0]) [7, 8, 9] [(0, (ptr b)), (3, (ptr b1)), (4, (i64 0)), (17, (agg [(i64 0), (Value.string ByteArray.empty)])), (18, (Value.bool false))] (by kernel_rfl) rfl (by kernel_rfl) ?_
 refine Dr.new (i := 10) (o := rowL [(i64 0), (Value.string ByteArray.empty)] 70) (V := fun b => (ptr b)) (by kernel_rfl) (by kernel_rfl) (d := (some 5)) (by kernel_rfl) (fun b => rfl) (fun b9 w10 hb11 H12 K13 hs14 => ?_)
 have lb9b : b < b9 := by have := Hb.lt; omega
 have lb9mb : mb < b9 := by have := Hm.lt; omega
 have lb9b1 : b1 < b9 := by have := H4.lt; omega
 have nb9 : w.heap.size ≤ b9 := by have := K0.size; omega
 replace K0 := K0.trans K13 (U := (fun i => i = mb)) (fun i h1 h2 => h2) (fun i h1 h2 => by exact h2.elim)
 replace Hb := Hb.keep K13 (fun h => h)
 replace Hm := Hm.keep K13 (fun h => h)
 replace H4 := H4.keep K13 (fun h => h)
 refine ⟨K13, ?_⟩
 refine Dr.strong (S' := (fun wz => Keeps (fun i => i = b9) w10 wz)) ((Keeps.refl w10).mono (fun _ _ h => h.elim)) (fun wz hx => K13.trans hx (U := none_) (fun i _ h => h) (fun i hi h => by have h : i = b9 := h; exfalso; omega)) ?_
 clear K13 hs14
 refine Dr.put (i := 11) (t := 70) (b := b9) (off := 0) (v := (agg [(i64 0), (Value.string ByteArray.empty)])) (ys := [(i64 0), (Value.string ByteArray.empty)]) (by kernel_rfl) (by kernel_rfl) (by kernel_rfl) H12 (by kernel_rfl) (d := none) (by kernel_rfl) rfl (fun w15 H16 K17 => ?_)
 clear H12
 replace K0 := K0.trans K17 (U := (fun i => i = mb)) (fun i h1 h2 => h2) (fun i h1 h2 => by have h2 : i = b9 := h2; show i = mb; omega)
 replace Hb := Hb.keep K17 (by intro h; change b = b9 at h; omega)
 replace Hm := Hm.keep K17 (by intro h; change mb = b9 at h; omega)
 replace H4 := H4.keep K17 (by intro h; change b1 = b9 at h; omega)
 refine ⟨K17, ?_⟩
 refine Dr.strong (S' := (fun wz => Keeps (fun i => i = b9) w15 wz)) ((Keeps.refl w15).mono (fun _ _ h => h.elim)) (fun wz hx => K17.trans hx (fun i _ h => by have h : i = b9 := h; show i = b9; omega) (fun _ _ h => h)) ?_
 clear K17
 refine Dr.takes (fuel' := 0) (is' := [12, 11, 10, 9, 8, 7, 6, 5, 4, 3, 2, 1, 0]) [12] [(0, (ptr b)), (3, (ptr b1)), (4, (i64 0)), (6, (Value.bool false))] (by kernel_rfl) rfl (by kernel_rfl) ?_
 refine Dr.done (by kernel_rfl) ?_
 refine qs ?_
 refine q_block (id := 0) (by kernel_rfl) ?_
 refine qs ?_
 refine qg ?_
 refine og 1 [(0, (ptr b)), (3, (ptr b1)), (4, (i64 0)), (6, (Value.bool false)), (20, (ptr b1))] 1 ?_
 refine Ops.go (v := (Value.string (str n))) (by kernel_rfl) (Runs.load (t := 9) (a := ⟨b1, 0, none⟩) (by kernel_rfl) (H4.loads (by kernel_rfl))) (d := (some 21)) (by kernel_rfl) rfl ?_
 refine Ops.call (by kernel_rfl) (d := (some 22)) (by kernel_rfl) (Name_calls _ n) ?_
 rintro _ w19 ⟨rfl, K18⟩
 refine ⟨_, _, rfl, rfl, ?_⟩
 replace K0 := K0.trans K18 (U := (fun i => i = mb)) (fun i h1 h2 => h2) (fun i h1 h2 => by exact h2.elim)
 replace Hb := Hb.keep K18 (fun h => h)
 replace Hm := Hm.keep K18 (fun h => h)
 replace H4 := H4.keep K18 (fun h => h)
 replace H16 := H16.keep K18 (fun h => h)
 clear K18
 refine og 2 [(0, (ptr b)), (3, (ptr b1)), (4, (i64 0)), (6, (Value.bool false)), (19, (Value.bool (!(nameOk n))))] 5 ?_
 refine od ?_
 refine q_cond (o := .tmp 19) (b := (!(nameOk n))) (by kernel_rfl) rfl (fun h20 => ?_) (fun h20 => ?_)
 ·rw [h20]
  have p21 : (nameOk n) = false := (bnot_true h20)
  refine qs ?_
  refine qg ?_
  refine og 1 [(0, (ptr b)), (3, (ptr b1)), (4, (i64 46)), (6, (Value.bool false))] 1 ?_
  refine od ?_
  refine q_ret (by kernel_rfl) ?_
  refine ⟨(i64 46), retv_tmp rfl rfl, ?_⟩
  have e : putE S n k = 46 := by unfold putE; rw [if_pos (bnot_true h20)]
  exact ⟨m, by rw [e], K0, Hm, hB.keep (by rw [e]; decide)⟩
 ·rw [h20]
  have p22 : (nameOk n) = true := (bnot_false h20)
  refine qs ?_
  refine qg ?_
  refine og 1 [(0, (ptr b)), (3, (ptr b1)), (4, (i64 0)), (6, (Value.bool false)), (25, (Value.pointer (some ⟨b1, 1, none⟩)))] 1 ?_
  refine Ops.go (v := (i64 k)) (by kernel_rfl) (Runs.load (t := 2) (a := ⟨b1, 1, none⟩) (by kernel_rfl) (H4.loads (by kernel_rfl))) (d := (some 26)) (by kernel_rfl) rfl ?_
  refine og 2 [(0, (ptr b)), (3, (ptr b1)), (4, (i64 0)), (6, (Value.bool false)), (24, (Value.bool (decide (k < 0))))] 4 ?_
  refine od ?_
  refine q_cond (o := .tmp 24) (b := (decide (k < 0))) (by kernel_rfl) rfl (fun h23 => ?_) (fun h23 => ?_)
  ·rw [h23]
   have p24 : k < 0 := of_decide_eq_true h23
   refine qs ?_
   refine qg ?_
   refine og 1 [(0, (ptr b)), (3, (ptr b1)), (4, (i64 47)), (6, (Value.bool false))] 1 ?_
   refine od ?_
   refine q_ret (by kernel_rfl) ?_
   refine ⟨(i64 47), retv_tmp rfl rfl, ?_⟩
   have e : putE S n k = 47 := by unfold putE; rw [if_neg (by rw [(bnot_false h20)]; decide)]; rw [if_pos (by omega)]
   exact ⟨m, by rw [e], K0, Hm, hB.keep (by rw [e]; decide)⟩
  ·rw [h23]
   have p25 : ¬ (k < 0) := of_decide_eq_false h23
   refine qs ?_
   refine qg ?_
   refine og 2 [(0, (ptr b)), (3, (ptr b1)), (4, (i64 0)), (28, (Value.bool false))] 2 ?_
   refine od ?_
   refine q_else (o := .tmp 28) (by kernel_rfl) rfl ?_
   refine qs ?_
   refine qg ?_
   refine og 3 [(0, (ptr b)), (3, (ptr b1)), (4, (i64 0)), (33, (ptr b))] 3 ?_
   refine Ops.go (v := (Value.map (some mb))) (by kernel_rfl) (Runs.load (t := 64) (a := ⟨b, 0, none⟩) (by kernel_rfl) (Hb.loads (by kernel_rfl))) (d := (some 34)) (by kernel_rfl) rfl ?_
   refine Ops.go (v := (i64 ((m.length : Nat) : Int))) (by kernel_rfl) (Runs.maplen (ts := #[64]) (t0 := 64) (ty := 3) rfl Tryz.underlying64 Hm (by kernel_rfl)) (d := (some 35)) (by kernel_rfl) rfl ?_
   refine og 2 [(0, (ptr b)), (3, (ptr b1)), (4, (i64 0)), (30, (Value.bool (decide (((m.length : Nat) : Int) ≥ 200))))] 7 ?_
   refine od ?_
   refine q_cond (o := .tmp 30) (b := (decide (((m.length : Nat) : Int) ≥ 200))) (by kernel_rfl) rfl (fun h26 => ?_) (fun h26 => ?_)
   ·rw [h26]
    have p27 : ((m.length : Nat) : Int) ≥ 200 := of_decide_eq_true h26
    refine qs ?_
    refine qg ?_
    refine og 1 [(0, (ptr b)), (3, (ptr b1)), (4, (i64 4))] 1 ?_
    refine od ?_
    refine q_ret (by kernel_rfl) ?_
    refine ⟨(i64 4), retv_tmp rfl rfl, ?_⟩
    have e : putE S n k = 4 := by unfold putE; rw [if_neg (by rw [(bnot_false h20)]; decide)]; rw [if_neg (by omega), if_neg (by rw [hg]; decide), if_pos (by omega)]
    exact ⟨m, by rw [e], K0, Hm, hB.keep (by rw [e]; decide)⟩
   ·rw [h26]
    have p28 : ¬ (((m.length : Nat) : Int) ≥ 200) := of_decide_eq_false h26
    refine q_skip (by kernel_rfl) ?_
    refine qs ?_
    refine q_draw (fun wz => Keeps (fun i => i = mb) w19 wz) 10 (by kernel_rfl) (by kernel_rfl) (by kernel_rfl) (fun w29 K30 _ _ => ⟨(K30.mono (fun _ _ h => h.elim)), ?_⟩)
    replace K0 := K0.trans K30 (U := (fun i => i = mb)) (fun i h1 h2 => h2) (fun i h1 h2 => by exact h2.elim)
    replace Hb := Hb.keep K30 (fun h => h)
    replace Hm := Hm.keep K30 (fun h => h)
    replace H4 := H4.keep K30 (fun h => h)
    replace H16 := H16.keep K30 (fun h => h)
    refine Dr.strong (S' := (fun wz => Keeps (fun i => i = mb) w29 wz)) ((Keeps.refl w29).mono (fun _ _ h => h.elim)) (fun wz hx => K30.trans hx (fun i _ h => h.elim) (fun _ _ h => h)) ?_
    clear K30
    refine Dr.takes (fuel' := 7) (is' := [2, 1, 0]) [0, 1, 2] [(3, (ptr b1)), (4, (i64 0)), (39, (ptr b))] (by kernel_rfl) rfl (by kernel_rfl) ?_
    refine Dr.take (i := 3) (v := (Value.map (some mb))) (by kernel_rfl) (by kernel_rfl) (fun wz hS => Runs.load (t := 64) (a := ⟨b, 0, none⟩) (by kernel_rfl) ((Hb.keep hS (by intro h; change b = mb at h; omega)).loads (by kernel_rfl))) (d := (some 40)) (by kernel_rfl) rfl ?_
    refine Dr.takes (fuel' := 5) (is' := [4, 3, 2, 1, 0]) [4] [(3, (ptr b1)), (4, (i64 0)), (40, (Value.map (some mb))), (41, (ptr b1))] (by kernel_rfl) rfl (by kernel_rfl) ?_
    refine Dr.take (i := 5) (v := (Value.string (str n))) (by kernel_rfl) (by kernel_rfl) (fun wz hS => Runs.load (t := 9) (a := ⟨b1, 0, none⟩) (by kernel_rfl) ((H4.keep hS (by intro h; change b1 = mb at h; omega)).loads (by kernel_rfl))) (d := (some 42)) (by kernel_rfl) rfl ?_
    refine Dr.takes (fuel' := 3) (is' := [6, 5, 4, 3, 2, 1, 0]) [6] [(4, (i64 0)), (40, (Value.map (some mb))), (42, (Value.string (str n))), (43, (Value.pointer (some ⟨b1, 1, none⟩)))] (by kernel_rfl) rfl (by kernel_rfl) ?_
    refine Dr.take (i := 7) (v := (i64 k)) (by kernel_rfl) (by kernel_rfl) (fun wz hS => Runs.load (t := 2) (a := ⟨b1, 1, none⟩) (by kernel_rfl) ((H4.keep hS (by intro h; change b1 = mb at h; omega)).loads (by kernel_rfl))) (d := (some 44)) (by kernel_rfl) rfl ?_
    refine Dr.takes (fuel' := 1) (is' := [8, 7, 6, 5, 4, 3, 2, 1, 0]) [8] [(4, (i64 0)), (40, (Value.map (some mb))), (42, (Value.string (str n))), (45, (agg [(i64 k), (Value.string ByteArray.empty)]))] (by kernel_rfl) rfl (by kernel_rfl) ?_
    obtain ⟨w31, hr32, K33, H34⟩ := HasMap.update KT Tryz.underlying64 Hm n (k, ([] : List UInt8))
    refine Dr.goU (i := 9) (by kernel_rfl) (by kernel_rfl) (RunsU.of_update (by kernel_rfl) hr32) (d := none) (by kernel_rfl) rfl K33 ?_
    clear Hm
    replace K0 := K0.trans K33 (U := (fun i => i = mb)) (fun i h1 h2 => h2) (fun i h1 h2 => by have h2 : i = mb := h2; show i = mb; omega)
    replace Hb := Hb.keep K33 (by intro h; change b = mb at h; omega)
    replace H4 := H4.keep K33 (by intro h; change b1 = mb at h; omega)
    replace H16 := H16.keep K33 (by intro h; change b9 = mb at h; omega)
    refine Dr.strong (S' := (fun wz => Keeps (fun i => i = mb) w31 wz)) ((Keeps.refl w31).mono (fun _ _ h => h.elim)) (fun wz hx => K33.trans hx (fun i _ h => by have h : i = mb := h; show i = mb; omega) (fun _ _ h => h)) ?_
    clear K33 hr32
    refine Dr.done (by kernel_rfl) ?_
    refine qs ?_
    refine qg ?_
    refine og 1 [(4, (i64 0))] 1 ?_
    refine od ?_
    refine q_ret (by kernel_rfl) ?_
    refine ⟨(i64 0), retv_tmp rfl rfl, ?_⟩
    have e : putE S n k = 0 := by unfold putE; rw [if_neg (by rw [(bnot_false h20)]; decide)]; rw [if_neg (by omega), if_neg (by rw [hg]; decide), if_neg (by omega)]
    exact ⟨_, by rw [e], K0, H34, hB.put hk.2 e⟩

theorem Put_some (w : World) (b mb : Nat) (m : List (List UInt8 × AccV)) (S : List AccM) (n : List UInt8) (k : Int) (Hb : Has w b (rowL [.map (some mb)] 66)) (Hm : HasMap w mb kstr accv m) (hne : b ≠ mb) (hB : Book m S) (hk : -9223372036854775808 ≤ k ∧ k ≤ 9223372036854775807) (a : AccM) (hg : getS S n = some a) : Calls Tryz.prog 22 ⟨[(ptr b), (agg [(Value.string (str n)), (i64 k)])]⟩ w (fun e w' => ∃ m', e = .returned (i64 (putE S n k)) ∧ Keeps (fun i => i = mb) w w' ∧ HasMap w' mb kstr accv m' ∧ Book m' (putS S n k)) := by
 have Hbl := Hb.lt
 have Hml := Hm.lt
 have hlen := hB.len
 have K0 : Keeps (fun i => i = mb) w w := (Keeps.refl w).mono (fun _ _ h => h.elim)
 have hgm : getM m n = some (a.amt, a.own) := by rw [hB.get, hg]; rfl
 refine q_calls Tryz.func22 (by kernel_rfl) (by kernel_rfl) ?_
 refine qs ?_
 refine qg ?_
 refine Ops.new (o := rowL [(Value.string (str n)), (i64 k)] 52) (V := fun b => (ptr b)) (by kernel_rfl) (d := (some 3)) (by kernel_rfl) (fun b => rfl) (fun b1 w2 hb3 H4 K5 hs6 => ?_)
 have lb1b : b < b1 := by have := Hb.lt; omega
 have lb1mb : mb < b1 := by have := Hm.lt; omega
 have nb1 : w.heap.size ≤ b1 := by have := K0.size; omega
 replace K0 := K0.trans K5 (U := (fun i => i = mb)) (fun i h1 h2 => h2) (fun i h1 h2 => by exact h2.elim)
 replace Hb := Hb.keep K5 (fun h => h)
 replace Hm := Hm.keep K5 (fun h => h)
 clear K5 hs6
 refine og 1 [(0, (ptr b)), (3, (ptr b1)), (4, (i64 0))] 2 ?_
 refine od ?_
 refine qs ?_
 refine qs ?_
 refine qg ?_
 refine og 2 [(0, (ptr b)), (3, (ptr b1)), (4, (i64 0)), (8, (Value.bool false))] 2 ?_
 refine od ?_
 refine q_else (o := .tmp 8) (by kernel_rfl) rfl ?_
 refine q_skip (by kernel_rfl) ?_
 refine qs ?_
 refine q_draw (fun wz => Keeps none_ w2 wz) 13 (by kernel_rfl) (by kernel_rfl) (by kernel_rfl) (fun w7 K8 _ _ => ⟨K8, ?_⟩)
 replace K0 := K0.trans K8 (U := (fun i => i = mb)) (fun i h1 h2 => h2) (fun i h1 h2 => by exact h2.elim)
 replace Hb := Hb.keep K8 (fun h => h)
 replace Hm := Hm.keep K8 (fun h => h)
 replace H4 := H4.keep K8 (fun h => h)
 refine Dr.strong (S' := (fun wz => Keeps none_ w7 wz)) (Keeps.refl w7) (fun wz hx => K8.trans hx (fun i _ h => h) (fun _ _ h => h)) ?_
 clear K8
 refine Dr.takes (fuel' := 10) (is' := [2, 1, 0]) [0, 1, 2] [(0, (ptr b)), (3, (ptr b1)), (4, (i64 0)), (12, (ptr b))] (by kernel_rfl) rfl (by kernel_rfl) ?_
 refine Dr.take (i := 3) (v := (Value.map (some mb))) (by kernel_rfl) (by kernel_rfl) (fun wz hS => Runs.load (t := 64) (a := ⟨b, 0, none⟩) (by kernel_rfl) ((Hb.keep hS (fun h => h)).loads (by kernel_rfl))) (d := (some 13)) (by kernel_rfl) rfl ?_
 refine Dr.takes (fuel' := 8) (is' := [4, 3, 2, 1, 0]) [4] [(0, (ptr b)), (3, (ptr b1)), (4, (i64 0)), (13, (Value.map (some mb))), (14, (ptr b1))] (by kernel_rfl) rfl (by kernel_rfl) ?_
 refine Dr.take (i := 5) (v := (Value.string (str n))) (by kernel_rfl) (by kernel_rfl) (fun wz hS => Runs.load (t := 9) (a := ⟨b1, 0, none⟩) (by kernel_rfl) ((H4.keep hS (fun h => h)).loads (by kernel_rfl))) (d := (some 15)) (by kernel_rfl) rfl ?_
 refine Dr.take (i := 6) (v := (Value.tuple #[(agg [(i64 a.amt), (Value.string (str a.own))]), (Value.bool true)])) (by kernel_rfl) (by kernel_rfl) (fun wz hS => Runs.lookup_some (ok := true) (vf := accv) (a := (a.amt, a.own)) KT Tryz.underlying64 (Hm.keep hS (fun h => h)) hgm (by kernel_rfl)) (d := (some 16)) (by kernel_rfl) rfl ?_
 refine Dr.takes (fuel' := 3) (is' := [9, 8, 7, 6, 5, 4, 3, 2, 1, 0]) [7, 8, 9] [(0, (ptr b)), (3, (ptr b1)), (4, (i64 0)), (17, (agg [(i64 a.amt), (Value.string (str a.own))])), (18, (Value.bool true))] (by kernel_rfl) rfl (by kernel_rfl) ?_
 refine Dr.new (i := 10) (o := rowL [(i64 0), (Value.string ByteArray.empty)] 70) (V := fun b => (ptr b)) (by kernel_rfl) (by kernel_rfl) (d := (some 5)) (by kernel_rfl) (fun b => rfl) (fun b9 w10 hb11 H12 K13 hs14 => ?_)
 have lb9b : b < b9 := by have := Hb.lt; omega
 have lb9mb : mb < b9 := by have := Hm.lt; omega
 have lb9b1 : b1 < b9 := by have := H4.lt; omega
 have nb9 : w.heap.size ≤ b9 := by have := K0.size; omega
 replace K0 := K0.trans K13 (U := (fun i => i = mb)) (fun i h1 h2 => h2) (fun i h1 h2 => by exact h2.elim)
 replace Hb := Hb.keep K13 (fun h => h)
 replace Hm := Hm.keep K13 (fun h => h)
 replace H4 := H4.keep K13 (fun h => h)
 refine ⟨K13, ?_⟩
 refine Dr.strong (S' := (fun wz => Keeps (fun i => i = b9) w10 wz)) ((Keeps.refl w10).mono (fun _ _ h => h.elim)) (fun wz hx => K13.trans hx (U := none_) (fun i _ h => h) (fun i hi h => by have h : i = b9 := h; exfalso; omega)) ?_
 clear K13 hs14
 refine Dr.put (i := 11) (t := 70) (b := b9) (off := 0) (v := (agg [(i64 a.amt), (Value.string (str a.own))])) (ys := [(i64 a.amt), (Value.string (str a.own))]) (by kernel_rfl) (by kernel_rfl) (by kernel_rfl) H12 (by kernel_rfl) (d := none) (by kernel_rfl) rfl (fun w15 H16 K17 => ?_)
 clear H12
 replace K0 := K0.trans K17 (U := (fun i => i = mb)) (fun i h1 h2 => h2) (fun i h1 h2 => by have h2 : i = b9 := h2; show i = mb; omega)
 replace Hb := Hb.keep K17 (by intro h; change b = b9 at h; omega)
 replace Hm := Hm.keep K17 (by intro h; change mb = b9 at h; omega)
 replace H4 := H4.keep K17 (by intro h; change b1 = b9 at h; omega)
 refine ⟨K17, ?_⟩
 refine Dr.strong (S' := (fun wz => Keeps (fun i => i = b9) w15 wz)) ((Keeps.refl w15).mono (fun _ _ h => h.elim)) (fun wz hx => K17.trans hx (fun i _ h => by have h : i = b9 := h; show i = b9; omega) (fun _ _ h => h)) ?_
 clear K17
 refine Dr.takes (fuel' := 0) (is' := [12, 11, 10, 9, 8, 7, 6, 5, 4, 3, 2, 1, 0]) [12] [(0, (ptr b)), (3, (ptr b1)), (4, (i64 0)), (6, (Value.bool true))] (by kernel_rfl) rfl (by kernel_rfl) ?_
 refine Dr.done (by kernel_rfl) ?_
 refine qs ?_
 refine q_block (id := 0) (by kernel_rfl) ?_
 refine qs ?_
 refine qg ?_
 refine og 1 [(0, (ptr b)), (3, (ptr b1)), (4, (i64 0)), (6, (Value.bool true)), (20, (ptr b1))] 1 ?_
 refine Ops.go (v := (Value.string (str n))) (by kernel_rfl) (Runs.load (t := 9) (a := ⟨b1, 0, none⟩) (by kernel_rfl) (H4.loads (by kernel_rfl))) (d := (some 21)) (by kernel_rfl) rfl ?_
 refine Ops.call (by kernel_rfl) (d := (some 22)) (by kernel_rfl) (Name_calls _ n) ?_
 rintro _ w19 ⟨rfl, K18⟩
 refine ⟨_, _, rfl, rfl, ?_⟩
 replace K0 := K0.trans K18 (U := (fun i => i = mb)) (fun i h1 h2 => h2) (fun i h1 h2 => by exact h2.elim)
 replace Hb := Hb.keep K18 (fun h => h)
 replace Hm := Hm.keep K18 (fun h => h)
 replace H4 := H4.keep K18 (fun h => h)
 replace H16 := H16.keep K18 (fun h => h)
 clear K18
 refine og 2 [(0, (ptr b)), (3, (ptr b1)), (4, (i64 0)), (6, (Value.bool true)), (19, (Value.bool (!(nameOk n))))] 5 ?_
 refine od ?_
 refine q_cond (o := .tmp 19) (b := (!(nameOk n))) (by kernel_rfl) rfl (fun h20 => ?_) (fun h20 => ?_)
 ·rw [h20]
  have p21 : (nameOk n) = false := (bnot_true h20)
  refine qs ?_
  refine qg ?_
  refine og 1 [(0, (ptr b)), (3, (ptr b1)), (4, (i64 46)), (6, (Value.bool true))] 1 ?_
  refine od ?_
  refine q_ret (by kernel_rfl) ?_
  refine ⟨(i64 46), retv_tmp rfl rfl, ?_⟩
  have e : putE S n k = 46 := by unfold putE; rw [if_pos (bnot_true h20)]
  exact ⟨m, by rw [e], K0, Hm, hB.keep (by rw [e]; decide)⟩
 ·rw [h20]
  have p22 : (nameOk n) = true := (bnot_false h20)
  refine qs ?_
  refine qg ?_
  refine og 1 [(0, (ptr b)), (3, (ptr b1)), (4, (i64 0)), (6, (Value.bool true)), (25, (Value.pointer (some ⟨b1, 1, none⟩)))] 1 ?_
  refine Ops.go (v := (i64 k)) (by kernel_rfl) (Runs.load (t := 2) (a := ⟨b1, 1, none⟩) (by kernel_rfl) (H4.loads (by kernel_rfl))) (d := (some 26)) (by kernel_rfl) rfl ?_
  refine og 2 [(0, (ptr b)), (3, (ptr b1)), (4, (i64 0)), (6, (Value.bool true)), (24, (Value.bool (decide (k < 0))))] 4 ?_
  refine od ?_
  refine q_cond (o := .tmp 24) (b := (decide (k < 0))) (by kernel_rfl) rfl (fun h23 => ?_) (fun h23 => ?_)
  ·rw [h23]
   have p24 : k < 0 := of_decide_eq_true h23
   refine qs ?_
   refine qg ?_
   refine og 1 [(0, (ptr b)), (3, (ptr b1)), (4, (i64 47)), (6, (Value.bool true))] 1 ?_
   refine od ?_
   refine q_ret (by kernel_rfl) ?_
   refine ⟨(i64 47), retv_tmp rfl rfl, ?_⟩
   have e : putE S n k = 47 := by unfold putE; rw [if_neg (by rw [(bnot_false h20)]; decide)]; rw [if_pos (by omega)]
   exact ⟨m, by rw [e], K0, Hm, hB.keep (by rw [e]; decide)⟩
  ·rw [h23]
   have p25 : ¬ (k < 0) := of_decide_eq_false h23
   refine qs ?_
   refine qg ?_
   refine og 2 [(0, (ptr b)), (3, (ptr b1)), (4, (i64 0)), (28, (Value.bool true))] 2 ?_
   refine od ?_
   refine q_then (o := .tmp 28) (by kernel_rfl) rfl ?_
   refine qs ?_
   refine qg ?_
   refine og 1 [(0, (ptr b)), (3, (ptr b1)), (4, (i64 41))] 1 ?_
   refine od ?_
   refine q_ret (by kernel_rfl) ?_
   refine ⟨(i64 41), retv_tmp rfl rfl, ?_⟩
   have e : putE S n k = 41 := by unfold putE; rw [if_neg (by rw [(bnot_false h20)]; decide)]; rw [if_neg (by omega), if_pos (by rw [hg]; rfl)]
   exact ⟨m, by rw [e], K0, Hm, hB.keep (by rw [e]; decide)⟩

theorem Put_calls (w : World) (b mb : Nat) (m : List (List UInt8 × AccV)) (S : List AccM) (n : List UInt8) (k : Int) (Hb : Has w b (rowL [.map (some mb)] 66)) (Hm : HasMap w mb kstr accv m) (hne : b ≠ mb) (hB : Book m S) (hk : -9223372036854775808 ≤ k ∧ k ≤ 9223372036854775807) : Calls Tryz.prog 22 ⟨[(ptr b), (agg [(Value.string (str n)), (i64 k)])]⟩ w (fun e w' => ∃ m', e = .returned (i64 (putE S n k)) ∧ Keeps (fun i => i = mb) w w' ∧ HasMap w' mb kstr accv m' ∧ Book m' (putS S n k)) := by
 cases hg : getS S n with
 | none => exact Put_none w b mb m S n k Hb Hm hne hB hk hg
 | some a => exact Put_some w b mb m S n k Hb Hm hne hB hk a hg

theorem Open_calls (w : World) (b mb : Nat) (m : List (List UInt8 × AccV)) (S : List AccM) (n : List UInt8) (Hb : Has w b (rowL [.map (some mb)] 66)) (Hm : HasMap w mb kstr accv m) (hne : b ≠ mb) (hB : Book m S) : Calls Tryz.prog 17 ⟨[(ptr b), (Value.string (str n))]⟩ w (fun e w' => ∃ m', e = .returned (i64 (putE S n 0)) ∧ Keeps (fun i => i = mb) w w' ∧ HasMap w' mb kstr accv m' ∧ Book m' (putS S n 0)) := by
 have Hbl := Hb.lt
 have Hml := Hm.lt
 have hlen := hB.len
 have K0 : Keeps (fun i => i = mb) w w := (Keeps.refl w).mono (fun _ _ h => h.elim)
 refine q_calls Tryz.func17 (by kernel_rfl) (by kernel_rfl) ?_
 refine qs ?_
 refine qg ?_
 refine og 1 [(0, (ptr b)), (1, (Value.string (str n))), (4, (i64 0))] 1 ?_
 refine od ?_
 refine qs ?_
 refine qg ?_
 refine og 3 [(4, (i64 0)), (5, (ptr b)), (7, (agg [(Value.string (str n)), (i64 0)]))] 3 ?_
 refine Ops.call (by kernel_rfl) (d := (some 8)) (by kernel_rfl) (Put_calls _ b mb m S n 0 Hb Hm (by omega) hB (by omega)) ?_
 rintro _ w2 ⟨m1, rfl, K3, H4, hB5⟩
 have hl6 := hB5.len
 refine ⟨_, _, rfl, rfl, ?_⟩
 replace K0 := K0.trans K3 (U := (fun i => i = mb)) (fun i h1 h2 => h2) (fun i h1 h2 => by have h2 : i = mb := h2; show i = mb; omega)
 replace Hb := Hb.keep K3 (by intro h; change b = mb at h; omega)
 clear K3
 refine og 1 [(4, (i64 (putE S n 0)))] 5 ?_
 refine od ?_
 refine q_ret (by kernel_rfl) ?_
 refine ⟨(i64 (putE S n 0)), retv_tmp rfl rfl, ?_⟩
 exact ⟨_, rfl, K0, H4, hB5⟩
end Go.Proofs.YtooginpgclcldaaGreatDoor
