/- books: what is seen of them -/
import Derived.Test.YtooginpgclcldaaGreatDoorProg
import Derived.Test.YtooginpgclcldaaGreatDoorKB
import Derived.Test.YtooginpgclcldaaGreatDoorKD
import Derived.Test.YtooginpgclcldaaGreatDoorLD
import Derived.Test.YtooginpgclcldaaGreatDoorLX
set_option linter.unusedVariables false
namespace Go.Proofs.YtooginpgclcldaaGreatDoor
open Go.Q Go.RowKit

theorem Get_none (w : World) (b mb : Nat) (m : List (List UInt8 × AccV)) (S : List AccM) (n : List UInt8) (Hb : Has w b (rowL [.map (some mb)] 66)) (Hm : HasMap w mb kstr accv m) (hne : b ≠ mb) (hB : Book m S) (hg : getS S n = none) : Calls Tryz.prog 34 ⟨[(ptr b), (Value.string (str n))]⟩ w (fun e w' => e = .returned (Value.tuple #[(i64 ((amtE S n).1)), (i64 ((amtE S n).2))]) ∧ Keeps none_ w w') := by
 have Hbl := Hb.lt
 have Hml := Hm.lt
 have hlen := hB.len
 have K0 : Keeps none_ w w := Keeps.refl w
 have hgm : getM m n = none := by rw [hB.get, hg]; rfl
 refine q_calls Tryz.func34 (by kernel_rfl) (by kernel_rfl) ?_
 refine qs ?_
 refine qg ?_
 refine og 2 [(0, (ptr b)), (1, (Value.string (str n))), (4, (i64 0)), (5, (i64 0))] 2 ?_
 refine od ?_
 refine qs ?_
 refine qs ?_
 refine qg ?_
 refine og 2 [(0, (ptr b)), (1, (Value.string (str n))), (4, (i64 0)), (5, (i64 0)), (9, (Value.bool false))] 2 ?_
 refine od ?_
 refine q_else (o := .tmp 9) (by kernel_rfl) rfl ?_
 refine q_skip (by kernel_rfl) ?_
 refine qs ?_
 refine qg ?_
 refine og 3 [(1, (Value.string (str n))), (4, (i64 0)), (5, (i64 0)), (13, (ptr b))] 3 ?_
 refine Ops.go (v := (Value.map (some mb))) (by kernel_rfl) (Runs.load (t := 64) (a := ⟨b, 0, none⟩) (by kernel_rfl) (Hb.loads (by kernel_rfl))) (d := (some 14)) (by kernel_rfl) rfl ?_
 refine og 1 [(4, (i64 0)), (5, (i64 0)), (14, (Value.map (some mb))), (15, (Value.string (str n)))] 5 ?_
 refine Ops.go (v := (Value.tuple #[(agg [(i64 0), (Value.string ByteArray.empty)]), (Value.bool false)])) (by kernel_rfl) (Runs.lookup_none (ok := true) (z := (agg [(i64 0), (Value.string ByteArray.empty)])) KT Tryz.underlying64 (by kernel_rfl) Hm hgm (by kernel_rfl)) (d := (some 16)) (by kernel_rfl) rfl ?_
 refine og 3 [(4, (i64 0)), (5, (i64 0)), (17, (agg [(i64 0), (Value.string ByteArray.empty)])), (18, (Value.bool false))] 9 ?_
 refine Ops.new (o := rowL [(i64 0), (Value.string ByteArray.empty)] 70) (V := fun b => (ptr b)) (by kernel_rfl) (d := (some 6)) (by kernel_rfl) (fun b => rfl) (fun b1 w2 hb3 H4 K5 hs6 => ?_)
 have lb1b : b < b1 := by have := Hb.lt; omega
 have lb1mb : mb < b1 := by have := Hm.lt; omega
 have nb1 : w.heap.size ≤ b1 := by have := K0.size; omega
 replace K0 := K0.t0 K5
 replace Hb := Hb.keep K5 (fun h => h)
 replace Hm := Hm.keep K5 (fun h => h)
 clear K5 hs6
 refine Ops.put (t := 70) (b := b1) (off := 0) (v := (agg [(i64 0), (Value.string ByteArray.empty)])) (ys := [(i64 0), (Value.string ByteArray.empty)]) (by kernel_rfl) (by kernel_rfl) H4 (by kernel_rfl) (d := none) (by kernel_rfl) rfl (fun w7 H8 K9 => ?_)
 clear H4
 replace K0 := K0.trans K9 (U := none_) (fun i h1 h2 => h2) (fun i h1 h2 => by have h2 : i = b1 := h2; exfalso; omega)
 replace Hb := Hb.keep K9 (by intro h; change b = b1 at h; omega)
 replace Hm := Hm.keep K9 (by intro h; change mb = b1 at h; omega)
 clear K9
 refine og 1 [(4, (i64 0)), (5, (i64 0)), (6, (ptr b1)), (7, (Value.bool false))] 12 ?_
 refine od ?_
 refine qs ?_
 refine qs ?_
 refine qg ?_
 refine og 2 [(4, (i64 0)), (5, (i64 0)), (6, (ptr b1)), (20, (Value.bool true))] 2 ?_
 refine od ?_
 refine q_then (o := .tmp 20) (by kernel_rfl) rfl ?_
 refine qs ?_
 refine qg ?_
 refine og 2 [(4, (i64 0)), (5, (i64 40)), (6, (ptr b1))] 2 ?_
 refine od ?_
 refine q_ret (by kernel_rfl) ?_
 refine ⟨(Value.tuple #[(i64 0), (i64 40)]), retv_tmp2 rfl rfl rfl, ?_⟩
 exact ⟨by unfold amtE; rw [hg] <;> rfl, K0⟩

theorem Get_some (w : World) (b mb : Nat) (m : List (List UInt8 × AccV)) (S : List AccM) (n : List UInt8) (a : AccM) (Hb : Has w b (rowL [.map (some mb)] 66)) (Hm : HasMap w mb kstr accv m) (hne : b ≠ mb) (hB : Book m S) (hg : getS S n = some a) : Calls Tryz.prog 34 ⟨[(ptr b), (Value.string (str n))]⟩ w (fun e w' => e = .returned (Value.tuple #[(i64 ((amtE S n).1)), (i64 ((amtE S n).2))]) ∧ Keeps none_ w w') := by
 have Hbl := Hb.lt
 have Hml := Hm.lt
 have hlen := hB.len
 have K0 : Keeps none_ w w := Keeps.refl w
 have hgm : getM m n = some (a.amt, a.own) := by rw [hB.get, hg]; rfl
 refine q_calls Tryz.func34 (by kernel_rfl) (by kernel_rfl) ?_
 refine qs ?_
 refine qg ?_
 refine og 2 [(0, (ptr b)), (1, (Value.string (str n))), (4, (i64 0)), (5, (i64 0))] 2 ?_
 refine od ?_
 refine qs ?_
 refine qs ?_
 refine qg ?_
 refine og 2 [(0, (ptr b)), (1, (Value.string (str n))), (4, (i64 0)), (5, (i64 0)), (9, (Value.bool false))] 2 ?_
 refine od ?_
 refine q_else (o := .tmp 9) (by kernel_rfl) rfl ?_
 refine q_skip (by kernel_rfl) ?_
 refine qs ?_
 refine qg ?_
 refine og 3 [(1, (Value.string (str n))), (4, (i64 0)), (5, (i64 0)), (13, (ptr b))] 3 ?_
 refine Ops.go (v := (Value.map (some mb))) (by kernel_rfl) (Runs.load (t := 64) (a := ⟨b, 0, none⟩) (by kernel_rfl) (Hb.loads (by kernel_rfl))) (d := (some 14)) (by kernel_rfl) rfl ?_
 refine og 1 [(4, (i64 0)), (5, (i64 0)), (14, (Value.map (some mb))), (15, (Value.string (str n)))] 5 ?_
 refine Ops.go (v := (Value.tuple #[(agg [(i64 a.amt), (Value.string (str a.own))]), (Value.bool true)])) (by kernel_rfl) (Runs.lookup_some (ok := true) (vf := accv) (a := (a.amt, a.own)) KT Tryz.underlying64 Hm hgm (by kernel_rfl)) (d := (some 16)) (by kernel_rfl) rfl ?_
 refine og 3 [(4, (i64 0)), (5, (i64 0)), (17, (agg [(i64 a.amt), (Value.string (str a.own))])), (18, (Value.bool true))] 9 ?_
 refine Ops.new (o := rowL [(i64 0), (Value.string ByteArray.empty)] 70) (V := fun b => (ptr b)) (by kernel_rfl) (d := (some 6)) (by kernel_rfl) (fun b => rfl) (fun b1 w2 hb3 H4 K5 hs6 => ?_)
 have lb1b : b < b1 := by have := Hb.lt; omega
 have lb1mb : mb < b1 := by have := Hm.lt; omega
 have nb1 : w.heap.size ≤ b1 := by have := K0.size; omega
 replace K0 := K0.t0 K5
 replace Hb := Hb.keep K5 (fun h => h)
 replace Hm := Hm.keep K5 (fun h => h)
 clear K5 hs6
 refine Ops.put (t := 70) (b := b1) (off := 0) (v := (agg [(i64 a.amt), (Value.string (str a.own))])) (ys := [(i64 a.amt), (Value.string (str a.own))]) (by kernel_rfl) (by kernel_rfl) H4 (by kernel_rfl) (d := none) (by kernel_rfl) rfl (fun w7 H8 K9 => ?_)
 clear H4
 replace K0 := K0.trans K9 (U := none_) (fun i h1 h2 => h2) (fun i h1 h2 => by have h2 : i = b1 := h2; exfalso; omega)
 replace Hb := Hb.keep K9 (by intro h; change b = b1 at h; omega)
 replace Hm := Hm.keep K9 (by intro h; change mb = b1 at h; omega)
 clear K9
 refine og 1 [(4, (i64 0)), (5, (i64 0)), (6, (ptr b1)), (7, (Value.bool true))] 12 ?_
 refine od ?_
 refine qs ?_
 refine qs ?_
 refine qg ?_
 refine og 2 [(4, (i64 0)), (5, (i64 0)), (6, (ptr b1)), (20, (Value.bool false))] 2 ?_
 refine od ?_
 refine q_else (o := .tmp 20) (by kernel_rfl) rfl ?_
 refine q_skip (by kernel_rfl) ?_
 refine qs ?_
 refine qg ?_
 refine og 1 [(4, (i64 0)), (5, (i64 0)), (21, (ptr b1))] 1 ?_
 refine Ops.go (v := (i64 a.amt)) (by kernel_rfl) (Runs.load (t := 2) (a := ⟨b1, 0, none⟩) (by kernel_rfl) (H8.loads (by kernel_rfl))) (d := (some 22)) (by kernel_rfl) rfl ?_
 refine og 2 [(4, (i64 a.amt)), (5, (i64 0))] 4 ?_
 refine od ?_
 refine q_ret (by kernel_rfl) ?_
 refine ⟨(Value.tuple #[(i64 a.amt), (i64 0)]), retv_tmp2 rfl rfl rfl, ?_⟩
 exact ⟨by unfold amtE; rw [hg] <;> rfl, K0⟩

theorem Get_calls (w : World) (b mb : Nat) (m : List (List UInt8 × AccV)) (S : List AccM) (n : List UInt8) (Hb : Has w b (rowL [.map (some mb)] 66)) (Hm : HasMap w mb kstr accv m) (hne : b ≠ mb) (hB : Book m S) : Calls Tryz.prog 34 ⟨[(ptr b), (Value.string (str n))]⟩ w (fun e w' => e = .returned (Value.tuple #[(i64 ((amtE S n).1)), (i64 ((amtE S n).2))]) ∧ Keeps none_ w w') := by
 cases hg : getS S n with
 | none => exact Get_none w b mb m S n Hb Hm hne hB hg
 | some a => exact Get_some w b mb m S n a Hb Hm hne hB hg

theorem By_none (w : World) (b mb : Nat) (m : List (List UInt8 × AccV)) (S : List AccM) (n : List UInt8) (Hb : Has w b (rowL [.map (some mb)] 66)) (Hm : HasMap w mb kstr accv m) (hne : b ≠ mb) (hB : Book m S) (hg : getS S n = none) : Calls Tryz.prog 37 ⟨[(ptr b), (Value.string (str n))]⟩ w (fun e w' => e = .returned (Value.string (str (ownE S n))) ∧ Keeps none_ w w') := by
 have Hbl := Hb.lt
 have Hml := Hm.lt
 have hlen := hB.len
 have K0 : Keeps none_ w w := Keeps.refl w
 have hgm : getM m n = none := by rw [hB.get, hg]; rfl
 refine q_calls Tryz.func37 (by kernel_rfl) (by kernel_rfl) ?_
 refine qs ?_
 refine qg ?_
 refine og 1 [(0, (ptr b)), (1, (Value.string (str n))), (4, (Value.string (str ([] : List UInt8))))] 1 ?_
 refine od ?_
 refine qs ?_
 refine qs ?_
 refine qg ?_
 refine og 2 [(0, (ptr b)), (1, (Value.string (str n))), (4, (Value.string (str ([] : List UInt8)))), (6, (Value.bool false))] 2 ?_
 refine od ?_
 refine q_else (o := .tmp 6) (by kernel_rfl) rfl ?_
 refine q_skip (by kernel_rfl) ?_
 refine qs ?_
 refine qg ?_
 refine og 3 [(1, (Value.string (str n))), (4, (Value.string (str ([] : List UInt8)))), (9, (ptr b))] 3 ?_
 refine Ops.go (v := (Value.map (some mb))) (by kernel_rfl) (Runs.load (t := 64) (a := ⟨b, 0, none⟩) (by kernel_rfl) (Hb.loads (by kernel_rfl))) (d := (some 10)) (by kernel_rfl) rfl ?_
 refine og 1 [(4, (Value.string (str ([] : List UInt8)))), (10, (Value.map (some mb))), (11, (Value.string (str n)))] 5 ?_
 refine Ops.go (v := (agg [(i64 0), (Value.string ByteArray.empty)])) (by kernel_rfl) (Runs.lookup_none (ok := false) (z := (agg [(i64 0), (Value.string ByteArray.empty)])) KT Tryz.underlying64 (by kernel_rfl) Hm hgm (by kernel_rfl)) (d := (some 12)) (by kernel_rfl) rfl ?_
 refine og 2 [(4, (Value.string ByteArray.empty))] 8 ?_
 refine od ?_
 refine q_ret (by kernel_rfl) ?_
 refine ⟨(Value.string ByteArray.empty), retv_tmp rfl rfl, ?_⟩
 exact ⟨by unfold ownE; rw [hg] <;> rfl, K0⟩

theorem By_some (w : World) (b mb : Nat) (m : List (List UInt8 × AccV)) (S : List AccM) (n : List UInt8) (a : AccM) (Hb : Has w b (rowL [.map (some mb)] 66)) (Hm : HasMap w mb kstr accv m) (hne : b ≠ mb) (hB : Book m S) (hg : getS S n = some a) : Calls Tryz.prog 37 ⟨[(ptr b), (Value.string (str n))]⟩ w (fun e w' => e = .returned (Value.string (str (ownE S n))) ∧ Keeps none_ w w') := by
 have Hbl := Hb.lt
 have Hml := Hm.lt
 have hlen := hB.len
 have K0 : Keeps none_ w w := Keeps.refl w
 have hgm : getM m n = some (a.amt, a.own) := by rw [hB.get, hg]; rfl
 refine q_calls Tryz.func37 (by kernel_rfl) (by kernel_rfl) ?_
 refine qs ?_
 refine qg ?_
 refine og 1 [(0, (ptr b)), (1, (Value.string (str n))), (4, (Value.string (str ([] : List UInt8))))] 1 ?_
 refine od ?_
 refine qs ?_
 refine qs ?_
 refine qg ?_
 refine og 2 [(0, (ptr b)), (1, (Value.string (str n))), (4, (Value.string (str ([] : List UInt8)))), (6, (Value.bool false))] 2 ?_
 refine od ?_
 refine q_else (o := .tmp 6) (by kernel_rfl) rfl ?_
 refine q_skip (by kernel_rfl) ?_
 refine qs ?_
 refine qg ?_
 refine og 3 [(1, (Value.string (str n))), (4, (Value.string (str ([] : List UInt8)))), (9, (ptr b))] 3 ?_
 refine Ops.go (v := (Value.map (some mb))) (by kernel_rfl) (Runs.load (t := 64) (a := ⟨b, 0, none⟩) (by kernel_rfl) (Hb.loads (by kernel_rfl))) (d := (some 10)) (by kernel_rfl) rfl ?_
 refine og 1 [(4, (Value.string (str ([] : List UInt8)))), (10, (Value.map (some mb))), (11, (Value.string (str n)))] 5 ?_
 refine Ops.go (v := (agg [(i64 a.amt), (Value.string (str a.own))])) (by kernel_rfl) (Runs.lookup_some (ok := false) (vf := accv) (a := (a.amt, a.own)) KT Tryz.underlying64 Hm hgm (by kernel_rfl)) (d := (some 12)) (by kernel_rfl) rfl ?_
 refine og 2 [(4, (Value.string (str a.own)))] 8 ?_
 refine od ?_
 refine q_ret (by kernel_rfl) ?_
 refine ⟨(Value.string (str a.own)), retv_tmp rfl rfl, ?_⟩
 exact ⟨by unfold ownE; rw [hg] <;> rfl, K0⟩

theorem By_calls (w : World) (b mb : Nat) (m : List (List UInt8 × AccV)) (S : List AccM) (n : List UInt8) (Hb : Has w b (rowL [.map (some mb)] 66)) (Hm : HasMap w mb kstr accv m) (hne : b ≠ mb) (hB : Book m S) : Calls Tryz.prog 37 ⟨[(ptr b), (Value.string (str n))]⟩ w (fun e w' => e = .returned (Value.string (str (ownE S n))) ∧ Keeps none_ w w') := by
 cases hg : getS S n with
 | none => exact By_none w b mb m S n Hb Hm hne hB hg
 | some a => exact By_some w b mb m S n a Hb Hm hne hB hg

theorem Len_calls (w : World) (b mb : Nat) (m : List (List UInt8 × AccV)) (S : List AccM) (Hb : Has w b (rowL [.map (some mb)] 66)) (Hm : HasMap w mb kstr accv m) (hne : b ≠ mb) (hB : Book m S) : Calls Tryz.prog 39 ⟨[(ptr b)]⟩ w (fun e w' => e = .returned (i64 ((S.length : Nat) : Int)) ∧ Keeps none_ w w') := by
 have Hbl := Hb.lt
 have Hml := Hm.lt
 have hlen := hB.len
 have K0 : Keeps none_ w w := Keeps.refl w
 refine q_calls Tryz.func39 (by kernel_rfl) (by kernel_rfl) ?_
 refine qs ?_
 refine qg ?_
 refine og 1 [(0, (ptr b)), (2, (i64 0))] 1 ?_
 refine od ?_
 refine qs ?_
 refine qs ?_
 refine qg ?_
 refine og 2 [(0, (ptr b)), (2, (i64 0)), (4, (Value.bool false))] 2 ?_
 refine od ?_
 refine q_else (o := .tmp 4) (by kernel_rfl) rfl ?_
 refine q_skip (by kernel_rfl) ?_
 refine qs ?_
 refine qg ?_
 refine og 3 [(2, (i64 0)), (7, (ptr b))] 3 ?_
 refine Ops.go (v := (Value.map (some mb))) (by kernel_rfl) (Runs.load (t := 64) (a := ⟨b, 0, none⟩) (by kernel_rfl) (Hb.loads (by kernel_rfl))) (d := (some 8)) (by kernel_rfl) rfl ?_
 refine Ops.go (v := (i64 ((m.length : Nat) : Int))) (by kernel_rfl) (Runs.maplen (ts := #[64]) (t0 := 64) (ty := 3) rfl Tryz.underlying64 Hm (by kernel_rfl)) (d := (some 9)) (by kernel_rfl) rfl ?_
 refine og 1 [(2, (i64 ((m.length : Nat) : Int)))] 6 ?_
 refine od ?_
 refine q_ret (by kernel_rfl) ?_
 refine ⟨(i64 ((m.length : Nat) : Int)), retv_tmp rfl rfl, ?_⟩
 exact ⟨by rw [hlen], K0⟩

theorem Slot_calls (w : World) (n : List UInt8) (hn : n.length ≤ 140737488351232) : Calls Tryz.prog 74 ⟨[(Value.string (str n))]⟩ w (fun e w' => e = .returned (i64 ((slotB n : Nat) : Int)) ∧ Keeps none_ w w') := by
 have K0 : Keeps none_ w w := Keeps.refl w
 refine q_calls Tryz.func74 (by kernel_rfl) (by kernel_rfl) ?_
 refine qs ?_
 refine qg ?_
 refine og 1 [(0, (Value.string (str n))), (2, (i64 0))] 1 ?_
 refine od ?_
 refine qs ?_
 refine qg ?_
 refine og 1 [(2, (i64 0)), (3, (Value.string (str n)))] 1 ?_
 obtain ⟨A1, c2, w3, hr4, K5, F6, hge7⟩ := run_s2b (P := Tryz.prog) (w := w) (src := 9) (dst := 22) (e := 5) (ss := n) (by kernel_rfl) (by kernel_rfl) (by first | omega | decide)
 refine Ops.go (v := (Value.slice A1 n.length c2)) (by kernel_rfl) (Runs.conv (by kernel_rfl) hr4) (d := (some 4)) (by kernel_rfl) rfl ?_
 replace K0 := K0.t0 K5
 clear K5 hr4 hge7
 refine Ops.call (by kernel_rfl) (d := (some 5)) (by kernel_rfl) (Sum_calls _ (Value.slice A1 n.length c2) n F6 (by omega)) ?_
 rintro _ w8 ⟨rfl, K9⟩
 have hb10 := crcMore_lt n (s := 0) (by omega)
 refine ⟨_, _, rfl, rfl, ?_⟩
 replace K0 := K0.t0 K9
 replace F6 := (Rd.keep0 (by omega) F6 K9)
 clear K9
 refine og 1 [(2, (i64 0)), (6, (Value.int IntKind.u32 ((((crcMore 0 n : Nat) : Int)).tmod 16)))] 4 ?_
 have e11 : (((crcMore 0 n : Nat) : Int)).tmod 16 = (((crcMore 0 n) % 16 : Nat) : Int) := tmod_nat (crcMore 0 n) 16
 rw [e11]
 clear e11
 refine og 1 [(2, (i64 0)), (7, (i64 (IntKind.i64.wrap ((((crcMore 0 n) % 16 : Nat) : Int)))))] 5 ?_
 have e12 : IntKind.i64.wrap ((((crcMore 0 n) % 16 : Nat) : Int)) = (((crcMore 0 n) % 16 : Nat) : Int) := wrap_i64 (by omega) (by omega)
 rw [e12]
 refine og 1 [(2, (i64 (((crcMore 0 n) % 16 : Nat) : Int)))] 6 ?_
 refine od ?_
 refine q_ret (by kernel_rfl) ?_
 refine ⟨(i64 (((crcMore 0 n) % 16 : Nat) : Int)), retv_tmp rfl rfl, ?_⟩
 exact ⟨rfl, K0⟩

theorem names_calls (w : World) (b mb : Nat) (m : List (List UInt8 × AccV)) (S : List AccM) (Hb : Has w b (rowL [.map (some mb)] 66)) (Hm : HasMap w mb kstr accv m) (hne : b ≠ mb) (hB : Book m S) : Calls Tryz.prog 31 ⟨[(ptr b)]⟩ w (fun e w' => ∃ A c, e = .returned (.slice A (S.map (·.name)).length c) ∧ Keeps none_ w w' ∧ OwnT w' w.heap.size 9 1 kcell (.slice A (S.map (·.name)).length c) (S.map (·.name))) := by
 have Hbl := Hb.lt
 have Hml := Hm.lt
 have hlen := hB.len
 have K0 : Keeps none_ w w := Keeps.refl w
 refine q_calls Tryz.func31 (by kernel_rfl) (by kernel_rfl) ?_
 refine qs ?_
 refine qg ?_
 refine og 1 [(0, (ptr b)), (2, (Value.slice none 0 0))] 1 ?_
 refine od ?_
 refine qs ?_
 refine qg ?_
 refine og 3 [(2, (Value.slice none 0 0)), (5, (ptr b))] 3 ?_
 refine Ops.go (v := (Value.map (some mb))) (by kernel_rfl) (Runs.load (t := 64) (a := ⟨b, 0, none⟩) (by kernel_rfl) (Hb.loads (by kernel_rfl))) (d := (some 6)) (by kernel_rfl) rfl ?_
 refine Ops.call (by kernel_rfl) (d := (some 7)) (by kernel_rfl) (Keys_calls _ mb) ?_
 rintro _ w2 ⟨kc1, rfl, K3, H4, hc5⟩
 have lkc1b : b < kc1 := by have := Hb.lt; omega
 have lkc1mb : mb < kc1 := by have := Hm.lt; omega
 have nkc1 : w.heap.size ≤ kc1 := by have := K0.size; omega
 refine ⟨_, _, rfl, rfl, ?_⟩
 replace K0 := K0.t0 K3
 replace Hb := Hb.keep K3 (fun h => h)
 replace Hm := Hm.keep K3 (fun h => h)
 clear K3
 refine Ops.call (by kernel_rfl) (d := (some 8)) (by kernel_rfl) (Sorted_calls _ kc1 mb m S H4 Hm hB) ?_
 rintro _ w9 ⟨v6, rfl, K10, hO11⟩
 obtain ⟨A7, c8, rfl⟩ := RdT.form kcell_len (by decide) (OwnT.rd hO11)
 have ob13 : ∀ i, ((Value.slice A7 ((S.map (·.name)).length) c8)).ownBlock = some i → i ≠ b := fun i hi => by have := (World.ownsRow.lt hO11 i hi).1; have := Hb.lt; omega
 have ob14 : ∀ i, ((Value.slice A7 ((S.map (·.name)).length) c8)).ownBlock = some i → i ≠ mb := fun i hi => by have := (World.ownsRow.lt hO11 i hi).1; have := Hm.lt; omega
 have ob15 : ∀ i, ((Value.slice A7 ((S.map (·.name)).length) c8)).ownBlock = some i → i ≠ kc1 := fun i hi => by have := (World.ownsRow.lt hO11 i hi).1; have := H4.lt; omega
 have O12 := own_base hO11 K0.size
 clear hO11
 refine ⟨_, _, rfl, rfl, ?_⟩
 replace K0 := K0.t0 K10
 replace Hb := Hb.keep K10 (fun h => h)
 replace Hm := Hm.keep K10 (fun h => h)
 replace H4 := H4.keep K10 (fun h => h)
 clear K10
 refine og 1 [(2, (Value.slice A7 ((S.map (·.name)).length) c8))] 7 ?_
 refine od ?_
 refine q_ret (by kernel_rfl) ?_
 refine ⟨(Value.slice A7 ((S.map (·.name)).length) c8), retv_tmp rfl rfl, ?_⟩
 exact ⟨_, _, rfl, K0, O12⟩
end Go.Proofs.YtooginpgclcldaaGreatDoor
