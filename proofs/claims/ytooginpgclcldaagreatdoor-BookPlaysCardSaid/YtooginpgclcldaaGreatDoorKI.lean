/- books as bytes -/
import Derived.Test.YtooginpgclcldaaGreatDoorProg
import Derived.Test.YtooginpgclcldaaGreatDoorKH
import Derived.Test.YtooginpgclcldaaGreatDoorLX
set_option linter.unusedVariables false
namespace Go.Proofs.YtooginpgclcldaaGreatDoor
open Go.Q Go.RowKit

theorem Bytes_calls (w : World) (b mb : Nat) (m : List (List UInt8 × AccV)) (S : List AccM) (Hb : Has w b (rowL [.map (some mb)] 66)) (Hm : HasMap w mb kstr accv m) (hne : b ≠ mb) (hB : Book m S) : Calls Tryz.prog 11 ⟨[(ptr b)]⟩ w (fun e w' => ∃ v', e = .returned v' ∧ Keeps none_ w w' ∧ OwnB w' w.heap.size 5 v' (bookB S)) := by
 have Hbl := Hb.lt
 have Hml := Hm.lt
 have hlen := hB.len
 have hSl := hB.accs.len
 have K0 : Keeps none_ w w := Keeps.refl w
 refine q_calls Tryz.func11 (by kernel_rfl) (by kernel_rfl) ?_
 refine qs ?_
 refine qg ?_
 refine og 1 [(0, (ptr b)), (2, (Value.slice none 0 0))] 1 ?_
 refine od ?_
 refine qs ?_
 refine qs ?_
 refine qg ?_
 refine og 2 [(0, (ptr b)), (2, (Value.slice none 0 0)), (8, (Value.bool false))] 2 ?_
 refine od ?_
 refine q_else (o := .tmp 8) (by kernel_rfl) rfl ?_
 refine q_skip (by kernel_rfl) ?_
 refine qs ?_
 refine qg ?_
 refine og 3 [(0, (ptr b)), (2, (Value.slice none 0 0)), (11, (ptr b))] 3 ?_
 refine Ops.go (v := (Value.map (some mb))) (by kernel_rfl) (Runs.load (t := 64) (a := ⟨b, 0, none⟩) (by kernel_rfl) (Hb.loads (by kernel_rfl))) (d := (some 12)) (by kernel_rfl) rfl ?_
 refine Ops.go (v := (i64 ((m.length : Nat) : Int))) (by kernel_rfl) (Runs.maplen (ts := #[64]) (t0 := 64) (ty := 3) rfl Tryz.underlying64 Hm (by kernel_rfl)) (d := (some 13)) (by kernel_rfl) rfl ?_
 refine og 1 [(0, (ptr b)), (2, (Value.slice none 0 0)), (14, (Value.int IntKind.u64 (IntKind.u64.wrap (((m.length : Nat) : Int)))))] 6 ?_
 have e1 : IntKind.u64.wrap (((m.length : Nat) : Int)) = ((m.length : Nat) : Int) := wrap_u64 (by omega) (by omega)
 rw [e1]
 refine Ops.call (by kernel_rfl) (d := (some 15)) (by kernel_rfl) (Uint_calls _ (Value.slice none 0 0) [] m.length (Rd.nil _ _) (by omega) (by (try simp only at *); (try simp only [List.length_append] at *); (try simp only [List.length_cons] at *); (try simp only [List.length_nil] at *); omega)) ?_
 rintro _ w4 ⟨v3, rfl, K5, hO6⟩
 have ob8 : ∀ i, (v3).ownBlock = some i → i ≠ b := fun i hi => by have := (World.ownsRow.lt hO6 i hi).1; have := Hb.lt; omega
 have ob9 : ∀ i, (v3).ownBlock = some i → i ≠ mb := fun i hi => by have := (World.ownsRow.lt hO6 i hi).1; have := Hm.lt; omega
 have O7 := own_base hO6 K0.size
 clear hO6
 have hL2 := uv_length_10 (n := m.length) (by omega)
 refine ⟨_, _, rfl, rfl, ?_⟩
 replace K0 := K0.t0 K5
 replace Hb := Hb.keep K5 (fun h => h)
 replace Hm := Hm.keep K5 (fun h => h)
 clear K5
 refine og 1 [(0, (ptr b)), (2, (Value.slice none 0 0)), (3, v3)] 8 ?_
 refine od ?_
 refine qs ?_
 refine qs ?_
 refine qg ?_
 refine og 1 [(0, (ptr b)), (2, (Value.slice none 0 0)), (3, v3), (16, (ptr b))] 1 ?_
 refine Ops.call (by kernel_rfl) (d := (some 17)) (by kernel_rfl) (names_calls _ b mb m S Hb Hm (by omega) hB) ?_
 rintro _ w12 ⟨A10, c11, rfl, K13, hO14⟩
 have ob16 : ∀ i, ((Value.slice A10 ((S.map (·.name)).length) c11)).ownBlock = some i → i ≠ b := fun i hi => by have := (World.ownsRow.lt hO14 i hi).1; have := Hb.lt; omega
 have ob17 : ∀ i, ((Value.slice A10 ((S.map (·.name)).length) c11)).ownBlock = some i → i ≠ mb := fun i hi => by have := (World.ownsRow.lt hO14 i hi).1; have := Hm.lt; omega
 have oo18 : ∀ i, (v3).ownBlock = some i → ((Value.slice A10 ((S.map (·.name)).length) c11)).ownBlock = some i → False := fun i hi hs => by have := (World.ownsRow.lt hO14 i hs).1; have := (World.ownsRow.lt O7 i hi).2; omega
 have oo19 : ∀ i, ((Value.slice A10 ((S.map (·.name)).length) c11)).ownBlock = some i → (v3).ownBlock = some i → False := fun i hi hs => oo18 i hs hi
 have O15 := own_base hO14 K0.size
 clear hO14
 have hl20 : (S.map (·.name)).length = S.length := List.length_map ..
 refine ⟨_, _, rfl, rfl, ?_⟩
 replace K0 := K0.t0 K13
 replace Hb := Hb.keep K13 (fun h => h)
 replace Hm := Hm.keep K13 (fun h => h)
 replace O7 := own_keep0 O7 K13
 clear K13
 refine og 2 [(0, (ptr b)), (2, (Value.slice none 0 0)), (3, v3), (17, (Value.slice A10 ((S.map (·.name)).length) c11)), (18, (i64 (((S.map (·.name)).length : Nat) : Int))), (19, (i64 0))] 4 ?_
 refine od ?_
 refine q_block (id := 0) (by kernel_rfl) ?_
 refine q_keep (R := [(0, (ptr b)), (2, (Value.slice none 0 0)), (3, v3), (17, (Value.slice A10 ((S.map (·.name)).length) c11)), (18, (i64 (((S.map (·.name)).length : Nat) : Int))), (19, (i64 0))]) (by kernel_rfl) ?_
 refine q_loop (fun (gs : Value × Nat × (List UInt8)) L (wx : World) => match gs with | (v, i, ys) => L = [(0, (ptr b)), (2, (Value.slice none 0 0)), (3, v), (17, (Value.slice A10 ((S.map (·.name)).length) c11)), (18, (i64 (((S.map (·.name)).length : Nat) : Int))), (19, (i64 ((i : Nat) : Int)))] ∧ OwnT wx w.heap.size 9 1 kcell (Value.slice A10 ((S.map (·.name)).length) c11) (S.map (·.name)) ∧ (∀ i, ((Value.slice A10 ((S.map (·.name)).length) c11)).ownBlock = some i → i ≠ b) ∧ (∀ i, ((Value.slice A10 ((S.map (·.name)).length) c11)).ownBlock = some i → i ≠ mb) ∧ (∀ i, (v).ownBlock = some i → ((Value.slice A10 ((S.map (·.name)).length) c11)).ownBlock = some i → False) ∧ OwnB wx w.heap.size 5 v ys ∧ (∀ i, (v).ownBlock = some i → i ≠ b) ∧ (∀ i, (v).ownBlock = some i → i ≠ mb) ∧ (∀ i, ((Value.slice A10 ((S.map (·.name)).length) c11)).ownBlock = some i → (v).ownBlock = some i → False) ∧ i ≤ S.length ∧ ys = uv S.length ++ (S.take i).flatMap accB ∧ ys.length ≤ 10 + i * 65600 ∧ Keeps none_ w wx ∧ Has wx b (rowL [(Value.map (some mb))] 66) ∧ HasMap wx mb kstr accv m) (fun (gs : Value × Nat × (List UInt8)) => match gs with | (v, i, ys) => S.length - i) (v3, 0, [] ++ uv m.length) (by kernel_rfl) ⟨rfl, O15, ob16, ob17, oo18, O7, ob8, ob9, oo19, Nat.zero_le _, (by simp [hlen]), (by first | omega | (simp only [List.nil_append]; have := uv_length_10 (n := S.length) (by omega); omega) | (have := uv_length_10 (n := S.length) (by omega); omega)), K0, Hb, Hm⟩ ?_
 clear Hb Hm O7 O15 K0
 rintro ⟨v, i, ys⟩ _ w21 ⟨rfl, hON, obNb, obNmb, ooNV, hOV, obVb, obVmb, ooVN, hi, hE, hyL, K22, H23, H24⟩
 have hyl : ys.length ≤ 10 + i * 65600 := hyL
 refine qs ?_
 refine qg ?_
 refine og 1 [(0, (ptr b)), (2, (Value.slice none 0 0)), (3, v), (17, (Value.slice A10 ((S.map (·.name)).length) c11)), (18, (i64 (((S.map (·.name)).length : Nat) : Int))), (19, (i64 ((i : Nat) : Int))), (20, (Value.bool (decide (((i : Nat) : Int) < (((S.map (·.name)).length : Nat) : Int)))))] 1 ?_
 refine od ?_
 refine qs ?_
 refine q_cond (o := .tmp 20) (b := (decide (((i : Nat) : Int) < (((S.map (·.name)).length : Nat) : Int)))) (by kernel_rfl) rfl (fun h25 => ?_) (fun h25 => ?_)
 ·rw [h25]
  have p26 : ((i : Nat) : Int) < (((S.map (·.name)).length : Nat) : Int) := of_decide_eq_true h25
  obtain ⟨a, ha⟩ : ∃ y, S[i]? = some y := ⟨_, List.getElem?_eq_getElem (by omega)⟩
  have hga := hB.accs.get_of (List.mem_of_getElem? ha)
  have hgm : getM m a.name = some (a.amt, a.own) := by rw [hB.get, hga]; rfl
  have hao := hB.accs.ok a (List.mem_of_getElem? ha)
  have hal := hao.len
  have hol := hao.own
  have ha1 := hao.lo
  have ha2 := hao.hi
  have hna := name_at ha
  have hbt := accB_take ha
  have hin := iv_length_10 (n := a.amt) (by omega)
  have htn := tv_le3 (s := a.name) (by omega)
  have hto := tv_le3 (s := a.own) (by omega)
  obtain ⟨rb27, ro28, hA29⟩ := Rd.addr (OwnT.rd hON) (by omega)
  refine q_skip (by kernel_rfl) ?_
  refine qs ?_
  refine q_block (id := 1) (by kernel_rfl) ?_
  refine qs ?_
  refine qg ?_
  refine Ops.go (by kernel_rfl) (Runs.ixSliceE (k := IntKind.i64) (t := 67) (len := ((S.map (·.name)).length)) (cap := c11) (s := 1) (off' := ro28 + i) (i := ((i : Nat) : Int)) hA29 (by kernel_rfl) (by kernel_rfl) (by omega) (by omega) (by omega)) (d := (some 21)) (by kernel_rfl) rfl ?_
  refine Ops.go (v := (Value.string (str a.name))) (by kernel_rfl) (Runs.load (t := 9) (a := ⟨rb27, ro28 + i, none⟩) (by kernel_rfl) (RdT.ld1 (f := kcell) (x := a.name) kcell_len (OwnT.rd hON) (by kernel_rfl) hA29 hna rfl)) (d := (some 22)) (by kernel_rfl) rfl ?_
  refine og 1 [(0, (ptr b)), (2, (Value.slice none 0 0)), (3, v), (5, (Value.string (str a.name))), (17, (Value.slice A10 ((S.map (·.name)).length) c11)), (18, (i64 (((S.map (·.name)).length : Nat) : Int))), (19, (i64 ((i : Nat) : Int))), (20, (Value.bool true))] 3 ?_
  refine od ?_
  refine qs ?_
  refine qg ?_
  refine og 3 [(0, (ptr b)), (2, (Value.slice none 0 0)), (3, v), (5, (Value.string (str a.name))), (17, (Value.slice A10 ((S.map (·.name)).length) c11)), (18, (i64 (((S.map (·.name)).length : Nat) : Int))), (19, (i64 ((i : Nat) : Int))), (20, (Value.bool true)), (25, (ptr b))] 3 ?_
  refine Ops.go (v := (Value.map (some mb))) (by kernel_rfl) (Runs.load (t := 64) (a := ⟨b, 0, none⟩) (by kernel_rfl) (H23.loads (by kernel_rfl))) (d := (some 26)) (by kernel_rfl) rfl ?_
  refine og 1 [(0, (ptr b)), (2, (Value.slice none 0 0)), (3, v), (5, (Value.string (str a.name))), (17, (Value.slice A10 ((S.map (·.name)).length) c11)), (18, (i64 (((S.map (·.name)).length : Nat) : Int))), (19, (i64 ((i : Nat) : Int))), (20, (Value.bool true)), (26, (Value.map (some mb))), (27, (Value.string (str a.name)))] 5 ?_
  refine Ops.go (v := (agg [(i64 a.amt), (Value.string (str a.own))])) (by kernel_rfl) (Runs.lookup_some (ok := false) (vf := accv) (a := (a.amt, a.own)) KT Tryz.underlying64 H24 hgm (by kernel_rfl)) (d := (some 28)) (by kernel_rfl) rfl ?_
  refine Ops.new (o := rowL [(i64 0), (Value.string ByteArray.empty)] 70) (V := fun b => (ptr b)) (by kernel_rfl) (d := (some 6)) (by kernel_rfl) (fun b => rfl) (fun b30 w31 hb32 H33 K34 hs35 => ?_)
  have lb30b : b < b30 := by have := H23.lt; omega
  have lb30mb : mb < b30 := by have := H24.lt; omega
  have nb30 : w.heap.size ≤ b30 := by have := K22.size; omega
  have ob36 : ∀ i, ((Value.slice A10 ((S.map (·.name)).length) c11)).ownBlock = some i → i < b30 := fun i hi => by have := (World.ownsRow.lt hON i hi).2; omega
  have ob37 : ∀ i, (v).ownBlock = some i → i < b30 := fun i hi => by have := (World.ownsRow.lt hOV i hi).2; omega
  replace K22 := K22.trans K34 (U := none_) (fun i h1 h2 => h2) (fun i h1 h2 => by exact h2)
  replace H23 := H23.keep K34 (fun h => h)
  replace H24 := H24.keep K34 (fun h => h)
  replace hON := own_keep0 hON K34
  replace hOV := own_keep0 hOV K34
  clear K34 hs35
  refine Ops.put (t := 70) (b := b30) (off := 0) (v := (agg [(i64 a.amt), (Value.string (str a.own))])) (ys := [(i64 a.amt), (Value.string (str a.own))]) (by kernel_rfl) (by kernel_rfl) H33 (by kernel_rfl) (d := none) (by kernel_rfl) rfl (fun w38 H39 K40 => ?_)
  clear H33
  replace K22 := K22.trans K40 (U := none_) (fun i h1 h2 => h2) (fun i h1 h2 => by have h2 : i = b30 := h2; exfalso; omega)
  replace H23 := H23.keep K40 (by intro h; change b = b30 at h; omega)
  replace H24 := H24.keep K40 (by intro h; change mb = b30 at h; omega)
  replace hON := own_keep hON K40 (fun i hi hs => by have hs : i = b30 := hs; have := ob36 i hi; omega)
  replace hOV := own_keep hOV K40 (fun i hi hs => by have hs : i = b30 := hs; have := ob37 i hi; omega)
  clear K40
  refine od ?_
  refine q_draw (fun wz => Keeps none_ w38 wz) 10 (by kernel_rfl) (by kernel_rfl) (by kernel_rfl) (fun w41 K42 _ _ => ⟨K42, ?_⟩)
  replace K22 := K22.trans K42 (U := none_) (fun i h1 h2 => h2) (fun i h1 h2 => by exact h2)
  replace H23 := H23.keep K42 (fun h => h)
  replace H24 := H24.keep K42 (fun h => h)
  replace H39 := H39.keep K42 (fun h => h)
  replace hON := own_keep0 hON K42
  replace hOV := own_keep0 hOV K42
  refine Dr.strong (S' := (fun wz => Keeps none_ w41 wz)) (Keeps.refl w41) (fun wz hx => K42.trans hx (fun i _ h => h) (fun _ _ h => h)) ?_
  clear K42
  refine Dr.takes (fuel' := 7) (is' := [3, 1, 0]) [0, 1, 3] [(0, (ptr b)), (2, (Value.slice none 0 0)), (3, v), (5, (Value.string (str a.name))), (6, (ptr b30)), (17, (Value.slice A10 ((S.map (·.name)).length) c11)), (18, (i64 (((S.map (·.name)).length : Nat) : Int))), (19, (i64 ((i : Nat) : Int))), (20, (Value.bool true)), (29, v), (30, (Value.string (str a.name))), (32, (ptr b30))] (by kernel_rfl) rfl (by kernel_rfl) ?_
  refine Dr.take (i := 4) (v := (i64 a.amt)) (by kernel_rfl) (by kernel_rfl) (fun wz hS => Runs.load (t := 2) (a := ⟨b30, 0, none⟩) (by kernel_rfl) ((H39.keep hS (fun h => h)).loads (by kernel_rfl))) (d := (some 33)) (by kernel_rfl) rfl ?_
  refine Dr.takes (fuel' := 5) (is' := [6, 4, 3, 1, 0]) [6] [(0, (ptr b)), (2, (Value.slice none 0 0)), (3, v), (5, (Value.string (str a.name))), (6, (ptr b30)), (17, (Value.slice A10 ((S.map (·.name)).length) c11)), (18, (i64 (((S.map (·.name)).length : Nat) : Int))), (19, (i64 ((i : Nat) : Int))), (20, (Value.bool true)), (29, v), (30, (Value.string (str a.name))), (33, (i64 a.amt)), (35, (Value.pointer (some ⟨b30, 1, none⟩)))] (by kernel_rfl) rfl (by kernel_rfl) ?_
  refine Dr.take (i := 7) (v := (Value.string (str a.own))) (by kernel_rfl) (by kernel_rfl) (fun wz hS => Runs.load (t := 9) (a := ⟨b30, 1, none⟩) (by kernel_rfl) ((H39.keep hS (fun h => h)).loads (by kernel_rfl))) (d := (some 36)) (by kernel_rfl) rfl ?_
  refine Dr.call (i := 2) (by kernel_rfl) (by kernel_rfl) (d := (some 31)) (by kernel_rfl) (fun _ => Text_calls _ v ys a.name (OwnB.rd hOV) (by first | omega | decide) (by (try simp only at *); (try simp only [List.length_append] at *); (try simp only [List.length_cons] at *); (try simp only [List.length_nil] at *); omega)) ?_
  rintro _ w44 ⟨v43, rfl, K45, hO46⟩
  have ob48 : ∀ i, (v43).ownBlock = some i → i ≠ b := fun i hi => by have := (World.ownsRow.lt hO46 i hi).1; have := H23.lt; omega
  have ob49 : ∀ i, (v43).ownBlock = some i → i ≠ mb := fun i hi => by have := (World.ownsRow.lt hO46 i hi).1; have := H24.lt; omega
  have ob50 : ∀ i, (v43).ownBlock = some i → i ≠ b30 := fun i hi => by have := (World.ownsRow.lt hO46 i hi).1; have := H39.lt; omega
  have oo51 : ∀ i, ((Value.slice A10 ((S.map (·.name)).length) c11)).ownBlock = some i → (v43).ownBlock = some i → False := fun i hi hs => by have := (World.ownsRow.lt hO46 i hs).1; have := (World.ownsRow.lt hON i hi).2; omega
  have oo52 : ∀ i, (v43).ownBlock = some i → ((Value.slice A10 ((S.map (·.name)).length) c11)).ownBlock = some i → False := fun i hi hs => oo51 i hs hi
  have oo53 : ∀ i, (v).ownBlock = some i → (v43).ownBlock = some i → False := fun i hi hs => by have := (World.ownsRow.lt hO46 i hs).1; have := (World.ownsRow.lt hOV i hi).2; omega
  have oo54 : ∀ i, (v43).ownBlock = some i → (v).ownBlock = some i → False := fun i hi hs => oo53 i hs hi
  have O47 := own_base hO46 K22.size
  clear hO46
  replace K22 := K22.trans K45 (U := none_) (fun i h1 h2 => h2) (fun i h1 h2 => by exact h2)
  replace H23 := H23.keep K45 (fun h => h)
  replace H24 := H24.keep K45 (fun h => h)
  replace H39 := H39.keep K45 (fun h => h)
  replace hON := own_keep0 hON K45
  replace hOV := own_keep0 hOV K45
  refine ⟨_, _, rfl, rfl, K45, ?_⟩
  refine Dr.strong (S' := (fun wz => Keeps none_ w44 wz)) (Keeps.refl w44) (fun wz hx => K45.trans hx (fun i _ h => h) (fun _ _ h => h)) ?_
  clear K45
  refine Dr.call (i := 5) (by kernel_rfl) (by kernel_rfl) (d := (some 34)) (by kernel_rfl) (fun _ => Int_calls _ v43 (ys ++ tv a.name) a.amt (OwnB.rd O47) (by omega) (by (try simp only at *); (try simp only [List.length_append] at *); (try simp only [List.length_cons] at *); (try simp only [List.length_nil] at *); omega)) ?_
  rintro _ w57 ⟨v56, rfl, K58, hO59⟩
  have ob61 : ∀ i, (v56).ownBlock = some i → i ≠ b := fun i hi => by have := (World.ownsRow.lt hO59 i hi).1; have := H23.lt; omega
  have ob62 : ∀ i, (v56).ownBlock = some i → i ≠ mb := fun i hi => by have := (World.ownsRow.lt hO59 i hi).1; have := H24.lt; omega
  have ob63 : ∀ i, (v56).ownBlock = some i → i ≠ b30 := fun i hi => by have := (World.ownsRow.lt hO59 i hi).1; have := H39.lt; omega
  have oo64 : ∀ i, ((Value.slice A10 ((S.map (·.name)).length) c11)).ownBlock = some i → (v56).ownBlock = some i → False := fun i hi hs => by have := (World.ownsRow.lt hO59 i hs).1; have := (World.ownsRow.lt hON i hi).2; omega
  have oo65 : ∀ i, (v56).ownBlock = some i → ((Value.slice A10 ((S.map (·.name)).length) c11)).ownBlock = some i → False := fun i hi hs => oo64 i hs hi
  have oo66 : ∀ i, (v).ownBlock = some i → (v56).ownBlock = some i → False := fun i hi hs => by have := (World.ownsRow.lt hO59 i hs).1; have := (World.ownsRow.lt hOV i hi).2; omega
  have oo67 : ∀ i, (v56).ownBlock = some i → (v).ownBlock = some i → False := fun i hi hs => oo66 i hs hi
  have oo68 : ∀ i, (v43).ownBlock = some i → (v56).ownBlock = some i → False := fun i hi hs => by have := (World.ownsRow.lt hO59 i hs).1; have := (World.ownsRow.lt O47 i hi).2; omega
  have oo69 : ∀ i, (v56).ownBlock = some i → (v43).ownBlock = some i → False := fun i hi hs => oo68 i hs hi
  have O60 := own_base hO59 K22.size
  clear hO59
  have hL55 := iv_length_10 (n := a.amt) (by omega)
  replace K22 := K22.trans K58 (U := none_) (fun i h1 h2 => h2) (fun i h1 h2 => by exact h2)
  replace H23 := H23.keep K58 (fun h => h)
  replace H24 := H24.keep K58 (fun h => h)
  replace H39 := H39.keep K58 (fun h => h)
  replace hON := own_keep0 hON K58
  replace hOV := own_keep0 hOV K58
  replace O47 := own_keep0 O47 K58
  refine ⟨_, _, rfl, rfl, K58, ?_⟩
  refine Dr.strong (S' := (fun wz => Keeps none_ w57 wz)) (Keeps.refl w57) (fun wz hx => K58.trans hx (fun i _ h => h) (fun _ _ h => h)) ?_
  clear K58
  refine Dr.call (i := 8) (by kernel_rfl) (by kernel_rfl) (d := (some 37)) (by kernel_rfl) (fun _ => Text_calls _ v56 (ys ++ tv a.name ++ iv a.amt) a.own (OwnB.rd O60) (by first | omega | decide) (by (try simp only at *); (try simp only [List.length_append] at *); (try simp only [List.length_cons] at *); (try simp only [List.length_nil] at *); omega)) ?_
  rintro _ w71 ⟨v70, rfl, K72, hO73⟩
  have ob75 : ∀ i, (v70).ownBlock = some i → i ≠ b := fun i hi => by have := (World.ownsRow.lt hO73 i hi).1; have := H23.lt; omega
  have ob76 : ∀ i, (v70).ownBlock = some i → i ≠ mb := fun i hi => by have := (World.ownsRow.lt hO73 i hi).1; have := H24.lt; omega
  have ob77 : ∀ i, (v70).ownBlock = some i → i ≠ b30 := fun i hi => by have := (World.ownsRow.lt hO73 i hi).1; have := H39.lt; omega
  have oo78 : ∀ i, ((Value.slice A10 ((S.map (·.name)).length) c11)).ownBlock = some i → (v70).ownBlock = some i → False := fun i hi hs => by have := (World.ownsRow.lt hO73 i hs).1; have := (World.ownsRow.lt hON i hi).2; omega
  have oo79 : ∀ i, (v70).ownBlock = some i → ((Value.slice A10 ((S.map (·.name)).length) c11)).ownBlock = some i → False := fun i hi hs => oo78 i hs hi
  have oo80 : ∀ i, (v).ownBlock = some i → (v70).ownBlock = some i → False := fun i hi hs => by have := (World.ownsRow.lt hO73 i hs).1; have := (World.ownsRow.lt hOV i hi).2; omega
  have oo81 : ∀ i, (v70).ownBlock = some i → (v).ownBlock = some i → False := fun i hi hs => oo80 i hs hi
  have oo82 : ∀ i, (v43).ownBlock = some i → (v70).ownBlock = some i → False := fun i hi hs => by have := (World.ownsRow.lt hO73 i hs).1; have := (World.ownsRow.lt O47 i hi).2; omega
  have oo83 : ∀ i, (v70).ownBlock = some i → (v43).ownBlock = some i → False := fun i hi hs => oo82 i hs hi
  have oo84 : ∀ i, (v56).ownBlock = some i → (v70).ownBlock = some i → False := fun i hi hs => by have := (World.ownsRow.lt hO73 i hs).1; have := (World.ownsRow.lt O60 i hi).2; omega
  have oo85 : ∀ i, (v70).ownBlock = some i → (v56).ownBlock = some i → False := fun i hi hs => oo84 i hs hi
  have O74 := own_base hO73 K22.size
  clear hO73
  replace K22 := K22.trans K72 (U := none_) (fun i h1 h2 => h2) (fun i h1 h2 => by exact h2)
  replace H23 := H23.keep K72 (fun h => h)
  replace H24 := H24.keep K72 (fun h => h)
  replace H39 := H39.keep K72 (fun h => h)
  replace hON := own_keep0 hON K72
  replace hOV := own_keep0 hOV K72
  replace O47 := own_keep0 O47 K72
  replace O60 := own_keep0 O60 K72
  refine ⟨_, _, rfl, rfl, K72, ?_⟩
  refine Dr.strong (S' := (fun wz => Keeps none_ w71 wz)) (Keeps.refl w71) (fun wz hx => K72.trans hx (fun i _ h => h) (fun _ _ h => h)) ?_
  clear K72
  refine Dr.takes (fuel' := 0) (is' := [9, 8, 5, 2, 7, 6, 4, 3, 1, 0]) [9] [(0, (ptr b)), (2, (Value.slice none 0 0)), (3, v70), (5, (Value.string (str a.name))), (6, (ptr b30)), (17, (Value.slice A10 ((S.map (·.name)).length) c11)), (18, (i64 (((S.map (·.name)).length : Nat) : Int))), (19, (i64 ((i : Nat) : Int))), (20, (Value.bool true))] (by kernel_rfl) rfl (by kernel_rfl) ?_
  refine Dr.done (by kernel_rfl) ?_
  refine qg ?_
  refine og 1 [(0, (ptr b)), (2, (Value.slice none 0 0)), (3, v70), (5, (Value.string (str a.name))), (6, (ptr b30)), (17, (Value.slice A10 ((S.map (·.name)).length) c11)), (18, (i64 (((S.map (·.name)).length : Nat) : Int))), (19, (i64 ((i : Nat) : Int))), (20, (Value.bool true)), (38, (i64 (IntKind.i64.wrap (((i : Nat) : Int) + 1))))] 1 ?_
  have e86 : IntKind.i64.wrap (((i : Nat) : Int) + 1) = ((i + 1 : Nat) : Int) := by rw [wrap_i64 (by omega) (by omega)]; omega
  rw [e86]
  clear e86
  refine og 1 [(0, (ptr b)), (2, (Value.slice none 0 0)), (3, v70), (5, (Value.string (str a.name))), (6, (ptr b30)), (17, (Value.slice A10 ((S.map (·.name)).length) c11)), (18, (i64 (((S.map (·.name)).length : Nat) : Int))), (19, (i64 ((i + 1 : Nat) : Int))), (20, (Value.bool true))] 2 ?_
  refine Ops.keep (R := [(0, (ptr b)), (2, (Value.slice none 0 0)), (3, v70), (17, (Value.slice A10 ((S.map (·.name)).length) c11)), (18, (i64 (((S.map (·.name)).length : Nat) : Int))), (19, (i64 ((i + 1 : Nat) : Int)))]) (by kernel_rfl) ?_
  refine od ?_
  exact ⟨(v70, i + 1, ys ++ tv a.name ++ iv a.amt ++ tv a.own), ⟨rfl, hON, obNb, obNmb, oo79, O74, ob75, ob76, oo78, (by omega), (by rw [hbt, hE]; unfold accB; simp), (by simp only [List.length_append]; omega), K22, H23, H24⟩, (show S.length - (i + 1) < S.length - i from by omega)⟩
 ·rw [h25]
  have p87 : ¬ (((i : Nat) : Int) < (((S.map (·.name)).length : Nat) : Int)) := of_decide_eq_false h25
  refine q_exit (id := 0) (by kernel_rfl) ?_
  refine qs ?_
  refine qg ?_
  refine og 2 [(2, v)] 2 ?_
  refine od ?_
  refine q_ret (by kernel_rfl) ?_
  refine ⟨v, retv_tmp rfl rfl, ?_⟩
  have e : ys = bookB S := by rw [hE, List.take_of_length_le (by omega)]; rfl
  rw [e] at hOV
  exact ⟨_, rfl, K22, hOV⟩
end Go.Proofs.YtooginpgclcldaaGreatDoor
