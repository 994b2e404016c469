/- What the claim stands on, part 13: rules of the walk, contracts of the functions, plain laws. -/
import Derived.Test.YtnfeemhpoaflfaaGreatDoorProg
import Derived.Test.YtnfeemhpoaflfaaGreatDoorKPlaces7
import Derived.Test.YtnfeemhpoaflfaaGreatDoorKPlaces10
import Derived.Test.YtnfeemhpoaflfaaGreatDoorKPlaces12
import Derived.Test.YtnfeemhpoaflfaaGreatDoorKPlaces6
set_option linter.unusedVariables false
namespace Go.Proofs.YtnfeemhpoaflfaaGreatDoor
open Go.Q Go.RowKit

set_option maxHeartbeats 4000000 in
theorem Places_calls (w : World) (OAa : Option Addr) (oca : Nat) (la : List Opm) (p q : Opm) (tb : Nat) (hLa : RdT w 7 Opm.cells (.slice OAa la.length oca) la) (hLoa : ∀ x ∈ la, x.Ok) (hpo : p.Ok) (hqo : q.Ok) (HT : Tab Tryz.prog w tb) : Calls Tryz.prog 5 ⟨[(Value.slice OAa la.length oca), (agg [(i64 p.kind), (Value.string (str p.frm)), (Value.string (str p.to)), (i64 p.amount), (Value.string (str p.key)), (i64 p.slot), (i64 p.shard)]), (agg [(i64 q.kind), (Value.string (str q.frm)), (Value.string (str q.to)), (i64 q.amount), (Value.string (str q.key)), (i64 q.slot), (i64 q.shard)])]⟩ w (fun e w' => e = .returned (.bool true) ∧ Keeps none_ w w') := by
 have hcapa := RdT.len Opm.seven (by decide) hLa
 have hp1 := hpo.amount
 have hq1 := hqo.amount
 have HTl := HT.lt
 have K0 : Keeps none_ w w := Keeps.refl w
 refine q_calls Tryz.func5 (by kernel_rfl) (by kernel_rfl) ?_
 refine qs ?_
 refine qg ?_
 refine Ops.new (o := rowL [(i64 p.kind), (Value.string (str p.frm)), (Value.string (str p.to)), (i64 p.amount), (Value.string (str p.key)), (i64 p.slot), (i64 p.shard)] 24) (V := fun b => (ptr b)) (by kernel_rfl) (d := (some 4)) (by kernel_rfl) (fun b => rfl) (fun b1 w2 hb3 H4 K5 hs6 => ?_)
 have lb1tb : tb < b1 := by have := HT.lt; omega
 have nb1 : w.heap.size ≤ b1 := by have := K0.size; omega
 replace K0 := K0.t0 K5
 replace HT := HT.keep K5 (fun h => h)
 clear K5 hs6
 refine Ops.new (o := rowL [(i64 q.kind), (Value.string (str q.frm)), (Value.string (str q.to)), (i64 q.amount), (Value.string (str q.key)), (i64 q.slot), (i64 q.shard)] 24) (V := fun b => (ptr b)) (by kernel_rfl) (d := (some 5)) (by kernel_rfl) (fun b => rfl) (fun b7 w8 hb9 H10 K11 hs12 => ?_)
 have lb7tb : tb < b7 := by have := HT.lt; omega
 have lb7b1 : b1 < b7 := by have := H4.lt; omega
 have nb7 : w.heap.size ≤ b7 := by have := K0.size; omega
 replace K0 := K0.t0 K11
 replace HT := HT.keep K11 (fun h => h)
 replace H4 := H4.keep K11 (fun h => h)
 clear K11 hs12
 refine og 1 [(0, (Value.slice OAa la.length oca)), (4, (ptr b1)), (5, (ptr b7)), (6, (Value.bool false))] 3 ?_
 refine od ?_
 refine qs ?_
 refine qg ?_
 refine Ops.call (by kernel_rfl) (d := (some 14)) (by kernel_rfl) (New_calls _) ?_
 rintro _ w16 ⟨b13, mb14, kb15, rfl, K17, H18, Hm19, Hk20, hb21, hb22, hb23, hb24, hb25, hb26⟩
 have lb13tb : tb < b13 := by have := HT.lt; omega
 have lmb14tb : tb < mb14 := by have := HT.lt; omega
 have lkb15tb : tb < kb15 := by have := HT.lt; omega
 have lb13b1 : b1 < b13 := by have := H4.lt; omega
 have lmb14b1 : b1 < mb14 := by have := H4.lt; omega
 have lkb15b1 : b1 < kb15 := by have := H4.lt; omega
 have lb13b7 : b7 < b13 := by have := H10.lt; omega
 have lmb14b7 : b7 < mb14 := by have := H10.lt; omega
 have lkb15b7 : b7 < kb15 := by have := H10.lt; omega
 have nb13 : w.heap.size ≤ b13 := by have := K0.size; omega
 have nmb14 : w.heap.size ≤ mb14 := by have := K0.size; omega
 have nkb15 : w.heap.size ≤ kb15 := by have := K0.size; omega
 refine ⟨_, _, rfl, rfl, ?_⟩
 replace K0 := K0.t0 K17
 replace HT := HT.keep K17 (fun h => h)
 replace H4 := H4.keep K17 (fun h => h)
 replace H10 := H10.keep K17 (fun h => h)
 clear K17
 refine og 1 [(0, (Value.slice OAa la.length oca)), (4, (ptr b1)), (5, (ptr b7)), (6, (Value.bool false)), (7, (ptr b13))] 2 ?_
 refine od ?_
 refine qs ?_
 refine qs ?_
 refine qg ?_
 refine og 2 [(0, (Value.slice OAa la.length oca)), (4, (ptr b1)), (5, (ptr b7)), (6, (Value.bool false)), (7, (ptr b13)), (16, (Value.bool false))] 2 ?_
 refine od ?_
 refine q_else (o := .tmp 16) (by kernel_rfl) rfl ?_
 refine q_skip (by kernel_rfl) ?_
 refine qs ?_
 refine qs ?_
 refine qg ?_
 refine og 1 [(0, (Value.slice OAa la.length oca)), (4, (ptr b1)), (5, (ptr b7)), (6, (Value.bool false)), (7, (ptr b13)), (8, (i64 0))] 1 ?_
 refine od ?_
 refine q_block (id := 0) (by kernel_rfl) ?_
 refine q_keep (R := [(0, (Value.slice OAa la.length oca)), (4, (ptr b1)), (5, (ptr b7)), (6, (Value.bool false)), (7, (ptr b13)), (8, (i64 0))]) (by kernel_rfl) ?_
 refine q_loop (fun (gs : Nat × (List (List UInt8 × Int)) × (List RowM) × (List KeptM)) L (wx : World) => match gs with | (ia, mma, SSa, KKa) => L = [(0, (Value.slice OAa la.length oca)), (4, (ptr b1)), (5, (ptr b7)), (6, (Value.bool false)), (7, (ptr b13)), (8, (i64 ((ia : Nat) : Int)))] ∧ ia ≤ 50 ∧ LBook mma SSa KKa ∧ KKa.length ≤ ia + 0 ∧ Keeps none_ w wx ∧ Tab Tryz.prog wx tb ∧ Has wx b1 (rowL [(i64 p.kind), (Value.string (str p.frm)), (Value.string (str p.to)), (i64 p.amount), (Value.string (str p.key)), (i64 p.slot), (i64 p.shard)] 24) ∧ Has wx b7 (rowL [(i64 q.kind), (Value.string (str q.frm)), (Value.string (str q.to)), (i64 q.amount), (Value.string (str q.key)), (i64 q.slot), (i64 q.shard)] 24) ∧ Has wx b13 (rowL [(Value.map (some mb14)), (Value.map (some kb15))] 54) ∧ HasMap wx mb14 kstr ki64 mma ∧ HasMap wx kb15 kpair keptv (KKa.map KeptM.kv)) (fun (gs : Nat × (List (List UInt8 × Int)) × (List RowM) × (List KeptM)) => match gs with | (ia, mma, SSa, KKa) => 50 - ia) (0, [], ([] : List RowM), ([] : List KeptM)) (by kernel_rfl) ⟨rfl, Nat.zero_le _, LBook.nil, (by first | omega | (simp; done) | (show 0 ≤ _; omega)), K0, HT, H4, H10, H18, Hm19, Hk20⟩ ?_
 clear HT H4 H10 H18 Hm19 Hk20 K0
 rintro ⟨ia, mma, SSa, KKa⟩ _ w27 ⟨rfl, hia, hBma, hkla, K28, H29, H30, H31, H32, H33, H34⟩
 have hlea := hBma.ledg.le
 refine qs ?_
 refine qs ?_
 refine qg ?_
 refine og 5 [(0, (Value.slice OAa la.length oca)), (4, (ptr b1)), (5, (ptr b7)), (6, (Value.bool false)), (7, (ptr b13)), (8, (i64 ((ia : Nat) : Int))), (21, (Value.bool (decide (((ia : Nat) : Int) < ((la.length : Nat) : Int)))))] 5 ?_
 refine Ops.split (decide (((ia : Nat) : Int) < ((la.length : Nat) : Int))) (fun h35 => ?_) (fun h35 => ?_)
 ·rw [h35]
  have p36 : ((ia : Nat) : Int) < ((la.length : Nat) : Int) := of_decide_eq_true h35
  obtain ⟨xa, hxa⟩ : ∃ y, la[ia]? = some y := ⟨_, List.getElem?_eq_getElem (by omega)⟩
  have hxao := hLoa xa (List.mem_of_getElem? hxa)
  have hxa1 := hxao.amount
  obtain ⟨rb37, ro38, hA39⟩ := Rd.addr (Rd.keep0 (by decide) hLa K28) (by omega)
  refine og 3 [(0, (Value.slice OAa la.length oca)), (4, (ptr b1)), (5, (ptr b7)), (6, (Value.bool false)), (7, (ptr b13)), (8, (i64 ((ia : Nat) : Int))), (24, (Value.bool (decide (((ia : Nat) : Int) < 50))))] 8 ?_
  refine od ?_
  refine q_cond (o := .tmp 24) (b := (decide (((ia : Nat) : Int) < 50))) (by kernel_rfl) rfl (fun h40 => ?_) (fun h40 => ?_)
  ·rw [h40]
   have p41 : ((ia : Nat) : Int) < 50 := of_decide_eq_true h40
   refine q_skip (by kernel_rfl) ?_
   refine qs ?_
   refine q_block (id := 1) (by kernel_rfl) ?_
   refine qg ?_
   refine og 3 [(0, (Value.slice OAa la.length oca)), (4, (ptr b1)), (5, (ptr b7)), (6, (Value.bool false)), (7, (ptr b13)), (8, (i64 ((ia : Nat) : Int))), (24, (Value.bool true)), (27, (ptr b13)), (28, (Value.slice OAa la.length oca)), (29, (i64 ((ia : Nat) : Int)))] 3 ?_
   refine Ops.go (by kernel_rfl) (Runs.ixSliceE (k := IntKind.i64) (t := 22) (len := la.length) (cap := oca) (s := 7) (off' := ro38 + ia * 7) (i := ((ia : Nat) : Int)) hA39 (by kernel_rfl) (by kernel_rfl) (by omega) (by omega) (by omega)) (d := (some 30)) (by kernel_rfl) rfl ?_
   refine Ops.go (v := (agg [(i64 xa.kind), (Value.string (str xa.frm)), (Value.string (str xa.to)), (i64 xa.amount), (Value.string (str xa.key)), (i64 xa.slot), (i64 xa.shard)])) (by kernel_rfl) (Runs.load (t := 24) (a := ⟨rb37, ro38 + ia * 7, none⟩) (by kernel_rfl) (RdT.ld (f := Opm.cells) (x := xa) Opm.seven (Rd.keep0 (by decide) hLa K28) (by kernel_rfl) (by kernel_rfl) hA39 hxa)) (d := (some 31)) (by kernel_rfl) rfl ?_
   refine Ops.call (by kernel_rfl) (d := (some 32)) (by kernel_rfl) (Do_calls _ b13 mb14 kb15 mma SSa KKa xa H32 H33 H34 (by omega) hBma (by first | omega | decide) (by first | omega | decide)) ?_
   rintro _ w45 ⟨m42, A43, c44, rfl, K46, Hm47, Hk48, hB49, hO50⟩
   have ob54 : ∀ i, ((Value.slice A43 ((doR SSa KKa xa).rows.length) c44)).ownBlock = some i → i ≠ tb := fun i hi => by have := (World.ownsRow.lt hO50 i hi).1; have := H29.lt; omega
   have ob55 : ∀ i, ((Value.slice A43 ((doR SSa KKa xa).rows.length) c44)).ownBlock = some i → i ≠ b1 := fun i hi => by have := (World.ownsRow.lt hO50 i hi).1; have := H30.lt; omega
   have ob56 : ∀ i, ((Value.slice A43 ((doR SSa KKa xa).rows.length) c44)).ownBlock = some i → i ≠ b7 := fun i hi => by have := (World.ownsRow.lt hO50 i hi).1; have := H31.lt; omega
   have ob57 : ∀ i, ((Value.slice A43 ((doR SSa KKa xa).rows.length) c44)).ownBlock = some i → i ≠ b13 := fun i hi => by have := (World.ownsRow.lt hO50 i hi).1; have := H32.lt; omega
   have ob58 : ∀ i, ((Value.slice A43 ((doR SSa KKa xa).rows.length) c44)).ownBlock = some i → i ≠ mb14 := fun i hi => by have := (World.ownsRow.lt hO50 i hi).1; have := H33.lt; omega
   have ob59 : ∀ i, ((Value.slice A43 ((doR SSa KKa xa).rows.length) c44)).ownBlock = some i → i ≠ kb15 := fun i hi => by have := (World.ownsRow.lt hO50 i hi).1; have := H34.lt; omega
   have O51 := own_base hO50 K28.size
   clear hO50
   have hl52 := hB49.ledg.le
   have hl53 := doK_len SSa KKa xa
   refine ⟨_, _, rfl, rfl, ?_⟩
   replace K28 := K28.trans K46 (U := none_) (fun i h1 h2 => h2) (fun i h1 h2 => by have h2 : i = mb14 ∨ i = kb15 := h2; exfalso; omega)
   replace H29 := H29.keep K46 (by intro h; change tb = mb14 ∨ tb = kb15 at h; omega)
   replace H30 := H30.keep K46 (by intro h; change b1 = mb14 ∨ b1 = kb15 at h; omega)
   replace H31 := H31.keep K46 (by intro h; change b7 = mb14 ∨ b7 = kb15 at h; omega)
   replace H32 := H32.keep K46 (by intro h; change b13 = mb14 ∨ b13 = kb15 at h; omega)
   clear K46
   refine od ?_
   refine qg ?_
   refine og 2 [(0, (Value.slice OAa la.length oca)), (4, (ptr b1)), (5, (ptr b7)), (6, (Value.bool false)), (7, (ptr b13)), (8, (i64 ((ia : Nat) : Int))), (24, (Value.bool true)), (26, (i64 (IntKind.i64.wrap (((ia : Nat) : Int) + 1))))] 2 ?_
   have e60 : IntKind.i64.wrap (((ia : Nat) : Int) + 1) = ((ia + 1 : Nat) : Int) := by rw [wrap_i64 (by omega) (by omega)]; omega
   rw [e60]
   clear e60
   refine og 1 [(0, (Value.slice OAa la.length oca)), (4, (ptr b1)), (5, (ptr b7)), (6, (Value.bool false)), (7, (ptr b13)), (8, (i64 ((ia + 1 : Nat) : Int))), (24, (Value.bool true))] 3 ?_
   refine Ops.keep (R := [(0, (Value.slice OAa la.length oca)), (4, (ptr b1)), (5, (ptr b7)), (6, (Value.bool false)), (7, (ptr b13)), (8, (i64 ((ia + 1 : Nat) : Int)))]) (by kernel_rfl) ?_
   refine od ?_
   exact ⟨(ia + 1, m42, (doS SSa KKa xa), (doK SSa KKa xa)), ⟨rfl, (by omega), hB49, (by omega), K28, H29, H30, H31, H32, Hm47, Hk48⟩, (show 50 - (ia + 1) < 50 - ia from by omega)⟩
  ·rw [h40]
   have p61 : ¬ (((ia : Nat) : Int) < 50) := of_decide_eq_false h40
   refine q_exit (id := 0) (by kernel_rfl) ?_
   refine qs ?_
   refine qs ?_
   refine qg ?_
   refine og 1 [(4, (ptr b1)), (5, (ptr b7)), (6, (Value.bool false)), (7, (ptr b13)), (33, (ptr b1))] 1 ?_
   refine Ops.go (v := (i64 p.kind)) (by kernel_rfl) (Runs.load (t := 3) (a := ⟨b1, 0, none⟩) (by kernel_rfl) (H30.loads (by kernel_rfl))) (d := (some 34)) (by kernel_rfl) rfl ?_
   refine og 2 [(4, (ptr b1)), (5, (ptr b7)), (6, (Value.bool false)), (7, (ptr b13)), (36, (Value.bool (decide (p.kind < 1))))] 4 ?_
   refine Ops.split (decide (p.kind < 1)) (fun h62 => ?_) (fun h62 => ?_)
   ·rw [h62]
    have p63 : p.kind < 1 := of_decide_eq_true h62
    refine og 47 [(4, (ptr b1)), (5, (ptr b7)), (6, (Value.bool false)), (7, (ptr b13)), (83, (Value.bool true))] 51 ?_
    refine od ?_
    refine q_then (o := .tmp 83) (by kernel_rfl) rfl ?_
    refine qs ?_
    refine qg ?_
    refine Ops.call (by kernel_rfl) (d := (some 84)) (by kernel_rfl) (known_calls _ tb H29) ?_
    rintro _ w65 ⟨rfl, K64⟩
    refine ⟨_, _, rfl, rfl, ?_⟩
    replace K28 := K28.trans K64 (U := none_) (fun i h1 h2 => h2) (fun i h1 h2 => by exact h2)
    replace H29 := H29.keep K64 (fun h => h)
    replace H30 := H30.keep K64 (fun h => h)
    replace H31 := H31.keep K64 (fun h => h)
    replace H32 := H32.keep K64 (fun h => h)
    replace H33 := H33.keep K64 (fun h => h)
    replace H34 := H34.keep K64 (fun h => h)
    clear K64
    refine og 1 [(4, (ptr b1)), (5, (ptr b7)), (6, (Value.bool true)), (7, (ptr b13))] 2 ?_
    refine od ?_
    refine q_ret (by kernel_rfl) ?_
    refine ⟨(Value.bool true), retv_tmp rfl rfl, ?_⟩
    exact ⟨rfl, K28⟩
   ·rw [h62]
    have p66 : ¬ (p.kind < 1) := of_decide_eq_false h62
    refine og 1 [(4, (ptr b1)), (5, (ptr b7)), (6, (Value.bool false)), (7, (ptr b13)), (36, (Value.bool false)), (37, (ptr b1))] 5 ?_
    refine Ops.go (v := (i64 p.kind)) (by kernel_rfl) (Runs.load (t := 3) (a := ⟨b1, 0, none⟩) (by kernel_rfl) (H30.loads (by kernel_rfl))) (d := (some 38)) (by kernel_rfl) rfl ?_
    refine og 3 [(4, (ptr b1)), (5, (ptr b7)), (6, (Value.bool false)), (7, (ptr b13)), (41, (Value.bool (decide (p.kind > 5))))] 9 ?_
    refine Ops.split (decide (p.kind > 5)) (fun h67 => ?_) (fun h67 => ?_)
    ·rw [h67]
     have p68 : p.kind > 5 := of_decide_eq_true h67
     refine og 42 [(4, (ptr b1)), (5, (ptr b7)), (6, (Value.bool false)), (7, (ptr b13)), (83, (Value.bool true))] 51 ?_
     refine od ?_
     refine q_then (o := .tmp 83) (by kernel_rfl) rfl ?_
     refine qs ?_
     refine qg ?_
     refine Ops.call (by kernel_rfl) (d := (some 84)) (by kernel_rfl) (known_calls _ tb H29) ?_
     rintro _ w70 ⟨rfl, K69⟩
     refine ⟨_, _, rfl, rfl, ?_⟩
     replace K28 := K28.trans K69 (U := none_) (fun i h1 h2 => h2) (fun i h1 h2 => by exact h2)
     replace H29 := H29.keep K69 (fun h => h)
     replace H30 := H30.keep K69 (fun h => h)
     replace H31 := H31.keep K69 (fun h => h)
     replace H32 := H32.keep K69 (fun h => h)
     replace H33 := H33.keep K69 (fun h => h)
     replace H34 := H34.keep K69 (fun h => h)
     clear K69
     refine og 1 [(4, (ptr b1)), (5, (ptr b7)), (6, (Value.bool true)), (7, (ptr b13))] 2 ?_
     refine od ?_
     refine q_ret (by kernel_rfl) ?_
     refine ⟨(Value.bool true), retv_tmp rfl rfl, ?_⟩
     exact ⟨rfl, K28⟩
    ·rw [h67]
     have p71 : ¬ (p.kind > 5) := of_decide_eq_false h67
     refine og 1 [(4, (ptr b1)), (5, (ptr b7)), (6, (Value.bool false)), (7, (ptr b13)), (41, (Value.bool false)), (42, (ptr b7))] 10 ?_
     refine Ops.go (v := (i64 q.kind)) (by kernel_rfl) (Runs.load (t := 3) (a := ⟨b7, 0, none⟩) (by kernel_rfl) (H31.loads (by kernel_rfl))) (d := (some 43)) (by kernel_rfl) rfl ?_
     refine og 3 [(4, (ptr b1)), (5, (ptr b7)), (6, (Value.bool false)), (7, (ptr b13)), (46, (Value.bool (decide (q.kind < 1))))] 14 ?_
     refine Ops.split (decide (q.kind < 1)) (fun h72 => ?_) (fun h72 => ?_)
     ·rw [h72]
      have p73 : q.kind < 1 := of_decide_eq_true h72
      refine og 37 [(4, (ptr b1)), (5, (ptr b7)), (6, (Value.bool false)), (7, (ptr b13)), (83, (Value.bool true))] 51 ?_
      refine od ?_
      refine q_then (o := .tmp 83) (by kernel_rfl) rfl ?_
      refine qs ?_
      refine qg ?_
      refine Ops.call (by kernel_rfl) (d := (some 84)) (by kernel_rfl) (known_calls _ tb H29) ?_
      rintro _ w75 ⟨rfl, K74⟩
      refine ⟨_, _, rfl, rfl, ?_⟩
      replace K28 := K28.trans K74 (U := none_) (fun i h1 h2 => h2) (fun i h1 h2 => by exact h2)
      replace H29 := H29.keep K74 (fun h => h)
      replace H30 := H30.keep K74 (fun h => h)
      replace H31 := H31.keep K74 (fun h => h)
      replace H32 := H32.keep K74 (fun h => h)
      replace H33 := H33.keep K74 (fun h => h)
      replace H34 := H34.keep K74 (fun h => h)
      clear K74
      refine og 1 [(4, (ptr b1)), (5, (ptr b7)), (6, (Value.bool true)), (7, (ptr b13))] 2 ?_
      refine od ?_
      refine q_ret (by kernel_rfl) ?_
      refine ⟨(Value.bool true), retv_tmp rfl rfl, ?_⟩
      exact ⟨rfl, K28⟩
     ·rw [h72]
      have p76 : ¬ (q.kind < 1) := of_decide_eq_false h72
      refine og 1 [(4, (ptr b1)), (5, (ptr b7)), (6, (Value.bool false)), (7, (ptr b13)), (46, (Value.bool false)), (47, (ptr b7))] 15 ?_
      refine Ops.go (v := (i64 q.kind)) (by kernel_rfl) (Runs.load (t := 3) (a := ⟨b7, 0, none⟩) (by kernel_rfl) (H31.loads (by kernel_rfl))) (d := (some 48)) (by kernel_rfl) rfl ?_
      refine og 3 [(4, (ptr b1)), (5, (ptr b7)), (6, (Value.bool false)), (7, (ptr b13)), (51, (Value.bool (decide (q.kind > 5))))] 19 ?_
      refine Ops.split (decide (q.kind > 5)) (fun h77 => ?_) (fun h77 => ?_)
      ·rw [h77]
       have p78 : q.kind > 5 := of_decide_eq_true h77
       refine og 32 [(4, (ptr b1)), (5, (ptr b7)), (6, (Value.bool false)), (7, (ptr b13)), (83, (Value.bool true))] 51 ?_
       refine od ?_
       refine q_then (o := .tmp 83) (by kernel_rfl) rfl ?_
       refine qs ?_
       refine qg ?_
       refine Ops.call (by kernel_rfl) (d := (some 84)) (by kernel_rfl) (known_calls _ tb H29) ?_
       rintro _ w80 ⟨rfl, K79⟩
       refine ⟨_, _, rfl, rfl, ?_⟩
       replace K28 := K28.trans K79 (U := none_) (fun i h1 h2 => h2) (fun i h1 h2 => by exact h2)
       replace H29 := H29.keep K79 (fun h => h)
       replace H30 := H30.keep K79 (fun h => h)
       replace H31 := H31.keep K79 (fun h => h)
       replace H32 := H32.keep K79 (fun h => h)
       replace H33 := H33.keep K79 (fun h => h)
       replace H34 := H34.keep K79 (fun h => h)
       clear K79
       refine og 1 [(4, (ptr b1)), (5, (ptr b7)), (6, (Value.bool true)), (7, (ptr b13))] 2 ?_
       refine od ?_
       refine q_ret (by kernel_rfl) ?_
       refine ⟨(Value.bool true), retv_tmp rfl rfl, ?_⟩
       exact ⟨rfl, K28⟩
      ·rw [h77]
       have p81 : ¬ (q.kind > 5) := of_decide_eq_false h77
       refine og 1 [(4, (ptr b1)), (5, (ptr b7)), (6, (Value.bool false)), (7, (ptr b13)), (51, (Value.bool false)), (52, (Value.pointer (some ⟨b1, 1, none⟩)))] 20 ?_
       refine Ops.go (v := (Value.string (str p.frm))) (by kernel_rfl) (Runs.load (t := 9) (a := ⟨b1, 1, none⟩) (by kernel_rfl) (H30.loads (by kernel_rfl))) (d := (some 53)) (by kernel_rfl) rfl ?_
       refine og 1 [(4, (ptr b1)), (5, (ptr b7)), (6, (Value.bool false)), (7, (ptr b13)), (51, (Value.bool false)), (53, (Value.string (str p.frm))), (54, (Value.pointer (some ⟨b7, 1, none⟩)))] 22 ?_
       refine Ops.go (v := (Value.string (str q.frm))) (by kernel_rfl) (Runs.load (t := 9) (a := ⟨b7, 1, none⟩) (by kernel_rfl) (H31.loads (by kernel_rfl))) (d := (some 55)) (by kernel_rfl) rfl ?_
       refine Ops.go (v := (Value.bool (p.frm == q.frm))) (by kernel_rfl) (Runs.streq (t := 9) (by kernel_rfl)) (d := (some 56)) (by kernel_rfl) rfl ?_
       refine og 2 [(4, (ptr b1)), (5, (ptr b7)), (6, (Value.bool false)), (7, (ptr b13)), (58, (Value.bool (p.frm == q.frm)))] 26 ?_
       refine Ops.split (p.frm == q.frm) (fun h82 => ?_) (fun h82 => ?_)
       ·rw [h82]
        have p83 : (p.frm == q.frm) = true := h82
        refine og 25 [(4, (ptr b1)), (5, (ptr b7)), (6, (Value.bool false)), (7, (ptr b13)), (83, (Value.bool true))] 51 ?_
        refine od ?_
        refine q_then (o := .tmp 83) (by kernel_rfl) rfl ?_
        refine qs ?_
        refine qg ?_
        refine Ops.call (by kernel_rfl) (d := (some 84)) (by kernel_rfl) (known_calls _ tb H29) ?_
        rintro _ w85 ⟨rfl, K84⟩
        refine ⟨_, _, rfl, rfl, ?_⟩
        replace K28 := K28.trans K84 (U := none_) (fun i h1 h2 => h2) (fun i h1 h2 => by exact h2)
        replace H29 := H29.keep K84 (fun h => h)
        replace H30 := H30.keep K84 (fun h => h)
        replace H31 := H31.keep K84 (fun h => h)
        replace H32 := H32.keep K84 (fun h => h)
        replace H33 := H33.keep K84 (fun h => h)
        replace H34 := H34.keep K84 (fun h => h)
        clear K84
        refine og 1 [(4, (ptr b1)), (5, (ptr b7)), (6, (Value.bool true)), (7, (ptr b13))] 2 ?_
        refine od ?_
        refine q_ret (by kernel_rfl) ?_
        refine ⟨(Value.bool true), retv_tmp rfl rfl, ?_⟩
        exact ⟨rfl, K28⟩
       ·rw [h82]
        have p86 : (p.frm == q.frm) = false := h82
        refine og 1 [(4, (ptr b1)), (5, (ptr b7)), (6, (Value.bool false)), (7, (ptr b13)), (58, (Value.bool false)), (59, (Value.pointer (some ⟨b1, 1, none⟩)))] 27 ?_
        refine Ops.go (v := (Value.string (str p.frm))) (by kernel_rfl) (Runs.load (t := 9) (a := ⟨b1, 1, none⟩) (by kernel_rfl) (H30.loads (by kernel_rfl))) (d := (some 60)) (by kernel_rfl) rfl ?_
        refine og 1 [(4, (ptr b1)), (5, (ptr b7)), (6, (Value.bool false)), (7, (ptr b13)), (58, (Value.bool false)), (60, (Value.string (str p.frm))), (61, (Value.pointer (some ⟨b7, 2, none⟩)))] 29 ?_
        refine Ops.go (v := (Value.string (str q.to))) (by kernel_rfl) (Runs.load (t := 9) (a := ⟨b7, 2, none⟩) (by kernel_rfl) (H31.loads (by kernel_rfl))) (d := (some 62)) (by kernel_rfl) rfl ?_
        refine Ops.go (v := (Value.bool (p.frm == q.to))) (by kernel_rfl) (Runs.streq (t := 9) (by kernel_rfl)) (d := (some 63)) (by kernel_rfl) rfl ?_
        refine og 2 [(4, (ptr b1)), (5, (ptr b7)), (6, (Value.bool false)), (7, (ptr b13)), (65, (Value.bool (p.frm == q.to)))] 33 ?_
        refine Ops.split (p.frm == q.to) (fun h87 => ?_) (fun h87 => ?_)
        ·rw [h87]
         have p88 : (p.frm == q.to) = true := h87
         refine og 18 [(4, (ptr b1)), (5, (ptr b7)), (6, (Value.bool false)), (7, (ptr b13)), (83, (Value.bool true))] 51 ?_
         refine od ?_
         refine q_then (o := .tmp 83) (by kernel_rfl) rfl ?_
         refine qs ?_
         refine qg ?_
         refine Ops.call (by kernel_rfl) (d := (some 84)) (by kernel_rfl) (known_calls _ tb H29) ?_
         rintro _ w90 ⟨rfl, K89⟩
         refine ⟨_, _, rfl, rfl, ?_⟩
         replace K28 := K28.trans K89 (U := none_) (fun i h1 h2 => h2) (fun i h1 h2 => by exact h2)
         replace H29 := H29.keep K89 (fun h => h)
         replace H30 := H30.keep K89 (fun h => h)
         replace H31 := H31.keep K89 (fun h => h)
         replace H32 := H32.keep K89 (fun h => h)
         replace H33 := H33.keep K89 (fun h => h)
         replace H34 := H34.keep K89 (fun h => h)
         clear K89
         refine og 1 [(4, (ptr b1)), (5, (ptr b7)), (6, (Value.bool true)), (7, (ptr b13))] 2 ?_
         refine od ?_
         refine q_ret (by kernel_rfl) ?_
         refine ⟨(Value.bool true), retv_tmp rfl rfl, ?_⟩
         exact ⟨rfl, K28⟩
        ·rw [h87]
         have p91 : (p.frm == q.to) = false := h87
         refine og 1 [(4, (ptr b1)), (5, (ptr b7)), (6, (Value.bool false)), (7, (ptr b13)), (65, (Value.bool false)), (66, (Value.pointer (some ⟨b1, 2, none⟩)))] 34 ?_
         refine Ops.go (v := (Value.string (str p.to))) (by kernel_rfl) (Runs.load (t := 9) (a := ⟨b1, 2, none⟩) (by kernel_rfl) (H30.loads (by kernel_rfl))) (d := (some 67)) (by kernel_rfl) rfl ?_
         refine og 1 [(4, (ptr b1)), (5, (ptr b7)), (6, (Value.bool false)), (7, (ptr b13)), (65, (Value.bool false)), (67, (Value.string (str p.to))), (68, (Value.pointer (some ⟨b7, 1, none⟩)))] 36 ?_
         refine Ops.go (v := (Value.string (str q.frm))) (by kernel_rfl) (Runs.load (t := 9) (a := ⟨b7, 1, none⟩) (by kernel_rfl) (H31.loads (by kernel_rfl))) (d := (some 69)) (by kernel_rfl) rfl ?_
         refine Ops.go (v := (Value.bool (p.to == q.frm))) (by kernel_rfl) (Runs.streq (t := 9) (by kernel_rfl)) (d := (some 70)) (by kernel_rfl) rfl ?_
         refine og 2 [(4, (ptr b1)), (5, (ptr b7)), (6, (Value.bool false)), (7, (ptr b13)), (72, (Value.bool (p.to == q.frm)))] 40 ?_
         refine Ops.split (p.to == q.frm) (fun h92 => ?_) (fun h92 => ?_)
         ·rw [h92]
          have p93 : (p.to == q.frm) = true := h92
          refine og 11 [(4, (ptr b1)), (5, (ptr b7)), (6, (Value.bool false)), (7, (ptr b13)), (83, (Value.bool true))] 51 ?_
          refine od ?_
          refine q_then (o := .tmp 83) (by kernel_rfl) rfl ?_
          refine qs ?_
          refine qg ?_
          refine Ops.call (by kernel_rfl) (d := (some 84)) (by kernel_rfl) (known_calls _ tb H29) ?_
          rintro _ w95 ⟨rfl, K94⟩
          refine ⟨_, _, rfl, rfl, ?_⟩
          replace K28 := K28.trans K94 (U := none_) (fun i h1 h2 => h2) (fun i h1 h2 => by exact h2)
          replace H29 := H29.keep K94 (fun h => h)
          replace H30 := H30.keep K94 (fun h => h)
          replace H31 := H31.keep K94 (fun h => h)
          replace H32 := H32.keep K94 (fun h => h)
          replace H33 := H33.keep K94 (fun h => h)
          replace H34 := H34.keep K94 (fun h => h)
          clear K94
          refine og 1 [(4, (ptr b1)), (5, (ptr b7)), (6, (Value.bool true)), (7, (ptr b13))] 2 ?_
          refine od ?_
          refine q_ret (by kernel_rfl) ?_
          refine ⟨(Value.bool true), retv_tmp rfl rfl, ?_⟩
          exact ⟨rfl, K28⟩
         ·rw [h92]
          have p96 : (p.to == q.frm) = false := h92
          refine og 1 [(4, (ptr b1)), (5, (ptr b7)), (6, (Value.bool false)), (7, (ptr b13)), (72, (Value.bool false)), (73, (Value.pointer (some ⟨b1, 2, none⟩)))] 41 ?_
          refine Ops.go (v := (Value.string (str p.to))) (by kernel_rfl) (Runs.load (t := 9) (a := ⟨b1, 2, none⟩) (by kernel_rfl) (H30.loads (by kernel_rfl))) (d := (some 74)) (by kernel_rfl) rfl ?_
          refine og 1 [(4, (ptr b1)), (5, (ptr b7)), (6, (Value.bool false)), (7, (ptr b13)), (72, (Value.bool false)), (74, (Value.string (str p.to))), (75, (Value.pointer (some ⟨b7, 2, none⟩)))] 43 ?_
          refine Ops.go (v := (Value.string (str q.to))) (by kernel_rfl) (Runs.load (t := 9) (a := ⟨b7, 2, none⟩) (by kernel_rfl) (H31.loads (by kernel_rfl))) (d := (some 76)) (by kernel_rfl) rfl ?_
          refine Ops.go (v := (Value.bool (p.to == q.to))) (by kernel_rfl) (Runs.streq (t := 9) (by kernel_rfl)) (d := (some 77)) (by kernel_rfl) rfl ?_
          refine og 1 [(4, (ptr b1)), (5, (ptr b7)), (6, (Value.bool false)), (7, (ptr b13)), (72, (Value.bool false)), (78, (Value.bool (p.to == q.to)))] 46 ?_
          refine Ops.split (p.to == q.to) (fun h97 => ?_) (fun h97 => ?_)
          ·rw [h97]
           have p98 : (p.to == q.to) = true := h97
           refine og 1 [(4, (ptr b1)), (5, (ptr b7)), (6, (Value.bool false)), (7, (ptr b13)), (72, (Value.bool false)), (78, (Value.bool true)), (79, (Value.pointer (some ⟨b1, 2, none⟩)))] 47 ?_
           refine Ops.go (v := (Value.string (str p.to))) (by kernel_rfl) (Runs.load (t := 9) (a := ⟨b1, 2, none⟩) (by kernel_rfl) (H30.loads (by kernel_rfl))) (d := (some 80)) (by kernel_rfl) rfl ?_
           refine Ops.go (v := (Value.bool (!(p.to == ([] : List UInt8))))) (by kernel_rfl) (Runs.strne (t := 9) (by kernel_rfl)) (d := (some 81)) (by kernel_rfl) rfl ?_
           refine og 2 [(4, (ptr b1)), (5, (ptr b7)), (6, (Value.bool false)), (7, (ptr b13)), (83, (Value.bool (!(p.to == ([] : List UInt8)))))] 51 ?_
           refine od ?_
           refine q_cond (o := .tmp 83) (b := (!(p.to == ([] : List UInt8)))) (by kernel_rfl) rfl (fun h99 => ?_) (fun h99 => ?_)
           ·rw [h99]
            have p100 : (p.to == ([] : List UInt8)) = false := (bnot_true h99)
            refine qs ?_
            refine qg ?_
            refine Ops.call (by kernel_rfl) (d := (some 84)) (by kernel_rfl) (known_calls _ tb H29) ?_
            rintro _ w102 ⟨rfl, K101⟩
            refine ⟨_, _, rfl, rfl, ?_⟩
            replace K28 := K28.trans K101 (U := none_) (fun i h1 h2 => h2) (fun i h1 h2 => by exact h2)
            replace H29 := H29.keep K101 (fun h => h)
            replace H30 := H30.keep K101 (fun h => h)
            replace H31 := H31.keep K101 (fun h => h)
            replace H32 := H32.keep K101 (fun h => h)
            replace H33 := H33.keep K101 (fun h => h)
            replace H34 := H34.keep K101 (fun h => h)
            clear K101
            refine og 1 [(4, (ptr b1)), (5, (ptr b7)), (6, (Value.bool true)), (7, (ptr b13))] 2 ?_
            refine od ?_
            refine q_ret (by kernel_rfl) ?_
            refine ⟨(Value.bool true), retv_tmp rfl rfl, ?_⟩
            exact ⟨rfl, K28⟩
           ·rw [h99]
            have p103 : (p.to == ([] : List UInt8)) = true := (bnot_false h99)
            refine q_skip (by kernel_rfl) ?_
            refine qs ?_
            refine qg ?_
            refine og 1 [(4, (ptr b1)), (5, (ptr b7)), (6, (Value.bool false)), (7, (ptr b13)), (85, (ptr b13))] 1 ?_
            refine Ops.call (by kernel_rfl) (d := (some 86)) (by kernel_rfl) (Copy_calls _ b13 mb14 kb15 mma SSa KKa H32 H33 H34 (by omega) hBma) ?_
            rintro _ w107 ⟨b104, mb105, kb106, rfl, K108, H109, Hm110, Hk111, hb112, hb113, hb114, hb115, hb116, hb117⟩
            have lb104tb : tb < b104 := by have := H29.lt; omega
            have lmb105tb : tb < mb105 := by have := H29.lt; omega
            have lkb106tb : tb < kb106 := by have := H29.lt; omega
            have lb104b1 : b1 < b104 := by have := H30.lt; omega
            have lmb105b1 : b1 < mb105 := by have := H30.lt; omega
            have lkb106b1 : b1 < kb106 := by have := H30.lt; omega
            have lb104b7 : b7 < b104 := by have := H31.lt; omega
            have lmb105b7 : b7 < mb105 := by have := H31.lt; omega
            have lkb106b7 : b7 < kb106 := by have := H31.lt; omega
            have lb104b13 : b13 < b104 := by have := H32.lt; omega
            have lmb105b13 : b13 < mb105 := by have := H32.lt; omega
            have lkb106b13 : b13 < kb106 := by have := H32.lt; omega
            have lb104mb14 : mb14 < b104 := by have := H33.lt; omega
            have lmb105mb14 : mb14 < mb105 := by have := H33.lt; omega
            have lkb106mb14 : mb14 < kb106 := by have := H33.lt; omega
            have lb104kb15 : kb15 < b104 := by have := H34.lt; omega
            have lmb105kb15 : kb15 < mb105 := by have := H34.lt; omega
            have lkb106kb15 : kb15 < kb106 := by have := H34.lt; omega
            have nb104 : w.heap.size ≤ b104 := by have := K28.size; omega
            have nmb105 : w.heap.size ≤ mb105 := by have := K28.size; omega
            have nkb106 : w.heap.size ≤ kb106 := by have := K28.size; omega
            refine ⟨_, _, rfl, rfl, ?_⟩
            replace K28 := K28.trans K108 (U := none_) (fun i h1 h2 => h2) (fun i h1 h2 => by exact h2)
            replace H29 := H29.keep K108 (fun h => h)
            replace H30 := H30.keep K108 (fun h => h)
            replace H31 := H31.keep K108 (fun h => h)
            replace H32 := H32.keep K108 (fun h => h)
            replace H33 := H33.keep K108 (fun h => h)
            replace H34 := H34.keep K108 (fun h => h)
            clear K108
            refine og 1 [(4, (ptr b1)), (5, (ptr b7)), (6, (Value.bool false)), (7, (ptr b13)), (9, (ptr b104))] 3 ?_
            refine od ?_
            refine qs ?_
            refine qs ?_
            refine qg ?_
            refine og 2 [(4, (ptr b1)), (5, (ptr b7)), (6, (Value.bool false)), (7, (ptr b13)), (9, (ptr b104)), (88, (Value.bool false))] 2 ?_
            refine od ?_
            refine q_else (o := .tmp 88) (by kernel_rfl) rfl ?_
            refine q_skip (by kernel_rfl) ?_
            refine qs ?_
            refine qg ?_
            refine og 1 [(4, (ptr b1)), (5, (ptr b7)), (6, (Value.bool false)), (7, (ptr b13)), (9, (ptr b104)), (89, (ptr b13))] 1 ?_
            refine Ops.go (v := (agg [(i64 p.kind), (Value.string (str p.frm)), (Value.string (str p.to)), (i64 p.amount), (Value.string (str p.key)), (i64 p.slot), (i64 p.shard)])) (by kernel_rfl) (Runs.load (t := 24) (a := ⟨b1, 0, none⟩) (by kernel_rfl) (H30.loads (by kernel_rfl))) (d := (some 90)) (by kernel_rfl) rfl ?_
            refine Ops.call (by kernel_rfl) (d := (some 91)) (by kernel_rfl) (Do_calls _ b13 mb14 kb15 mma SSa KKa p H32 H33 H34 (by omega) hBma (by first | omega | decide) (by first | omega | decide)) ?_
            rintro _ w121 ⟨m118, A119, c120, rfl, K122, Hm123, Hk124, hB125, hO126⟩
            have ob130 : ∀ i, ((Value.slice A119 ((doR SSa KKa p).rows.length) c120)).ownBlock = some i → i ≠ tb := fun i hi => by have := (World.ownsRow.lt hO126 i hi).1; have := H29.lt; omega
            have ob131 : ∀ i, ((Value.slice A119 ((doR SSa KKa p).rows.length) c120)).ownBlock = some i → i ≠ b1 := fun i hi => by have := (World.ownsRow.lt hO126 i hi).1; have := H30.lt; omega
            have ob132 : ∀ i, ((Value.slice A119 ((doR SSa KKa p).rows.length) c120)).ownBlock = some i → i ≠ b7 := fun i hi => by have := (World.ownsRow.lt hO126 i hi).1; have := H31.lt; omega
            have ob133 : ∀ i, ((Value.slice A119 ((doR SSa KKa p).rows.length) c120)).ownBlock = some i → i ≠ b13 := fun i hi => by have := (World.ownsRow.lt hO126 i hi).1; have := H32.lt; omega
            have ob134 : ∀ i, ((Value.slice A119 ((doR SSa KKa p).rows.length) c120)).ownBlock = some i → i ≠ mb14 := fun i hi => by have := (World.ownsRow.lt hO126 i hi).1; have := H33.lt; omega
            have ob135 : ∀ i, ((Value.slice A119 ((doR SSa KKa p).rows.length) c120)).ownBlock = some i → i ≠ kb15 := fun i hi => by have := (World.ownsRow.lt hO126 i hi).1; have := H34.lt; omega
            have ob136 : ∀ i, ((Value.slice A119 ((doR SSa KKa p).rows.length) c120)).ownBlock = some i → i ≠ b104 := fun i hi => by have := (World.ownsRow.lt hO126 i hi).1; have := H109.lt; omega
            have ob137 : ∀ i, ((Value.slice A119 ((doR SSa KKa p).rows.length) c120)).ownBlock = some i → i ≠ mb105 := fun i hi => by have := (World.ownsRow.lt hO126 i hi).1; have := Hm110.lt; omega
            have ob138 : ∀ i, ((Value.slice A119 ((doR SSa KKa p).rows.length) c120)).ownBlock = some i → i ≠ kb106 := fun i hi => by have := (World.ownsRow.lt hO126 i hi).1; have := Hk111.lt; omega
            have O127 := own_base hO126 K28.size
            clear hO126
            have hl128 := hB125.ledg.le
            have hl129 := doK_len SSa KKa p
            refine ⟨_, _, rfl, rfl, ?_⟩
            replace K28 := K28.trans K122 (U := none_) (fun i h1 h2 => h2) (fun i h1 h2 => by have h2 : i = mb14 ∨ i = kb15 := h2; exfalso; omega)
            replace H29 := H29.keep K122 (by intro h; change tb = mb14 ∨ tb = kb15 at h; omega)
            replace H30 := H30.keep K122 (by intro h; change b1 = mb14 ∨ b1 = kb15 at h; omega)
            replace H31 := H31.keep K122 (by intro h; change b7 = mb14 ∨ b7 = kb15 at h; omega)
            replace H32 := H32.keep K122 (by intro h; change b13 = mb14 ∨ b13 = kb15 at h; omega)
            replace H109 := H109.keep K122 (by intro h; change b104 = mb14 ∨ b104 = kb15 at h; omega)
            replace Hm110 := Hm110.keep K122 (by intro h; change mb105 = mb14 ∨ mb105 = kb15 at h; omega)
            replace Hk111 := Hk111.keep K122 (by intro h; change kb106 = mb14 ∨ kb106 = kb15 at h; omega)
            clear K122
            refine Ops.new (o := rowL [(i64 0), (i64 0), (Value.slice none 0 0)] 30) (V := fun b => (ptr b)) (by kernel_rfl) (d := (some 10)) (by kernel_rfl) (fun b => rfl) (fun b139 w140 hb141 H142 K143 hs144 => ?_)
            have lb139tb : tb < b139 := by have := H29.lt; omega
            have lb139b1 : b1 < b139 := by have := H30.lt; omega
            have lb139b7 : b7 < b139 := by have := H31.lt; omega
            have lb139b13 : b13 < b139 := by have := H32.lt; omega
            have lb139mb14 : mb14 < b139 := by have := Hm123.lt; omega
            have lb139kb15 : kb15 < b139 := by have := Hk124.lt; omega
            have lb139b104 : b104 < b139 := by have := H109.lt; omega
            have lb139mb105 : mb105 < b139 := by have := Hm110.lt; omega
            have lb139kb106 : kb106 < b139 := by have := Hk111.lt; omega
            have nb139 : w.heap.size ≤ b139 := by have := K28.size; omega
            have ob145 : ∀ i, ((Value.slice A119 ((doR SSa KKa p).rows.length) c120)).ownBlock = some i → i < b139 := fun i hi => by have := (World.ownsRow.lt O127 i hi).2; omega
            replace K28 := K28.trans K143 (U := none_) (fun i h1 h2 => h2) (fun i h1 h2 => by exact h2)
            replace H29 := H29.keep K143 (fun h => h)
            replace H30 := H30.keep K143 (fun h => h)
            replace H31 := H31.keep K143 (fun h => h)
            replace H32 := H32.keep K143 (fun h => h)
            replace Hm123 := Hm123.keep K143 (fun h => h)
            replace Hk124 := Hk124.keep K143 (fun h => h)
            replace H109 := H109.keep K143 (fun h => h)
            replace Hm110 := Hm110.keep K143 (fun h => h)
            replace Hk111 := Hk111.keep K143 (fun h => h)
            replace O127 := own_keep0 O127 K143
            clear K143 hs144
            refine Ops.put (t := 30) (b := b139) (off := 0) (v := (agg [(i64 ((doR SSa KKa p).why)), (i64 ((doR SSa KKa p).amount)), (Value.slice A119 ((doR SSa KKa p).rows.length) c120)])) (ys := [(i64 ((doR SSa KKa p).why)), (i64 ((doR SSa KKa p).amount)), (Value.slice A119 ((doR SSa KKa p).rows.length) c120)]) (by kernel_rfl) (by kernel_rfl) H142 (by kernel_rfl) (d := none) (by kernel_rfl) rfl (fun w146 H147 K148 => ?_)
            clear H142
            replace K28 := K28.trans K148 (U := none_) (fun i h1 h2 => h2) (fun i h1 h2 => by have h2 : i = b139 := h2; exfalso; omega)
            replace H29 := H29.keep K148 (by intro h; change tb = b139 at h; omega)
            replace H30 := H30.keep K148 (by intro h; change b1 = b139 at h; omega)
            replace H31 := H31.keep K148 (by intro h; change b7 = b139 at h; omega)
            replace H32 := H32.keep K148 (by intro h; change b13 = b139 at h; omega)
            replace Hm123 := Hm123.keep K148 (by intro h; change mb14 = b139 at h; omega)
            replace Hk124 := Hk124.keep K148 (by intro h; change kb15 = b139 at h; omega)
            replace H109 := H109.keep K148 (by intro h; change b104 = b139 at h; omega)
            replace Hm110 := Hm110.keep K148 (by intro h; change mb105 = b139 at h; omega)
            replace Hk111 := Hk111.keep K148 (by intro h; change kb106 = b139 at h; omega)
            replace O127 := own_keep O127 K148 (fun i hi hs => by have hs : i = b139 := hs; have := ob145 i hi; omega)
            clear K148
            refine od ?_
            refine qs ?_
            refine qg ?_
            refine og 1 [(4, (ptr b1)), (5, (ptr b7)), (6, (Value.bool false)), (7, (ptr b13)), (9, (ptr b104)), (10, (ptr b139)), (92, (ptr b13))] 1 ?_
            refine Ops.go (v := (agg [(i64 q.kind), (Value.string (str q.frm)), (Value.string (str q.to)), (i64 q.amount), (Value.string (str q.key)), (i64 q.slot), (i64 q.shard)])) (by kernel_rfl) (Runs.load (t := 24) (a := ⟨b7, 0, none⟩) (by kernel_rfl) (H31.loads (by kernel_rfl))) (d := (some 93)) (by kernel_rfl) rfl ?_
            refine Ops.call (by kernel_rfl) (d := (some 94)) (by kernel_rfl) (Do_calls _ b13 mb14 kb15 m118 (doS SSa KKa p) (doK SSa KKa p) q H32 Hm123 Hk124 (by omega) hB125 (by first | omega | decide) (by first | omega | decide)) ?_
            rintro _ w152 ⟨m149, A150, c151, rfl, K153, Hm154, Hk155, hB156, hO157⟩
            have ob161 : ∀ i, ((Value.slice A150 ((doR (doS SSa KKa p) (doK SSa KKa p) q).rows.length) c151)).ownBlock = some i → i ≠ tb := fun i hi => by have := (World.ownsRow.lt hO157 i hi).1; have := H29.lt; omega
            have ob162 : ∀ i, ((Value.slice A150 ((doR (doS SSa KKa p) (doK SSa KKa p) q).rows.length) c151)).ownBlock = some i → i ≠ b1 := fun i hi => by have := (World.ownsRow.lt hO157 i hi).1; have := H30.lt; omega
            have ob163 : ∀ i, ((Value.slice A150 ((doR (doS SSa KKa p) (doK SSa KKa p) q).rows.length) c151)).ownBlock = some i → i ≠ b7 := fun i hi => by have := (World.ownsRow.lt hO157 i hi).1; have := H31.lt; omega
            have ob164 : ∀ i, ((Value.slice A150 ((doR (doS SSa KKa p) (doK SSa KKa p) q).rows.length) c151)).ownBlock = some i → i ≠ b13 := fun i hi => by have := (World.ownsRow.lt hO157 i hi).1; have := H32.lt; omega
            have ob165 : ∀ i, ((Value.slice A150 ((doR (doS SSa KKa p) (doK SSa KKa p) q).rows.length) c151)).ownBlock = some i → i ≠ mb14 := fun i hi => by have := (World.ownsRow.lt hO157 i hi).1; have := Hm123.lt; omega
            have ob166 : ∀ i, ((Value.slice A150 ((doR (doS SSa KKa p) (doK SSa KKa p) q).rows.length) c151)).ownBlock = some i → i ≠ kb15 := fun i hi => by have := (World.ownsRow.lt hO157 i hi).1; have := Hk124.lt; omega
            have ob167 : ∀ i, ((Value.slice A150 ((doR (doS SSa KKa p) (doK SSa KKa p) q).rows.length) c151)).ownBlock = some i → i ≠ b104 := fun i hi => by have := (World.ownsRow.lt hO157 i hi).1; have := H109.lt; omega
            have ob168 : ∀ i, ((Value.slice A150 ((doR (doS SSa KKa p) (doK SSa KKa p) q).rows.length) c151)).ownBlock = some i → i ≠ mb105 := fun i hi => by have := (World.ownsRow.lt hO157 i hi).1; have := Hm110.lt; omega
            have ob169 : ∀ i, ((Value.slice A150 ((doR (doS SSa KKa p) (doK SSa KKa p) q).rows.length) c151)).ownBlock = some i → i ≠ kb106 := fun i hi => by have := (World.ownsRow.lt hO157 i hi).1; have := Hk111.lt; omega
            have ob170 : ∀ i, ((Value.slice A150 ((doR (doS SSa KKa p) (doK SSa KKa p) q).rows.length) c151)).ownBlock = some i → i ≠ b139 := fun i hi => by have := (World.ownsRow.lt hO157 i hi).1; have := H147.lt; omega
            have oo171 : ∀ i, ((Value.slice A119 ((doR SSa KKa p).rows.length) c120)).ownBlock = some i → ((Value.slice A150 ((doR (doS SSa KKa p) (doK SSa KKa p) q).rows.length) c151)).ownBlock = some i → False := fun i hi hs => by have := (World.ownsRow.lt hO157 i hs).1; have := (World.ownsRow.lt O127 i hi).2; omega
            have oo172 : ∀ i, ((Value.slice A150 ((doR (doS SSa KKa p) (doK SSa KKa p) q).rows.length) c151)).ownBlock = some i → ((Value.slice A119 ((doR SSa KKa p).rows.length) c120)).ownBlock = some i → False := fun i hi hs => oo171 i hs hi
            have O158 := own_base hO157 K28.size
            clear hO157
            have hl159 := hB156.ledg.le
            have hl160 := doK_len (doS SSa KKa p) (doK SSa KKa p) q
            refine ⟨_, _, rfl, rfl, ?_⟩
            replace K28 := K28.trans K153 (U := none_) (fun i h1 h2 => h2) (fun i h1 h2 => by have h2 : i = mb14 ∨ i = kb15 := h2; exfalso; omega)
            replace H29 := H29.keep K153 (by intro h; change tb = mb14 ∨ tb = kb15 at h; omega)
            replace H30 := H30.keep K153 (by intro h; change b1 = mb14 ∨ b1 = kb15 at h; omega)
            replace H31 := H31.keep K153 (by intro h; change b7 = mb14 ∨ b7 = kb15 at h; omega)
            replace H32 := H32.keep K153 (by intro h; change b13 = mb14 ∨ b13 = kb15 at h; omega)
            replace H109 := H109.keep K153 (by intro h; change b104 = mb14 ∨ b104 = kb15 at h; omega)
            replace Hm110 := Hm110.keep K153 (by intro h; change mb105 = mb14 ∨ mb105 = kb15 at h; omega)
            replace Hk111 := Hk111.keep K153 (by intro h; change kb106 = mb14 ∨ kb106 = kb15 at h; omega)
            replace H147 := H147.keep K153 (by intro h; change b139 = mb14 ∨ b139 = kb15 at h; omega)
            replace O127 := own_keep O127 K153 (fun i hi hs => by have hs : i = mb14 ∨ i = kb15 := hs; rcases hs with hs | hs; (have := ob134 i hi; omega); (have := ob135 i hi; omega))
            clear K153
            refine Ops.new (o := rowL [(i64 0), (i64 0), (Value.slice none 0 0)] 30) (V := fun b => (ptr b)) (by kernel_rfl) (d := (some 11)) (by kernel_rfl) (fun b => rfl) (fun b173 w174 hb175 H176 K177 hs178 => ?_)
            have lb173tb : tb < b173 := by have := H29.lt; omega
            have lb173b1 : b1 < b173 := by have := H30.lt; omega
            have lb173b7 : b7 < b173 := by have := H31.lt; omega
            have lb173b13 : b13 < b173 := by have := H32.lt; omega
            have lb173mb14 : mb14 < b173 := by have := Hm154.lt; omega
            have lb173kb15 : kb15 < b173 := by have := Hk155.lt; omega
            have lb173b104 : b104 < b173 := by have := H109.lt; omega
            have lb173mb105 : mb105 < b173 := by have := Hm110.lt; omega
            have lb173kb106 : kb106 < b173 := by have := Hk111.lt; omega
            have lb173b139 : b139 < b173 := by have := H147.lt; omega
            have nb173 : w.heap.size ≤ b173 := by have := K28.size; omega
            have ob179 : ∀ i, ((Value.slice A119 ((doR SSa KKa p).rows.length) c120)).ownBlock = some i → i < b173 := fun i hi => by have := (World.ownsRow.lt O127 i hi).2; omega
            have ob180 : ∀ i, ((Value.slice A150 ((doR (doS SSa KKa p) (doK SSa KKa p) q).rows.length) c151)).ownBlock = some i → i < b173 := fun i hi => by have := (World.ownsRow.lt O158 i hi).2; omega
            replace K28 := K28.trans K177 (U := none_) (fun i h1 h2 => h2) (fun i h1 h2 => by exact h2)
            replace H29 := H29.keep K177 (fun h => h)
            replace H30 := H30.keep K177 (fun h => h)
            replace H31 := H31.keep K177 (fun h => h)
            replace H32 := H32.keep K177 (fun h => h)
            replace Hm154 := Hm154.keep K177 (fun h => h)
            replace Hk155 := Hk155.keep K177 (fun h => h)
            replace H109 := H109.keep K177 (fun h => h)
            replace Hm110 := Hm110.keep K177 (fun h => h)
            replace Hk111 := Hk111.keep K177 (fun h => h)
            replace H147 := H147.keep K177 (fun h => h)
            replace O127 := own_keep0 O127 K177
            replace O158 := own_keep0 O158 K177
            clear K177 hs178
            refine Ops.put (t := 30) (b := b173) (off := 0) (v := (agg [(i64 ((doR (doS SSa KKa p) (doK SSa KKa p) q).why)), (i64 ((doR (doS SSa KKa p) (doK SSa KKa p) q).amount)), (Value.slice A150 ((doR (doS SSa KKa p) (doK SSa KKa p) q).rows.length) c151)])) (ys := [(i64 ((doR (doS SSa KKa p) (doK SSa KKa p) q).why)), (i64 ((doR (doS SSa KKa p) (doK SSa KKa p) q).amount)), (Value.slice A150 ((doR (doS SSa KKa p) (doK SSa KKa p) q).rows.length) c151)]) (by kernel_rfl) (by kernel_rfl) H176 (by kernel_rfl) (d := none) (by kernel_rfl) rfl (fun w181 H182 K183 => ?_)
            clear H176
            replace K28 := K28.trans K183 (U := none_) (fun i h1 h2 => h2) (fun i h1 h2 => by have h2 : i = b173 := h2; exfalso; omega)
            replace H29 := H29.keep K183 (by intro h; change tb = b173 at h; omega)
            replace H30 := H30.keep K183 (by intro h; change b1 = b173 at h; omega)
            replace H31 := H31.keep K183 (by intro h; change b7 = b173 at h; omega)
            replace H32 := H32.keep K183 (by intro h; change b13 = b173 at h; omega)
            replace Hm154 := Hm154.keep K183 (by intro h; change mb14 = b173 at h; omega)
            replace Hk155 := Hk155.keep K183 (by intro h; change kb15 = b173 at h; omega)
            replace H109 := H109.keep K183 (by intro h; change b104 = b173 at h; omega)
            replace Hm110 := Hm110.keep K183 (by intro h; change mb105 = b173 at h; omega)
            replace Hk111 := Hk111.keep K183 (by intro h; change kb106 = b173 at h; omega)
            replace H147 := H147.keep K183 (by intro h; change b139 = b173 at h; omega)
            replace O127 := own_keep O127 K183 (fun i hi hs => by have hs : i = b173 := hs; have := ob179 i hi; omega)
            replace O158 := own_keep O158 K183 (fun i hi hs => by have hs : i = b173 := hs; have := ob180 i hi; omega)
            clear K183
            refine od ?_
            refine qs ?_
            refine qg ?_
            refine og 1 [(4, (ptr b1)), (5, (ptr b7)), (6, (Value.bool false)), (7, (ptr b13)), (9, (ptr b104)), (10, (ptr b139)), (11, (ptr b173)), (95, (ptr b104))] 1 ?_
            refine Ops.go (v := (agg [(i64 q.kind), (Value.string (str q.frm)), (Value.string (str q.to)), (i64 q.amount), (Value.string (str q.key)), (i64 q.slot), (i64 q.shard)])) (by kernel_rfl) (Runs.load (t := 24) (a := ⟨b7, 0, none⟩) (by kernel_rfl) (H31.loads (by kernel_rfl))) (d := (some 96)) (by kernel_rfl) rfl ?_
            refine Ops.call (by kernel_rfl) (d := (some 97)) (by kernel_rfl) (Do_calls _ b104 mb105 kb106 mma SSa KKa q H109 Hm110 Hk111 (by omega) hBma (by first | omega | decide) (by first | omega | decide)) ?_
            rintro _ w187 ⟨m184, A185, c186, rfl, K188, Hm189, Hk190, hB191, hO192⟩
            have ob196 : ∀ i, ((Value.slice A185 ((doR SSa KKa q).rows.length) c186)).ownBlock = some i → i ≠ tb := fun i hi => by have := (World.ownsRow.lt hO192 i hi).1; have := H29.lt; omega
            have ob197 : ∀ i, ((Value.slice A185 ((doR SSa KKa q).rows.length) c186)).ownBlock = some i → i ≠ b1 := fun i hi => by have := (World.ownsRow.lt hO192 i hi).1; have := H30.lt; omega
            have ob198 : ∀ i, ((Value.slice A185 ((doR SSa KKa q).rows.length) c186)).ownBlock = some i → i ≠ b7 := fun i hi => by have := (World.ownsRow.lt hO192 i hi).1; have := H31.lt; omega
            have ob199 : ∀ i, ((Value.slice A185 ((doR SSa KKa q).rows.length) c186)).ownBlock = some i → i ≠ b13 := fun i hi => by have := (World.ownsRow.lt hO192 i hi).1; have := H32.lt; omega
            have ob200 : ∀ i, ((Value.slice A185 ((doR SSa KKa q).rows.length) c186)).ownBlock = some i → i ≠ mb14 := fun i hi => by have := (World.ownsRow.lt hO192 i hi).1; have := Hm154.lt; omega
            have ob201 : ∀ i, ((Value.slice A185 ((doR SSa KKa q).rows.length) c186)).ownBlock = some i → i ≠ kb15 := fun i hi => by have := (World.ownsRow.lt hO192 i hi).1; have := Hk155.lt; omega
            have ob202 : ∀ i, ((Value.slice A185 ((doR SSa KKa q).rows.length) c186)).ownBlock = some i → i ≠ b104 := fun i hi => by have := (World.ownsRow.lt hO192 i hi).1; have := H109.lt; omega
            have ob203 : ∀ i, ((Value.slice A185 ((doR SSa KKa q).rows.length) c186)).ownBlock = some i → i ≠ mb105 := fun i hi => by have := (World.ownsRow.lt hO192 i hi).1; have := Hm110.lt; omega
            have ob204 : ∀ i, ((Value.slice A185 ((doR SSa KKa q).rows.length) c186)).ownBlock = some i → i ≠ kb106 := fun i hi => by have := (World.ownsRow.lt hO192 i hi).1; have := Hk111.lt; omega
            have ob205 : ∀ i, ((Value.slice A185 ((doR SSa KKa q).rows.length) c186)).ownBlock = some i → i ≠ b139 := fun i hi => by have := (World.ownsRow.lt hO192 i hi).1; have := H147.lt; omega
            have ob206 : ∀ i, ((Value.slice A185 ((doR SSa KKa q).rows.length) c186)).ownBlock = some i → i ≠ b173 := fun i hi => by have := (World.ownsRow.lt hO192 i hi).1; have := H182.lt; omega
            have oo207 : ∀ i, ((Value.slice A119 ((doR SSa KKa p).rows.length) c120)).ownBlock = some i → ((Value.slice A185 ((doR SSa KKa q).rows.length) c186)).ownBlock = some i → False := fun i hi hs => by have := (World.ownsRow.lt hO192 i hs).1; have := (World.ownsRow.lt O127 i hi).2; omega
            have oo208 : ∀ i, ((Value.slice A185 ((doR SSa KKa q).rows.length) c186)).ownBlock = some i → ((Value.slice A119 ((doR SSa KKa p).rows.length) c120)).ownBlock = some i → False := fun i hi hs => oo207 i hs hi
            have oo209 : ∀ i, ((Value.slice A150 ((doR (doS SSa KKa p) (doK SSa KKa p) q).rows.length) c151)).ownBlock = some i → ((Value.slice A185 ((doR SSa KKa q).rows.length) c186)).ownBlock = some i → False := fun i hi hs => by have := (World.ownsRow.lt hO192 i hs).1; have := (World.ownsRow.lt O158 i hi).2; omega
            have oo210 : ∀ i, ((Value.slice A185 ((doR SSa KKa q).rows.length) c186)).ownBlock = some i → ((Value.slice A150 ((doR (doS SSa KKa p) (doK SSa KKa p) q).rows.length) c151)).ownBlock = some i → False := fun i hi hs => oo209 i hs hi
            have O193 := own_base hO192 K28.size
            clear hO192
            have hl194 := hB191.ledg.le
            have hl195 := doK_len SSa KKa q
            refine ⟨_, _, rfl, rfl, ?_⟩
            replace K28 := K28.trans K188 (U := none_) (fun i h1 h2 => h2) (fun i h1 h2 => by have h2 : i = mb105 ∨ i = kb106 := h2; exfalso; omega)
            replace H29 := H29.keep K188 (by intro h; change tb = mb105 ∨ tb = kb106 at h; omega)
            replace H30 := H30.keep K188 (by intro h; change b1 = mb105 ∨ b1 = kb106 at h; omega)
            replace H31 := H31.keep K188 (by intro h; change b7 = mb105 ∨ b7 = kb106 at h; omega)
            replace H32 := H32.keep K188 (by intro h; change b13 = mb105 ∨ b13 = kb106 at h; omega)
            replace Hm154 := Hm154.keep K188 (by intro h; change mb14 = mb105 ∨ mb14 = kb106 at h; omega)
            replace Hk155 := Hk155.keep K188 (by intro h; change kb15 = mb105 ∨ kb15 = kb106 at h; omega)
            replace H109 := H109.keep K188 (by intro h; change b104 = mb105 ∨ b104 = kb106 at h; omega)
            replace H147 := H147.keep K188 (by intro h; change b139 = mb105 ∨ b139 = kb106 at h; omega)
            replace H182 := H182.keep K188 (by intro h; change b173 = mb105 ∨ b173 = kb106 at h; omega)
            replace O127 := own_keep O127 K188 (fun i hi hs => by have hs : i = mb105 ∨ i = kb106 := hs; rcases hs with hs | hs; (have := ob137 i hi; omega); (have := ob138 i hi; omega))
            replace O158 := own_keep O158 K188 (fun i hi hs => by have hs : i = mb105 ∨ i = kb106 := hs; rcases hs with hs | hs; (have := ob168 i hi; omega); (have := ob169 i hi; omega))
            clear K188
            refine Ops.new (o := rowL [(i64 0), (i64 0), (Value.slice none 0 0)] 30) (V := fun b => (ptr b)) (by kernel_rfl) (d := (some 12)) (by kernel_rfl) (fun b => rfl) (fun b211 w212 hb213 H214 K215 hs216 => ?_)
            have lb211tb : tb < b211 := by have := H29.lt; omega
            have lb211b1 : b1 < b211 := by have := H30.lt; omega
            have lb211b7 : b7 < b211 := by have := H31.lt; omega
            have lb211b13 : b13 < b211 := by have := H32.lt; omega
            have lb211mb14 : mb14 < b211 := by have := Hm154.lt; omega
            have lb211kb15 : kb15 < b211 := by have := Hk155.lt; omega
            have lb211b104 : b104 < b211 := by have := H109.lt; omega
            have lb211mb105 : mb105 < b211 := by have := Hm189.lt; omega
            have lb211kb106 : kb106 < b211 := by have := Hk190.lt; omega
            have lb211b139 : b139 < b211 := by have := H147.lt; omega
            have lb211b173 : b173 < b211 := by have := H182.lt; omega
            have nb211 : w.heap.size ≤ b211 := by have := K28.size; omega
            have ob217 : ∀ i, ((Value.slice A119 ((doR SSa KKa p).rows.length) c120)).ownBlock = some i → i < b211 := fun i hi => by have := (World.ownsRow.lt O127 i hi).2; omega
            have ob218 : ∀ i, ((Value.slice A150 ((doR (doS SSa KKa p) (doK SSa KKa p) q).rows.length) c151)).ownBlock = some i → i < b211 := fun i hi => by have := (World.ownsRow.lt O158 i hi).2; omega
            have ob219 : ∀ i, ((Value.slice A185 ((doR SSa KKa q).rows.length) c186)).ownBlock = some i → i < b211 := fun i hi => by have := (World.ownsRow.lt O193 i hi).2; omega
            replace K28 := K28.trans K215 (U := none_) (fun i h1 h2 => h2) (fun i h1 h2 => by exact h2)
            replace H29 := H29.keep K215 (fun h => h)
            replace H30 := H30.keep K215 (fun h => h)
            replace H31 := H31.keep K215 (fun h => h)
            replace H32 := H32.keep K215 (fun h => h)
            replace Hm154 := Hm154.keep K215 (fun h => h)
            replace Hk155 := Hk155.keep K215 (fun h => h)
            replace H109 := H109.keep K215 (fun h => h)
            replace Hm189 := Hm189.keep K215 (fun h => h)
            replace Hk190 := Hk190.keep K215 (fun h => h)
            replace H147 := H147.keep K215 (fun h => h)
            replace H182 := H182.keep K215 (fun h => h)
            replace O127 := own_keep0 O127 K215
            replace O158 := own_keep0 O158 K215
            replace O193 := own_keep0 O193 K215
            clear K215 hs216
            refine Ops.put (t := 30) (b := b211) (off := 0) (v := (agg [(i64 ((doR SSa KKa q).why)), (i64 ((doR SSa KKa q).amount)), (Value.slice A185 ((doR SSa KKa q).rows.length) c186)])) (ys := [(i64 ((doR SSa KKa q).why)), (i64 ((doR SSa KKa q).amount)), (Value.slice A185 ((doR SSa KKa q).rows.length) c186)]) (by kernel_rfl) (by kernel_rfl) H214 (by kernel_rfl) (d := none) (by kernel_rfl) rfl (fun w220 H221 K222 => ?_)
            clear H214
            replace K28 := K28.trans K222 (U := none_) (fun i h1 h2 => h2) (fun i h1 h2 => by have h2 : i = b211 := h2; exfalso; omega)
            replace H29 := H29.keep K222 (by intro h; change tb = b211 at h; omega)
            replace H30 := H30.keep K222 (by intro h; change b1 = b211 at h; omega)
            replace H31 := H31.keep K222 (by intro h; change b7 = b211 at h; omega)
            replace H32 := H32.keep K222 (by intro h; change b13 = b211 at h; omega)
            replace Hm154 := Hm154.keep K222 (by intro h; change mb14 = b211 at h; omega)
            replace Hk155 := Hk155.keep K222 (by intro h; change kb15 = b211 at h; omega)
            replace H109 := H109.keep K222 (by intro h; change b104 = b211 at h; omega)
            replace Hm189 := Hm189.keep K222 (by intro h; change mb105 = b211 at h; omega)
            replace Hk190 := Hk190.keep K222 (by intro h; change kb106 = b211 at h; omega)
            replace H147 := H147.keep K222 (by intro h; change b139 = b211 at h; omega)
            replace H182 := H182.keep K222 (by intro h; change b173 = b211 at h; omega)
            replace O127 := own_keep O127 K222 (fun i hi hs => by have hs : i = b211 := hs; have := ob217 i hi; omega)
            replace O158 := own_keep O158 K222 (fun i hi hs => by have hs : i = b211 := hs; have := ob218 i hi; omega)
            replace O193 := own_keep O193 K222 (fun i hi hs => by have hs : i = b211 := hs; have := ob219 i hi; omega)
            clear K222
            refine od ?_
            refine qs ?_
            refine qg ?_
            refine og 1 [(4, (ptr b1)), (6, (Value.bool false)), (7, (ptr b13)), (9, (ptr b104)), (10, (ptr b139)), (11, (ptr b173)), (12, (ptr b211)), (98, (ptr b104))] 1 ?_
            refine Ops.go (v := (agg [(i64 p.kind), (Value.string (str p.frm)), (Value.string (str p.to)), (i64 p.amount), (Value.string (str p.key)), (i64 p.slot), (i64 p.shard)])) (by kernel_rfl) (Runs.load (t := 24) (a := ⟨b1, 0, none⟩) (by kernel_rfl) (H30.loads (by kernel_rfl))) (d := (some 99)) (by kernel_rfl) rfl ?_
            refine Ops.call (by kernel_rfl) (d := (some 100)) (by kernel_rfl) (Do_calls _ b104 mb105 kb106 m184 (doS SSa KKa q) (doK SSa KKa q) p H109 Hm189 Hk190 (by omega) hB191 (by first | omega | decide) (by first | omega | decide)) ?_
            rintro _ w226 ⟨m223, A224, c225, rfl, K227, Hm228, Hk229, hB230, hO231⟩
            have ob235 : ∀ i, ((Value.slice A224 ((doR (doS SSa KKa q) (doK SSa KKa q) p).rows.length) c225)).ownBlock = some i → i ≠ tb := fun i hi => by have := (World.ownsRow.lt hO231 i hi).1; have := H29.lt; omega
            have ob236 : ∀ i, ((Value.slice A224 ((doR (doS SSa KKa q) (doK SSa KKa q) p).rows.length) c225)).ownBlock = some i → i ≠ b1 := fun i hi => by have := (World.ownsRow.lt hO231 i hi).1; have := H30.lt; omega
            have ob237 : ∀ i, ((Value.slice A224 ((doR (doS SSa KKa q) (doK SSa KKa q) p).rows.length) c225)).ownBlock = some i → i ≠ b7 := fun i hi => by have := (World.ownsRow.lt hO231 i hi).1; have := H31.lt; omega
            have ob238 : ∀ i, ((Value.slice A224 ((doR (doS SSa KKa q) (doK SSa KKa q) p).rows.length) c225)).ownBlock = some i → i ≠ b13 := fun i hi => by have := (World.ownsRow.lt hO231 i hi).1; have := H32.lt; omega
            have ob239 : ∀ i, ((Value.slice A224 ((doR (doS SSa KKa q) (doK SSa KKa q) p).rows.length) c225)).ownBlock = some i → i ≠ mb14 := fun i hi => by have := (World.ownsRow.lt hO231 i hi).1; have := Hm154.lt; omega
            have ob240 : ∀ i, ((Value.slice A224 ((doR (doS SSa KKa q) (doK SSa KKa q) p).rows.length) c225)).ownBlock = some i → i ≠ kb15 := fun i hi => by have := (World.ownsRow.lt hO231 i hi).1; have := Hk155.lt; omega
            have ob241 : ∀ i, ((Value.slice A224 ((doR (doS SSa KKa q) (doK SSa KKa q) p).rows.length) c225)).ownBlock = some i → i ≠ b104 := fun i hi => by have := (World.ownsRow.lt hO231 i hi).1; have := H109.lt; omega
            have ob242 : ∀ i, ((Value.slice A224 ((doR (doS SSa KKa q) (doK SSa KKa q) p).rows.length) c225)).ownBlock = some i → i ≠ mb105 := fun i hi => by have := (World.ownsRow.lt hO231 i hi).1; have := Hm189.lt; omega
            have ob243 : ∀ i, ((Value.slice A224 ((doR (doS SSa KKa q) (doK SSa KKa q) p).rows.length) c225)).ownBlock = some i → i ≠ kb106 := fun i hi => by have := (World.ownsRow.lt hO231 i hi).1; have := Hk190.lt; omega
            have ob244 : ∀ i, ((Value.slice A224 ((doR (doS SSa KKa q) (doK SSa KKa q) p).rows.length) c225)).ownBlock = some i → i ≠ b139 := fun i hi => by have := (World.ownsRow.lt hO231 i hi).1; have := H147.lt; omega
            have ob245 : ∀ i, ((Value.slice A224 ((doR (doS SSa KKa q) (doK SSa KKa q) p).rows.length) c225)).ownBlock = some i → i ≠ b173 := fun i hi => by have := (World.ownsRow.lt hO231 i hi).1; have := H182.lt; omega
            have ob246 : ∀ i, ((Value.slice A224 ((doR (doS SSa KKa q) (doK SSa KKa q) p).rows.length) c225)).ownBlock = some i → i ≠ b211 := fun i hi => by have := (World.ownsRow.lt hO231 i hi).1; have := H221.lt; omega
            have oo247 : ∀ i, ((Value.slice A119 ((doR SSa KKa p).rows.length) c120)).ownBlock = some i → ((Value.slice A224 ((doR (doS SSa KKa q) (doK SSa KKa q) p).rows.length) c225)).ownBlock = some i → False := fun i hi hs => by have := (World.ownsRow.lt hO231 i hs).1; have := (World.ownsRow.lt O127 i hi).2; omega
            have oo248 : ∀ i, ((Value.slice A224 ((doR (doS SSa KKa q) (doK SSa KKa q) p).rows.length) c225)).ownBlock = some i → ((Value.slice A119 ((doR SSa KKa p).rows.length) c120)).ownBlock = some i → False := fun i hi hs => oo247 i hs hi
            have oo249 : ∀ i, ((Value.slice A150 ((doR (doS SSa KKa p) (doK SSa KKa p) q).rows.length) c151)).ownBlock = some i → ((Value.slice A224 ((doR (doS SSa KKa q) (doK SSa KKa q) p).rows.length) c225)).ownBlock = some i → False := fun i hi hs => by have := (World.ownsRow.lt hO231 i hs).1; have := (World.ownsRow.lt O158 i hi).2; omega
            have oo250 : ∀ i, ((Value.slice A224 ((doR (doS SSa KKa q) (doK SSa KKa q) p).rows.length) c225)).ownBlock = some i → ((Value.slice A150 ((doR (doS SSa KKa p) (doK SSa KKa p) q).rows.length) c151)).ownBlock = some i → False := fun i hi hs => oo249 i hs hi
            have oo251 : ∀ i, ((Value.slice A185 ((doR SSa KKa q).rows.length) c186)).ownBlock = some i → ((Value.slice A224 ((doR (doS SSa KKa q) (doK SSa KKa q) p).rows.length) c225)).ownBlock = some i → False := fun i hi hs => by have := (World.ownsRow.lt hO231 i hs).1; have := (World.ownsRow.lt O193 i hi).2; omega
            have oo252 : ∀ i, ((Value.slice A224 ((doR (doS SSa KKa q) (doK SSa KKa q) p).rows.length) c225)).ownBlock = some i → ((Value.slice A185 ((doR SSa KKa q).rows.length) c186)).ownBlock = some i → False := fun i hi hs => oo251 i hs hi
            have O232 := own_base hO231 K28.size
            clear hO231
            have hl233 := hB230.ledg.le
            have hl234 := doK_len (doS SSa KKa q) (doK SSa KKa q) p
            refine ⟨_, _, rfl, rfl, ?_⟩
            replace K28 := K28.trans K227 (U := none_) (fun i h1 h2 => h2) (fun i h1 h2 => by have h2 : i = mb105 ∨ i = kb106 := h2; exfalso; omega)
            replace H29 := H29.keep K227 (by intro h; change tb = mb105 ∨ tb = kb106 at h; omega)
            replace H30 := H30.keep K227 (by intro h; change b1 = mb105 ∨ b1 = kb106 at h; omega)
            replace H31 := H31.keep K227 (by intro h; change b7 = mb105 ∨ b7 = kb106 at h; omega)
            replace H32 := H32.keep K227 (by intro h; change b13 = mb105 ∨ b13 = kb106 at h; omega)
            replace Hm154 := Hm154.keep K227 (by intro h; change mb14 = mb105 ∨ mb14 = kb106 at h; omega)
            replace Hk155 := Hk155.keep K227 (by intro h; change kb15 = mb105 ∨ kb15 = kb106 at h; omega)
            replace H109 := H109.keep K227 (by intro h; change b104 = mb105 ∨ b104 = kb106 at h; omega)
            replace H147 := H147.keep K227 (by intro h; change b139 = mb105 ∨ b139 = kb106 at h; omega)
            replace H182 := H182.keep K227 (by intro h; change b173 = mb105 ∨ b173 = kb106 at h; omega)
            replace H221 := H221.keep K227 (by intro h; change b211 = mb105 ∨ b211 = kb106 at h; omega)
            replace O127 := own_keep O127 K227 (fun i hi hs => by have hs : i = mb105 ∨ i = kb106 := hs; rcases hs with hs | hs; (have := ob137 i hi; omega); (have := ob138 i hi; omega))
            replace O158 := own_keep O158 K227 (fun i hi hs => by have hs : i = mb105 ∨ i = kb106 := hs; rcases hs with hs | hs; (have := ob168 i hi; omega); (have := ob169 i hi; omega))
            replace O193 := own_keep O193 K227 (fun i hi hs => by have hs : i = mb105 ∨ i = kb106 := hs; rcases hs with hs | hs; (have := ob203 i hi; omega); (have := ob204 i hi; omega))
            clear K227
            refine Ops.new (o := rowL [(i64 0), (i64 0), (Value.slice none 0 0)] 30) (V := fun b => (ptr b)) (by kernel_rfl) (d := (some 13)) (by kernel_rfl) (fun b => rfl) (fun b253 w254 hb255 H256 K257 hs258 => ?_)
            have lb253tb : tb < b253 := by have := H29.lt; omega
            have lb253b1 : b1 < b253 := by have := H30.lt; omega
            have lb253b7 : b7 < b253 := by have := H31.lt; omega
            have lb253b13 : b13 < b253 := by have := H32.lt; omega
            have lb253mb14 : mb14 < b253 := by have := Hm154.lt; omega
            have lb253kb15 : kb15 < b253 := by have := Hk155.lt; omega
            have lb253b104 : b104 < b253 := by have := H109.lt; omega
            have lb253mb105 : mb105 < b253 := by have := Hm228.lt; omega
            have lb253kb106 : kb106 < b253 := by have := Hk229.lt; omega
            have lb253b139 : b139 < b253 := by have := H147.lt; omega
            have lb253b173 : b173 < b253 := by have := H182.lt; omega
            have lb253b211 : b211 < b253 := by have := H221.lt; omega
            have nb253 : w.heap.size ≤ b253 := by have := K28.size; omega
            have ob259 : ∀ i, ((Value.slice A119 ((doR SSa KKa p).rows.length) c120)).ownBlock = some i → i < b253 := fun i hi => by have := (World.ownsRow.lt O127 i hi).2; omega
            have ob260 : ∀ i, ((Value.slice A150 ((doR (doS SSa KKa p) (doK SSa KKa p) q).rows.length) c151)).ownBlock = some i → i < b253 := fun i hi => by have := (World.ownsRow.lt O158 i hi).2; omega
            have ob261 : ∀ i, ((Value.slice A185 ((doR SSa KKa q).rows.length) c186)).ownBlock = some i → i < b253 := fun i hi => by have := (World.ownsRow.lt O193 i hi).2; omega
            have ob262 : ∀ i, ((Value.slice A224 ((doR (doS SSa KKa q) (doK SSa KKa q) p).rows.length) c225)).ownBlock = some i → i < b253 := fun i hi => by have := (World.ownsRow.lt O232 i hi).2; omega
            replace K28 := K28.trans K257 (U := none_) (fun i h1 h2 => h2) (fun i h1 h2 => by exact h2)
            replace H29 := H29.keep K257 (fun h => h)
            replace H30 := H30.keep K257 (fun h => h)
            replace H31 := H31.keep K257 (fun h => h)
            replace H32 := H32.keep K257 (fun h => h)
            replace Hm154 := Hm154.keep K257 (fun h => h)
            replace Hk155 := Hk155.keep K257 (fun h => h)
            replace H109 := H109.keep K257 (fun h => h)
            replace Hm228 := Hm228.keep K257 (fun h => h)
            replace Hk229 := Hk229.keep K257 (fun h => h)
            replace H147 := H147.keep K257 (fun h => h)
            replace H182 := H182.keep K257 (fun h => h)
            replace H221 := H221.keep K257 (fun h => h)
            replace O127 := own_keep0 O127 K257
            replace O158 := own_keep0 O158 K257
            replace O193 := own_keep0 O193 K257
            replace O232 := own_keep0 O232 K257
            clear K257 hs258
            refine Ops.put (t := 30) (b := b253) (off := 0) (v := (agg [(i64 ((doR (doS SSa KKa q) (doK SSa KKa q) p).why)), (i64 ((doR (doS SSa KKa q) (doK SSa KKa q) p).amount)), (Value.slice A224 ((doR (doS SSa KKa q) (doK SSa KKa q) p).rows.length) c225)])) (ys := [(i64 ((doR (doS SSa KKa q) (doK SSa KKa q) p).why)), (i64 ((doR (doS SSa KKa q) (doK SSa KKa q) p).amount)), (Value.slice A224 ((doR (doS SSa KKa q) (doK SSa KKa q) p).rows.length) c225)]) (by kernel_rfl) (by kernel_rfl) H256 (by kernel_rfl) (d := none) (by kernel_rfl) rfl (fun w263 H264 K265 => ?_)
            clear H256
            replace K28 := K28.trans K265 (U := none_) (fun i h1 h2 => h2) (fun i h1 h2 => by have h2 : i = b253 := h2; exfalso; omega)
            replace H29 := H29.keep K265 (by intro h; change tb = b253 at h; omega)
            replace H30 := H30.keep K265 (by intro h; change b1 = b253 at h; omega)
            replace H31 := H31.keep K265 (by intro h; change b7 = b253 at h; omega)
            replace H32 := H32.keep K265 (by intro h; change b13 = b253 at h; omega)
            replace Hm154 := Hm154.keep K265 (by intro h; change mb14 = b253 at h; omega)
            replace Hk155 := Hk155.keep K265 (by intro h; change kb15 = b253 at h; omega)
            replace H109 := H109.keep K265 (by intro h; change b104 = b253 at h; omega)
            replace Hm228 := Hm228.keep K265 (by intro h; change mb105 = b253 at h; omega)
            replace Hk229 := Hk229.keep K265 (by intro h; change kb106 = b253 at h; omega)
            replace H147 := H147.keep K265 (by intro h; change b139 = b253 at h; omega)
            replace H182 := H182.keep K265 (by intro h; change b173 = b253 at h; omega)
            replace H221 := H221.keep K265 (by intro h; change b211 = b253 at h; omega)
            replace O127 := own_keep O127 K265 (fun i hi hs => by have hs : i = b253 := hs; have := ob259 i hi; omega)
            replace O158 := own_keep O158 K265 (fun i hi hs => by have hs : i = b253 := hs; have := ob260 i hi; omega)
            replace O193 := own_keep O193 K265 (fun i hi hs => by have hs : i = b253 := hs; have := ob261 i hi; omega)
            replace O232 := own_keep O232 K265 (fun i hi hs => by have hs : i = b253 := hs; have := ob262 i hi; omega)
            clear K265
            refine od ?_
            refine qs ?_
            refine qg ?_
            refine Ops.go (v := (agg [(i64 ((doR SSa KKa p).why)), (i64 ((doR SSa KKa p).amount)), (Value.slice A119 ((doR SSa KKa p).rows.length) c120)])) (by kernel_rfl) (Runs.load (t := 30) (a := ⟨b139, 0, none⟩) (by kernel_rfl) (H147.loads (by kernel_rfl))) (d := (some 101)) (by kernel_rfl) rfl ?_
            refine Ops.go (v := (agg [(i64 ((doR (doS SSa KKa q) (doK SSa KKa q) p).why)), (i64 ((doR (doS SSa KKa q) (doK SSa KKa q) p).amount)), (Value.slice A224 ((doR (doS SSa KKa q) (doK SSa KKa q) p).rows.length) c225)])) (by kernel_rfl) (Runs.load (t := 30) (a := ⟨b253, 0, none⟩) (by kernel_rfl) (H264.loads (by kernel_rfl))) (d := (some 102)) (by kernel_rfl) rfl ?_
            refine Ops.call (by kernel_rfl) (d := (some 103)) (by kernel_rfl) (SameReply_calls _ A119 c120 (doR SSa KKa p) A224 c225 (doR (doS SSa KKa q) (doK SSa KKa q) p) (OwnT.rd O127) (OwnT.rd O232)) ?_
            rintro _ w269 ⟨t266, rfl, ht267, K268⟩
            refine ⟨_, _, rfl, rfl, ?_⟩
            replace K28 := K28.trans K268 (U := none_) (fun i h1 h2 => h2) (fun i h1 h2 => by exact h2)
            replace H29 := H29.keep K268 (fun h => h)
            replace H30 := H30.keep K268 (fun h => h)
            replace H31 := H31.keep K268 (fun h => h)
            replace H32 := H32.keep K268 (fun h => h)
            replace Hm154 := Hm154.keep K268 (fun h => h)
            replace Hk155 := Hk155.keep K268 (fun h => h)
            replace H109 := H109.keep K268 (fun h => h)
            replace Hm228 := Hm228.keep K268 (fun h => h)
            replace Hk229 := Hk229.keep K268 (fun h => h)
            replace H147 := H147.keep K268 (fun h => h)
            replace H182 := H182.keep K268 (fun h => h)
            replace H221 := H221.keep K268 (fun h => h)
            replace H264 := H264.keep K268 (fun h => h)
            replace O127 := own_keep0 O127 K268
            replace O158 := own_keep0 O158 K268
            replace O193 := own_keep0 O193 K268
            replace O232 := own_keep0 O232 K268
            clear K268
            refine og 1 [(6, (Value.bool false)), (7, (ptr b13)), (9, (ptr b104)), (11, (ptr b173)), (12, (ptr b211)), (104, (Value.bool t266))] 4 ?_
            have hap : ApartOps p q := ⟨by simp_all, by simp_all, by simp_all, fun e => by simp_all⟩
            have hapS := doS_comm (S := SSa) (K := KKa) hap hB156.ledg.led hB230.ledg.led
            have h270 : t266 = true := ht267.2 (by first | exact (doR_do hap.symm (by omega)).symm | exact doR_do hap (by omega))
            rw [h270]
            refine Ops.go (v := (agg [(i64 ((doR (doS SSa KKa p) (doK SSa KKa p) q).why)), (i64 ((doR (doS SSa KKa p) (doK SSa KKa p) q).amount)), (Value.slice A150 ((doR (doS SSa KKa p) (doK SSa KKa p) q).rows.length) c151)])) (by kernel_rfl) (Runs.load (t := 30) (a := ⟨b173, 0, none⟩) (by kernel_rfl) (H182.loads (by kernel_rfl))) (d := (some 105)) (by kernel_rfl) rfl ?_
            refine Ops.go (v := (agg [(i64 ((doR SSa KKa q).why)), (i64 ((doR SSa KKa q).amount)), (Value.slice A185 ((doR SSa KKa q).rows.length) c186)])) (by kernel_rfl) (Runs.load (t := 30) (a := ⟨b211, 0, none⟩) (by kernel_rfl) (H221.loads (by kernel_rfl))) (d := (some 106)) (by kernel_rfl) rfl ?_
            refine Ops.call (by kernel_rfl) (d := (some 107)) (by kernel_rfl) (SameReply_calls _ A150 c151 (doR (doS SSa KKa p) (doK SSa KKa p) q) A185 c186 (doR SSa KKa q) (OwnT.rd O158) (OwnT.rd O193)) ?_
            rintro _ w274 ⟨t271, rfl, ht272, K273⟩
            refine ⟨_, _, rfl, rfl, ?_⟩
            replace K28 := K28.trans K273 (U := none_) (fun i h1 h2 => h2) (fun i h1 h2 => by exact h2)
            replace H29 := H29.keep K273 (fun h => h)
            replace H30 := H30.keep K273 (fun h => h)
            replace H31 := H31.keep K273 (fun h => h)
            replace H32 := H32.keep K273 (fun h => h)
            replace Hm154 := Hm154.keep K273 (fun h => h)
            replace Hk155 := Hk155.keep K273 (fun h => h)
            replace H109 := H109.keep K273 (fun h => h)
            replace Hm228 := Hm228.keep K273 (fun h => h)
            replace Hk229 := Hk229.keep K273 (fun h => h)
            replace H147 := H147.keep K273 (fun h => h)
            replace H182 := H182.keep K273 (fun h => h)
            replace H221 := H221.keep K273 (fun h => h)
            replace H264 := H264.keep K273 (fun h => h)
            replace O127 := own_keep0 O127 K273
            replace O158 := own_keep0 O158 K273
            replace O193 := own_keep0 O193 K273
            replace O232 := own_keep0 O232 K273
            clear K273
            refine og 2 [(6, (Value.bool false)), (7, (ptr b13)), (9, (ptr b104)), (109, (Value.bool t271))] 9 ?_
            have h275 : t271 = true := ht272.2 (by first | exact (doR_do hap.symm (by omega)).symm | exact doR_do hap (by omega))
            rw [h275]
            refine og 2 [(6, (Value.bool false)), (7, (ptr b13)), (9, (ptr b104)), (109, (Value.bool true)), (110, (ptr b13)), (111, (ptr b104))] 11 ?_
            refine Ops.call (by kernel_rfl) (d := (some 112)) (by kernel_rfl) (Same_calls _ b13 mb14 kb15 m149 (doS (doS SSa KKa p) (doK SSa KKa p) q) (doK (doS SSa KKa p) (doK SSa KKa p) q) b104 mb105 kb106 m223 (doS (doS SSa KKa q) (doK SSa KKa q) p) (doK (doS SSa KKa q) (doK SSa KKa q) p) H32 Hm154 Hk155 (by omega) hB156 H109 Hm228 Hk229 (by omega) hB230) ?_
            rintro _ w279 ⟨t276, rfl, ht277, K278⟩
            refine ⟨_, _, rfl, rfl, ?_⟩
            replace K28 := K28.trans K278 (U := none_) (fun i h1 h2 => h2) (fun i h1 h2 => by exact h2)
            replace H29 := H29.keep K278 (fun h => h)
            replace H30 := H30.keep K278 (fun h => h)
            replace H31 := H31.keep K278 (fun h => h)
            replace H32 := H32.keep K278 (fun h => h)
            replace Hm154 := Hm154.keep K278 (fun h => h)
            replace Hk155 := Hk155.keep K278 (fun h => h)
            replace H109 := H109.keep K278 (fun h => h)
            replace Hm228 := Hm228.keep K278 (fun h => h)
            replace Hk229 := Hk229.keep K278 (fun h => h)
            replace H147 := H147.keep K278 (fun h => h)
            replace H182 := H182.keep K278 (fun h => h)
            replace H221 := H221.keep K278 (fun h => h)
            replace H264 := H264.keep K278 (fun h => h)
            replace O127 := own_keep0 O127 K278
            replace O158 := own_keep0 O158 K278
            replace O193 := own_keep0 O193 K278
            replace O232 := own_keep0 O232 K278
            clear K278
            refine og 2 [(6, (Value.bool false)), (7, (ptr b13)), (9, (ptr b104)), (114, (Value.bool t276))] 14 ?_
            have h280 : t276 = true := ht277.2 ⟨hapS, doK_comm hap⟩
            rw [h280]
            refine og 1 [(6, (Value.bool false)), (9, (ptr b104)), (114, (Value.bool true)), (115, (ptr b13))] 15 ?_
            refine Ops.call (by kernel_rfl) (d := (some 116)) (by kernel_rfl) (Text_calls _ b13 mb14 kb15 m149 (doS (doS SSa KKa p) (doK SSa KKa p) q) (doK (doS SSa KKa p) (doK SSa KKa p) q) tb H32 Hm154 Hk155 (by omega) hB156 H29 (by first | omega | decide) (by first | omega | decide)) ?_
            rintro _ w282 ⟨rfl, K281⟩
            refine ⟨_, _, rfl, rfl, ?_⟩
            replace K28 := K28.trans K281 (U := none_) (fun i h1 h2 => h2) (fun i h1 h2 => by exact h2)
            replace H29 := H29.keep K281 (fun h => h)
            replace H30 := H30.keep K281 (fun h => h)
            replace H31 := H31.keep K281 (fun h => h)
            replace H32 := H32.keep K281 (fun h => h)
            replace Hm154 := Hm154.keep K281 (fun h => h)
            replace Hk155 := Hk155.keep K281 (fun h => h)
            replace H109 := H109.keep K281 (fun h => h)
            replace Hm228 := Hm228.keep K281 (fun h => h)
            replace Hk229 := Hk229.keep K281 (fun h => h)
            replace H147 := H147.keep K281 (fun h => h)
            replace H182 := H182.keep K281 (fun h => h)
            replace H221 := H221.keep K281 (fun h => h)
            replace H264 := H264.keep K281 (fun h => h)
            replace O127 := own_keep0 O127 K281
            replace O158 := own_keep0 O158 K281
            replace O193 := own_keep0 O193 K281
            replace O232 := own_keep0 O232 K281
            clear K281
            refine og 1 [(6, (Value.bool false)), (114, (Value.bool true)), (116, (Value.string (str (textE (doS (doS SSa KKa p) (doK SSa KKa p) q) (doK (doS SSa KKa p) (doK SSa KKa p) q))))), (117, (ptr b104))] 17 ?_
            refine Ops.call (by kernel_rfl) (d := (some 118)) (by kernel_rfl) (Text_calls _ b104 mb105 kb106 m223 (doS (doS SSa KKa q) (doK SSa KKa q) p) (doK (doS SSa KKa q) (doK SSa KKa q) p) tb H109 Hm228 Hk229 (by omega) hB230 H29 (by first | omega | decide) (by first | omega | decide)) ?_
            rintro _ w284 ⟨rfl, K283⟩
            refine ⟨_, _, rfl, rfl, ?_⟩
            replace K28 := K28.trans K283 (U := none_) (fun i h1 h2 => h2) (fun i h1 h2 => by exact h2)
            replace H29 := H29.keep K283 (fun h => h)
            replace H30 := H30.keep K283 (fun h => h)
            replace H31 := H31.keep K283 (fun h => h)
            replace H32 := H32.keep K283 (fun h => h)
            replace Hm154 := Hm154.keep K283 (fun h => h)
            replace Hk155 := Hk155.keep K283 (fun h => h)
            replace H109 := H109.keep K283 (fun h => h)
            replace Hm228 := Hm228.keep K283 (fun h => h)
            replace Hk229 := Hk229.keep K283 (fun h => h)
            replace H147 := H147.keep K283 (fun h => h)
            replace H182 := H182.keep K283 (fun h => h)
            replace H221 := H221.keep K283 (fun h => h)
            replace H264 := H264.keep K283 (fun h => h)
            replace O127 := own_keep0 O127 K283
            replace O158 := own_keep0 O158 K283
            replace O193 := own_keep0 O193 K283
            replace O232 := own_keep0 O232 K283
            clear K283
            refine Ops.go (v := (Value.bool ((textE (doS (doS SSa KKa p) (doK SSa KKa p) q) (doK (doS SSa KKa p) (doK SSa KKa p) q)) == (textE (doS (doS SSa KKa q) (doK SSa KKa q) p) (doK (doS SSa KKa q) (doK SSa KKa q) p))))) (by kernel_rfl) (Runs.streq (t := 9) (by kernel_rfl)) (d := (some 119)) (by kernel_rfl) rfl ?_
            refine og 2 [(6, (Value.bool false)), (121, (Value.bool ((textE (doS (doS SSa KKa p) (doK SSa KKa p) q) (doK (doS SSa KKa p) (doK SSa KKa p) q)) == (textE (doS (doS SSa KKa q) (doK SSa KKa q) p) (doK (doS SSa KKa q) (doK SSa KKa q) p)))))] 21 ?_
            have h285 : ((textE (doS (doS SSa KKa p) (doK SSa KKa p) q) (doK (doS SSa KKa p) (doK SSa KKa p) q)) == (textE (doS (doS SSa KKa q) (doK SSa KKa q) p) (doK (doS SSa KKa q) (doK SSa KKa q) p))) = true := by unfold textE; rw [hapS, sortK_of_perm hB156.ledg.ids (doK_comm hap)]; simp
            rw [h285]
            refine Ops.call (by kernel_rfl) (d := (some 122)) (by kernel_rfl) (known_calls _ tb H29) ?_
            rintro _ w287 ⟨rfl, K286⟩
            refine ⟨_, _, rfl, rfl, ?_⟩
            replace K28 := K28.trans K286 (U := none_) (fun i h1 h2 => h2) (fun i h1 h2 => by exact h2)
            replace H29 := H29.keep K286 (fun h => h)
            replace H30 := H30.keep K286 (fun h => h)
            replace H31 := H31.keep K286 (fun h => h)
            replace H32 := H32.keep K286 (fun h => h)
            replace Hm154 := Hm154.keep K286 (fun h => h)
            replace Hk155 := Hk155.keep K286 (fun h => h)
            replace H109 := H109.keep K286 (fun h => h)
            replace Hm228 := Hm228.keep K286 (fun h => h)
            replace Hk229 := Hk229.keep K286 (fun h => h)
            replace H147 := H147.keep K286 (fun h => h)
            replace H182 := H182.keep K286 (fun h => h)
            replace H221 := H221.keep K286 (fun h => h)
            replace H264 := H264.keep K286 (fun h => h)
            replace O127 := own_keep0 O127 K286
            replace O158 := own_keep0 O158 K286
            replace O193 := own_keep0 O193 K286
            replace O232 := own_keep0 O232 K286
            clear K286
            refine og 2 [(6, (Value.bool true))] 24 ?_
            refine od ?_
            refine q_ret (by kernel_rfl) ?_
            refine ⟨(Value.bool true), retv_tmp rfl rfl, ?_⟩
            exact ⟨rfl, K28⟩
          ·rw [h97]
           have p288 : (p.to == q.to) = false := h97
           refine og 5 [(4, (ptr b1)), (5, (ptr b7)), (6, (Value.bool false)), (7, (ptr b13)), (83, (Value.bool false))] 51 ?_
           refine od ?_
           refine q_else (o := .tmp 83) (by kernel_rfl) rfl ?_
           refine q_skip (by kernel_rfl) ?_
           refine qs ?_
           refine qg ?_
           refine og 1 [(4, (ptr b1)), (5, (ptr b7)), (6, (Value.bool false)), (7, (ptr b13)), (85, (ptr b13))] 1 ?_
           refine Ops.call (by kernel_rfl) (d := (some 86)) (by kernel_rfl) (Copy_calls _ b13 mb14 kb15 mma SSa KKa H32 H33 H34 (by omega) hBma) ?_
           rintro _ w292 ⟨b289, mb290, kb291, rfl, K293, H294, Hm295, Hk296, hb297, hb298, hb299, hb300, hb301, hb302⟩
           have lb289tb : tb < b289 := by have := H29.lt; omega
           have lmb290tb : tb < mb290 := by have := H29.lt; omega
           have lkb291tb : tb < kb291 := by have := H29.lt; omega
           have lb289b1 : b1 < b289 := by have := H30.lt; omega
           have lmb290b1 : b1 < mb290 := by have := H30.lt; omega
           have lkb291b1 : b1 < kb291 := by have := H30.lt; omega
           have lb289b7 : b7 < b289 := by have := H31.lt; omega
           have lmb290b7 : b7 < mb290 := by have := H31.lt; omega
           have lkb291b7 : b7 < kb291 := by have := H31.lt; omega
           have lb289b13 : b13 < b289 := by have := H32.lt; omega
           have lmb290b13 : b13 < mb290 := by have := H32.lt; omega
           have lkb291b13 : b13 < kb291 := by have := H32.lt; omega
           have lb289mb14 : mb14 < b289 := by have := H33.lt; omega
           have lmb290mb14 : mb14 < mb290 := by have := H33.lt; omega
           have lkb291mb14 : mb14 < kb291 := by have := H33.lt; omega
           have lb289kb15 : kb15 < b289 := by have := H34.lt; omega
           have lmb290kb15 : kb15 < mb290 := by have := H34.lt; omega
           have lkb291kb15 : kb15 < kb291 := by have := H34.lt; omega
           have nb289 : w.heap.size ≤ b289 := by have := K28.size; omega
           have nmb290 : w.heap.size ≤ mb290 := by have := K28.size; omega
           have nkb291 : w.heap.size ≤ kb291 := by have := K28.size; omega
           refine ⟨_, _, rfl, rfl, ?_⟩
           replace K28 := K28.trans K293 (U := none_) (fun i h1 h2 => h2) (fun i h1 h2 => by exact h2)
           replace H29 := H29.keep K293 (fun h => h)
           replace H30 := H30.keep K293 (fun h => h)
           replace H31 := H31.keep K293 (fun h => h)
           replace H32 := H32.keep K293 (fun h => h)
           replace H33 := H33.keep K293 (fun h => h)
           replace H34 := H34.keep K293 (fun h => h)
           clear K293
           refine og 1 [(4, (ptr b1)), (5, (ptr b7)), (6, (Value.bool false)), (7, (ptr b13)), (9, (ptr b289))] 3 ?_
           refine od ?_
           refine qs ?_
           refine qs ?_
           refine qg ?_
           refine og 2 [(4, (ptr b1)), (5, (ptr b7)), (6, (Value.bool false)), (7, (ptr b13)), (9, (ptr b289)), (88, (Value.bool false))] 2 ?_
           refine od ?_
           refine q_else (o := .tmp 88) (by kernel_rfl) rfl ?_
           refine q_skip (by kernel_rfl) ?_
           refine qs ?_
           refine qg ?_
           refine og 1 [(4, (ptr b1)), (5, (ptr b7)), (6, (Value.bool false)), (7, (ptr b13)), (9, (ptr b289)), (89, (ptr b13))] 1 ?_
           refine Ops.go (v := (agg [(i64 p.kind), (Value.string (str p.frm)), (Value.string (str p.to)), (i64 p.amount), (Value.string (str p.key)), (i64 p.slot), (i64 p.shard)])) (by kernel_rfl) (Runs.load (t := 24) (a := ⟨b1, 0, none⟩) (by kernel_rfl) (H30.loads (by kernel_rfl))) (d := (some 90)) (by kernel_rfl) rfl ?_
           refine Ops.call (by kernel_rfl) (d := (some 91)) (by kernel_rfl) (Do_calls _ b13 mb14 kb15 mma SSa KKa p H32 H33 H34 (by omega) hBma (by first | omega | decide) (by first | omega | decide)) ?_
           rintro _ w306 ⟨m303, A304, c305, rfl, K307, Hm308, Hk309, hB310, hO311⟩
           have ob315 : ∀ i, ((Value.slice A304 ((doR SSa KKa p).rows.length) c305)).ownBlock = some i → i ≠ tb := fun i hi => by have := (World.ownsRow.lt hO311 i hi).1; have := H29.lt; omega
           have ob316 : ∀ i, ((Value.slice A304 ((doR SSa KKa p).rows.length) c305)).ownBlock = some i → i ≠ b1 := fun i hi => by have := (World.ownsRow.lt hO311 i hi).1; have := H30.lt; omega
           have ob317 : ∀ i, ((Value.slice A304 ((doR SSa KKa p).rows.length) c305)).ownBlock = some i → i ≠ b7 := fun i hi => by have := (World.ownsRow.lt hO311 i hi).1; have := H31.lt; omega
           have ob318 : ∀ i, ((Value.slice A304 ((doR SSa KKa p).rows.length) c305)).ownBlock = some i → i ≠ b13 := fun i hi => by have := (World.ownsRow.lt hO311 i hi).1; have := H32.lt; omega
           have ob319 : ∀ i, ((Value.slice A304 ((doR SSa KKa p).rows.length) c305)).ownBlock = some i → i ≠ mb14 := fun i hi => by have := (World.ownsRow.lt hO311 i hi).1; have := H33.lt; omega
           have ob320 : ∀ i, ((Value.slice A304 ((doR SSa KKa p).rows.length) c305)).ownBlock = some i → i ≠ kb15 := fun i hi => by have := (World.ownsRow.lt hO311 i hi).1; have := H34.lt; omega
           have ob321 : ∀ i, ((Value.slice A304 ((doR SSa KKa p).rows.length) c305)).ownBlock = some i → i ≠ b289 := fun i hi => by have := (World.ownsRow.lt hO311 i hi).1; have := H294.lt; omega
           have ob322 : ∀ i, ((Value.slice A304 ((doR SSa KKa p).rows.length) c305)).ownBlock = some i → i ≠ mb290 := fun i hi => by have := (World.ownsRow.lt hO311 i hi).1; have := Hm295.lt; omega
           have ob323 : ∀ i, ((Value.slice A304 ((doR SSa KKa p).rows.length) c305)).ownBlock = some i → i ≠ kb291 := fun i hi => by have := (World.ownsRow.lt hO311 i hi).1; have := Hk296.lt; omega
           have O312 := own_base hO311 K28.size
           clear hO311
           have hl313 := hB310.ledg.le
           have hl314 := doK_len SSa KKa p
           refine ⟨_, _, rfl, rfl, ?_⟩
           replace K28 := K28.trans K307 (U := none_) (fun i h1 h2 => h2) (fun i h1 h2 => by have h2 : i = mb14 ∨ i = kb15 := h2; exfalso; omega)
           replace H29 := H29.keep K307 (by intro h; change tb = mb14 ∨ tb = kb15 at h; omega)
           replace H30 := H30.keep K307 (by intro h; change b1 = mb14 ∨ b1 = kb15 at h; omega)
           replace H31 := H31.keep K307 (by intro h; change b7 = mb14 ∨ b7 = kb15 at h; omega)
           replace H32 := H32.keep K307 (by intro h; change b13 = mb14 ∨ b13 = kb15 at h; omega)
           replace H294 := H294.keep K307 (by intro h; change b289 = mb14 ∨ b289 = kb15 at h; omega)
           replace Hm295 := Hm295.keep K307 (by intro h; change mb290 = mb14 ∨ mb290 = kb15 at h; omega)
           replace Hk296 := Hk296.keep K307 (by intro h; change kb291 = mb14 ∨ kb291 = kb15 at h; omega)
           clear K307
           refine Ops.new (o := rowL [(i64 0), (i64 0), (Value.slice none 0 0)] 30) (V := fun b => (ptr b)) (by kernel_rfl) (d := (some 10)) (by kernel_rfl) (fun b => rfl) (fun b324 w325 hb326 H327 K328 hs329 => ?_)
           have lb324tb : tb < b324 := by have := H29.lt; omega
           have lb324b1 : b1 < b324 := by have := H30.lt; omega
           have lb324b7 : b7 < b324 := by have := H31.lt; omega
           have lb324b13 : b13 < b324 := by have := H32.lt; omega
           have lb324mb14 : mb14 < b324 := by have := Hm308.lt; omega
           have lb324kb15 : kb15 < b324 := by have := Hk309.lt; omega
           have lb324b289 : b289 < b324 := by have := H294.lt; omega
           have lb324mb290 : mb290 < b324 := by have := Hm295.lt; omega
           have lb324kb291 : kb291 < b324 := by have := Hk296.lt; omega
           have nb324 : w.heap.size ≤ b324 := by have := K28.size; omega
           have ob330 : ∀ i, ((Value.slice A304 ((doR SSa KKa p).rows.length) c305)).ownBlock = some i → i < b324 := fun i hi => by have := (World.ownsRow.lt O312 i hi).2; omega
           replace K28 := K28.trans K328 (U := none_) (fun i h1 h2 => h2) (fun i h1 h2 => by exact h2)
           replace H29 := H29.keep K328 (fun h => h)
           replace H30 := H30.keep K328 (fun h => h)
           replace H31 := H31.keep K328 (fun h => h)
           replace H32 := H32.keep K328 (fun h => h)
           replace Hm308 := Hm308.keep K328 (fun h => h)
           replace Hk309 := Hk309.keep K328 (fun h => h)
           replace H294 := H294.keep K328 (fun h => h)
           replace Hm295 := Hm295.keep K328 (fun h => h)
           replace Hk296 := Hk296.keep K328 (fun h => h)
           replace O312 := own_keep0 O312 K328
           clear K328 hs329
           refine Ops.put (t := 30) (b := b324) (off := 0) (v := (agg [(i64 ((doR SSa KKa p).why)), (i64 ((doR SSa KKa p).amount)), (Value.slice A304 ((doR SSa KKa p).rows.length) c305)])) (ys := [(i64 ((doR SSa KKa p).why)), (i64 ((doR SSa KKa p).amount)), (Value.slice A304 ((doR SSa KKa p).rows.length) c305)]) (by kernel_rfl) (by kernel_rfl) H327 (by kernel_rfl) (d := none) (by kernel_rfl) rfl (fun w331 H332 K333 => ?_)
           clear H327
           replace K28 := K28.trans K333 (U := none_) (fun i h1 h2 => h2) (fun i h1 h2 => by have h2 : i = b324 := h2; exfalso; omega)
           replace H29 := H29.keep K333 (by intro h; change tb = b324 at h; omega)
           replace H30 := H30.keep K333 (by intro h; change b1 = b324 at h; omega)
           replace H31 := H31.keep K333 (by intro h; change b7 = b324 at h; omega)
           replace H32 := H32.keep K333 (by intro h; change b13 = b324 at h; omega)
           replace Hm308 := Hm308.keep K333 (by intro h; change mb14 = b324 at h; omega)
           replace Hk309 := Hk309.keep K333 (by intro h; change kb15 = b324 at h; omega)
           replace H294 := H294.keep K333 (by intro h; change b289 = b324 at h; omega)
           replace Hm295 := Hm295.keep K333 (by intro h; change mb290 = b324 at h; omega)
           replace Hk296 := Hk296.keep K333 (by intro h; change kb291 = b324 at h; omega)
           replace O312 := own_keep O312 K333 (fun i hi hs => by have hs : i = b324 := hs; have := ob330 i hi; omega)
           clear K333
           refine od ?_
           refine qs ?_
           refine qg ?_
           refine og 1 [(4, (ptr b1)), (5, (ptr b7)), (6, (Value.bool false)), (7, (ptr b13)), (9, (ptr b289)), (10, (ptr b324)), (92, (ptr b13))] 1 ?_
           refine Ops.go (v := (agg [(i64 q.kind), (Value.string (str q.frm)), (Value.string (str q.to)), (i64 q.amount), (Value.string (str q.key)), (i64 q.slot), (i64 q.shard)])) (by kernel_rfl) (Runs.load (t := 24) (a := ⟨b7, 0, none⟩) (by kernel_rfl) (H31.loads (by kernel_rfl))) (d := (some 93)) (by kernel_rfl) rfl ?_
           refine Ops.call (by kernel_rfl) (d := (some 94)) (by kernel_rfl) (Do_calls _ b13 mb14 kb15 m303 (doS SSa KKa p) (doK SSa KKa p) q H32 Hm308 Hk309 (by omega) hB310 (by first | omega | decide) (by first | omega | decide)) ?_
           rintro _ w337 ⟨m334, A335, c336, rfl, K338, Hm339, Hk340, hB341, hO342⟩
           have ob346 : ∀ i, ((Value.slice A335 ((doR (doS SSa KKa p) (doK SSa KKa p) q).rows.length) c336)).ownBlock = some i → i ≠ tb := fun i hi => by have := (World.ownsRow.lt hO342 i hi).1; have := H29.lt; omega
           have ob347 : ∀ i, ((Value.slice A335 ((doR (doS SSa KKa p) (doK SSa KKa p) q).rows.length) c336)).ownBlock = some i → i ≠ b1 := fun i hi => by have := (World.ownsRow.lt hO342 i hi).1; have := H30.lt; omega
           have ob348 : ∀ i, ((Value.slice A335 ((doR (doS SSa KKa p) (doK SSa KKa p) q).rows.length) c336)).ownBlock = some i → i ≠ b7 := fun i hi => by have := (World.ownsRow.lt hO342 i hi).1; have := H31.lt; omega
           have ob349 : ∀ i, ((Value.slice A335 ((doR (doS SSa KKa p) (doK SSa KKa p) q).rows.length) c336)).ownBlock = some i → i ≠ b13 := fun i hi => by have := (World.ownsRow.lt hO342 i hi).1; have := H32.lt; omega
           have ob350 : ∀ i, ((Value.slice A335 ((doR (doS SSa KKa p) (doK SSa KKa p) q).rows.length) c336)).ownBlock = some i → i ≠ mb14 := fun i hi => by have := (World.ownsRow.lt hO342 i hi).1; have := Hm308.lt; omega
           have ob351 : ∀ i, ((Value.slice A335 ((doR (doS SSa KKa p) (doK SSa KKa p) q).rows.length) c336)).ownBlock = some i → i ≠ kb15 := fun i hi => by have := (World.ownsRow.lt hO342 i hi).1; have := Hk309.lt; omega
           have ob352 : ∀ i, ((Value.slice A335 ((doR (doS SSa KKa p) (doK SSa KKa p) q).rows.length) c336)).ownBlock = some i → i ≠ b289 := fun i hi => by have := (World.ownsRow.lt hO342 i hi).1; have := H294.lt; omega
           have ob353 : ∀ i, ((Value.slice A335 ((doR (doS SSa KKa p) (doK SSa KKa p) q).rows.length) c336)).ownBlock = some i → i ≠ mb290 := fun i hi => by have := (World.ownsRow.lt hO342 i hi).1; have := Hm295.lt; omega
           have ob354 : ∀ i, ((Value.slice A335 ((doR (doS SSa KKa p) (doK SSa KKa p) q).rows.length) c336)).ownBlock = some i → i ≠ kb291 := fun i hi => by have := (World.ownsRow.lt hO342 i hi).1; have := Hk296.lt; omega
           have ob355 : ∀ i, ((Value.slice A335 ((doR (doS SSa KKa p) (doK SSa KKa p) q).rows.length) c336)).ownBlock = some i → i ≠ b324 := fun i hi => by have := (World.ownsRow.lt hO342 i hi).1; have := H332.lt; omega
           have oo356 : ∀ i, ((Value.slice A304 ((doR SSa KKa p).rows.length) c305)).ownBlock = some i → ((Value.slice A335 ((doR (doS SSa KKa p) (doK SSa KKa p) q).rows.length) c336)).ownBlock = some i → False := fun i hi hs => by have := (World.ownsRow.lt hO342 i hs).1; have := (World.ownsRow.lt O312 i hi).2; omega
           have oo357 : ∀ i, ((Value.slice A335 ((doR (doS SSa KKa p) (doK SSa KKa p) q).rows.length) c336)).ownBlock = some i → ((Value.slice A304 ((doR SSa KKa p).rows.length) c305)).ownBlock = some i → False := fun i hi hs => oo356 i hs hi
           have O343 := own_base hO342 K28.size
           clear hO342
           have hl344 := hB341.ledg.le
           have hl345 := doK_len (doS SSa KKa p) (doK SSa KKa p) q
           refine ⟨_, _, rfl, rfl, ?_⟩
           replace K28 := K28.trans K338 (U := none_) (fun i h1 h2 => h2) (fun i h1 h2 => by have h2 : i = mb14 ∨ i = kb15 := h2; exfalso; omega)
           replace H29 := H29.keep K338 (by intro h; change tb = mb14 ∨ tb = kb15 at h; omega)
           replace H30 := H30.keep K338 (by intro h; change b1 = mb14 ∨ b1 = kb15 at h; omega)
           replace H31 := H31.keep K338 (by intro h; change b7 = mb14 ∨ b7 = kb15 at h; omega)
           replace H32 := H32.keep K338 (by intro h; change b13 = mb14 ∨ b13 = kb15 at h; omega)
           replace H294 := H294.keep K338 (by intro h; change b289 = mb14 ∨ b289 = kb15 at h; omega)
           replace Hm295 := Hm295.keep K338 (by intro h; change mb290 = mb14 ∨ mb290 = kb15 at h; omega)
           replace Hk296 := Hk296.keep K338 (by intro h; change kb291 = mb14 ∨ kb291 = kb15 at h; omega)
           replace H332 := H332.keep K338 (by intro h; change b324 = mb14 ∨ b324 = kb15 at h; omega)
           replace O312 := own_keep O312 K338 (fun i hi hs => by have hs : i = mb14 ∨ i = kb15 := hs; rcases hs with hs | hs; (have := ob319 i hi; omega); (have := ob320 i hi; omega))
           clear K338
           refine Ops.new (o := rowL [(i64 0), (i64 0), (Value.slice none 0 0)] 30) (V := fun b => (ptr b)) (by kernel_rfl) (d := (some 11)) (by kernel_rfl) (fun b => rfl) (fun b358 w359 hb360 H361 K362 hs363 => ?_)
           have lb358tb : tb < b358 := by have := H29.lt; omega
           have lb358b1 : b1 < b358 := by have := H30.lt; omega
           have lb358b7 : b7 < b358 := by have := H31.lt; omega
           have lb358b13 : b13 < b358 := by have := H32.lt; omega
           have lb358mb14 : mb14 < b358 := by have := Hm339.lt; omega
           have lb358kb15 : kb15 < b358 := by have := Hk340.lt; omega
           have lb358b289 : b289 < b358 := by have := H294.lt; omega
           have lb358mb290 : mb290 < b358 := by have := Hm295.lt; omega
           have lb358kb291 : kb291 < b358 := by have := Hk296.lt; omega
           have lb358b324 : b324 < b358 := by have := H332.lt; omega
           have nb358 : w.heap.size ≤ b358 := by have := K28.size; omega
           have ob364 : ∀ i, ((Value.slice A304 ((doR SSa KKa p).rows.length) c305)).ownBlock = some i → i < b358 := fun i hi => by have := (World.ownsRow.lt O312 i hi).2; omega
           have ob365 : ∀ i, ((Value.slice A335 ((doR (doS SSa KKa p) (doK SSa KKa p) q).rows.length) c336)).ownBlock = some i → i < b358 := fun i hi => by have := (World.ownsRow.lt O343 i hi).2; omega
           replace K28 := K28.trans K362 (U := none_) (fun i h1 h2 => h2) (fun i h1 h2 => by exact h2)
           replace H29 := H29.keep K362 (fun h => h)
           replace H30 := H30.keep K362 (fun h => h)
           replace H31 := H31.keep K362 (fun h => h)
           replace H32 := H32.keep K362 (fun h => h)
           replace Hm339 := Hm339.keep K362 (fun h => h)
           replace Hk340 := Hk340.keep K362 (fun h => h)
           replace H294 := H294.keep K362 (fun h => h)
           replace Hm295 := Hm295.keep K362 (fun h => h)
           replace Hk296 := Hk296.keep K362 (fun h => h)
           replace H332 := H332.keep K362 (fun h => h)
           replace O312 := own_keep0 O312 K362
           replace O343 := own_keep0 O343 K362
           clear K362 hs363
           refine Ops.put (t := 30) (b := b358) (off := 0) (v := (agg [(i64 ((doR (doS SSa KKa p) (doK SSa KKa p) q).why)), (i64 ((doR (doS SSa KKa p) (doK SSa KKa p) q).amount)), (Value.slice A335 ((doR (doS SSa KKa p) (doK SSa KKa p) q).rows.length) c336)])) (ys := [(i64 ((doR (doS SSa KKa p) (doK SSa KKa p) q).why)), (i64 ((doR (doS SSa KKa p) (doK SSa KKa p) q).amount)), (Value.slice A335 ((doR (doS SSa KKa p) (doK SSa KKa p) q).rows.length) c336)]) (by kernel_rfl) (by kernel_rfl) H361 (by kernel_rfl) (d := none) (by kernel_rfl) rfl (fun w366 H367 K368 => ?_)
           clear H361
           replace K28 := K28.trans K368 (U := none_) (fun i h1 h2 => h2) (fun i h1 h2 => by have h2 : i = b358 := h2; exfalso; omega)
           replace H29 := H29.keep K368 (by intro h; change tb = b358 at h; omega)
           replace H30 := H30.keep K368 (by intro h; change b1 = b358 at h; omega)
           replace H31 := H31.keep K368 (by intro h; change b7 = b358 at h; omega)
           replace H32 := H32.keep K368 (by intro h; change b13 = b358 at h; omega)
           replace Hm339 := Hm339.keep K368 (by intro h; change mb14 = b358 at h; omega)
           replace Hk340 := Hk340.keep K368 (by intro h; change kb15 = b358 at h; omega)
           replace H294 := H294.keep K368 (by intro h; change b289 = b358 at h; omega)
           replace Hm295 := Hm295.keep K368 (by intro h; change mb290 = b358 at h; omega)
           replace Hk296 := Hk296.keep K368 (by intro h; change kb291 = b358 at h; omega)
           replace H332 := H332.keep K368 (by intro h; change b324 = b358 at h; omega)
           replace O312 := own_keep O312 K368 (fun i hi hs => by have hs : i = b358 := hs; have := ob364 i hi; omega)
           replace O343 := own_keep O343 K368 (fun i hi hs => by have hs : i = b358 := hs; have := ob365 i hi; omega)
           clear K368
           refine od ?_
           refine qs ?_
           refine qg ?_
           refine og 1 [(4, (ptr b1)), (5, (ptr b7)), (6, (Value.bool false)), (7, (ptr b13)), (9, (ptr b289)), (10, (ptr b324)), (11, (ptr b358)), (95, (ptr b289))] 1 ?_
           refine Ops.go (v := (agg [(i64 q.kind), (Value.string (str q.frm)), (Value.string (str q.to)), (i64 q.amount), (Value.string (str q.key)), (i64 q.slot), (i64 q.shard)])) (by kernel_rfl) (Runs.load (t := 24) (a := ⟨b7, 0, none⟩) (by kernel_rfl) (H31.loads (by kernel_rfl))) (d := (some 96)) (by kernel_rfl) rfl ?_
           refine Ops.call (by kernel_rfl) (d := (some 97)) (by kernel_rfl) (Do_calls _ b289 mb290 kb291 mma SSa KKa q H294 Hm295 Hk296 (by omega) hBma (by first | omega | decide) (by first | omega | decide)) ?_
           rintro _ w372 ⟨m369, A370, c371, rfl, K373, Hm374, Hk375, hB376, hO377⟩
           have ob381 : ∀ i, ((Value.slice A370 ((doR SSa KKa q).rows.length) c371)).ownBlock = some i → i ≠ tb := fun i hi => by have := (World.ownsRow.lt hO377 i hi).1; have := H29.lt; omega
           have ob382 : ∀ i, ((Value.slice A370 ((doR SSa KKa q).rows.length) c371)).ownBlock = some i → i ≠ b1 := fun i hi => by have := (World.ownsRow.lt hO377 i hi).1; have := H30.lt; omega
           have ob383 : ∀ i, ((Value.slice A370 ((doR SSa KKa q).rows.length) c371)).ownBlock = some i → i ≠ b7 := fun i hi => by have := (World.ownsRow.lt hO377 i hi).1; have := H31.lt; omega
           have ob384 : ∀ i, ((Value.slice A370 ((doR SSa KKa q).rows.length) c371)).ownBlock = some i → i ≠ b13 := fun i hi => by have := (World.ownsRow.lt hO377 i hi).1; have := H32.lt; omega
           have ob385 : ∀ i, ((Value.slice A370 ((doR SSa KKa q).rows.length) c371)).ownBlock = some i → i ≠ mb14 := fun i hi => by have := (World.ownsRow.lt hO377 i hi).1; have := Hm339.lt; omega
           have ob386 : ∀ i, ((Value.slice A370 ((doR SSa KKa q).rows.length) c371)).ownBlock = some i → i ≠ kb15 := fun i hi => by have := (World.ownsRow.lt hO377 i hi).1; have := Hk340.lt; omega
           have ob387 : ∀ i, ((Value.slice A370 ((doR SSa KKa q).rows.length) c371)).ownBlock = some i → i ≠ b289 := fun i hi => by have := (World.ownsRow.lt hO377 i hi).1; have := H294.lt; omega
           have ob388 : ∀ i, ((Value.slice A370 ((doR SSa KKa q).rows.length) c371)).ownBlock = some i → i ≠ mb290 := fun i hi => by have := (World.ownsRow.lt hO377 i hi).1; have := Hm295.lt; omega
           have ob389 : ∀ i, ((Value.slice A370 ((doR SSa KKa q).rows.length) c371)).ownBlock = some i → i ≠ kb291 := fun i hi => by have := (World.ownsRow.lt hO377 i hi).1; have := Hk296.lt; omega
           have ob390 : ∀ i, ((Value.slice A370 ((doR SSa KKa q).rows.length) c371)).ownBlock = some i → i ≠ b324 := fun i hi => by have := (World.ownsRow.lt hO377 i hi).1; have := H332.lt; omega
           have ob391 : ∀ i, ((Value.slice A370 ((doR SSa KKa q).rows.length) c371)).ownBlock = some i → i ≠ b358 := fun i hi => by have := (World.ownsRow.lt hO377 i hi).1; have := H367.lt; omega
           have oo392 : ∀ i, ((Value.slice A304 ((doR SSa KKa p).rows.length) c305)).ownBlock = some i → ((Value.slice A370 ((doR SSa KKa q).rows.length) c371)).ownBlock = some i → False := fun i hi hs => by have := (World.ownsRow.lt hO377 i hs).1; have := (World.ownsRow.lt O312 i hi).2; omega
           have oo393 : ∀ i, ((Value.slice A370 ((doR SSa KKa q).rows.length) c371)).ownBlock = some i → ((Value.slice A304 ((doR SSa KKa p).rows.length) c305)).ownBlock = some i → False := fun i hi hs => oo392 i hs hi
           have oo394 : ∀ i, ((Value.slice A335 ((doR (doS SSa KKa p) (doK SSa KKa p) q).rows.length) c336)).ownBlock = some i → ((Value.slice A370 ((doR SSa KKa q).rows.length) c371)).ownBlock = some i → False := fun i hi hs => by have := (World.ownsRow.lt hO377 i hs).1; have := (World.ownsRow.lt O343 i hi).2; omega
           have oo395 : ∀ i, ((Value.slice A370 ((doR SSa KKa q).rows.length) c371)).ownBlock = some i → ((Value.slice A335 ((doR (doS SSa KKa p) (doK SSa KKa p) q).rows.length) c336)).ownBlock = some i → False := fun i hi hs => oo394 i hs hi
           have O378 := own_base hO377 K28.size
           clear hO377
           have hl379 := hB376.ledg.le
           have hl380 := doK_len SSa KKa q
           refine ⟨_, _, rfl, rfl, ?_⟩
           replace K28 := K28.trans K373 (U := none_) (fun i h1 h2 => h2) (fun i h1 h2 => by have h2 : i = mb290 ∨ i = kb291 := h2; exfalso; omega)
           replace H29 := H29.keep K373 (by intro h; change tb = mb290 ∨ tb = kb291 at h; omega)
           replace H30 := H30.keep K373 (by intro h; change b1 = mb290 ∨ b1 = kb291 at h; omega)
           replace H31 := H31.keep K373 (by intro h; change b7 = mb290 ∨ b7 = kb291 at h; omega)
           replace H32 := H32.keep K373 (by intro h; change b13 = mb290 ∨ b13 = kb291 at h; omega)
           replace Hm339 := Hm339.keep K373 (by intro h; change mb14 = mb290 ∨ mb14 = kb291 at h; omega)
           replace Hk340 := Hk340.keep K373 (by intro h; change kb15 = mb290 ∨ kb15 = kb291 at h; omega)
           replace H294 := H294.keep K373 (by intro h; change b289 = mb290 ∨ b289 = kb291 at h; omega)
           replace H332 := H332.keep K373 (by intro h; change b324 = mb290 ∨ b324 = kb291 at h; omega)
           replace H367 := H367.keep K373 (by intro h; change b358 = mb290 ∨ b358 = kb291 at h; omega)
           replace O312 := own_keep O312 K373 (fun i hi hs => by have hs : i = mb290 ∨ i = kb291 := hs; rcases hs with hs | hs; (have := ob322 i hi; omega); (have := ob323 i hi; omega))
           replace O343 := own_keep O343 K373 (fun i hi hs => by have hs : i = mb290 ∨ i = kb291 := hs; rcases hs with hs | hs; (have := ob353 i hi; omega); (have := ob354 i hi; omega))
           clear K373
           refine Ops.new (o := rowL [(i64 0), (i64 0), (Value.slice none 0 0)] 30) (V := fun b => (ptr b)) (by kernel_rfl) (d := (some 12)) (by kernel_rfl) (fun b => rfl) (fun b396 w397 hb398 H399 K400 hs401 => ?_)
           have lb396tb : tb < b396 := by have := H29.lt; omega
           have lb396b1 : b1 < b396 := by have := H30.lt; omega
           have lb396b7 : b7 < b396 := by have := H31.lt; omega
           have lb396b13 : b13 < b396 := by have := H32.lt; omega
           have lb396mb14 : mb14 < b396 := by have := Hm339.lt; omega
           have lb396kb15 : kb15 < b396 := by have := Hk340.lt; omega
           have lb396b289 : b289 < b396 := by have := H294.lt; omega
           have lb396mb290 : mb290 < b396 := by have := Hm374.lt; omega
           have lb396kb291 : kb291 < b396 := by have := Hk375.lt; omega
           have lb396b324 : b324 < b396 := by have := H332.lt; omega
           have lb396b358 : b358 < b396 := by have := H367.lt; omega
           have nb396 : w.heap.size ≤ b396 := by have := K28.size; omega
           have ob402 : ∀ i, ((Value.slice A304 ((doR SSa KKa p).rows.length) c305)).ownBlock = some i → i < b396 := fun i hi => by have := (World.ownsRow.lt O312 i hi).2; omega
           have ob403 : ∀ i, ((Value.slice A335 ((doR (doS SSa KKa p) (doK SSa KKa p) q).rows.length) c336)).ownBlock = some i → i < b396 := fun i hi => by have := (World.ownsRow.lt O343 i hi).2; omega
           have ob404 : ∀ i, ((Value.slice A370 ((doR SSa KKa q).rows.length) c371)).ownBlock = some i → i < b396 := fun i hi => by have := (World.ownsRow.lt O378 i hi).2; omega
           replace K28 := K28.trans K400 (U := none_) (fun i h1 h2 => h2) (fun i h1 h2 => by exact h2)
           replace H29 := H29.keep K400 (fun h => h)
           replace H30 := H30.keep K400 (fun h => h)
           replace H31 := H31.keep K400 (fun h => h)
           replace H32 := H32.keep K400 (fun h => h)
           replace Hm339 := Hm339.keep K400 (fun h => h)
           replace Hk340 := Hk340.keep K400 (fun h => h)
           replace H294 := H294.keep K400 (fun h => h)
           replace Hm374 := Hm374.keep K400 (fun h => h)
           replace Hk375 := Hk375.keep K400 (fun h => h)
           replace H332 := H332.keep K400 (fun h => h)
           replace H367 := H367.keep K400 (fun h => h)
           replace O312 := own_keep0 O312 K400
           replace O343 := own_keep0 O343 K400
           replace O378 := own_keep0 O378 K400
           clear K400 hs401
           refine Ops.put (t := 30) (b := b396) (off := 0) (v := (agg [(i64 ((doR SSa KKa q).why)), (i64 ((doR SSa KKa q).amount)), (Value.slice A370 ((doR SSa KKa q).rows.length) c371)])) (ys := [(i64 ((doR SSa KKa q).why)), (i64 ((doR SSa KKa q).amount)), (Value.slice A370 ((doR SSa KKa q).rows.length) c371)]) (by kernel_rfl) (by kernel_rfl) H399 (by kernel_rfl) (d := none) (by kernel_rfl) rfl (fun w405 H406 K407 => ?_)
           clear H399
           replace K28 := K28.trans K407 (U := none_) (fun i h1 h2 => h2) (fun i h1 h2 => by have h2 : i = b396 := h2; exfalso; omega)
           replace H29 := H29.keep K407 (by intro h; change tb = b396 at h; omega)
           replace H30 := H30.keep K407 (by intro h; change b1 = b396 at h; omega)
           replace H31 := H31.keep K407 (by intro h; change b7 = b396 at h; omega)
           replace H32 := H32.keep K407 (by intro h; change b13 = b396 at h; omega)
           replace Hm339 := Hm339.keep K407 (by intro h; change mb14 = b396 at h; omega)
           replace Hk340 := Hk340.keep K407 (by intro h; change kb15 = b396 at h; omega)
           replace H294 := H294.keep K407 (by intro h; change b289 = b396 at h; omega)
           replace Hm374 := Hm374.keep K407 (by intro h; change mb290 = b396 at h; omega)
           replace Hk375 := Hk375.keep K407 (by intro h; change kb291 = b396 at h; omega)
           replace H332 := H332.keep K407 (by intro h; change b324 = b396 at h; omega)
           replace H367 := H367.keep K407 (by intro h; change b358 = b396 at h; omega)
           replace O312 := own_keep O312 K407 (fun i hi hs => by have hs : i = b396 := hs; have := ob402 i hi; omega)
           replace O343 := own_keep O343 K407 (fun i hi hs => by have hs : i = b396 := hs; have := ob403 i hi; omega)
           replace O378 := own_keep O378 K407 (fun i hi hs => by have hs : i = b396 := hs; have := ob404 i hi; omega)
           clear K407
           refine od ?_
           refine qs ?_
           refine qg ?_
           refine og 1 [(4, (ptr b1)), (6, (Value.bool false)), (7, (ptr b13)), (9, (ptr b289)), (10, (ptr b324)), (11, (ptr b358)), (12, (ptr b396)), (98, (ptr b289))] 1 ?_
           refine Ops.go (v := (agg [(i64 p.kind), (Value.string (str p.frm)), (Value.string (str p.to)), (i64 p.amount), (Value.string (str p.key)), (i64 p.slot), (i64 p.shard)])) (by kernel_rfl) (Runs.load (t := 24) (a := ⟨b1, 0, none⟩) (by kernel_rfl) (H30.loads (by kernel_rfl))) (d := (some 99)) (by kernel_rfl) rfl ?_
           refine Ops.call (by kernel_rfl) (d := (some 100)) (by kernel_rfl) (Do_calls _ b289 mb290 kb291 m369 (doS SSa KKa q) (doK SSa KKa q) p H294 Hm374 Hk375 (by omega) hB376 (by first | omega | decide) (by first | omega | decide)) ?_
           rintro _ w411 ⟨m408, A409, c410, rfl, K412, Hm413, Hk414, hB415, hO416⟩
           have ob420 : ∀ i, ((Value.slice A409 ((doR (doS SSa KKa q) (doK SSa KKa q) p).rows.length) c410)).ownBlock = some i → i ≠ tb := fun i hi => by have := (World.ownsRow.lt hO416 i hi).1; have := H29.lt; omega
           have ob421 : ∀ i, ((Value.slice A409 ((doR (doS SSa KKa q) (doK SSa KKa q) p).rows.length) c410)).ownBlock = some i → i ≠ b1 := fun i hi => by have := (World.ownsRow.lt hO416 i hi).1; have := H30.lt; omega
           have ob422 : ∀ i, ((Value.slice A409 ((doR (doS SSa KKa q) (doK SSa KKa q) p).rows.length) c410)).ownBlock = some i → i ≠ b7 := fun i hi => by have := (World.ownsRow.lt hO416 i hi).1; have := H31.lt; omega
           have ob423 : ∀ i, ((Value.slice A409 ((doR (doS SSa KKa q) (doK SSa KKa q) p).rows.length) c410)).ownBlock = some i → i ≠ b13 := fun i hi => by have := (World.ownsRow.lt hO416 i hi).1; have := H32.lt; omega
           have ob424 : ∀ i, ((Value.slice A409 ((doR (doS SSa KKa q) (doK SSa KKa q) p).rows.length) c410)).ownBlock = some i → i ≠ mb14 := fun i hi => by have := (World.ownsRow.lt hO416 i hi).1; have := Hm339.lt; omega
           have ob425 : ∀ i, ((Value.slice A409 ((doR (doS SSa KKa q) (doK SSa KKa q) p).rows.length) c410)).ownBlock = some i → i ≠ kb15 := fun i hi => by have := (World.ownsRow.lt hO416 i hi).1; have := Hk340.lt; omega
           have ob426 : ∀ i, ((Value.slice A409 ((doR (doS SSa KKa q) (doK SSa KKa q) p).rows.length) c410)).ownBlock = some i → i ≠ b289 := fun i hi => by have := (World.ownsRow.lt hO416 i hi).1; have := H294.lt; omega
           have ob427 : ∀ i, ((Value.slice A409 ((doR (doS SSa KKa q) (doK SSa KKa q) p).rows.length) c410)).ownBlock = some i → i ≠ mb290 := fun i hi => by have := (World.ownsRow.lt hO416 i hi).1; have := Hm374.lt; omega
           have ob428 : ∀ i, ((Value.slice A409 ((doR (doS SSa KKa q) (doK SSa KKa q) p).rows.length) c410)).ownBlock = some i → i ≠ kb291 := fun i hi => by have := (World.ownsRow.lt hO416 i hi).1; have := Hk375.lt; omega
           have ob429 : ∀ i, ((Value.slice A409 ((doR (doS SSa KKa q) (doK SSa KKa q) p).rows.length) c410)).ownBlock = some i → i ≠ b324 := fun i hi => by have := (World.ownsRow.lt hO416 i hi).1; have := H332.lt; omega
           have ob430 : ∀ i, ((Value.slice A409 ((doR (doS SSa KKa q) (doK SSa KKa q) p).rows.length) c410)).ownBlock = some i → i ≠ b358 := fun i hi => by have := (World.ownsRow.lt hO416 i hi).1; have := H367.lt; omega
           have ob431 : ∀ i, ((Value.slice A409 ((doR (doS SSa KKa q) (doK SSa KKa q) p).rows.length) c410)).ownBlock = some i → i ≠ b396 := fun i hi => by have := (World.ownsRow.lt hO416 i hi).1; have := H406.lt; omega
           have oo432 : ∀ i, ((Value.slice A304 ((doR SSa KKa p).rows.length) c305)).ownBlock = some i → ((Value.slice A409 ((doR (doS SSa KKa q) (doK SSa KKa q) p).rows.length) c410)).ownBlock = some i → False := fun i hi hs => by have := (World.ownsRow.lt hO416 i hs).1; have := (World.ownsRow.lt O312 i hi).2; omega
           have oo433 : ∀ i, ((Value.slice A409 ((doR (doS SSa KKa q) (doK SSa KKa q) p).rows.length) c410)).ownBlock = some i → ((Value.slice A304 ((doR SSa KKa p).rows.length) c305)).ownBlock = some i → False := fun i hi hs => oo432 i hs hi
           have oo434 : ∀ i, ((Value.slice A335 ((doR (doS SSa KKa p) (doK SSa KKa p) q).rows.length) c336)).ownBlock = some i → ((Value.slice A409 ((doR (doS SSa KKa q) (doK SSa KKa q) p).rows.length) c410)).ownBlock = some i → False := fun i hi hs => by have := (World.ownsRow.lt hO416 i hs).1; have := (World.ownsRow.lt O343 i hi).2; omega
           have oo435 : ∀ i, ((Value.slice A409 ((doR (doS SSa KKa q) (doK SSa KKa q) p).rows.length) c410)).ownBlock = some i → ((Value.slice A335 ((doR (doS SSa KKa p) (doK SSa KKa p) q).rows.length) c336)).ownBlock = some i → False := fun i hi hs => oo434 i hs hi
           have oo436 : ∀ i, ((Value.slice A370 ((doR SSa KKa q).rows.length) c371)).ownBlock = some i → ((Value.slice A409 ((doR (doS SSa KKa q) (doK SSa KKa q) p).rows.length) c410)).ownBlock = some i → False := fun i hi hs => by have := (World.ownsRow.lt hO416 i hs).1; have := (World.ownsRow.lt O378 i hi).2; omega
           have oo437 : ∀ i, ((Value.slice A409 ((doR (doS SSa KKa q) (doK SSa KKa q) p).rows.length) c410)).ownBlock = some i → ((Value.slice A370 ((doR SSa KKa q).rows.length) c371)).ownBlock = some i → False := fun i hi hs => oo436 i hs hi
           have O417 := own_base hO416 K28.size
           clear hO416
           have hl418 := hB415.ledg.le
           have hl419 := doK_len (doS SSa KKa q) (doK SSa KKa q) p
           refine ⟨_, _, rfl, rfl, ?_⟩
           replace K28 := K28.trans K412 (U := none_) (fun i h1 h2 => h2) (fun i h1 h2 => by have h2 : i = mb290 ∨ i = kb291 := h2; exfalso; omega)
           replace H29 := H29.keep K412 (by intro h; change tb = mb290 ∨ tb = kb291 at h; omega)
           replace H30 := H30.keep K412 (by intro h; change b1 = mb290 ∨ b1 = kb291 at h; omega)
           replace H31 := H31.keep K412 (by intro h; change b7 = mb290 ∨ b7 = kb291 at h; omega)
           replace H32 := H32.keep K412 (by intro h; change b13 = mb290 ∨ b13 = kb291 at h; omega)
           replace Hm339 := Hm339.keep K412 (by intro h; change mb14 = mb290 ∨ mb14 = kb291 at h; omega)
           replace Hk340 := Hk340.keep K412 (by intro h; change kb15 = mb290 ∨ kb15 = kb291 at h; omega)
           replace H294 := H294.keep K412 (by intro h; change b289 = mb290 ∨ b289 = kb291 at h; omega)
           replace H332 := H332.keep K412 (by intro h; change b324 = mb290 ∨ b324 = kb291 at h; omega)
           replace H367 := H367.keep K412 (by intro h; change b358 = mb290 ∨ b358 = kb291 at h; omega)
           replace H406 := H406.keep K412 (by intro h; change b396 = mb290 ∨ b396 = kb291 at h; omega)
           replace O312 := own_keep O312 K412 (fun i hi hs => by have hs : i = mb290 ∨ i = kb291 := hs; rcases hs with hs | hs; (have := ob322 i hi; omega); (have := ob323 i hi; omega))
           replace O343 := own_keep O343 K412 (fun i hi hs => by have hs : i = mb290 ∨ i = kb291 := hs; rcases hs with hs | hs; (have := ob353 i hi; omega); (have := ob354 i hi; omega))
           replace O378 := own_keep O378 K412 (fun i hi hs => by have hs : i = mb290 ∨ i = kb291 := hs; rcases hs with hs | hs; (have := ob388 i hi; omega); (have := ob389 i hi; omega))
           clear K412
           refine Ops.new (o := rowL [(i64 0), (i64 0), (Value.slice none 0 0)] 30) (V := fun b => (ptr b)) (by kernel_rfl) (d := (some 13)) (by kernel_rfl) (fun b => rfl) (fun b438 w439 hb440 H441 K442 hs443 => ?_)
           have lb438tb : tb < b438 := by have := H29.lt; omega
           have lb438b1 : b1 < b438 := by have := H30.lt; omega
           have lb438b7 : b7 < b438 := by have := H31.lt; omega
           have lb438b13 : b13 < b438 := by have := H32.lt; omega
           have lb438mb14 : mb14 < b438 := by have := Hm339.lt; omega
           have lb438kb15 : kb15 < b438 := by have := Hk340.lt; omega
           have lb438b289 : b289 < b438 := by have := H294.lt; omega
           have lb438mb290 : mb290 < b438 := by have := Hm413.lt; omega
           have lb438kb291 : kb291 < b438 := by have := Hk414.lt; omega
           have lb438b324 : b324 < b438 := by have := H332.lt; omega
           have lb438b358 : b358 < b438 := by have := H367.lt; omega
           have lb438b396 : b396 < b438 := by have := H406.lt; omega
           have nb438 : w.heap.size ≤ b438 := by have := K28.size; omega
           have ob444 : ∀ i, ((Value.slice A304 ((doR SSa KKa p).rows.length) c305)).ownBlock = some i → i < b438 := fun i hi => by have := (World.ownsRow.lt O312 i hi).2; omega
           have ob445 : ∀ i, ((Value.slice A335 ((doR (doS SSa KKa p) (doK SSa KKa p) q).rows.length) c336)).ownBlock = some i → i < b438 := fun i hi => by have := (World.ownsRow.lt O343 i hi).2; omega
           have ob446 : ∀ i, ((Value.slice A370 ((doR SSa KKa q).rows.length) c371)).ownBlock = some i → i < b438 := fun i hi => by have := (World.ownsRow.lt O378 i hi).2; omega
           have ob447 : ∀ i, ((Value.slice A409 ((doR (doS SSa KKa q) (doK SSa KKa q) p).rows.length) c410)).ownBlock = some i → i < b438 := fun i hi => by have := (World.ownsRow.lt O417 i hi).2; omega
           replace K28 := K28.trans K442 (U := none_) (fun i h1 h2 => h2) (fun i h1 h2 => by exact h2)
           replace H29 := H29.keep K442 (fun h => h)
           replace H30 := H30.keep K442 (fun h => h)
           replace H31 := H31.keep K442 (fun h => h)
           replace H32 := H32.keep K442 (fun h => h)
           replace Hm339 := Hm339.keep K442 (fun h => h)
           replace Hk340 := Hk340.keep K442 (fun h => h)
           replace H294 := H294.keep K442 (fun h => h)
           replace Hm413 := Hm413.keep K442 (fun h => h)
           replace Hk414 := Hk414.keep K442 (fun h => h)
           replace H332 := H332.keep K442 (fun h => h)
           replace H367 := H367.keep K442 (fun h => h)
           replace H406 := H406.keep K442 (fun h => h)
           replace O312 := own_keep0 O312 K442
           replace O343 := own_keep0 O343 K442
           replace O378 := own_keep0 O378 K442
           replace O417 := own_keep0 O417 K442
           clear K442 hs443
           refine Ops.put (t := 30) (b := b438) (off := 0) (v := (agg [(i64 ((doR (doS SSa KKa q) (doK SSa KKa q) p).why)), (i64 ((doR (doS SSa KKa q) (doK SSa KKa q) p).amount)), (Value.slice A409 ((doR (doS SSa KKa q) (doK SSa KKa q) p).rows.length) c410)])) (ys := [(i64 ((doR (doS SSa KKa q) (doK SSa KKa q) p).why)), (i64 ((doR (doS SSa KKa q) (doK SSa KKa q) p).amount)), (Value.slice A409 ((doR (doS SSa KKa q) (doK SSa KKa q) p).rows.length) c410)]) (by kernel_rfl) (by kernel_rfl) H441 (by kernel_rfl) (d := none) (by kernel_rfl) rfl (fun w448 H449 K450 => ?_)
           clear H441
           replace K28 := K28.trans K450 (U := none_) (fun i h1 h2 => h2) (fun i h1 h2 => by have h2 : i = b438 := h2; exfalso; omega)
           replace H29 := H29.keep K450 (by intro h; change tb = b438 at h; omega)
           replace H30 := H30.keep K450 (by intro h; change b1 = b438 at h; omega)
           replace H31 := H31.keep K450 (by intro h; change b7 = b438 at h; omega)
           replace H32 := H32.keep K450 (by intro h; change b13 = b438 at h; omega)
           replace Hm339 := Hm339.keep K450 (by intro h; change mb14 = b438 at h; omega)
           replace Hk340 := Hk340.keep K450 (by intro h; change kb15 = b438 at h; omega)
           replace H294 := H294.keep K450 (by intro h; change b289 = b438 at h; omega)
           replace Hm413 := Hm413.keep K450 (by intro h; change mb290 = b438 at h; omega)
           replace Hk414 := Hk414.keep K450 (by intro h; change kb291 = b438 at h; omega)
           replace H332 := H332.keep K450 (by intro h; change b324 = b438 at h; omega)
           replace H367 := H367.keep K450 (by intro h; change b358 = b438 at h; omega)
           replace H406 := H406.keep K450 (by intro h; change b396 = b438 at h; omega)
           replace O312 := own_keep O312 K450 (fun i hi hs => by have hs : i = b438 := hs; have := ob444 i hi; omega)
           replace O343 := own_keep O343 K450 (fun i hi hs => by have hs : i = b438 := hs; have := ob445 i hi; omega)
           replace O378 := own_keep O378 K450 (fun i hi hs => by have hs : i = b438 := hs; have := ob446 i hi; omega)
           replace O417 := own_keep O417 K450 (fun i hi hs => by have hs : i = b438 := hs; have := ob447 i hi; omega)
           clear K450
           refine od ?_
           refine qs ?_
           refine qg ?_
           refine Ops.go (v := (agg [(i64 ((doR SSa KKa p).why)), (i64 ((doR SSa KKa p).amount)), (Value.slice A304 ((doR SSa KKa p).rows.length) c305)])) (by kernel_rfl) (Runs.load (t := 30) (a := ⟨b324, 0, none⟩) (by kernel_rfl) (H332.loads (by kernel_rfl))) (d := (some 101)) (by kernel_rfl) rfl ?_
           refine Ops.go (v := (agg [(i64 ((doR (doS SSa KKa q) (doK SSa KKa q) p).why)), (i64 ((doR (doS SSa KKa q) (doK SSa KKa q) p).amount)), (Value.slice A409 ((doR (doS SSa KKa q) (doK SSa KKa q) p).rows.length) c410)])) (by kernel_rfl) (Runs.load (t := 30) (a := ⟨b438, 0, none⟩) (by kernel_rfl) (H449.loads (by kernel_rfl))) (d := (some 102)) (by kernel_rfl) rfl ?_
           refine Ops.call (by kernel_rfl) (d := (some 103)) (by kernel_rfl) (SameReply_calls _ A304 c305 (doR SSa KKa p) A409 c410 (doR (doS SSa KKa q) (doK SSa KKa q) p) (OwnT.rd O312) (OwnT.rd O417)) ?_
           rintro _ w454 ⟨t451, rfl, ht452, K453⟩
           refine ⟨_, _, rfl, rfl, ?_⟩
           replace K28 := K28.trans K453 (U := none_) (fun i h1 h2 => h2) (fun i h1 h2 => by exact h2)
           replace H29 := H29.keep K453 (fun h => h)
           replace H30 := H30.keep K453 (fun h => h)
           replace H31 := H31.keep K453 (fun h => h)
           replace H32 := H32.keep K453 (fun h => h)
           replace Hm339 := Hm339.keep K453 (fun h => h)
           replace Hk340 := Hk340.keep K453 (fun h => h)
           replace H294 := H294.keep K453 (fun h => h)
           replace Hm413 := Hm413.keep K453 (fun h => h)
           replace Hk414 := Hk414.keep K453 (fun h => h)
           replace H332 := H332.keep K453 (fun h => h)
           replace H367 := H367.keep K453 (fun h => h)
           replace H406 := H406.keep K453 (fun h => h)
           replace H449 := H449.keep K453 (fun h => h)
           replace O312 := own_keep0 O312 K453
           replace O343 := own_keep0 O343 K453
           replace O378 := own_keep0 O378 K453
           replace O417 := own_keep0 O417 K453
           clear K453
           refine og 1 [(6, (Value.bool false)), (7, (ptr b13)), (9, (ptr b289)), (11, (ptr b358)), (12, (ptr b396)), (104, (Value.bool t451))] 4 ?_
           have hap : ApartOps p q := ⟨by simp_all, by simp_all, by simp_all, fun e => by simp_all⟩
           have hapS := doS_comm (S := SSa) (K := KKa) hap hB341.ledg.led hB415.ledg.led
           have h455 : t451 = true := ht452.2 (by first | exact (doR_do hap.symm (by omega)).symm | exact doR_do hap (by omega))
           rw [h455]
           refine Ops.go (v := (agg [(i64 ((doR (doS SSa KKa p) (doK SSa KKa p) q).why)), (i64 ((doR (doS SSa KKa p) (doK SSa KKa p) q).amount)), (Value.slice A335 ((doR (doS SSa KKa p) (doK SSa KKa p) q).rows.length) c336)])) (by kernel_rfl) (Runs.load (t := 30) (a := ⟨b358, 0, none⟩) (by kernel_rfl) (H367.loads (by kernel_rfl))) (d := (some 105)) (by kernel_rfl) rfl ?_
           refine Ops.go (v := (agg [(i64 ((doR SSa KKa q).why)), (i64 ((doR SSa KKa q).amount)), (Value.slice A370 ((doR SSa KKa q).rows.length) c371)])) (by kernel_rfl) (Runs.load (t := 30) (a := ⟨b396, 0, none⟩) (by kernel_rfl) (H406.loads (by kernel_rfl))) (d := (some 106)) (by kernel_rfl) rfl ?_
           refine Ops.call (by kernel_rfl) (d := (some 107)) (by kernel_rfl) (SameReply_calls _ A335 c336 (doR (doS SSa KKa p) (doK SSa KKa p) q) A370 c371 (doR SSa KKa q) (OwnT.rd O343) (OwnT.rd O378)) ?_
           rintro _ w459 ⟨t456, rfl, ht457, K458⟩
           refine ⟨_, _, rfl, rfl, ?_⟩
           replace K28 := K28.trans K458 (U := none_) (fun i h1 h2 => h2) (fun i h1 h2 => by exact h2)
           replace H29 := H29.keep K458 (fun h => h)
           replace H30 := H30.keep K458 (fun h => h)
           replace H31 := H31.keep K458 (fun h => h)
           replace H32 := H32.keep K458 (fun h => h)
           replace Hm339 := Hm339.keep K458 (fun h => h)
           replace Hk340 := Hk340.keep K458 (fun h => h)
           replace H294 := H294.keep K458 (fun h => h)
           replace Hm413 := Hm413.keep K458 (fun h => h)
           replace Hk414 := Hk414.keep K458 (fun h => h)
           replace H332 := H332.keep K458 (fun h => h)
           replace H367 := H367.keep K458 (fun h => h)
           replace H406 := H406.keep K458 (fun h => h)
           replace H449 := H449.keep K458 (fun h => h)
           replace O312 := own_keep0 O312 K458
           replace O343 := own_keep0 O343 K458
           replace O378 := own_keep0 O378 K458
           replace O417 := own_keep0 O417 K458
           clear K458
           refine og 2 [(6, (Value.bool false)), (7, (ptr b13)), (9, (ptr b289)), (109, (Value.bool t456))] 9 ?_
           have h460 : t456 = true := ht457.2 (by first | exact (doR_do hap.symm (by omega)).symm | exact doR_do hap (by omega))
           rw [h460]
           refine og 2 [(6, (Value.bool false)), (7, (ptr b13)), (9, (ptr b289)), (109, (Value.bool true)), (110, (ptr b13)), (111, (ptr b289))] 11 ?_
           refine Ops.call (by kernel_rfl) (d := (some 112)) (by kernel_rfl) (Same_calls _ b13 mb14 kb15 m334 (doS (doS SSa KKa p) (doK SSa KKa p) q) (doK (doS SSa KKa p) (doK SSa KKa p) q) b289 mb290 kb291 m408 (doS (doS SSa KKa q) (doK SSa KKa q) p) (doK (doS SSa KKa q) (doK SSa KKa q) p) H32 Hm339 Hk340 (by omega) hB341 H294 Hm413 Hk414 (by omega) hB415) ?_
           rintro _ w464 ⟨t461, rfl, ht462, K463⟩
           refine ⟨_, _, rfl, rfl, ?_⟩
           replace K28 := K28.trans K463 (U := none_) (fun i h1 h2 => h2) (fun i h1 h2 => by exact h2)
           replace H29 := H29.keep K463 (fun h => h)
           replace H30 := H30.keep K463 (fun h => h)
           replace H31 := H31.keep K463 (fun h => h)
           replace H32 := H32.keep K463 (fun h => h)
           replace Hm339 := Hm339.keep K463 (fun h => h)
           replace Hk340 := Hk340.keep K463 (fun h => h)
           replace H294 := H294.keep K463 (fun h => h)
           replace Hm413 := Hm413.keep K463 (fun h => h)
           replace Hk414 := Hk414.keep K463 (fun h => h)
           replace H332 := H332.keep K463 (fun h => h)
           replace H367 := H367.keep K463 (fun h => h)
           replace H406 := H406.keep K463 (fun h => h)
           replace H449 := H449.keep K463 (fun h => h)
           replace O312 := own_keep0 O312 K463
           replace O343 := own_keep0 O343 K463
           replace O378 := own_keep0 O378 K463
           replace O417 := own_keep0 O417 K463
           clear K463
           refine og 2 [(6, (Value.bool false)), (7, (ptr b13)), (9, (ptr b289)), (114, (Value.bool t461))] 14 ?_
           have h465 : t461 = true := ht462.2 ⟨hapS, doK_comm hap⟩
           rw [h465]
           refine og 1 [(6, (Value.bool false)), (9, (ptr b289)), (114, (Value.bool true)), (115, (ptr b13))] 15 ?_
           refine Ops.call (by kernel_rfl) (d := (some 116)) (by kernel_rfl) (Text_calls _ b13 mb14 kb15 m334 (doS (doS SSa KKa p) (doK SSa KKa p) q) (doK (doS SSa KKa p) (doK SSa KKa p) q) tb H32 Hm339 Hk340 (by omega) hB341 H29 (by first | omega | decide) (by first | omega | decide)) ?_
           rintro _ w467 ⟨rfl, K466⟩
           refine ⟨_, _, rfl, rfl, ?_⟩
           replace K28 := K28.trans K466 (U := none_) (fun i h1 h2 => h2) (fun i h1 h2 => by exact h2)
           replace H29 := H29.keep K466 (fun h => h)
           replace H30 := H30.keep K466 (fun h => h)
           replace H31 := H31.keep K466 (fun h => h)
           replace H32 := H32.keep K466 (fun h => h)
           replace Hm339 := Hm339.keep K466 (fun h => h)
           replace Hk340 := Hk340.keep K466 (fun h => h)
           replace H294 := H294.keep K466 (fun h => h)
           replace Hm413 := Hm413.keep K466 (fun h => h)
           replace Hk414 := Hk414.keep K466 (fun h => h)
           replace H332 := H332.keep K466 (fun h => h)
           replace H367 := H367.keep K466 (fun h => h)
           replace H406 := H406.keep K466 (fun h => h)
           replace H449 := H449.keep K466 (fun h => h)
           replace O312 := own_keep0 O312 K466
           replace O343 := own_keep0 O343 K466
           replace O378 := own_keep0 O378 K466
           replace O417 := own_keep0 O417 K466
           clear K466
           refine og 1 [(6, (Value.bool false)), (114, (Value.bool true)), (116, (Value.string (str (textE (doS (doS SSa KKa p) (doK SSa KKa p) q) (doK (doS SSa KKa p) (doK SSa KKa p) q))))), (117, (ptr b289))] 17 ?_
           refine Ops.call (by kernel_rfl) (d := (some 118)) (by kernel_rfl) (Text_calls _ b289 mb290 kb291 m408 (doS (doS SSa KKa q) (doK SSa KKa q) p) (doK (doS SSa KKa q) (doK SSa KKa q) p) tb H294 Hm413 Hk414 (by omega) hB415 H29 (by first | omega | decide) (by first | omega | decide)) ?_
           rintro _ w469 ⟨rfl, K468⟩
           refine ⟨_, _, rfl, rfl, ?_⟩
           replace K28 := K28.trans K468 (U := none_) (fun i h1 h2 => h2) (fun i h1 h2 => by exact h2)
           replace H29 := H29.keep K468 (fun h => h)
           replace H30 := H30.keep K468 (fun h => h)
           replace H31 := H31.keep K468 (fun h => h)
           replace H32 := H32.keep K468 (fun h => h)
           replace Hm339 := Hm339.keep K468 (fun h => h)
           replace Hk340 := Hk340.keep K468 (fun h => h)
           replace H294 := H294.keep K468 (fun h => h)
           replace Hm413 := Hm413.keep K468 (fun h => h)
           replace Hk414 := Hk414.keep K468 (fun h => h)
           replace H332 := H332.keep K468 (fun h => h)
           replace H367 := H367.keep K468 (fun h => h)
           replace H406 := H406.keep K468 (fun h => h)
           replace H449 := H449.keep K468 (fun h => h)
           replace O312 := own_keep0 O312 K468
           replace O343 := own_keep0 O343 K468
           replace O378 := own_keep0 O378 K468
           replace O417 := own_keep0 O417 K468
           clear K468
           refine Ops.go (v := (Value.bool ((textE (doS (doS SSa KKa p) (doK SSa KKa p) q) (doK (doS SSa KKa p) (doK SSa KKa p) q)) == (textE (doS (doS SSa KKa q) (doK SSa KKa q) p) (doK (doS SSa KKa q) (doK SSa KKa q) p))))) (by kernel_rfl) (Runs.streq (t := 9) (by kernel_rfl)) (d := (some 119)) (by kernel_rfl) rfl ?_
           refine og 2 [(6, (Value.bool false)), (121, (Value.bool ((textE (doS (doS SSa KKa p) (doK SSa KKa p) q) (doK (doS SSa KKa p) (doK SSa KKa p) q)) == (textE (doS (doS SSa KKa q) (doK SSa KKa q) p) (doK (doS SSa KKa q) (doK SSa KKa q) p)))))] 21 ?_
           have h470 : ((textE (doS (doS SSa KKa p) (doK SSa KKa p) q) (doK (doS SSa KKa p) (doK SSa KKa p) q)) == (textE (doS (doS SSa KKa q) (doK SSa KKa q) p) (doK (doS SSa KKa q) (doK SSa KKa q) p))) = true := by unfold textE; rw [hapS, sortK_of_perm hB341.ledg.ids (doK_comm hap)]; simp
           rw [h470]
           refine Ops.call (by kernel_rfl) (d := (some 122)) (by kernel_rfl) (known_calls _ tb H29) ?_
           rintro _ w472 ⟨rfl, K471⟩
           refine ⟨_, _, rfl, rfl, ?_⟩
           replace K28 := K28.trans K471 (U := none_) (fun i h1 h2 => h2) (fun i h1 h2 => by exact h2)
           replace H29 := H29.keep K471 (fun h => h)
           replace H30 := H30.keep K471 (fun h => h)
           replace H31 := H31.keep K471 (fun h => h)
           replace H32 := H32.keep K471 (fun h => h)
           replace Hm339 := Hm339.keep K471 (fun h => h)
           replace Hk340 := Hk340.keep K471 (fun h => h)
           replace H294 := H294.keep K471 (fun h => h)
           replace Hm413 := Hm413.keep K471 (fun h => h)
           replace Hk414 := Hk414.keep K471 (fun h => h)
           replace H332 := H332.keep K471 (fun h => h)
           replace H367 := H367.keep K471 (fun h => h)
           replace H406 := H406.keep K471 (fun h => h)
           replace H449 := H449.keep K471 (fun h => h)
           replace O312 := own_keep0 O312 K471
           replace O343 := own_keep0 O343 K471
           replace O378 := own_keep0 O378 K471
           replace O417 := own_keep0 O417 K471
           clear K471
           refine og 2 [(6, (Value.bool true))] 24 ?_
           refine od ?_
           refine q_ret (by kernel_rfl) ?_
           refine ⟨(Value.bool true), retv_tmp rfl rfl, ?_⟩
           exact ⟨rfl, K28⟩
 ·rw [h35]
  have p473 : ¬ (((ia : Nat) : Int) < ((la.length : Nat) : Int)) := of_decide_eq_false h35
  refine og 3 [(0, (Value.slice OAa la.length oca)), (4, (ptr b1)), (5, (ptr b7)), (6, (Value.bool false)), (7, (ptr b13)), (8, (i64 ((ia : Nat) : Int))), (24, (Value.bool false))] 8 ?_
  refine od ?_
  refine q_else (o := .tmp 24) (by kernel_rfl) rfl ?_
  refine q_exit (id := 0) (by kernel_rfl) ?_
  refine qs ?_
  refine qs ?_
  refine qg ?_
  refine og 1 [(4, (ptr b1)), (5, (ptr b7)), (6, (Value.bool false)), (7, (ptr b13)), (33, (ptr b1))] 1 ?_
  refine Ops.go (v := (i64 p.kind)) (by kernel_rfl) (Runs.load (t := 3) (a := ⟨b1, 0, none⟩) (by kernel_rfl) (H30.loads (by kernel_rfl))) (d := (some 34)) (by kernel_rfl) rfl ?_
  refine og 2 [(4, (ptr b1)), (5, (ptr b7)), (6, (Value.bool false)), (7, (ptr b13)), (36, (Value.bool (decide (p.kind < 1))))] 4 ?_
  refine Ops.split (decide (p.kind < 1)) (fun h474 => ?_) (fun h474 => ?_)
  ·rw [h474]
   have p475 : p.kind < 1 := of_decide_eq_true h474
   refine og 47 [(4, (ptr b1)), (5, (ptr b7)), (6, (Value.bool false)), (7, (ptr b13)), (83, (Value.bool true))] 51 ?_
   refine od ?_
   refine q_then (o := .tmp 83) (by kernel_rfl) rfl ?_
   refine qs ?_
   refine qg ?_
   refine Ops.call (by kernel_rfl) (d := (some 84)) (by kernel_rfl) (known_calls _ tb H29) ?_
   rintro _ w477 ⟨rfl, K476⟩
   refine ⟨_, _, rfl, rfl, ?_⟩
   replace K28 := K28.trans K476 (U := none_) (fun i h1 h2 => h2) (fun i h1 h2 => by exact h2)
   replace H29 := H29.keep K476 (fun h => h)
   replace H30 := H30.keep K476 (fun h => h)
   replace H31 := H31.keep K476 (fun h => h)
   replace H32 := H32.keep K476 (fun h => h)
   replace H33 := H33.keep K476 (fun h => h)
   replace H34 := H34.keep K476 (fun h => h)
   clear K476
   refine og 1 [(4, (ptr b1)), (5, (ptr b7)), (6, (Value.bool true)), (7, (ptr b13))] 2 ?_
   refine od ?_
   refine q_ret (by kernel_rfl) ?_
   refine ⟨(Value.bool true), retv_tmp rfl rfl, ?_⟩
   exact ⟨rfl, K28⟩
  ·rw [h474]
   have p478 : ¬ (p.kind < 1) := of_decide_eq_false h474
   refine og 1 [(4, (ptr b1)), (5, (ptr b7)), (6, (Value.bool false)), (7, (ptr b13)), (36, (Value.bool false)), (37, (ptr b1))] 5 ?_
   refine Ops.go (v := (i64 p.kind)) (by kernel_rfl) (Runs.load (t := 3) (a := ⟨b1, 0, none⟩) (by kernel_rfl) (H30.loads (by kernel_rfl))) (d := (some 38)) (by kernel_rfl) rfl ?_
   refine og 3 [(4, (ptr b1)), (5, (ptr b7)), (6, (Value.bool false)), (7, (ptr b13)), (41, (Value.bool (decide (p.kind > 5))))] 9 ?_
   refine Ops.split (decide (p.kind > 5)) (fun h479 => ?_) (fun h479 => ?_)
   ·rw [h479]
    have p480 : p.kind > 5 := of_decide_eq_true h479
    refine og 42 [(4, (ptr b1)), (5, (ptr b7)), (6, (Value.bool false)), (7, (ptr b13)), (83, (Value.bool true))] 51 ?_
    refine od ?_
    refine q_then (o := .tmp 83) (by kernel_rfl) rfl ?_
    refine qs ?_
    refine qg ?_
    refine Ops.call (by kernel_rfl) (d := (some 84)) (by kernel_rfl) (known_calls _ tb H29) ?_
    rintro _ w482 ⟨rfl, K481⟩
    refine ⟨_, _, rfl, rfl, ?_⟩
    replace K28 := K28.trans K481 (U := none_) (fun i h1 h2 => h2) (fun i h1 h2 => by exact h2)
    replace H29 := H29.keep K481 (fun h => h)
    replace H30 := H30.keep K481 (fun h => h)
    replace H31 := H31.keep K481 (fun h => h)
    replace H32 := H32.keep K481 (fun h => h)
    replace H33 := H33.keep K481 (fun h => h)
    replace H34 := H34.keep K481 (fun h => h)
    clear K481
    refine og 1 [(4, (ptr b1)), (5, (ptr b7)), (6, (Value.bool true)), (7, (ptr b13))] 2 ?_
    refine od ?_
    refine q_ret (by kernel_rfl) ?_
    refine ⟨(Value.bool true), retv_tmp rfl rfl, ?_⟩
    exact ⟨rfl, K28⟩
   ·rw [h479]
    have p483 : ¬ (p.kind > 5) := of_decide_eq_false h479
    refine og 1 [(4, (ptr b1)), (5, (ptr b7)), (6, (Value.bool false)), (7, (ptr b13)), (41, (Value.bool false)), (42, (ptr b7))] 10 ?_
    refine Ops.go (v := (i64 q.kind)) (by kernel_rfl) (Runs.load (t := 3) (a := ⟨b7, 0, none⟩) (by kernel_rfl) (H31.loads (by kernel_rfl))) (d := (some 43)) (by kernel_rfl) rfl ?_
    refine og 3 [(4, (ptr b1)), (5, (ptr b7)), (6, (Value.bool false)), (7, (ptr b13)), (46, (Value.bool (decide (q.kind < 1))))] 14 ?_
    refine Ops.split (decide (q.kind < 1)) (fun h484 => ?_) (fun h484 => ?_)
    ·rw [h484]
     have p485 : q.kind < 1 := of_decide_eq_true h484
     refine og 37 [(4, (ptr b1)), (5, (ptr b7)), (6, (Value.bool false)), (7, (ptr b13)), (83, (Value.bool true))] 51 ?_
     refine od ?_
     refine q_then (o := .tmp 83) (by kernel_rfl) rfl ?_
     refine qs ?_
     refine qg ?_
     refine Ops.call (by kernel_rfl) (d := (some 84)) (by kernel_rfl) (known_calls _ tb H29) ?_
     rintro _ w487 ⟨rfl, K486⟩
     refine ⟨_, _, rfl, rfl, ?_⟩
     replace K28 := K28.trans K486 (U := none_) (fun i h1 h2 => h2) (fun i h1 h2 => by exact h2)
     replace H29 := H29.keep K486 (fun h => h)
     replace H30 := H30.keep K486 (fun h => h)
     replace H31 := H31.keep K486 (fun h => h)
     replace H32 := H32.keep K486 (fun h => h)
     replace H33 := H33.keep K486 (fun h => h)
     replace H34 := H34.keep K486 (fun h => h)
     clear K486
     refine og 1 [(4, (ptr b1)), (5, (ptr b7)), (6, (Value.bool true)), (7, (ptr b13))] 2 ?_
     refine od ?_
     refine q_ret (by kernel_rfl) ?_
     refine ⟨(Value.bool true), retv_tmp rfl rfl, ?_⟩
     exact ⟨rfl, K28⟩
    ·rw [h484]
     have p488 : ¬ (q.kind < 1) := of_decide_eq_false h484
     refine og 1 [(4, (ptr b1)), (5, (ptr b7)), (6, (Value.bool false)), (7, (ptr b13)), (46, (Value.bool false)), (47, (ptr b7))] 15 ?_
     refine Ops.go (v := (i64 q.kind)) (by kernel_rfl) (Runs.load (t := 3) (a := ⟨b7, 0, none⟩) (by kernel_rfl) (H31.loads (by kernel_rfl))) (d := (some 48)) (by kernel_rfl) rfl ?_
     refine og 3 [(4, (ptr b1)), (5, (ptr b7)), (6, (Value.bool false)), (7, (ptr b13)), (51, (Value.bool (decide (q.kind > 5))))] 19 ?_
     refine Ops.split (decide (q.kind > 5)) (fun h489 => ?_) (fun h489 => ?_)
     ·rw [h489]
      have p490 : q.kind > 5 := of_decide_eq_true h489
      refine og 32 [(4, (ptr b1)), (5, (ptr b7)), (6, (Value.bool false)), (7, (ptr b13)), (83, (Value.bool true))] 51 ?_
      refine od ?_
      refine q_then (o := .tmp 83) (by kernel_rfl) rfl ?_
      refine qs ?_
      refine qg ?_
      refine Ops.call (by kernel_rfl) (d := (some 84)) (by kernel_rfl) (known_calls _ tb H29) ?_
      rintro _ w492 ⟨rfl, K491⟩
      refine ⟨_, _, rfl, rfl, ?_⟩
      replace K28 := K28.trans K491 (U := none_) (fun i h1 h2 => h2) (fun i h1 h2 => by exact h2)
      replace H29 := H29.keep K491 (fun h => h)
      replace H30 := H30.keep K491 (fun h => h)
      replace H31 := H31.keep K491 (fun h => h)
      replace H32 := H32.keep K491 (fun h => h)
      replace H33 := H33.keep K491 (fun h => h)
      replace H34 := H34.keep K491 (fun h => h)
      clear K491
      refine og 1 [(4, (ptr b1)), (5, (ptr b7)), (6, (Value.bool true)), (7, (ptr b13))] 2 ?_
      refine od ?_
      refine q_ret (by kernel_rfl) ?_
      refine ⟨(Value.bool true), retv_tmp rfl rfl, ?_⟩
      exact ⟨rfl, K28⟩
     ·rw [h489]
      have p493 : ¬ (q.kind > 5) := of_decide_eq_false h489
      refine og 1 [(4, (ptr b1)), (5, (ptr b7)), (6, (Value.bool false)), (7, (ptr b13)), (51, (Value.bool false)), (52, (Value.pointer (some ⟨b1, 1, none⟩)))] 20 ?_
      refine Ops.go (v := (Value.string (str p.frm))) (by kernel_rfl) (Runs.load (t := 9) (a := ⟨b1, 1, none⟩) (by kernel_rfl) (H30.loads (by kernel_rfl))) (d := (some 53)) (by kernel_rfl) rfl ?_
      refine og 1 [(4, (ptr b1)), (5, (ptr b7)), (6, (Value.bool false)), (7, (ptr b13)), (51, (Value.bool false)), (53, (Value.string (str p.frm))), (54, (Value.pointer (some ⟨b7, 1, none⟩)))] 22 ?_
      refine Ops.go (v := (Value.string (str q.frm))) (by kernel_rfl) (Runs.load (t := 9) (a := ⟨b7, 1, none⟩) (by kernel_rfl) (H31.loads (by kernel_rfl))) (d := (some 55)) (by kernel_rfl) rfl ?_
      refine Ops.go (v := (Value.bool (p.frm == q.frm))) (by kernel_rfl) (Runs.streq (t := 9) (by kernel_rfl)) (d := (some 56)) (by kernel_rfl) rfl ?_
      refine og 2 [(4, (ptr b1)), (5, (ptr b7)), (6, (Value.bool false)), (7, (ptr b13)), (58, (Value.bool (p.frm == q.frm)))] 26 ?_
      refine Ops.split (p.frm == q.frm) (fun h494 => ?_) (fun h494 => ?_)
      ·rw [h494]
       have p495 : (p.frm == q.frm) = true := h494
       refine og 25 [(4, (ptr b1)), (5, (ptr b7)), (6, (Value.bool false)), (7, (ptr b13)), (83, (Value.bool true))] 51 ?_
       refine od ?_
       refine q_then (o := .tmp 83) (by kernel_rfl) rfl ?_
       refine qs ?_
       refine qg ?_
       refine Ops.call (by kernel_rfl) (d := (some 84)) (by kernel_rfl) (known_calls _ tb H29) ?_
       rintro _ w497 ⟨rfl, K496⟩
       refine ⟨_, _, rfl, rfl, ?_⟩
       replace K28 := K28.trans K496 (U := none_) (fun i h1 h2 => h2) (fun i h1 h2 => by exact h2)
       replace H29 := H29.keep K496 (fun h => h)
       replace H30 := H30.keep K496 (fun h => h)
       replace H31 := H31.keep K496 (fun h => h)
       replace H32 := H32.keep K496 (fun h => h)
       replace H33 := H33.keep K496 (fun h => h)
       replace H34 := H34.keep K496 (fun h => h)
       clear K496
       refine og 1 [(4, (ptr b1)), (5, (ptr b7)), (6, (Value.bool true)), (7, (ptr b13))] 2 ?_
       refine od ?_
       refine q_ret (by kernel_rfl) ?_
       refine ⟨(Value.bool true), retv_tmp rfl rfl, ?_⟩
       exact ⟨rfl, K28⟩
      ·rw [h494]
       have p498 : (p.frm == q.frm) = false := h494
       refine og 1 [(4, (ptr b1)), (5, (ptr b7)), (6, (Value.bool false)), (7, (ptr b13)), (58, (Value.bool false)), (59, (Value.pointer (some ⟨b1, 1, none⟩)))] 27 ?_
       refine Ops.go (v := (Value.string (str p.frm))) (by kernel_rfl) (Runs.load (t := 9) (a := ⟨b1, 1, none⟩) (by kernel_rfl) (H30.loads (by kernel_rfl))) (d := (some 60)) (by kernel_rfl) rfl ?_
       refine og 1 [(4, (ptr b1)), (5, (ptr b7)), (6, (Value.bool false)), (7, (ptr b13)), (58, (Value.bool false)), (60, (Value.string (str p.frm))), (61, (Value.pointer (some ⟨b7, 2, none⟩)))] 29 ?_
       refine Ops.go (v := (Value.string (str q.to))) (by kernel_rfl) (Runs.load (t := 9) (a := ⟨b7, 2, none⟩) (by kernel_rfl) (H31.loads (by kernel_rfl))) (d := (some 62)) (by kernel_rfl) rfl ?_
       refine Ops.go (v := (Value.bool (p.frm == q.to))) (by kernel_rfl) (Runs.streq (t := 9) (by kernel_rfl)) (d := (some 63)) (by kernel_rfl) rfl ?_
       refine og 2 [(4, (ptr b1)), (5, (ptr b7)), (6, (Value.bool false)), (7, (ptr b13)), (65, (Value.bool (p.frm == q.to)))] 33 ?_
       refine Ops.split (p.frm == q.to) (fun h499 => ?_) (fun h499 => ?_)
       ·rw [h499]
        have p500 : (p.frm == q.to) = true := h499
        refine og 18 [(4, (ptr b1)), (5, (ptr b7)), (6, (Value.bool false)), (7, (ptr b13)), (83, (Value.bool true))] 51 ?_
        refine od ?_
        refine q_then (o := .tmp 83) (by kernel_rfl) rfl ?_
        refine qs ?_
        refine qg ?_
        refine Ops.call (by kernel_rfl) (d := (some 84)) (by kernel_rfl) (known_calls _ tb H29) ?_
        rintro _ w502 ⟨rfl, K501⟩
        refine ⟨_, _, rfl, rfl, ?_⟩
        replace K28 := K28.trans K501 (U := none_) (fun i h1 h2 => h2) (fun i h1 h2 => by exact h2)
        replace H29 := H29.keep K501 (fun h => h)
        replace H30 := H30.keep K501 (fun h => h)
        replace H31 := H31.keep K501 (fun h => h)
        replace H32 := H32.keep K501 (fun h => h)
        replace H33 := H33.keep K501 (fun h => h)
        replace H34 := H34.keep K501 (fun h => h)
        clear K501
        refine og 1 [(4, (ptr b1)), (5, (ptr b7)), (6, (Value.bool true)), (7, (ptr b13))] 2 ?_
        refine od ?_
        refine q_ret (by kernel_rfl) ?_
        refine ⟨(Value.bool true), retv_tmp rfl rfl, ?_⟩
        exact ⟨rfl, K28⟩
       ·rw [h499]
        have p503 : (p.frm == q.to) = false := h499
        refine og 1 [(4, (ptr b1)), (5, (ptr b7)), (6, (Value.bool false)), (7, (ptr b13)), (65, (Value.bool false)), (66, (Value.pointer (some ⟨b1, 2, none⟩)))] 34 ?_
        refine Ops.go (v := (Value.string (str p.to))) (by kernel_rfl) (Runs.load (t := 9) (a := ⟨b1, 2, none⟩) (by kernel_rfl) (H30.loads (by kernel_rfl))) (d := (some 67)) (by kernel_rfl) rfl ?_
        refine og 1 [(4, (ptr b1)), (5, (ptr b7)), (6, (Value.bool false)), (7, (ptr b13)), (65, (Value.bool false)), (67, (Value.string (str p.to))), (68, (Value.pointer (some ⟨b7, 1, none⟩)))] 36 ?_
        refine Ops.go (v := (Value.string (str q.frm))) (by kernel_rfl) (Runs.load (t := 9) (a := ⟨b7, 1, none⟩) (by kernel_rfl) (H31.loads (by kernel_rfl))) (d := (some 69)) (by kernel_rfl) rfl ?_
        refine Ops.go (v := (Value.bool (p.to == q.frm))) (by kernel_rfl) (Runs.streq (t := 9) (by kernel_rfl)) (d := (some 70)) (by kernel_rfl) rfl ?_
        refine og 2 [(4, (ptr b1)), (5, (ptr b7)), (6, (Value.bool false)), (7, (ptr b13)), (72, (Value.bool (p.to == q.frm)))] 40 ?_
        refine Ops.split (p.to == q.frm) (fun h504 => ?_) (fun h504 => ?_)
        ·rw [h504]
         have p505 : (p.to == q.frm) = true := h504
         refine og 11 [(4, (ptr b1)), (5, (ptr b7)), (6, (Value.bool false)), (7, (ptr b13)), (83, (Value.bool true))] 51 ?_
         refine od ?_
         refine q_then (o := .tmp 83) (by kernel_rfl) rfl ?_
         refine qs ?_
         refine qg ?_
         refine Ops.call (by kernel_rfl) (d := (some 84)) (by kernel_rfl) (known_calls _ tb H29) ?_
         rintro _ w507 ⟨rfl, K506⟩
         refine ⟨_, _, rfl, rfl, ?_⟩
         replace K28 := K28.trans K506 (U := none_) (fun i h1 h2 => h2) (fun i h1 h2 => by exact h2)
         replace H29 := H29.keep K506 (fun h => h)
         replace H30 := H30.keep K506 (fun h => h)
         replace H31 := H31.keep K506 (fun h => h)
         replace H32 := H32.keep K506 (fun h => h)
         replace H33 := H33.keep K506 (fun h => h)
         replace H34 := H34.keep K506 (fun h => h)
         clear K506
         refine og 1 [(4, (ptr b1)), (5, (ptr b7)), (6, (Value.bool true)), (7, (ptr b13))] 2 ?_
         refine od ?_
         refine q_ret (by kernel_rfl) ?_
         refine ⟨(Value.bool true), retv_tmp rfl rfl, ?_⟩
         exact ⟨rfl, K28⟩
        ·rw [h504]
         have p508 : (p.to == q.frm) = false := h504
         refine og 1 [(4, (ptr b1)), (5, (ptr b7)), (6, (Value.bool false)), (7, (ptr b13)), (72, (Value.bool false)), (73, (Value.pointer (some ⟨b1, 2, none⟩)))] 41 ?_
         refine Ops.go (v := (Value.string (str p.to))) (by kernel_rfl) (Runs.load (t := 9) (a := ⟨b1, 2, none⟩) (by kernel_rfl) (H30.loads (by kernel_rfl))) (d := (some 74)) (by kernel_rfl) rfl ?_
         refine og 1 [(4, (ptr b1)), (5, (ptr b7)), (6, (Value.bool false)), (7, (ptr b13)), (72, (Value.bool false)), (74, (Value.string (str p.to))), (75, (Value.pointer (some ⟨b7, 2, none⟩)))] 43 ?_
         refine Ops.go (v := (Value.string (str q.to))) (by kernel_rfl) (Runs.load (t := 9) (a := ⟨b7, 2, none⟩) (by kernel_rfl) (H31.loads (by kernel_rfl))) (d := (some 76)) (by kernel_rfl) rfl ?_
         refine Ops.go (v := (Value.bool (p.to == q.to))) (by kernel_rfl) (Runs.streq (t := 9) (by kernel_rfl)) (d := (some 77)) (by kernel_rfl) rfl ?_
         refine og 1 [(4, (ptr b1)), (5, (ptr b7)), (6, (Value.bool false)), (7, (ptr b13)), (72, (Value.bool false)), (78, (Value.bool (p.to == q.to)))] 46 ?_
         refine Ops.split (p.to == q.to) (fun h509 => ?_) (fun h509 => ?_)
         ·rw [h509]
          have p510 : (p.to == q.to) = true := h509
          refine og 1 [(4, (ptr b1)), (5, (ptr b7)), (6, (Value.bool false)), (7, (ptr b13)), (72, (Value.bool false)), (78, (Value.bool true)), (79, (Value.pointer (some ⟨b1, 2, none⟩)))] 47 ?_
          refine Ops.go (v := (Value.string (str p.to))) (by kernel_rfl) (Runs.load (t := 9) (a := ⟨b1, 2, none⟩) (by kernel_rfl) (H30.loads (by kernel_rfl))) (d := (some 80)) (by kernel_rfl) rfl ?_
          refine Ops.go (v := (Value.bool (!(p.to == ([] : List UInt8))))) (by kernel_rfl) (Runs.strne (t := 9) (by kernel_rfl)) (d := (some 81)) (by kernel_rfl) rfl ?_
          refine og 2 [(4, (ptr b1)), (5, (ptr b7)), (6, (Value.bool false)), (7, (ptr b13)), (83, (Value.bool (!(p.to == ([] : List UInt8)))))] 51 ?_
          refine od ?_
          refine q_cond (o := .tmp 83) (b := (!(p.to == ([] : List UInt8)))) (by kernel_rfl) rfl (fun h511 => ?_) (fun h511 => ?_)
          ·rw [h511]
           have p512 : (p.to == ([] : List UInt8)) = false := (bnot_true h511)
           refine qs ?_
           refine qg ?_
           refine Ops.call (by kernel_rfl) (d := (some 84)) (by kernel_rfl) (known_calls _ tb H29) ?_
           rintro _ w514 ⟨rfl, K513⟩
           refine ⟨_, _, rfl, rfl, ?_⟩
           replace K28 := K28.trans K513 (U := none_) (fun i h1 h2 => h2) (fun i h1 h2 => by exact h2)
           replace H29 := H29.keep K513 (fun h => h)
           replace H30 := H30.keep K513 (fun h => h)
           replace H31 := H31.keep K513 (fun h => h)
           replace H32 := H32.keep K513 (fun h => h)
           replace H33 := H33.keep K513 (fun h => h)
           replace H34 := H34.keep K513 (fun h => h)
           clear K513
           refine og 1 [(4, (ptr b1)), (5, (ptr b7)), (6, (Value.bool true)), (7, (ptr b13))] 2 ?_
           refine od ?_
           refine q_ret (by kernel_rfl) ?_
           refine ⟨(Value.bool true), retv_tmp rfl rfl, ?_⟩
           exact ⟨rfl, K28⟩
          ·rw [h511]
           have p515 : (p.to == ([] : List UInt8)) = true := (bnot_false h511)
           refine q_skip (by kernel_rfl) ?_
           refine qs ?_
           refine qg ?_
           refine og 1 [(4, (ptr b1)), (5, (ptr b7)), (6, (Value.bool false)), (7, (ptr b13)), (85, (ptr b13))] 1 ?_
           refine Ops.call (by kernel_rfl) (d := (some 86)) (by kernel_rfl) (Copy_calls _ b13 mb14 kb15 mma SSa KKa H32 H33 H34 (by omega) hBma) ?_
           rintro _ w519 ⟨b516, mb517, kb518, rfl, K520, H521, Hm522, Hk523, hb524, hb525, hb526, hb527, hb528, hb529⟩
           have lb516tb : tb < b516 := by have := H29.lt; omega
           have lmb517tb : tb < mb517 := by have := H29.lt; omega
           have lkb518tb : tb < kb518 := by have := H29.lt; omega
           have lb516b1 : b1 < b516 := by have := H30.lt; omega
           have lmb517b1 : b1 < mb517 := by have := H30.lt; omega
           have lkb518b1 : b1 < kb518 := by have := H30.lt; omega
           have lb516b7 : b7 < b516 := by have := H31.lt; omega
           have lmb517b7 : b7 < mb517 := by have := H31.lt; omega
           have lkb518b7 : b7 < kb518 := by have := H31.lt; omega
           have lb516b13 : b13 < b516 := by have := H32.lt; omega
           have lmb517b13 : b13 < mb517 := by have := H32.lt; omega
           have lkb518b13 : b13 < kb518 := by have := H32.lt; omega
           have lb516mb14 : mb14 < b516 := by have := H33.lt; omega
           have lmb517mb14 : mb14 < mb517 := by have := H33.lt; omega
           have lkb518mb14 : mb14 < kb518 := by have := H33.lt; omega
           have lb516kb15 : kb15 < b516 := by have := H34.lt; omega
           have lmb517kb15 : kb15 < mb517 := by have := H34.lt; omega
           have lkb518kb15 : kb15 < kb518 := by have := H34.lt; omega
           have nb516 : w.heap.size ≤ b516 := by have := K28.size; omega
           have nmb517 : w.heap.size ≤ mb517 := by have := K28.size; omega
           have nkb518 : w.heap.size ≤ kb518 := by have := K28.size; omega
           refine ⟨_, _, rfl, rfl, ?_⟩
           replace K28 := K28.trans K520 (U := none_) (fun i h1 h2 => h2) (fun i h1 h2 => by exact h2)
           replace H29 := H29.keep K520 (fun h => h)
           replace H30 := H30.keep K520 (fun h => h)
           replace H31 := H31.keep K520 (fun h => h)
           replace H32 := H32.keep K520 (fun h => h)
           replace H33 := H33.keep K520 (fun h => h)
           replace H34 := H34.keep K520 (fun h => h)
           clear K520
           refine og 1 [(4, (ptr b1)), (5, (ptr b7)), (6, (Value.bool false)), (7, (ptr b13)), (9, (ptr b516))] 3 ?_
           refine od ?_
           refine qs ?_
           refine qs ?_
           refine qg ?_
           refine og 2 [(4, (ptr b1)), (5, (ptr b7)), (6, (Value.bool false)), (7, (ptr b13)), (9, (ptr b516)), (88, (Value.bool false))] 2 ?_
           refine od ?_
           refine q_else (o := .tmp 88) (by kernel_rfl) rfl ?_
           refine q_skip (by kernel_rfl) ?_
           refine qs ?_
           refine qg ?_
           refine og 1 [(4, (ptr b1)), (5, (ptr b7)), (6, (Value.bool false)), (7, (ptr b13)), (9, (ptr b516)), (89, (ptr b13))] 1 ?_
           refine Ops.go (v := (agg [(i64 p.kind), (Value.string (str p.frm)), (Value.string (str p.to)), (i64 p.amount), (Value.string (str p.key)), (i64 p.slot), (i64 p.shard)])) (by kernel_rfl) (Runs.load (t := 24) (a := ⟨b1, 0, none⟩) (by kernel_rfl) (H30.loads (by kernel_rfl))) (d := (some 90)) (by kernel_rfl) rfl ?_
           refine Ops.call (by kernel_rfl) (d := (some 91)) (by kernel_rfl) (Do_calls _ b13 mb14 kb15 mma SSa KKa p H32 H33 H34 (by omega) hBma (by first | omega | decide) (by first | omega | decide)) ?_
           rintro _ w533 ⟨m530, A531, c532, rfl, K534, Hm535, Hk536, hB537, hO538⟩
           have ob542 : ∀ i, ((Value.slice A531 ((doR SSa KKa p).rows.length) c532)).ownBlock = some i → i ≠ tb := fun i hi => by have := (World.ownsRow.lt hO538 i hi).1; have := H29.lt; omega
           have ob543 : ∀ i, ((Value.slice A531 ((doR SSa KKa p).rows.length) c532)).ownBlock = some i → i ≠ b1 := fun i hi => by have := (World.ownsRow.lt hO538 i hi).1; have := H30.lt; omega
           have ob544 : ∀ i, ((Value.slice A531 ((doR SSa KKa p).rows.length) c532)).ownBlock = some i → i ≠ b7 := fun i hi => by have := (World.ownsRow.lt hO538 i hi).1; have := H31.lt; omega
           have ob545 : ∀ i, ((Value.slice A531 ((doR SSa KKa p).rows.length) c532)).ownBlock = some i → i ≠ b13 := fun i hi => by have := (World.ownsRow.lt hO538 i hi).1; have := H32.lt; omega
           have ob546 : ∀ i, ((Value.slice A531 ((doR SSa KKa p).rows.length) c532)).ownBlock = some i → i ≠ mb14 := fun i hi => by have := (World.ownsRow.lt hO538 i hi).1; have := H33.lt; omega
           have ob547 : ∀ i, ((Value.slice A531 ((doR SSa KKa p).rows.length) c532)).ownBlock = some i → i ≠ kb15 := fun i hi => by have := (World.ownsRow.lt hO538 i hi).1; have := H34.lt; omega
           have ob548 : ∀ i, ((Value.slice A531 ((doR SSa KKa p).rows.length) c532)).ownBlock = some i → i ≠ b516 := fun i hi => by have := (World.ownsRow.lt hO538 i hi).1; have := H521.lt; omega
           have ob549 : ∀ i, ((Value.slice A531 ((doR SSa KKa p).rows.length) c532)).ownBlock = some i → i ≠ mb517 := fun i hi => by have := (World.ownsRow.lt hO538 i hi).1; have := Hm522.lt; omega
           have ob550 : ∀ i, ((Value.slice A531 ((doR SSa KKa p).rows.length) c532)).ownBlock = some i → i ≠ kb518 := fun i hi => by have := (World.ownsRow.lt hO538 i hi).1; have := Hk523.lt; omega
           have O539 := own_base hO538 K28.size
           clear hO538
           have hl540 := hB537.ledg.le
           have hl541 := doK_len SSa KKa p
           refine ⟨_, _, rfl, rfl, ?_⟩
           replace K28 := K28.trans K534 (U := none_) (fun i h1 h2 => h2) (fun i h1 h2 => by have h2 : i = mb14 ∨ i = kb15 := h2; exfalso; omega)
           replace H29 := H29.keep K534 (by intro h; change tb = mb14 ∨ tb = kb15 at h; omega)
           replace H30 := H30.keep K534 (by intro h; change b1 = mb14 ∨ b1 = kb15 at h; omega)
           replace H31 := H31.keep K534 (by intro h; change b7 = mb14 ∨ b7 = kb15 at h; omega)
           replace H32 := H32.keep K534 (by intro h; change b13 = mb14 ∨ b13 = kb15 at h; omega)
           replace H521 := H521.keep K534 (by intro h; change b516 = mb14 ∨ b516 = kb15 at h; omega)
           replace Hm522 := Hm522.keep K534 (by intro h; change mb517 = mb14 ∨ mb517 = kb15 at h; omega)
           replace Hk523 := Hk523.keep K534 (by intro h; change kb518 = mb14 ∨ kb518 = kb15 at h; omega)
           clear K534
           refine Ops.new (o := rowL [(i64 0), (i64 0), (Value.slice none 0 0)] 30) (V := fun b => (ptr b)) (by kernel_rfl) (d := (some 10)) (by kernel_rfl) (fun b => rfl) (fun b551 w552 hb553 H554 K555 hs556 => ?_)
           have lb551tb : tb < b551 := by have := H29.lt; omega
           have lb551b1 : b1 < b551 := by have := H30.lt; omega
           have lb551b7 : b7 < b551 := by have := H31.lt; omega
           have lb551b13 : b13 < b551 := by have := H32.lt; omega
           have lb551mb14 : mb14 < b551 := by have := Hm535.lt; omega
           have lb551kb15 : kb15 < b551 := by have := Hk536.lt; omega
           have lb551b516 : b516 < b551 := by have := H521.lt; omega
           have lb551mb517 : mb517 < b551 := by have := Hm522.lt; omega
           have lb551kb518 : kb518 < b551 := by have := Hk523.lt; omega
           have nb551 : w.heap.size ≤ b551 := by have := K28.size; omega
           have ob557 : ∀ i, ((Value.slice A531 ((doR SSa KKa p).rows.length) c532)).ownBlock = some i → i < b551 := fun i hi => by have := (World.ownsRow.lt O539 i hi).2; omega
           replace K28 := K28.trans K555 (U := none_) (fun i h1 h2 => h2) (fun i h1 h2 => by exact h2)
           replace H29 := H29.keep K555 (fun h => h)
           replace H30 := H30.keep K555 (fun h => h)
           replace H31 := H31.keep K555 (fun h => h)
           replace H32 := H32.keep K555 (fun h => h)
           replace Hm535 := Hm535.keep K555 (fun h => h)
           replace Hk536 := Hk536.keep K555 (fun h => h)
           replace H521 := H521.keep K555 (fun h => h)
           replace Hm522 := Hm522.keep K555 (fun h => h)
           replace Hk523 := Hk523.keep K555 (fun h => h)
           replace O539 := own_keep0 O539 K555
           clear K555 hs556
           refine Ops.put (t := 30) (b := b551) (off := 0) (v := (agg [(i64 ((doR SSa KKa p).why)), (i64 ((doR SSa KKa p).amount)), (Value.slice A531 ((doR SSa KKa p).rows.length) c532)])) (ys := [(i64 ((doR SSa KKa p).why)), (i64 ((doR SSa KKa p).amount)), (Value.slice A531 ((doR SSa KKa p).rows.length) c532)]) (by kernel_rfl) (by kernel_rfl) H554 (by kernel_rfl) (d := none) (by kernel_rfl) rfl (fun w558 H559 K560 => ?_)
           clear H554
           replace K28 := K28.trans K560 (U := none_) (fun i h1 h2 => h2) (fun i h1 h2 => by have h2 : i = b551 := h2; exfalso; omega)
           replace H29 := H29.keep K560 (by intro h; change tb = b551 at h; omega)
           replace H30 := H30.keep K560 (by intro h; change b1 = b551 at h; omega)
           replace H31 := H31.keep K560 (by intro h; change b7 = b551 at h; omega)
           replace H32 := H32.keep K560 (by intro h; change b13 = b551 at h; omega)
           replace Hm535 := Hm535.keep K560 (by intro h; change mb14 = b551 at h; omega)
           replace Hk536 := Hk536.keep K560 (by intro h; change kb15 = b551 at h; omega)
           replace H521 := H521.keep K560 (by intro h; change b516 = b551 at h; omega)
           replace Hm522 := Hm522.keep K560 (by intro h; change mb517 = b551 at h; omega)
           replace Hk523 := Hk523.keep K560 (by intro h; change kb518 = b551 at h; omega)
           replace O539 := own_keep O539 K560 (fun i hi hs => by have hs : i = b551 := hs; have := ob557 i hi; omega)
           clear K560
           refine od ?_
           refine qs ?_
           refine qg ?_
           refine og 1 [(4, (ptr b1)), (5, (ptr b7)), (6, (Value.bool false)), (7, (ptr b13)), (9, (ptr b516)), (10, (ptr b551)), (92, (ptr b13))] 1 ?_
           refine Ops.go (v := (agg [(i64 q.kind), (Value.string (str q.frm)), (Value.string (str q.to)), (i64 q.amount), (Value.string (str q.key)), (i64 q.slot), (i64 q.shard)])) (by kernel_rfl) (Runs.load (t := 24) (a := ⟨b7, 0, none⟩) (by kernel_rfl) (H31.loads (by kernel_rfl))) (d := (some 93)) (by kernel_rfl) rfl ?_
           refine Ops.call (by kernel_rfl) (d := (some 94)) (by kernel_rfl) (Do_calls _ b13 mb14 kb15 m530 (doS SSa KKa p) (doK SSa KKa p) q H32 Hm535 Hk536 (by omega) hB537 (by first | omega | decide) (by first | omega | decide)) ?_
           rintro _ w564 ⟨m561, A562, c563, rfl, K565, Hm566, Hk567, hB568, hO569⟩
           have ob573 : ∀ i, ((Value.slice A562 ((doR (doS SSa KKa p) (doK SSa KKa p) q).rows.length) c563)).ownBlock = some i → i ≠ tb := fun i hi => by have := (World.ownsRow.lt hO569 i hi).1; have := H29.lt; omega
           have ob574 : ∀ i, ((Value.slice A562 ((doR (doS SSa KKa p) (doK SSa KKa p) q).rows.length) c563)).ownBlock = some i → i ≠ b1 := fun i hi => by have := (World.ownsRow.lt hO569 i hi).1; have := H30.lt; omega
           have ob575 : ∀ i, ((Value.slice A562 ((doR (doS SSa KKa p) (doK SSa KKa p) q).rows.length) c563)).ownBlock = some i → i ≠ b7 := fun i hi => by have := (World.ownsRow.lt hO569 i hi).1; have := H31.lt; omega
           have ob576 : ∀ i, ((Value.slice A562 ((doR (doS SSa KKa p) (doK SSa KKa p) q).rows.length) c563)).ownBlock = some i → i ≠ b13 := fun i hi => by have := (World.ownsRow.lt hO569 i hi).1; have := H32.lt; omega
           have ob577 : ∀ i, ((Value.slice A562 ((doR (doS SSa KKa p) (doK SSa KKa p) q).rows.length) c563)).ownBlock = some i → i ≠ mb14 := fun i hi => by have := (World.ownsRow.lt hO569 i hi).1; have := Hm535.lt; omega
           have ob578 : ∀ i, ((Value.slice A562 ((doR (doS SSa KKa p) (doK SSa KKa p) q).rows.length) c563)).ownBlock = some i → i ≠ kb15 := fun i hi => by have := (World.ownsRow.lt hO569 i hi).1; have := Hk536.lt; omega
           have ob579 : ∀ i, ((Value.slice A562 ((doR (doS SSa KKa p) (doK SSa KKa p) q).rows.length) c563)).ownBlock = some i → i ≠ b516 := fun i hi => by have := (World.ownsRow.lt hO569 i hi).1; have := H521.lt; omega
           have ob580 : ∀ i, ((Value.slice A562 ((doR (doS SSa KKa p) (doK SSa KKa p) q).rows.length) c563)).ownBlock = some i → i ≠ mb517 := fun i hi => by have := (World.ownsRow.lt hO569 i hi).1; have := Hm522.lt; omega
           have ob581 : ∀ i, ((Value.slice A562 ((doR (doS SSa KKa p) (doK SSa KKa p) q).rows.length) c563)).ownBlock = some i → i ≠ kb518 := fun i hi => by have := (World.ownsRow.lt hO569 i hi).1; have := Hk523.lt; omega
           have ob582 : ∀ i, ((Value.slice A562 ((doR (doS SSa KKa p) (doK SSa KKa p) q).rows.length) c563)).ownBlock = some i → i ≠ b551 := fun i hi => by have := (World.ownsRow.lt hO569 i hi).1; have := H559.lt; omega
           have oo583 : ∀ i, ((Value.slice A531 ((doR SSa KKa p).rows.length) c532)).ownBlock = some i → ((Value.slice A562 ((doR (doS SSa KKa p) (doK SSa KKa p) q).rows.length) c563)).ownBlock = some i → False := fun i hi hs => by have := (World.ownsRow.lt hO569 i hs).1; have := (World.ownsRow.lt O539 i hi).2; omega
           have oo584 : ∀ i, ((Value.slice A562 ((doR (doS SSa KKa p) (doK SSa KKa p) q).rows.length) c563)).ownBlock = some i → ((Value.slice A531 ((doR SSa KKa p).rows.length) c532)).ownBlock = some i → False := fun i hi hs => oo583 i hs hi
           have O570 := own_base hO569 K28.size
           clear hO569
           have hl571 := hB568.ledg.le
           have hl572 := doK_len (doS SSa KKa p) (doK SSa KKa p) q
           refine ⟨_, _, rfl, rfl, ?_⟩
           replace K28 := K28.trans K565 (U := none_) (fun i h1 h2 => h2) (fun i h1 h2 => by have h2 : i = mb14 ∨ i = kb15 := h2; exfalso; omega)
           replace H29 := H29.keep K565 (by intro h; change tb = mb14 ∨ tb = kb15 at h; omega)
           replace H30 := H30.keep K565 (by intro h; change b1 = mb14 ∨ b1 = kb15 at h; omega)
           replace H31 := H31.keep K565 (by intro h; change b7 = mb14 ∨ b7 = kb15 at h; omega)
           replace H32 := H32.keep K565 (by intro h; change b13 = mb14 ∨ b13 = kb15 at h; omega)
           replace H521 := H521.keep K565 (by intro h; change b516 = mb14 ∨ b516 = kb15 at h; omega)
           replace Hm522 := Hm522.keep K565 (by intro h; change mb517 = mb14 ∨ mb517 = kb15 at h; omega)
           replace Hk523 := Hk523.keep K565 (by intro h; change kb518 = mb14 ∨ kb518 = kb15 at h; omega)
           replace H559 := H559.keep K565 (by intro h; change b551 = mb14 ∨ b551 = kb15 at h; omega)
           replace O539 := own_keep O539 K565 (fun i hi hs => by have hs : i = mb14 ∨ i = kb15 := hs; rcases hs with hs | hs; (have := ob546 i hi; omega); (have := ob547 i hi; omega))
           clear K565
           refine Ops.new (o := rowL [(i64 0), (i64 0), (Value.slice none 0 0)] 30) (V := fun b => (ptr b)) (by kernel_rfl) (d := (some 11)) (by kernel_rfl) (fun b => rfl) (fun b585 w586 hb587 H588 K589 hs590 => ?_)
           have lb585tb : tb < b585 := by have := H29.lt; omega
           have lb585b1 : b1 < b585 := by have := H30.lt; omega
           have lb585b7 : b7 < b585 := by have := H31.lt; omega
           have lb585b13 : b13 < b585 := by have := H32.lt; omega
           have lb585mb14 : mb14 < b585 := by have := Hm566.lt; omega
           have lb585kb15 : kb15 < b585 := by have := Hk567.lt; omega
           have lb585b516 : b516 < b585 := by have := H521.lt; omega
           have lb585mb517 : mb517 < b585 := by have := Hm522.lt; omega
           have lb585kb518 : kb518 < b585 := by have := Hk523.lt; omega
           have lb585b551 : b551 < b585 := by have := H559.lt; omega
           have nb585 : w.heap.size ≤ b585 := by have := K28.size; omega
           have ob591 : ∀ i, ((Value.slice A531 ((doR SSa KKa p).rows.length) c532)).ownBlock = some i → i < b585 := fun i hi => by have := (World.ownsRow.lt O539 i hi).2; omega
           have ob592 : ∀ i, ((Value.slice A562 ((doR (doS SSa KKa p) (doK SSa KKa p) q).rows.length) c563)).ownBlock = some i → i < b585 := fun i hi => by have := (World.ownsRow.lt O570 i hi).2; omega
           replace K28 := K28.trans K589 (U := none_) (fun i h1 h2 => h2) (fun i h1 h2 => by exact h2)
           replace H29 := H29.keep K589 (fun h => h)
           replace H30 := H30.keep K589 (fun h => h)
           replace H31 := H31.keep K589 (fun h => h)
           replace H32 := H32.keep K589 (fun h => h)
           replace Hm566 := Hm566.keep K589 (fun h => h)
           replace Hk567 := Hk567.keep K589 (fun h => h)
           replace H521 := H521.keep K589 (fun h => h)
           replace Hm522 := Hm522.keep K589 (fun h => h)
           replace Hk523 := Hk523.keep K589 (fun h => h)
           replace H559 := H559.keep K589 (fun h => h)
           replace O539 := own_keep0 O539 K589
           replace O570 := own_keep0 O570 K589
           clear K589 hs590
           refine Ops.put (t := 30) (b := b585) (off := 0) (v := (agg [(i64 ((doR (doS SSa KKa p) (doK SSa KKa p) q).why)), (i64 ((doR (doS SSa KKa p) (doK SSa KKa p) q).amount)), (Value.slice A562 ((doR (doS SSa KKa p) (doK SSa KKa p) q).rows.length) c563)])) (ys := [(i64 ((doR (doS SSa KKa p) (doK SSa KKa p) q).why)), (i64 ((doR (doS SSa KKa p) (doK SSa KKa p) q).amount)), (Value.slice A562 ((doR (doS SSa KKa p) (doK SSa KKa p) q).rows.length) c563)]) (by kernel_rfl) (by kernel_rfl) H588 (by kernel_rfl) (d := none) (by kernel_rfl) rfl (fun w593 H594 K595 => ?_)
           clear H588
           replace K28 := K28.trans K595 (U := none_) (fun i h1 h2 => h2) (fun i h1 h2 => by have h2 : i = b585 := h2; exfalso; omega)
           replace H29 := H29.keep K595 (by intro h; change tb = b585 at h; omega)
           replace H30 := H30.keep K595 (by intro h; change b1 = b585 at h; omega)
           replace H31 := H31.keep K595 (by intro h; change b7 = b585 at h; omega)
           replace H32 := H32.keep K595 (by intro h; change b13 = b585 at h; omega)
           replace Hm566 := Hm566.keep K595 (by intro h; change mb14 = b585 at h; omega)
           replace Hk567 := Hk567.keep K595 (by intro h; change kb15 = b585 at h; omega)
           replace H521 := H521.keep K595 (by intro h; change b516 = b585 at h; omega)
           replace Hm522 := Hm522.keep K595 (by intro h; change mb517 = b585 at h; omega)
           replace Hk523 := Hk523.keep K595 (by intro h; change kb518 = b585 at h; omega)
           replace H559 := H559.keep K595 (by intro h; change b551 = b585 at h; omega)
           replace O539 := own_keep O539 K595 (fun i hi hs => by have hs : i = b585 := hs; have := ob591 i hi; omega)
           replace O570 := own_keep O570 K595 (fun i hi hs => by have hs : i = b585 := hs; have := ob592 i hi; omega)
           clear K595
           refine od ?_
           refine qs ?_
           refine qg ?_
           refine og 1 [(4, (ptr b1)), (5, (ptr b7)), (6, (Value.bool false)), (7, (ptr b13)), (9, (ptr b516)), (10, (ptr b551)), (11, (ptr b585)), (95, (ptr b516))] 1 ?_
           refine Ops.go (v := (agg [(i64 q.kind), (Value.string (str q.frm)), (Value.string (str q.to)), (i64 q.amount), (Value.string (str q.key)), (i64 q.slot), (i64 q.shard)])) (by kernel_rfl) (Runs.load (t := 24) (a := ⟨b7, 0, none⟩) (by kernel_rfl) (H31.loads (by kernel_rfl))) (d := (some 96)) (by kernel_rfl) rfl ?_
           refine Ops.call (by kernel_rfl) (d := (some 97)) (by kernel_rfl) (Do_calls _ b516 mb517 kb518 mma SSa KKa q H521 Hm522 Hk523 (by omega) hBma (by first | omega | decide) (by first | omega | decide)) ?_
           rintro _ w599 ⟨m596, A597, c598, rfl, K600, Hm601, Hk602, hB603, hO604⟩
           have ob608 : ∀ i, ((Value.slice A597 ((doR SSa KKa q).rows.length) c598)).ownBlock = some i → i ≠ tb := fun i hi => by have := (World.ownsRow.lt hO604 i hi).1; have := H29.lt; omega
           have ob609 : ∀ i, ((Value.slice A597 ((doR SSa KKa q).rows.length) c598)).ownBlock = some i → i ≠ b1 := fun i hi => by have := (World.ownsRow.lt hO604 i hi).1; have := H30.lt; omega
           have ob610 : ∀ i, ((Value.slice A597 ((doR SSa KKa q).rows.length) c598)).ownBlock = some i → i ≠ b7 := fun i hi => by have := (World.ownsRow.lt hO604 i hi).1; have := H31.lt; omega
           have ob611 : ∀ i, ((Value.slice A597 ((doR SSa KKa q).rows.length) c598)).ownBlock = some i → i ≠ b13 := fun i hi => by have := (World.ownsRow.lt hO604 i hi).1; have := H32.lt; omega
           have ob612 : ∀ i, ((Value.slice A597 ((doR SSa KKa q).rows.length) c598)).ownBlock = some i → i ≠ mb14 := fun i hi => by have := (World.ownsRow.lt hO604 i hi).1; have := Hm566.lt; omega
           have ob613 : ∀ i, ((Value.slice A597 ((doR SSa KKa q).rows.length) c598)).ownBlock = some i → i ≠ kb15 := fun i hi => by have := (World.ownsRow.lt hO604 i hi).1; have := Hk567.lt; omega
           have ob614 : ∀ i, ((Value.slice A597 ((doR SSa KKa q).rows.length) c598)).ownBlock = some i → i ≠ b516 := fun i hi => by have := (World.ownsRow.lt hO604 i hi).1; have := H521.lt; omega
           have ob615 : ∀ i, ((Value.slice A597 ((doR SSa KKa q).rows.length) c598)).ownBlock = some i → i ≠ mb517 := fun i hi => by have := (World.ownsRow.lt hO604 i hi).1; have := Hm522.lt; omega
           have ob616 : ∀ i, ((Value.slice A597 ((doR SSa KKa q).rows.length) c598)).ownBlock = some i → i ≠ kb518 := fun i hi => by have := (World.ownsRow.lt hO604 i hi).1; have := Hk523.lt; omega
           have ob617 : ∀ i, ((Value.slice A597 ((doR SSa KKa q).rows.length) c598)).ownBlock = some i → i ≠ b551 := fun i hi => by have := (World.ownsRow.lt hO604 i hi).1; have := H559.lt; omega
           have ob618 : ∀ i, ((Value.slice A597 ((doR SSa KKa q).rows.length) c598)).ownBlock = some i → i ≠ b585 := fun i hi => by have := (World.ownsRow.lt hO604 i hi).1; have := H594.lt; omega
           have oo619 : ∀ i, ((Value.slice A531 ((doR SSa KKa p).rows.length) c532)).ownBlock = some i → ((Value.slice A597 ((doR SSa KKa q).rows.length) c598)).ownBlock = some i → False := fun i hi hs => by have := (World.ownsRow.lt hO604 i hs).1; have := (World.ownsRow.lt O539 i hi).2; omega
           have oo620 : ∀ i, ((Value.slice A597 ((doR SSa KKa q).rows.length) c598)).ownBlock = some i → ((Value.slice A531 ((doR SSa KKa p).rows.length) c532)).ownBlock = some i → False := fun i hi hs => oo619 i hs hi
           have oo621 : ∀ i, ((Value.slice A562 ((doR (doS SSa KKa p) (doK SSa KKa p) q).rows.length) c563)).ownBlock = some i → ((Value.slice A597 ((doR SSa KKa q).rows.length) c598)).ownBlock = some i → False := fun i hi hs => by have := (World.ownsRow.lt hO604 i hs).1; have := (World.ownsRow.lt O570 i hi).2; omega
           have oo622 : ∀ i, ((Value.slice A597 ((doR SSa KKa q).rows.length) c598)).ownBlock = some i → ((Value.slice A562 ((doR (doS SSa KKa p) (doK SSa KKa p) q).rows.length) c563)).ownBlock = some i → False := fun i hi hs => oo621 i hs hi
           have O605 := own_base hO604 K28.size
           clear hO604
           have hl606 := hB603.ledg.le
           have hl607 := doK_len SSa KKa q
           refine ⟨_, _, rfl, rfl, ?_⟩
           replace K28 := K28.trans K600 (U := none_) (fun i h1 h2 => h2) (fun i h1 h2 => by have h2 : i = mb517 ∨ i = kb518 := h2; exfalso; omega)
           replace H29 := H29.keep K600 (by intro h; change tb = mb517 ∨ tb = kb518 at h; omega)
           replace H30 := H30.keep K600 (by intro h; change b1 = mb517 ∨ b1 = kb518 at h; omega)
           replace H31 := H31.keep K600 (by intro h; change b7 = mb517 ∨ b7 = kb518 at h; omega)
           replace H32 := H32.keep K600 (by intro h; change b13 = mb517 ∨ b13 = kb518 at h; omega)
           replace Hm566 := Hm566.keep K600 (by intro h; change mb14 = mb517 ∨ mb14 = kb518 at h; omega)
           replace Hk567 := Hk567.keep K600 (by intro h; change kb15 = mb517 ∨ kb15 = kb518 at h; omega)
           replace H521 := H521.keep K600 (by intro h; change b516 = mb517 ∨ b516 = kb518 at h; omega)
           replace H559 := H559.keep K600 (by intro h; change b551 = mb517 ∨ b551 = kb518 at h; omega)
           replace H594 := H594.keep K600 (by intro h; change b585 = mb517 ∨ b585 = kb518 at h; omega)
           replace O539 := own_keep O539 K600 (fun i hi hs => by have hs : i = mb517 ∨ i = kb518 := hs; rcases hs with hs | hs; (have := ob549 i hi; omega); (have := ob550 i hi; omega))
           replace O570 := own_keep O570 K600 (fun i hi hs => by have hs : i = mb517 ∨ i = kb518 := hs; rcases hs with hs | hs; (have := ob580 i hi; omega); (have := ob581 i hi; omega))
           clear K600
           refine Ops.new (o := rowL [(i64 0), (i64 0), (Value.slice none 0 0)] 30) (V := fun b => (ptr b)) (by kernel_rfl) (d := (some 12)) (by kernel_rfl) (fun b => rfl) (fun b623 w624 hb625 H626 K627 hs628 => ?_)
           have lb623tb : tb < b623 := by have := H29.lt; omega
           have lb623b1 : b1 < b623 := by have := H30.lt; omega
           have lb623b7 : b7 < b623 := by have := H31.lt; omega
           have lb623b13 : b13 < b623 := by have := H32.lt; omega
           have lb623mb14 : mb14 < b623 := by have := Hm566.lt; omega
           have lb623kb15 : kb15 < b623 := by have := Hk567.lt; omega
           have lb623b516 : b516 < b623 := by have := H521.lt; omega
           have lb623mb517 : mb517 < b623 := by have := Hm601.lt; omega
           have lb623kb518 : kb518 < b623 := by have := Hk602.lt; omega
           have lb623b551 : b551 < b623 := by have := H559.lt; omega
           have lb623b585 : b585 < b623 := by have := H594.lt; omega
           have nb623 : w.heap.size ≤ b623 := by have := K28.size; omega
           have ob629 : ∀ i, ((Value.slice A531 ((doR SSa KKa p).rows.length) c532)).ownBlock = some i → i < b623 := fun i hi => by have := (World.ownsRow.lt O539 i hi).2; omega
           have ob630 : ∀ i, ((Value.slice A562 ((doR (doS SSa KKa p) (doK SSa KKa p) q).rows.length) c563)).ownBlock = some i → i < b623 := fun i hi => by have := (World.ownsRow.lt O570 i hi).2; omega
           have ob631 : ∀ i, ((Value.slice A597 ((doR SSa KKa q).rows.length) c598)).ownBlock = some i → i < b623 := fun i hi => by have := (World.ownsRow.lt O605 i hi).2; omega
           replace K28 := K28.trans K627 (U := none_) (fun i h1 h2 => h2) (fun i h1 h2 => by exact h2)
           replace H29 := H29.keep K627 (fun h => h)
           replace H30 := H30.keep K627 (fun h => h)
           replace H31 := H31.keep K627 (fun h => h)
           replace H32 := H32.keep K627 (fun h => h)
           replace Hm566 := Hm566.keep K627 (fun h => h)
           replace Hk567 := Hk567.keep K627 (fun h => h)
           replace H521 := H521.keep K627 (fun h => h)
           replace Hm601 := Hm601.keep K627 (fun h => h)
           replace Hk602 := Hk602.keep K627 (fun h => h)
           replace H559 := H559.keep K627 (fun h => h)
           replace H594 := H594.keep K627 (fun h => h)
           replace O539 := own_keep0 O539 K627
           replace O570 := own_keep0 O570 K627
           replace O605 := own_keep0 O605 K627
           clear K627 hs628
           refine Ops.put (t := 30) (b := b623) (off := 0) (v := (agg [(i64 ((doR SSa KKa q).why)), (i64 ((doR SSa KKa q).amount)), (Value.slice A597 ((doR SSa KKa q).rows.length) c598)])) (ys := [(i64 ((doR SSa KKa q).why)), (i64 ((doR SSa KKa q).amount)), (Value.slice A597 ((doR SSa KKa q).rows.length) c598)]) (by kernel_rfl) (by kernel_rfl) H626 (by kernel_rfl) (d := none) (by kernel_rfl) rfl (fun w632 H633 K634 => ?_)
           clear H626
           replace K28 := K28.trans K634 (U := none_) (fun i h1 h2 => h2) (fun i h1 h2 => by have h2 : i = b623 := h2; exfalso; omega)
           replace H29 := H29.keep K634 (by intro h; change tb = b623 at h; omega)
           replace H30 := H30.keep K634 (by intro h; change b1 = b623 at h; omega)
           replace H31 := H31.keep K634 (by intro h; change b7 = b623 at h; omega)
           replace H32 := H32.keep K634 (by intro h; change b13 = b623 at h; omega)
           replace Hm566 := Hm566.keep K634 (by intro h; change mb14 = b623 at h; omega)
           replace Hk567 := Hk567.keep K634 (by intro h; change kb15 = b623 at h; omega)
           replace H521 := H521.keep K634 (by intro h; change b516 = b623 at h; omega)
           replace Hm601 := Hm601.keep K634 (by intro h; change mb517 = b623 at h; omega)
           replace Hk602 := Hk602.keep K634 (by intro h; change kb518 = b623 at h; omega)
           replace H559 := H559.keep K634 (by intro h; change b551 = b623 at h; omega)
           replace H594 := H594.keep K634 (by intro h; change b585 = b623 at h; omega)
           replace O539 := own_keep O539 K634 (fun i hi hs => by have hs : i = b623 := hs; have := ob629 i hi; omega)
           replace O570 := own_keep O570 K634 (fun i hi hs => by have hs : i = b623 := hs; have := ob630 i hi; omega)
           replace O605 := own_keep O605 K634 (fun i hi hs => by have hs : i = b623 := hs; have := ob631 i hi; omega)
           clear K634
           refine od ?_
           refine qs ?_
           refine qg ?_
           refine og 1 [(4, (ptr b1)), (6, (Value.bool false)), (7, (ptr b13)), (9, (ptr b516)), (10, (ptr b551)), (11, (ptr b585)), (12, (ptr b623)), (98, (ptr b516))] 1 ?_
           refine Ops.go (v := (agg [(i64 p.kind), (Value.string (str p.frm)), (Value.string (str p.to)), (i64 p.amount), (Value.string (str p.key)), (i64 p.slot), (i64 p.shard)])) (by kernel_rfl) (Runs.load (t := 24) (a := ⟨b1, 0, none⟩) (by kernel_rfl) (H30.loads (by kernel_rfl))) (d := (some 99)) (by kernel_rfl) rfl ?_
           refine Ops.call (by kernel_rfl) (d := (some 100)) (by kernel_rfl) (Do_calls _ b516 mb517 kb518 m596 (doS SSa KKa q) (doK SSa KKa q) p H521 Hm601 Hk602 (by omega) hB603 (by first | omega | decide) (by first | omega | decide)) ?_
           rintro _ w638 ⟨m635, A636, c637, rfl, K639, Hm640, Hk641, hB642, hO643⟩
           have ob647 : ∀ i, ((Value.slice A636 ((doR (doS SSa KKa q) (doK SSa KKa q) p).rows.length) c637)).ownBlock = some i → i ≠ tb := fun i hi => by have := (World.ownsRow.lt hO643 i hi).1; have := H29.lt; omega
           have ob648 : ∀ i, ((Value.slice A636 ((doR (doS SSa KKa q) (doK SSa KKa q) p).rows.length) c637)).ownBlock = some i → i ≠ b1 := fun i hi => by have := (World.ownsRow.lt hO643 i hi).1; have := H30.lt; omega
           have ob649 : ∀ i, ((Value.slice A636 ((doR (doS SSa KKa q) (doK SSa KKa q) p).rows.length) c637)).ownBlock = some i → i ≠ b7 := fun i hi => by have := (World.ownsRow.lt hO643 i hi).1; have := H31.lt; omega
           have ob650 : ∀ i, ((Value.slice A636 ((doR (doS SSa KKa q) (doK SSa KKa q) p).rows.length) c637)).ownBlock = some i → i ≠ b13 := fun i hi => by have := (World.ownsRow.lt hO643 i hi).1; have := H32.lt; omega
           have ob651 : ∀ i, ((Value.slice A636 ((doR (doS SSa KKa q) (doK SSa KKa q) p).rows.length) c637)).ownBlock = some i → i ≠ mb14 := fun i hi => by have := (World.ownsRow.lt hO643 i hi).1; have := Hm566.lt; omega
           have ob652 : ∀ i, ((Value.slice A636 ((doR (doS SSa KKa q) (doK SSa KKa q) p).rows.length) c637)).ownBlock = some i → i ≠ kb15 := fun i hi => by have := (World.ownsRow.lt hO643 i hi).1; have := Hk567.lt; omega
           have ob653 : ∀ i, ((Value.slice A636 ((doR (doS SSa KKa q) (doK SSa KKa q) p).rows.length) c637)).ownBlock = some i → i ≠ b516 := fun i hi => by have := (World.ownsRow.lt hO643 i hi).1; have := H521.lt; omega
           have ob654 : ∀ i, ((Value.slice A636 ((doR (doS SSa KKa q) (doK SSa KKa q) p).rows.length) c637)).ownBlock = some i → i ≠ mb517 := fun i hi => by have := (World.ownsRow.lt hO643 i hi).1; have := Hm601.lt; omega
           have ob655 : ∀ i, ((Value.slice A636 ((doR (doS SSa KKa q) (doK SSa KKa q) p).rows.length) c637)).ownBlock = some i → i ≠ kb518 := fun i hi => by have := (World.ownsRow.lt hO643 i hi).1; have := Hk602.lt; omega
           have ob656 : ∀ i, ((Value.slice A636 ((doR (doS SSa KKa q) (doK SSa KKa q) p).rows.length) c637)).ownBlock = some i → i ≠ b551 := fun i hi => by have := (World.ownsRow.lt hO643 i hi).1; have := H559.lt; omega
           have ob657 : ∀ i, ((Value.slice A636 ((doR (doS SSa KKa q) (doK SSa KKa q) p).rows.length) c637)).ownBlock = some i → i ≠ b585 := fun i hi => by have := (World.ownsRow.lt hO643 i hi).1; have := H594.lt; omega
           have ob658 : ∀ i, ((Value.slice A636 ((doR (doS SSa KKa q) (doK SSa KKa q) p).rows.length) c637)).ownBlock = some i → i ≠ b623 := fun i hi => by have := (World.ownsRow.lt hO643 i hi).1; have := H633.lt; omega
           have oo659 : ∀ i, ((Value.slice A531 ((doR SSa KKa p).rows.length) c532)).ownBlock = some i → ((Value.slice A636 ((doR (doS SSa KKa q) (doK SSa KKa q) p).rows.length) c637)).ownBlock = some i → False := fun i hi hs => by have := (World.ownsRow.lt hO643 i hs).1; have := (World.ownsRow.lt O539 i hi).2; omega
           have oo660 : ∀ i, ((Value.slice A636 ((doR (doS SSa KKa q) (doK SSa KKa q) p).rows.length) c637)).ownBlock = some i → ((Value.slice A531 ((doR SSa KKa p).rows.length) c532)).ownBlock = some i → False := fun i hi hs => oo659 i hs hi
           have oo661 : ∀ i, ((Value.slice A562 ((doR (doS SSa KKa p) (doK SSa KKa p) q).rows.length) c563)).ownBlock = some i → ((Value.slice A636 ((doR (doS SSa KKa q) (doK SSa KKa q) p).rows.length) c637)).ownBlock = some i → False := fun i hi hs => by have := (World.ownsRow.lt hO643 i hs).1; have := (World.ownsRow.lt O570 i hi).2; omega
           have oo662 : ∀ i, ((Value.slice A636 ((doR (doS SSa KKa q) (doK SSa KKa q) p).rows.length) c637)).ownBlock = some i → ((Value.slice A562 ((doR (doS SSa KKa p) (doK SSa KKa p) q).rows.length) c563)).ownBlock = some i → False := fun i hi hs => oo661 i hs hi
           have oo663 : ∀ i, ((Value.slice A597 ((doR SSa KKa q).rows.length) c598)).ownBlock = some i → ((Value.slice A636 ((doR (doS SSa KKa q) (doK SSa KKa q) p).rows.length) c637)).ownBlock = some i → False := fun i hi hs => by have := (World.ownsRow.lt hO643 i hs).1; have := (World.ownsRow.lt O605 i hi).2; omega
           have oo664 : ∀ i, ((Value.slice A636 ((doR (doS SSa KKa q) (doK SSa KKa q) p).rows.length) c637)).ownBlock = some i → ((Value.slice A597 ((doR SSa KKa q).rows.length) c598)).ownBlock = some i → False := fun i hi hs => oo663 i hs hi
           have O644 := own_base hO643 K28.size
           clear hO643
           have hl645 := hB642.ledg.le
           have hl646 := doK_len (doS SSa KKa q) (doK SSa KKa q) p
           refine ⟨_, _, rfl, rfl, ?_⟩
           replace K28 := K28.trans K639 (U := none_) (fun i h1 h2 => h2) (fun i h1 h2 => by have h2 : i = mb517 ∨ i = kb518 := h2; exfalso; omega)
           replace H29 := H29.keep K639 (by intro h; change tb = mb517 ∨ tb = kb518 at h; omega)
           replace H30 := H30.keep K639 (by intro h; change b1 = mb517 ∨ b1 = kb518 at h; omega)
           replace H31 := H31.keep K639 (by intro h; change b7 = mb517 ∨ b7 = kb518 at h; omega)
           replace H32 := H32.keep K639 (by intro h; change b13 = mb517 ∨ b13 = kb518 at h; omega)
           replace Hm566 := Hm566.keep K639 (by intro h; change mb14 = mb517 ∨ mb14 = kb518 at h; omega)
           replace Hk567 := Hk567.keep K639 (by intro h; change kb15 = mb517 ∨ kb15 = kb518 at h; omega)
           replace H521 := H521.keep K639 (by intro h; change b516 = mb517 ∨ b516 = kb518 at h; omega)
           replace H559 := H559.keep K639 (by intro h; change b551 = mb517 ∨ b551 = kb518 at h; omega)
           replace H594 := H594.keep K639 (by intro h; change b585 = mb517 ∨ b585 = kb518 at h; omega)
           replace H633 := H633.keep K639 (by intro h; change b623 = mb517 ∨ b623 = kb518 at h; omega)
           replace O539 := own_keep O539 K639 (fun i hi hs => by have hs : i = mb517 ∨ i = kb518 := hs; rcases hs with hs | hs; (have := ob549 i hi; omega); (have := ob550 i hi; omega))
           replace O570 := own_keep O570 K639 (fun i hi hs => by have hs : i = mb517 ∨ i = kb518 := hs; rcases hs with hs | hs; (have := ob580 i hi; omega); (have := ob581 i hi; omega))
           replace O605 := own_keep O605 K639 (fun i hi hs => by have hs : i = mb517 ∨ i = kb518 := hs; rcases hs with hs | hs; (have := ob615 i hi; omega); (have := ob616 i hi; omega))
           clear K639
           refine Ops.new (o := rowL [(i64 0), (i64 0), (Value.slice none 0 0)] 30) (V := fun b => (ptr b)) (by kernel_rfl) (d := (some 13)) (by kernel_rfl) (fun b => rfl) (fun b665 w666 hb667 H668 K669 hs670 => ?_)
           have lb665tb : tb < b665 := by have := H29.lt; omega
           have lb665b1 : b1 < b665 := by have := H30.lt; omega
           have lb665b7 : b7 < b665 := by have := H31.lt; omega
           have lb665b13 : b13 < b665 := by have := H32.lt; omega
           have lb665mb14 : mb14 < b665 := by have := Hm566.lt; omega
           have lb665kb15 : kb15 < b665 := by have := Hk567.lt; omega
           have lb665b516 : b516 < b665 := by have := H521.lt; omega
           have lb665mb517 : mb517 < b665 := by have := Hm640.lt; omega
           have lb665kb518 : kb518 < b665 := by have := Hk641.lt; omega
           have lb665b551 : b551 < b665 := by have := H559.lt; omega
           have lb665b585 : b585 < b665 := by have := H594.lt; omega
           have lb665b623 : b623 < b665 := by have := H633.lt; omega
           have nb665 : w.heap.size ≤ b665 := by have := K28.size; omega
           have ob671 : ∀ i, ((Value.slice A531 ((doR SSa KKa p).rows.length) c532)).ownBlock = some i → i < b665 := fun i hi => by have := (World.ownsRow.lt O539 i hi).2; omega
           have ob672 : ∀ i, ((Value.slice A562 ((doR (doS SSa KKa p) (doK SSa KKa p) q).rows.length) c563)).ownBlock = some i → i < b665 := fun i hi => by have := (World.ownsRow.lt O570 i hi).2; omega
           have ob673 : ∀ i, ((Value.slice A597 ((doR SSa KKa q).rows.length) c598)).ownBlock = some i → i < b665 := fun i hi => by have := (World.ownsRow.lt O605 i hi).2; omega
           have ob674 : ∀ i, ((Value.slice A636 ((doR (doS SSa KKa q) (doK SSa KKa q) p).rows.length) c637)).ownBlock = some i → i < b665 := fun i hi => by have := (World.ownsRow.lt O644 i hi).2; omega
           replace K28 := K28.trans K669 (U := none_) (fun i h1 h2 => h2) (fun i h1 h2 => by exact h2)
           replace H29 := H29.keep K669 (fun h => h)
           replace H30 := H30.keep K669 (fun h => h)
           replace H31 := H31.keep K669 (fun h => h)
           replace H32 := H32.keep K669 (fun h => h)
           replace Hm566 := Hm566.keep K669 (fun h => h)
           replace Hk567 := Hk567.keep K669 (fun h => h)
           replace H521 := H521.keep K669 (fun h => h)
           replace Hm640 := Hm640.keep K669 (fun h => h)
           replace Hk641 := Hk641.keep K669 (fun h => h)
           replace H559 := H559.keep K669 (fun h => h)
           replace H594 := H594.keep K669 (fun h => h)
           replace H633 := H633.keep K669 (fun h => h)
           replace O539 := own_keep0 O539 K669
           replace O570 := own_keep0 O570 K669
           replace O605 := own_keep0 O605 K669
           replace O644 := own_keep0 O644 K669
           clear K669 hs670
           refine Ops.put (t := 30) (b := b665) (off := 0) (v := (agg [(i64 ((doR (doS SSa KKa q) (doK SSa KKa q) p).why)), (i64 ((doR (doS SSa KKa q) (doK SSa KKa q) p).amount)), (Value.slice A636 ((doR (doS SSa KKa q) (doK SSa KKa q) p).rows.length) c637)])) (ys := [(i64 ((doR (doS SSa KKa q) (doK SSa KKa q) p).why)), (i64 ((doR (doS SSa KKa q) (doK SSa KKa q) p).amount)), (Value.slice A636 ((doR (doS SSa KKa q) (doK SSa KKa q) p).rows.length) c637)]) (by kernel_rfl) (by kernel_rfl) H668 (by kernel_rfl) (d := none) (by kernel_rfl) rfl (fun w675 H676 K677 => ?_)
           clear H668
           replace K28 := K28.trans K677 (U := none_) (fun i h1 h2 => h2) (fun i h1 h2 => by have h2 : i = b665 := h2; exfalso; omega)
           replace H29 := H29.keep K677 (by intro h; change tb = b665 at h; omega)
           replace H30 := H30.keep K677 (by intro h; change b1 = b665 at h; omega)
           replace H31 := H31.keep K677 (by intro h; change b7 = b665 at h; omega)
           replace H32 := H32.keep K677 (by intro h; change b13 = b665 at h; omega)
           replace Hm566 := Hm566.keep K677 (by intro h; change mb14 = b665 at h; omega)
           replace Hk567 := Hk567.keep K677 (by intro h; change kb15 = b665 at h; omega)
           replace H521 := H521.keep K677 (by intro h; change b516 = b665 at h; omega)
           replace Hm640 := Hm640.keep K677 (by intro h; change mb517 = b665 at h; omega)
           replace Hk641 := Hk641.keep K677 (by intro h; change kb518 = b665 at h; omega)
           replace H559 := H559.keep K677 (by intro h; change b551 = b665 at h; omega)
           replace H594 := H594.keep K677 (by intro h; change b585 = b665 at h; omega)
           replace H633 := H633.keep K677 (by intro h; change b623 = b665 at h; omega)
           replace O539 := own_keep O539 K677 (fun i hi hs => by have hs : i = b665 := hs; have := ob671 i hi; omega)
           replace O570 := own_keep O570 K677 (fun i hi hs => by have hs : i = b665 := hs; have := ob672 i hi; omega)
           replace O605 := own_keep O605 K677 (fun i hi hs => by have hs : i = b665 := hs; have := ob673 i hi; omega)
           replace O644 := own_keep O644 K677 (fun i hi hs => by have hs : i = b665 := hs; have := ob674 i hi; omega)
           clear K677
           refine od ?_
           refine qs ?_
           refine qg ?_
           refine Ops.go (v := (agg [(i64 ((doR SSa KKa p).why)), (i64 ((doR SSa KKa p).amount)), (Value.slice A531 ((doR SSa KKa p).rows.length) c532)])) (by kernel_rfl) (Runs.load (t := 30) (a := ⟨b551, 0, none⟩) (by kernel_rfl) (H559.loads (by kernel_rfl))) (d := (some 101)) (by kernel_rfl) rfl ?_
           refine Ops.go (v := (agg [(i64 ((doR (doS SSa KKa q) (doK SSa KKa q) p).why)), (i64 ((doR (doS SSa KKa q) (doK SSa KKa q) p).amount)), (Value.slice A636 ((doR (doS SSa KKa q) (doK SSa KKa q) p).rows.length) c637)])) (by kernel_rfl) (Runs.load (t := 30) (a := ⟨b665, 0, none⟩) (by kernel_rfl) (H676.loads (by kernel_rfl))) (d := (some 102)) (by kernel_rfl) rfl ?_
           refine Ops.call (by kernel_rfl) (d := (some 103)) (by kernel_rfl) (SameReply_calls _ A531 c532 (doR SSa KKa p) A636 c637 (doR (doS SSa KKa q) (doK SSa KKa q) p) (OwnT.rd O539) (OwnT.rd O644)) ?_
           rintro _ w681 ⟨t678, rfl, ht679, K680⟩
           refine ⟨_, _, rfl, rfl, ?_⟩
           replace K28 := K28.trans K680 (U := none_) (fun i h1 h2 => h2) (fun i h1 h2 => by exact h2)
           replace H29 := H29.keep K680 (fun h => h)
           replace H30 := H30.keep K680 (fun h => h)
           replace H31 := H31.keep K680 (fun h => h)
           replace H32 := H32.keep K680 (fun h => h)
           replace Hm566 := Hm566.keep K680 (fun h => h)
           replace Hk567 := Hk567.keep K680 (fun h => h)
           replace H521 := H521.keep K680 (fun h => h)
           replace Hm640 := Hm640.keep K680 (fun h => h)
           replace Hk641 := Hk641.keep K680 (fun h => h)
           replace H559 := H559.keep K680 (fun h => h)
           replace H594 := H594.keep K680 (fun h => h)
           replace H633 := H633.keep K680 (fun h => h)
           replace H676 := H676.keep K680 (fun h => h)
           replace O539 := own_keep0 O539 K680
           replace O570 := own_keep0 O570 K680
           replace O605 := own_keep0 O605 K680
           replace O644 := own_keep0 O644 K680
           clear K680
           refine og 1 [(6, (Value.bool false)), (7, (ptr b13)), (9, (ptr b516)), (11, (ptr b585)), (12, (ptr b623)), (104, (Value.bool t678))] 4 ?_
           have hap : ApartOps p q := ⟨by simp_all, by simp_all, by simp_all, fun e => by simp_all⟩
           have hapS := doS_comm (S := SSa) (K := KKa) hap hB568.ledg.led hB642.ledg.led
           have h682 : t678 = true := ht679.2 (by first | exact (doR_do hap.symm (by omega)).symm | exact doR_do hap (by omega))
           rw [h682]
           refine Ops.go (v := (agg [(i64 ((doR (doS SSa KKa p) (doK SSa KKa p) q).why)), (i64 ((doR (doS SSa KKa p) (doK SSa KKa p) q).amount)), (Value.slice A562 ((doR (doS SSa KKa p) (doK SSa KKa p) q).rows.length) c563)])) (by kernel_rfl) (Runs.load (t := 30) (a := ⟨b585, 0, none⟩) (by kernel_rfl) (H594.loads (by kernel_rfl))) (d := (some 105)) (by kernel_rfl) rfl ?_
           refine Ops.go (v := (agg [(i64 ((doR SSa KKa q).why)), (i64 ((doR SSa KKa q).amount)), (Value.slice A597 ((doR SSa KKa q).rows.length) c598)])) (by kernel_rfl) (Runs.load (t := 30) (a := ⟨b623, 0, none⟩) (by kernel_rfl) (H633.loads (by kernel_rfl))) (d := (some 106)) (by kernel_rfl) rfl ?_
           refine Ops.call (by kernel_rfl) (d := (some 107)) (by kernel_rfl) (SameReply_calls _ A562 c563 (doR (doS SSa KKa p) (doK SSa KKa p) q) A597 c598 (doR SSa KKa q) (OwnT.rd O570) (OwnT.rd O605)) ?_
           rintro _ w686 ⟨t683, rfl, ht684, K685⟩
           refine ⟨_, _, rfl, rfl, ?_⟩
           replace K28 := K28.trans K685 (U := none_) (fun i h1 h2 => h2) (fun i h1 h2 => by exact h2)
           replace H29 := H29.keep K685 (fun h => h)
           replace H30 := H30.keep K685 (fun h => h)
           replace H31 := H31.keep K685 (fun h => h)
           replace H32 := H32.keep K685 (fun h => h)
           replace Hm566 := Hm566.keep K685 (fun h => h)
           replace Hk567 := Hk567.keep K685 (fun h => h)
           replace H521 := H521.keep K685 (fun h => h)
           replace Hm640 := Hm640.keep K685 (fun h => h)
           replace Hk641 := Hk641.keep K685 (fun h => h)
           replace H559 := H559.keep K685 (fun h => h)
           replace H594 := H594.keep K685 (fun h => h)
           replace H633 := H633.keep K685 (fun h => h)
           replace H676 := H676.keep K685 (fun h => h)
           replace O539 := own_keep0 O539 K685
           replace O570 := own_keep0 O570 K685
           replace O605 := own_keep0 O605 K685
           replace O644 := own_keep0 O644 K685
           clear K685
           refine og 2 [(6, (Value.bool false)), (7, (ptr b13)), (9, (ptr b516)), (109, (Value.bool t683))] 9 ?_
           have h687 : t683 = true := ht684.2 (by first | exact (doR_do hap.symm (by omega)).symm | exact doR_do hap (by omega))
           rw [h687]
           refine og 2 [(6, (Value.bool false)), (7, (ptr b13)), (9, (ptr b516)), (109, (Value.bool true)), (110, (ptr b13)), (111, (ptr b516))] 11 ?_
           refine Ops.call (by kernel_rfl) (d := (some 112)) (by kernel_rfl) (Same_calls _ b13 mb14 kb15 m561 (doS (doS SSa KKa p) (doK SSa KKa p) q) (doK (doS SSa KKa p) (doK SSa KKa p) q) b516 mb517 kb518 m635 (doS (doS SSa KKa q) (doK SSa KKa q) p) (doK (doS SSa KKa q) (doK SSa KKa q) p) H32 Hm566 Hk567 (by omega) hB568 H521 Hm640 Hk641 (by omega) hB642) ?_
           rintro _ w691 ⟨t688, rfl, ht689, K690⟩
           refine ⟨_, _, rfl, rfl, ?_⟩
           replace K28 := K28.trans K690 (U := none_) (fun i h1 h2 => h2) (fun i h1 h2 => by exact h2)
           replace H29 := H29.keep K690 (fun h => h)
           replace H30 := H30.keep K690 (fun h => h)
           replace H31 := H31.keep K690 (fun h => h)
           replace H32 := H32.keep K690 (fun h => h)
           replace Hm566 := Hm566.keep K690 (fun h => h)
           replace Hk567 := Hk567.keep K690 (fun h => h)
           replace H521 := H521.keep K690 (fun h => h)
           replace Hm640 := Hm640.keep K690 (fun h => h)
           replace Hk641 := Hk641.keep K690 (fun h => h)
           replace H559 := H559.keep K690 (fun h => h)
           replace H594 := H594.keep K690 (fun h => h)
           replace H633 := H633.keep K690 (fun h => h)
           replace H676 := H676.keep K690 (fun h => h)
           replace O539 := own_keep0 O539 K690
           replace O570 := own_keep0 O570 K690
           replace O605 := own_keep0 O605 K690
           replace O644 := own_keep0 O644 K690
           clear K690
           refine og 2 [(6, (Value.bool false)), (7, (ptr b13)), (9, (ptr b516)), (114, (Value.bool t688))] 14 ?_
           have h692 : t688 = true := ht689.2 ⟨hapS, doK_comm hap⟩
           rw [h692]
           refine og 1 [(6, (Value.bool false)), (9, (ptr b516)), (114, (Value.bool true)), (115, (ptr b13))] 15 ?_
           refine Ops.call (by kernel_rfl) (d := (some 116)) (by kernel_rfl) (Text_calls _ b13 mb14 kb15 m561 (doS (doS SSa KKa p) (doK SSa KKa p) q) (doK (doS SSa KKa p) (doK SSa KKa p) q) tb H32 Hm566 Hk567 (by omega) hB568 H29 (by first | omega | decide) (by first | omega | decide)) ?_
           rintro _ w694 ⟨rfl, K693⟩
           refine ⟨_, _, rfl, rfl, ?_⟩
           replace K28 := K28.trans K693 (U := none_) (fun i h1 h2 => h2) (fun i h1 h2 => by exact h2)
           replace H29 := H29.keep K693 (fun h => h)
           replace H30 := H30.keep K693 (fun h => h)
           replace H31 := H31.keep K693 (fun h => h)
           replace H32 := H32.keep K693 (fun h => h)
           replace Hm566 := Hm566.keep K693 (fun h => h)
           replace Hk567 := Hk567.keep K693 (fun h => h)
           replace H521 := H521.keep K693 (fun h => h)
           replace Hm640 := Hm640.keep K693 (fun h => h)
           replace Hk641 := Hk641.keep K693 (fun h => h)
           replace H559 := H559.keep K693 (fun h => h)
           replace H594 := H594.keep K693 (fun h => h)
           replace H633 := H633.keep K693 (fun h => h)
           replace H676 := H676.keep K693 (fun h => h)
           replace O539 := own_keep0 O539 K693
           replace O570 := own_keep0 O570 K693
           replace O605 := own_keep0 O605 K693
           replace O644 := own_keep0 O644 K693
           clear K693
           refine og 1 [(6, (Value.bool false)), (114, (Value.bool true)), (116, (Value.string (str (textE (doS (doS SSa KKa p) (doK SSa KKa p) q) (doK (doS SSa KKa p) (doK SSa KKa p) q))))), (117, (ptr b516))] 17 ?_
           refine Ops.call (by kernel_rfl) (d := (some 118)) (by kernel_rfl) (Text_calls _ b516 mb517 kb518 m635 (doS (doS SSa KKa q) (doK SSa KKa q) p) (doK (doS SSa KKa q) (doK SSa KKa q) p) tb H521 Hm640 Hk641 (by omega) hB642 H29 (by first | omega | decide) (by first | omega | decide)) ?_
           rintro _ w696 ⟨rfl, K695⟩
           refine ⟨_, _, rfl, rfl, ?_⟩
           replace K28 := K28.trans K695 (U := none_) (fun i h1 h2 => h2) (fun i h1 h2 => by exact h2)
           replace H29 := H29.keep K695 (fun h => h)
           replace H30 := H30.keep K695 (fun h => h)
           replace H31 := H31.keep K695 (fun h => h)
           replace H32 := H32.keep K695 (fun h => h)
           replace Hm566 := Hm566.keep K695 (fun h => h)
           replace Hk567 := Hk567.keep K695 (fun h => h)
           replace H521 := H521.keep K695 (fun h => h)
           replace Hm640 := Hm640.keep K695 (fun h => h)
           replace Hk641 := Hk641.keep K695 (fun h => h)
           replace H559 := H559.keep K695 (fun h => h)
           replace H594 := H594.keep K695 (fun h => h)
           replace H633 := H633.keep K695 (fun h => h)
           replace H676 := H676.keep K695 (fun h => h)
           replace O539 := own_keep0 O539 K695
           replace O570 := own_keep0 O570 K695
           replace O605 := own_keep0 O605 K695
           replace O644 := own_keep0 O644 K695
           clear K695
           refine Ops.go (v := (Value.bool ((textE (doS (doS SSa KKa p) (doK SSa KKa p) q) (doK (doS SSa KKa p) (doK SSa KKa p) q)) == (textE (doS (doS SSa KKa q) (doK SSa KKa q) p) (doK (doS SSa KKa q) (doK SSa KKa q) p))))) (by kernel_rfl) (Runs.streq (t := 9) (by kernel_rfl)) (d := (some 119)) (by kernel_rfl) rfl ?_
           refine og 2 [(6, (Value.bool false)), (121, (Value.bool ((textE (doS (doS SSa KKa p) (doK SSa KKa p) q) (doK (doS SSa KKa p) (doK SSa KKa p) q)) == (textE (doS (doS SSa KKa q) (doK SSa KKa q) p) (doK (doS SSa KKa q) (doK SSa KKa q) p)))))] 21 ?_
           have h697 : ((textE (doS (doS SSa KKa p) (doK SSa KKa p) q) (doK (doS SSa KKa p) (doK SSa KKa p) q)) == (textE (doS (doS SSa KKa q) (doK SSa KKa q) p) (doK (doS SSa KKa q) (doK SSa KKa q) p))) = true := by unfold textE; rw [hapS, sortK_of_perm hB568.ledg.ids (doK_comm hap)]; simp
           rw [h697]
           refine Ops.call (by kernel_rfl) (d := (some 122)) (by kernel_rfl) (known_calls _ tb H29) ?_
           rintro _ w699 ⟨rfl, K698⟩
           refine ⟨_, _, rfl, rfl, ?_⟩
           replace K28 := K28.trans K698 (U := none_) (fun i h1 h2 => h2) (fun i h1 h2 => by exact h2)
           replace H29 := H29.keep K698 (fun h => h)
           replace H30 := H30.keep K698 (fun h => h)
           replace H31 := H31.keep K698 (fun h => h)
           replace H32 := H32.keep K698 (fun h => h)
           replace Hm566 := Hm566.keep K698 (fun h => h)
           replace Hk567 := Hk567.keep K698 (fun h => h)
           replace H521 := H521.keep K698 (fun h => h)
           replace Hm640 := Hm640.keep K698 (fun h => h)
           replace Hk641 := Hk641.keep K698 (fun h => h)
           replace H559 := H559.keep K698 (fun h => h)
           replace H594 := H594.keep K698 (fun h => h)
           replace H633 := H633.keep K698 (fun h => h)
           replace H676 := H676.keep K698 (fun h => h)
           replace O539 := own_keep0 O539 K698
           replace O570 := own_keep0 O570 K698
           replace O605 := own_keep0 O605 K698
           replace O644 := own_keep0 O644 K698
           clear K698
           refine og 2 [(6, (Value.bool true))] 24 ?_
           refine od ?_
           refine q_ret (by kernel_rfl) ?_
           refine ⟨(Value.bool true), retv_tmp rfl rfl, ?_⟩
           exact ⟨rfl, K28⟩
         ·rw [h509]
          have p700 : (p.to == q.to) = false := h509
          refine og 5 [(4, (ptr b1)), (5, (ptr b7)), (6, (Value.bool false)), (7, (ptr b13)), (83, (Value.bool false))] 51 ?_
          refine od ?_
          refine q_else (o := .tmp 83) (by kernel_rfl) rfl ?_
          refine q_skip (by kernel_rfl) ?_
          refine qs ?_
          refine qg ?_
          refine og 1 [(4, (ptr b1)), (5, (ptr b7)), (6, (Value.bool false)), (7, (ptr b13)), (85, (ptr b13))] 1 ?_
          refine Ops.call (by kernel_rfl) (d := (some 86)) (by kernel_rfl) (Copy_calls _ b13 mb14 kb15 mma SSa KKa H32 H33 H34 (by omega) hBma) ?_
          rintro _ w704 ⟨b701, mb702, kb703, rfl, K705, H706, Hm707, Hk708, hb709, hb710, hb711, hb712, hb713, hb714⟩
          have lb701tb : tb < b701 := by have := H29.lt; omega
          have lmb702tb : tb < mb702 := by have := H29.lt; omega
          have lkb703tb : tb < kb703 := by have := H29.lt; omega
          have lb701b1 : b1 < b701 := by have := H30.lt; omega
          have lmb702b1 : b1 < mb702 := by have := H30.lt; omega
          have lkb703b1 : b1 < kb703 := by have := H30.lt; omega
          have lb701b7 : b7 < b701 := by have := H31.lt; omega
          have lmb702b7 : b7 < mb702 := by have := H31.lt; omega
          have lkb703b7 : b7 < kb703 := by have := H31.lt; omega
          have lb701b13 : b13 < b701 := by have := H32.lt; omega
          have lmb702b13 : b13 < mb702 := by have := H32.lt; omega
          have lkb703b13 : b13 < kb703 := by have := H32.lt; omega
          have lb701mb14 : mb14 < b701 := by have := H33.lt; omega
          have lmb702mb14 : mb14 < mb702 := by have := H33.lt; omega
          have lkb703mb14 : mb14 < kb703 := by have := H33.lt; omega
          have lb701kb15 : kb15 < b701 := by have := H34.lt; omega
          have lmb702kb15 : kb15 < mb702 := by have := H34.lt; omega
          have lkb703kb15 : kb15 < kb703 := by have := H34.lt; omega
          have nb701 : w.heap.size ≤ b701 := by have := K28.size; omega
          have nmb702 : w.heap.size ≤ mb702 := by have := K28.size; omega
          have nkb703 : w.heap.size ≤ kb703 := by have := K28.size; omega
          refine ⟨_, _, rfl, rfl, ?_⟩
          replace K28 := K28.trans K705 (U := none_) (fun i h1 h2 => h2) (fun i h1 h2 => by exact h2)
          replace H29 := H29.keep K705 (fun h => h)
          replace H30 := H30.keep K705 (fun h => h)
          replace H31 := H31.keep K705 (fun h => h)
          replace H32 := H32.keep K705 (fun h => h)
          replace H33 := H33.keep K705 (fun h => h)
          replace H34 := H34.keep K705 (fun h => h)
          clear K705
          refine og 1 [(4, (ptr b1)), (5, (ptr b7)), (6, (Value.bool false)), (7, (ptr b13)), (9, (ptr b701))] 3 ?_
          refine od ?_
          refine qs ?_
          refine qs ?_
          refine qg ?_
          refine og 2 [(4, (ptr b1)), (5, (ptr b7)), (6, (Value.bool false)), (7, (ptr b13)), (9, (ptr b701)), (88, (Value.bool false))] 2 ?_
          refine od ?_
          refine q_else (o := .tmp 88) (by kernel_rfl) rfl ?_
          refine q_skip (by kernel_rfl) ?_
          refine qs ?_
          refine qg ?_
          refine og 1 [(4, (ptr b1)), (5, (ptr b7)), (6, (Value.bool false)), (7, (ptr b13)), (9, (ptr b701)), (89, (ptr b13))] 1 ?_
          refine Ops.go (v := (agg [(i64 p.kind), (Value.string (str p.frm)), (Value.string (str p.to)), (i64 p.amount), (Value.string (str p.key)), (i64 p.slot), (i64 p.shard)])) (by kernel_rfl) (Runs.load (t := 24) (a := ⟨b1, 0, none⟩) (by kernel_rfl) (H30.loads (by kernel_rfl))) (d := (some 90)) (by kernel_rfl) rfl ?_
          refine Ops.call (by kernel_rfl) (d := (some 91)) (by kernel_rfl) (Do_calls _ b13 mb14 kb15 mma SSa KKa p H32 H33 H34 (by omega) hBma (by first | omega | decide) (by first | omega | decide)) ?_
          rintro _ w718 ⟨m715, A716, c717, rfl, K719, Hm720, Hk721, hB722, hO723⟩
          have ob727 : ∀ i, ((Value.slice A716 ((doR SSa KKa p).rows.length) c717)).ownBlock = some i → i ≠ tb := fun i hi => by have := (World.ownsRow.lt hO723 i hi).1; have := H29.lt; omega
          have ob728 : ∀ i, ((Value.slice A716 ((doR SSa KKa p).rows.length) c717)).ownBlock = some i → i ≠ b1 := fun i hi => by have := (World.ownsRow.lt hO723 i hi).1; have := H30.lt; omega
          have ob729 : ∀ i, ((Value.slice A716 ((doR SSa KKa p).rows.length) c717)).ownBlock = some i → i ≠ b7 := fun i hi => by have := (World.ownsRow.lt hO723 i hi).1; have := H31.lt; omega
          have ob730 : ∀ i, ((Value.slice A716 ((doR SSa KKa p).rows.length) c717)).ownBlock = some i → i ≠ b13 := fun i hi => by have := (World.ownsRow.lt hO723 i hi).1; have := H32.lt; omega
          have ob731 : ∀ i, ((Value.slice A716 ((doR SSa KKa p).rows.length) c717)).ownBlock = some i → i ≠ mb14 := fun i hi => by have := (World.ownsRow.lt hO723 i hi).1; have := H33.lt; omega
          have ob732 : ∀ i, ((Value.slice A716 ((doR SSa KKa p).rows.length) c717)).ownBlock = some i → i ≠ kb15 := fun i hi => by have := (World.ownsRow.lt hO723 i hi).1; have := H34.lt; omega
          have ob733 : ∀ i, ((Value.slice A716 ((doR SSa KKa p).rows.length) c717)).ownBlock = some i → i ≠ b701 := fun i hi => by have := (World.ownsRow.lt hO723 i hi).1; have := H706.lt; omega
          have ob734 : ∀ i, ((Value.slice A716 ((doR SSa KKa p).rows.length) c717)).ownBlock = some i → i ≠ mb702 := fun i hi => by have := (World.ownsRow.lt hO723 i hi).1; have := Hm707.lt; omega
          have ob735 : ∀ i, ((Value.slice A716 ((doR SSa KKa p).rows.length) c717)).ownBlock = some i → i ≠ kb703 := fun i hi => by have := (World.ownsRow.lt hO723 i hi).1; have := Hk708.lt; omega
          have O724 := own_base hO723 K28.size
          clear hO723
          have hl725 := hB722.ledg.le
          have hl726 := doK_len SSa KKa p
          refine ⟨_, _, rfl, rfl, ?_⟩
          replace K28 := K28.trans K719 (U := none_) (fun i h1 h2 => h2) (fun i h1 h2 => by have h2 : i = mb14 ∨ i = kb15 := h2; exfalso; omega)
          replace H29 := H29.keep K719 (by intro h; change tb = mb14 ∨ tb = kb15 at h; omega)
          replace H30 := H30.keep K719 (by intro h; change b1 = mb14 ∨ b1 = kb15 at h; omega)
          replace H31 := H31.keep K719 (by intro h; change b7 = mb14 ∨ b7 = kb15 at h; omega)
          replace H32 := H32.keep K719 (by intro h; change b13 = mb14 ∨ b13 = kb15 at h; omega)
          replace H706 := H706.keep K719 (by intro h; change b701 = mb14 ∨ b701 = kb15 at h; omega)
          replace Hm707 := Hm707.keep K719 (by intro h; change mb702 = mb14 ∨ mb702 = kb15 at h; omega)
          replace Hk708 := Hk708.keep K719 (by intro h; change kb703 = mb14 ∨ kb703 = kb15 at h; omega)
          clear K719
          refine Ops.new (o := rowL [(i64 0), (i64 0), (Value.slice none 0 0)] 30) (V := fun b => (ptr b)) (by kernel_rfl) (d := (some 10)) (by kernel_rfl) (fun b => rfl) (fun b736 w737 hb738 H739 K740 hs741 => ?_)
          have lb736tb : tb < b736 := by have := H29.lt; omega
          have lb736b1 : b1 < b736 := by have := H30.lt; omega
          have lb736b7 : b7 < b736 := by have := H31.lt; omega
          have lb736b13 : b13 < b736 := by have := H32.lt; omega
          have lb736mb14 : mb14 < b736 := by have := Hm720.lt; omega
          have lb736kb15 : kb15 < b736 := by have := Hk721.lt; omega
          have lb736b701 : b701 < b736 := by have := H706.lt; omega
          have lb736mb702 : mb702 < b736 := by have := Hm707.lt; omega
          have lb736kb703 : kb703 < b736 := by have := Hk708.lt; omega
          have nb736 : w.heap.size ≤ b736 := by have := K28.size; omega
          have ob742 : ∀ i, ((Value.slice A716 ((doR SSa KKa p).rows.length) c717)).ownBlock = some i → i < b736 := fun i hi => by have := (World.ownsRow.lt O724 i hi).2; omega
          replace K28 := K28.trans K740 (U := none_) (fun i h1 h2 => h2) (fun i h1 h2 => by exact h2)
          replace H29 := H29.keep K740 (fun h => h)
          replace H30 := H30.keep K740 (fun h => h)
          replace H31 := H31.keep K740 (fun h => h)
          replace H32 := H32.keep K740 (fun h => h)
          replace Hm720 := Hm720.keep K740 (fun h => h)
          replace Hk721 := Hk721.keep K740 (fun h => h)
          replace H706 := H706.keep K740 (fun h => h)
          replace Hm707 := Hm707.keep K740 (fun h => h)
          replace Hk708 := Hk708.keep K740 (fun h => h)
          replace O724 := own_keep0 O724 K740
          clear K740 hs741
          refine Ops.put (t := 30) (b := b736) (off := 0) (v := (agg [(i64 ((doR SSa KKa p).why)), (i64 ((doR SSa KKa p).amount)), (Value.slice A716 ((doR SSa KKa p).rows.length) c717)])) (ys := [(i64 ((doR SSa KKa p).why)), (i64 ((doR SSa KKa p).amount)), (Value.slice A716 ((doR SSa KKa p).rows.length) c717)]) (by kernel_rfl) (by kernel_rfl) H739 (by kernel_rfl) (d := none) (by kernel_rfl) rfl (fun w743 H744 K745 => ?_)
          clear H739
          replace K28 := K28.trans K745 (U := none_) (fun i h1 h2 => h2) (fun i h1 h2 => by have h2 : i = b736 := h2; exfalso; omega)
          replace H29 := H29.keep K745 (by intro h; change tb = b736 at h; omega)
          replace H30 := H30.keep K745 (by intro h; change b1 = b736 at h; omega)
          replace H31 := H31.keep K745 (by intro h; change b7 = b736 at h; omega)
          replace H32 := H32.keep K745 (by intro h; change b13 = b736 at h; omega)
          replace Hm720 := Hm720.keep K745 (by intro h; change mb14 = b736 at h; omega)
          replace Hk721 := Hk721.keep K745 (by intro h; change kb15 = b736 at h; omega)
          replace H706 := H706.keep K745 (by intro h; change b701 = b736 at h; omega)
          replace Hm707 := Hm707.keep K745 (by intro h; change mb702 = b736 at h; omega)
          replace Hk708 := Hk708.keep K745 (by intro h; change kb703 = b736 at h; omega)
          replace O724 := own_keep O724 K745 (fun i hi hs => by have hs : i = b736 := hs; have := ob742 i hi; omega)
          clear K745
          refine od ?_
          refine qs ?_
          refine qg ?_
          refine og 1 [(4, (ptr b1)), (5, (ptr b7)), (6, (Value.bool false)), (7, (ptr b13)), (9, (ptr b701)), (10, (ptr b736)), (92, (ptr b13))] 1 ?_
          refine Ops.go (v := (agg [(i64 q.kind), (Value.string (str q.frm)), (Value.string (str q.to)), (i64 q.amount), (Value.string (str q.key)), (i64 q.slot), (i64 q.shard)])) (by kernel_rfl) (Runs.load (t := 24) (a := ⟨b7, 0, none⟩) (by kernel_rfl) (H31.loads (by kernel_rfl))) (d := (some 93)) (by kernel_rfl) rfl ?_
          refine Ops.call (by kernel_rfl) (d := (some 94)) (by kernel_rfl) (Do_calls _ b13 mb14 kb15 m715 (doS SSa KKa p) (doK SSa KKa p) q H32 Hm720 Hk721 (by omega) hB722 (by first | omega | decide) (by first | omega | decide)) ?_
          rintro _ w749 ⟨m746, A747, c748, rfl, K750, Hm751, Hk752, hB753, hO754⟩
          have ob758 : ∀ i, ((Value.slice A747 ((doR (doS SSa KKa p) (doK SSa KKa p) q).rows.length) c748)).ownBlock = some i → i ≠ tb := fun i hi => by have := (World.ownsRow.lt hO754 i hi).1; have := H29.lt; omega
          have ob759 : ∀ i, ((Value.slice A747 ((doR (doS SSa KKa p) (doK SSa KKa p) q).rows.length) c748)).ownBlock = some i → i ≠ b1 := fun i hi => by have := (World.ownsRow.lt hO754 i hi).1; have := H30.lt; omega
          have ob760 : ∀ i, ((Value.slice A747 ((doR (doS SSa KKa p) (doK SSa KKa p) q).rows.length) c748)).ownBlock = some i → i ≠ b7 := fun i hi => by have := (World.ownsRow.lt hO754 i hi).1; have := H31.lt; omega
          have ob761 : ∀ i, ((Value.slice A747 ((doR (doS SSa KKa p) (doK SSa KKa p) q).rows.length) c748)).ownBlock = some i → i ≠ b13 := fun i hi => by have := (World.ownsRow.lt hO754 i hi).1; have := H32.lt; omega
          have ob762 : ∀ i, ((Value.slice A747 ((doR (doS SSa KKa p) (doK SSa KKa p) q).rows.length) c748)).ownBlock = some i → i ≠ mb14 := fun i hi => by have := (World.ownsRow.lt hO754 i hi).1; have := Hm720.lt; omega
          have ob763 : ∀ i, ((Value.slice A747 ((doR (doS SSa KKa p) (doK SSa KKa p) q).rows.length) c748)).ownBlock = some i → i ≠ kb15 := fun i hi => by have := (World.ownsRow.lt hO754 i hi).1; have := Hk721.lt; omega
          have ob764 : ∀ i, ((Value.slice A747 ((doR (doS SSa KKa p) (doK SSa KKa p) q).rows.length) c748)).ownBlock = some i → i ≠ b701 := fun i hi => by have := (World.ownsRow.lt hO754 i hi).1; have := H706.lt; omega
          have ob765 : ∀ i, ((Value.slice A747 ((doR (doS SSa KKa p) (doK SSa KKa p) q).rows.length) c748)).ownBlock = some i → i ≠ mb702 := fun i hi => by have := (World.ownsRow.lt hO754 i hi).1; have := Hm707.lt; omega
          have ob766 : ∀ i, ((Value.slice A747 ((doR (doS SSa KKa p) (doK SSa KKa p) q).rows.length) c748)).ownBlock = some i → i ≠ kb703 := fun i hi => by have := (World.ownsRow.lt hO754 i hi).1; have := Hk708.lt; omega
          have ob767 : ∀ i, ((Value.slice A747 ((doR (doS SSa KKa p) (doK SSa KKa p) q).rows.length) c748)).ownBlock = some i → i ≠ b736 := fun i hi => by have := (World.ownsRow.lt hO754 i hi).1; have := H744.lt; omega
          have oo768 : ∀ i, ((Value.slice A716 ((doR SSa KKa p).rows.length) c717)).ownBlock = some i → ((Value.slice A747 ((doR (doS SSa KKa p) (doK SSa KKa p) q).rows.length) c748)).ownBlock = some i → False := fun i hi hs => by have := (World.ownsRow.lt hO754 i hs).1; have := (World.ownsRow.lt O724 i hi).2; omega
          have oo769 : ∀ i, ((Value.slice A747 ((doR (doS SSa KKa p) (doK SSa KKa p) q).rows.length) c748)).ownBlock = some i → ((Value.slice A716 ((doR SSa KKa p).rows.length) c717)).ownBlock = some i → False := fun i hi hs => oo768 i hs hi
          have O755 := own_base hO754 K28.size
          clear hO754
          have hl756 := hB753.ledg.le
          have hl757 := doK_len (doS SSa KKa p) (doK SSa KKa p) q
          refine ⟨_, _, rfl, rfl, ?_⟩
          replace K28 := K28.trans K750 (U := none_) (fun i h1 h2 => h2) (fun i h1 h2 => by have h2 : i = mb14 ∨ i = kb15 := h2; exfalso; omega)
          replace H29 := H29.keep K750 (by intro h; change tb = mb14 ∨ tb = kb15 at h; omega)
          replace H30 := H30.keep K750 (by intro h; change b1 = mb14 ∨ b1 = kb15 at h; omega)
          replace H31 := H31.keep K750 (by intro h; change b7 = mb14 ∨ b7 = kb15 at h; omega)
          replace H32 := H32.keep K750 (by intro h; change b13 = mb14 ∨ b13 = kb15 at h; omega)
          replace H706 := H706.keep K750 (by intro h; change b701 = mb14 ∨ b701 = kb15 at h; omega)
          replace Hm707 := Hm707.keep K750 (by intro h; change mb702 = mb14 ∨ mb702 = kb15 at h; omega)
          replace Hk708 := Hk708.keep K750 (by intro h; change kb703 = mb14 ∨ kb703 = kb15 at h; omega)
          replace H744 := H744.keep K750 (by intro h; change b736 = mb14 ∨ b736 = kb15 at h; omega)
          replace O724 := own_keep O724 K750 (fun i hi hs => by have hs : i = mb14 ∨ i = kb15 := hs; rcases hs with hs | hs; (have := ob731 i hi; omega); (have := ob732 i hi; omega))
          clear K750
          refine Ops.new (o := rowL [(i64 0), (i64 0), (Value.slice none 0 0)] 30) (V := fun b => (ptr b)) (by kernel_rfl) (d := (some 11)) (by kernel_rfl) (fun b => rfl) (fun b770 w771 hb772 H773 K774 hs775 => ?_)
          have lb770tb : tb < b770 := by have := H29.lt; omega
          have lb770b1 : b1 < b770 := by have := H30.lt; omega
          have lb770b7 : b7 < b770 := by have := H31.lt; omega
          have lb770b13 : b13 < b770 := by have := H32.lt; omega
          have lb770mb14 : mb14 < b770 := by have := Hm751.lt; omega
          have lb770kb15 : kb15 < b770 := by have := Hk752.lt; omega
          have lb770b701 : b701 < b770 := by have := H706.lt; omega
          have lb770mb702 : mb702 < b770 := by have := Hm707.lt; omega
          have lb770kb703 : kb703 < b770 := by have := Hk708.lt; omega
          have lb770b736 : b736 < b770 := by have := H744.lt; omega
          have nb770 : w.heap.size ≤ b770 := by have := K28.size; omega
          have ob776 : ∀ i, ((Value.slice A716 ((doR SSa KKa p).rows.length) c717)).ownBlock = some i → i < b770 := fun i hi => by have := (World.ownsRow.lt O724 i hi).2; omega
          have ob777 : ∀ i, ((Value.slice A747 ((doR (doS SSa KKa p) (doK SSa KKa p) q).rows.length) c748)).ownBlock = some i → i < b770 := fun i hi => by have := (World.ownsRow.lt O755 i hi).2; omega
          replace K28 := K28.trans K774 (U := none_) (fun i h1 h2 => h2) (fun i h1 h2 => by exact h2)
          replace H29 := H29.keep K774 (fun h => h)
          replace H30 := H30.keep K774 (fun h => h)
          replace H31 := H31.keep K774 (fun h => h)
          replace H32 := H32.keep K774 (fun h => h)
          replace Hm751 := Hm751.keep K774 (fun h => h)
          replace Hk752 := Hk752.keep K774 (fun h => h)
          replace H706 := H706.keep K774 (fun h => h)
          replace Hm707 := Hm707.keep K774 (fun h => h)
          replace Hk708 := Hk708.keep K774 (fun h => h)
          replace H744 := H744.keep K774 (fun h => h)
          replace O724 := own_keep0 O724 K774
          replace O755 := own_keep0 O755 K774
          clear K774 hs775
          refine Ops.put (t := 30) (b := b770) (off := 0) (v := (agg [(i64 ((doR (doS SSa KKa p) (doK SSa KKa p) q).why)), (i64 ((doR (doS SSa KKa p) (doK SSa KKa p) q).amount)), (Value.slice A747 ((doR (doS SSa KKa p) (doK SSa KKa p) q).rows.length) c748)])) (ys := [(i64 ((doR (doS SSa KKa p) (doK SSa KKa p) q).why)), (i64 ((doR (doS SSa KKa p) (doK SSa KKa p) q).amount)), (Value.slice A747 ((doR (doS SSa KKa p) (doK SSa KKa p) q).rows.length) c748)]) (by kernel_rfl) (by kernel_rfl) H773 (by kernel_rfl) (d := none) (by kernel_rfl) rfl (fun w778 H779 K780 => ?_)
          clear H773
          replace K28 := K28.trans K780 (U := none_) (fun i h1 h2 => h2) (fun i h1 h2 => by have h2 : i = b770 := h2; exfalso; omega)
          replace H29 := H29.keep K780 (by intro h; change tb = b770 at h; omega)
          replace H30 := H30.keep K780 (by intro h; change b1 = b770 at h; omega)
          replace H31 := H31.keep K780 (by intro h; change b7 = b770 at h; omega)
          replace H32 := H32.keep K780 (by intro h; change b13 = b770 at h; omega)
          replace Hm751 := Hm751.keep K780 (by intro h; change mb14 = b770 at h; omega)
          replace Hk752 := Hk752.keep K780 (by intro h; change kb15 = b770 at h; omega)
          replace H706 := H706.keep K780 (by intro h; change b701 = b770 at h; omega)
          replace Hm707 := Hm707.keep K780 (by intro h; change mb702 = b770 at h; omega)
          replace Hk708 := Hk708.keep K780 (by intro h; change kb703 = b770 at h; omega)
          replace H744 := H744.keep K780 (by intro h; change b736 = b770 at h; omega)
          replace O724 := own_keep O724 K780 (fun i hi hs => by have hs : i = b770 := hs; have := ob776 i hi; omega)
          replace O755 := own_keep O755 K780 (fun i hi hs => by have hs : i = b770 := hs; have := ob777 i hi; omega)
          clear K780
          refine od ?_
          refine qs ?_
          refine qg ?_
          refine og 1 [(4, (ptr b1)), (5, (ptr b7)), (6, (Value.bool false)), (7, (ptr b13)), (9, (ptr b701)), (10, (ptr b736)), (11, (ptr b770)), (95, (ptr b701))] 1 ?_
          refine Ops.go (v := (agg [(i64 q.kind), (Value.string (str q.frm)), (Value.string (str q.to)), (i64 q.amount), (Value.string (str q.key)), (i64 q.slot), (i64 q.shard)])) (by kernel_rfl) (Runs.load (t := 24) (a := ⟨b7, 0, none⟩) (by kernel_rfl) (H31.loads (by kernel_rfl))) (d := (some 96)) (by kernel_rfl) rfl ?_
          refine Ops.call (by kernel_rfl) (d := (some 97)) (by kernel_rfl) (Do_calls _ b701 mb702 kb703 mma SSa KKa q H706 Hm707 Hk708 (by omega) hBma (by first | omega | decide) (by first | omega | decide)) ?_
          rintro _ w784 ⟨m781, A782, c783, rfl, K785, Hm786, Hk787, hB788, hO789⟩
          have ob793 : ∀ i, ((Value.slice A782 ((doR SSa KKa q).rows.length) c783)).ownBlock = some i → i ≠ tb := fun i hi => by have := (World.ownsRow.lt hO789 i hi).1; have := H29.lt; omega
          have ob794 : ∀ i, ((Value.slice A782 ((doR SSa KKa q).rows.length) c783)).ownBlock = some i → i ≠ b1 := fun i hi => by have := (World.ownsRow.lt hO789 i hi).1; have := H30.lt; omega
          have ob795 : ∀ i, ((Value.slice A782 ((doR SSa KKa q).rows.length) c783)).ownBlock = some i → i ≠ b7 := fun i hi => by have := (World.ownsRow.lt hO789 i hi).1; have := H31.lt; omega
          have ob796 : ∀ i, ((Value.slice A782 ((doR SSa KKa q).rows.length) c783)).ownBlock = some i → i ≠ b13 := fun i hi => by have := (World.ownsRow.lt hO789 i hi).1; have := H32.lt; omega
          have ob797 : ∀ i, ((Value.slice A782 ((doR SSa KKa q).rows.length) c783)).ownBlock = some i → i ≠ mb14 := fun i hi => by have := (World.ownsRow.lt hO789 i hi).1; have := Hm751.lt; omega
          have ob798 : ∀ i, ((Value.slice A782 ((doR SSa KKa q).rows.length) c783)).ownBlock = some i → i ≠ kb15 := fun i hi => by have := (World.ownsRow.lt hO789 i hi).1; have := Hk752.lt; omega
          have ob799 : ∀ i, ((Value.slice A782 ((doR SSa KKa q).rows.length) c783)).ownBlock = some i → i ≠ b701 := fun i hi => by have := (World.ownsRow.lt hO789 i hi).1; have := H706.lt; omega
          have ob800 : ∀ i, ((Value.slice A782 ((doR SSa KKa q).rows.length) c783)).ownBlock = some i → i ≠ mb702 := fun i hi => by have := (World.ownsRow.lt hO789 i hi).1; have := Hm707.lt; omega
          have ob801 : ∀ i, ((Value.slice A782 ((doR SSa KKa q).rows.length) c783)).ownBlock = some i → i ≠ kb703 := fun i hi => by have := (World.ownsRow.lt hO789 i hi).1; have := Hk708.lt; omega
          have ob802 : ∀ i, ((Value.slice A782 ((doR SSa KKa q).rows.length) c783)).ownBlock = some i → i ≠ b736 := fun i hi => by have := (World.ownsRow.lt hO789 i hi).1; have := H744.lt; omega
          have ob803 : ∀ i, ((Value.slice A782 ((doR SSa KKa q).rows.length) c783)).ownBlock = some i → i ≠ b770 := fun i hi => by have := (World.ownsRow.lt hO789 i hi).1; have := H779.lt; omega
          have oo804 : ∀ i, ((Value.slice A716 ((doR SSa KKa p).rows.length) c717)).ownBlock = some i → ((Value.slice A782 ((doR SSa KKa q).rows.length) c783)).ownBlock = some i → False := fun i hi hs => by have := (World.ownsRow.lt hO789 i hs).1; have := (World.ownsRow.lt O724 i hi).2; omega
          have oo805 : ∀ i, ((Value.slice A782 ((doR SSa KKa q).rows.length) c783)).ownBlock = some i → ((Value.slice A716 ((doR SSa KKa p).rows.length) c717)).ownBlock = some i → False := fun i hi hs => oo804 i hs hi
          have oo806 : ∀ i, ((Value.slice A747 ((doR (doS SSa KKa p) (doK SSa KKa p) q).rows.length) c748)).ownBlock = some i → ((Value.slice A782 ((doR SSa KKa q).rows.length) c783)).ownBlock = some i → False := fun i hi hs => by have := (World.ownsRow.lt hO789 i hs).1; have := (World.ownsRow.lt O755 i hi).2; omega
          have oo807 : ∀ i, ((Value.slice A782 ((doR SSa KKa q).rows.length) c783)).ownBlock = some i → ((Value.slice A747 ((doR (doS SSa KKa p) (doK SSa KKa p) q).rows.length) c748)).ownBlock = some i → False := fun i hi hs => oo806 i hs hi
          have O790 := own_base hO789 K28.size
          clear hO789
          have hl791 := hB788.ledg.le
          have hl792 := doK_len SSa KKa q
          refine ⟨_, _, rfl, rfl, ?_⟩
          replace K28 := K28.trans K785 (U := none_) (fun i h1 h2 => h2) (fun i h1 h2 => by have h2 : i = mb702 ∨ i = kb703 := h2; exfalso; omega)
          replace H29 := H29.keep K785 (by intro h; change tb = mb702 ∨ tb = kb703 at h; omega)
          replace H30 := H30.keep K785 (by intro h; change b1 = mb702 ∨ b1 = kb703 at h; omega)
          replace H31 := H31.keep K785 (by intro h; change b7 = mb702 ∨ b7 = kb703 at h; omega)
          replace H32 := H32.keep K785 (by intro h; change b13 = mb702 ∨ b13 = kb703 at h; omega)
          replace Hm751 := Hm751.keep K785 (by intro h; change mb14 = mb702 ∨ mb14 = kb703 at h; omega)
          replace Hk752 := Hk752.keep K785 (by intro h; change kb15 = mb702 ∨ kb15 = kb703 at h; omega)
          replace H706 := H706.keep K785 (by intro h; change b701 = mb702 ∨ b701 = kb703 at h; omega)
          replace H744 := H744.keep K785 (by intro h; change b736 = mb702 ∨ b736 = kb703 at h; omega)
          replace H779 := H779.keep K785 (by intro h; change b770 = mb702 ∨ b770 = kb703 at h; omega)
          replace O724 := own_keep O724 K785 (fun i hi hs => by have hs : i = mb702 ∨ i = kb703 := hs; rcases hs with hs | hs; (have := ob734 i hi; omega); (have := ob735 i hi; omega))
          replace O755 := own_keep O755 K785 (fun i hi hs => by have hs : i = mb702 ∨ i = kb703 := hs; rcases hs with hs | hs; (have := ob765 i hi; omega); (have := ob766 i hi; omega))
          clear K785
          refine Ops.new (o := rowL [(i64 0), (i64 0), (Value.slice none 0 0)] 30) (V := fun b => (ptr b)) (by kernel_rfl) (d := (some 12)) (by kernel_rfl) (fun b => rfl) (fun b808 w809 hb810 H811 K812 hs813 => ?_)
          have lb808tb : tb < b808 := by have := H29.lt; omega
          have lb808b1 : b1 < b808 := by have := H30.lt; omega
          have lb808b7 : b7 < b808 := by have := H31.lt; omega
          have lb808b13 : b13 < b808 := by have := H32.lt; omega
          have lb808mb14 : mb14 < b808 := by have := Hm751.lt; omega
          have lb808kb15 : kb15 < b808 := by have := Hk752.lt; omega
          have lb808b701 : b701 < b808 := by have := H706.lt; omega
          have lb808mb702 : mb702 < b808 := by have := Hm786.lt; omega
          have lb808kb703 : kb703 < b808 := by have := Hk787.lt; omega
          have lb808b736 : b736 < b808 := by have := H744.lt; omega
          have lb808b770 : b770 < b808 := by have := H779.lt; omega
          have nb808 : w.heap.size ≤ b808 := by have := K28.size; omega
          have ob814 : ∀ i, ((Value.slice A716 ((doR SSa KKa p).rows.length) c717)).ownBlock = some i → i < b808 := fun i hi => by have := (World.ownsRow.lt O724 i hi).2; omega
          have ob815 : ∀ i, ((Value.slice A747 ((doR (doS SSa KKa p) (doK SSa KKa p) q).rows.length) c748)).ownBlock = some i → i < b808 := fun i hi => by have := (World.ownsRow.lt O755 i hi).2; omega
          have ob816 : ∀ i, ((Value.slice A782 ((doR SSa KKa q).rows.length) c783)).ownBlock = some i → i < b808 := fun i hi => by have := (World.ownsRow.lt O790 i hi).2; omega
          replace K28 := K28.trans K812 (U := none_) (fun i h1 h2 => h2) (fun i h1 h2 => by exact h2)
          replace H29 := H29.keep K812 (fun h => h)
          replace H30 := H30.keep K812 (fun h => h)
          replace H31 := H31.keep K812 (fun h => h)
          replace H32 := H32.keep K812 (fun h => h)
          replace Hm751 := Hm751.keep K812 (fun h => h)
          replace Hk752 := Hk752.keep K812 (fun h => h)
          replace H706 := H706.keep K812 (fun h => h)
          replace Hm786 := Hm786.keep K812 (fun h => h)
          replace Hk787 := Hk787.keep K812 (fun h => h)
          replace H744 := H744.keep K812 (fun h => h)
          replace H779 := H779.keep K812 (fun h => h)
          replace O724 := own_keep0 O724 K812
          replace O755 := own_keep0 O755 K812
          replace O790 := own_keep0 O790 K812
          clear K812 hs813
          refine Ops.put (t := 30) (b := b808) (off := 0) (v := (agg [(i64 ((doR SSa KKa q).why)), (i64 ((doR SSa KKa q).amount)), (Value.slice A782 ((doR SSa KKa q).rows.length) c783)])) (ys := [(i64 ((doR SSa KKa q).why)), (i64 ((doR SSa KKa q).amount)), (Value.slice A782 ((doR SSa KKa q).rows.length) c783)]) (by kernel_rfl) (by kernel_rfl) H811 (by kernel_rfl) (d := none) (by kernel_rfl) rfl (fun w817 H818 K819 => ?_)
          clear H811
          replace K28 := K28.trans K819 (U := none_) (fun i h1 h2 => h2) (fun i h1 h2 => by have h2 : i = b808 := h2; exfalso; omega)
          replace H29 := H29.keep K819 (by intro h; change tb = b808 at h; omega)
          replace H30 := H30.keep K819 (by intro h; change b1 = b808 at h; omega)
          replace H31 := H31.keep K819 (by intro h; change b7 = b808 at h; omega)
          replace H32 := H32.keep K819 (by intro h; change b13 = b808 at h; omega)
          replace Hm751 := Hm751.keep K819 (by intro h; change mb14 = b808 at h; omega)
          replace Hk752 := Hk752.keep K819 (by intro h; change kb15 = b808 at h; omega)
          replace H706 := H706.keep K819 (by intro h; change b701 = b808 at h; omega)
          replace Hm786 := Hm786.keep K819 (by intro h; change mb702 = b808 at h; omega)
          replace Hk787 := Hk787.keep K819 (by intro h; change kb703 = b808 at h; omega)
          replace H744 := H744.keep K819 (by intro h; change b736 = b808 at h; omega)
          replace H779 := H779.keep K819 (by intro h; change b770 = b808 at h; omega)
          replace O724 := own_keep O724 K819 (fun i hi hs => by have hs : i = b808 := hs; have := ob814 i hi; omega)
          replace O755 := own_keep O755 K819 (fun i hi hs => by have hs : i = b808 := hs; have := ob815 i hi; omega)
          replace O790 := own_keep O790 K819 (fun i hi hs => by have hs : i = b808 := hs; have := ob816 i hi; omega)
          clear K819
          refine od ?_
          refine qs ?_
          refine qg ?_
          refine og 1 [(4, (ptr b1)), (6, (Value.bool false)), (7, (ptr b13)), (9, (ptr b701)), (10, (ptr b736)), (11, (ptr b770)), (12, (ptr b808)), (98, (ptr b701))] 1 ?_
          refine Ops.go (v := (agg [(i64 p.kind), (Value.string (str p.frm)), (Value.string (str p.to)), (i64 p.amount), (Value.string (str p.key)), (i64 p.slot), (i64 p.shard)])) (by kernel_rfl) (Runs.load (t := 24) (a := ⟨b1, 0, none⟩) (by kernel_rfl) (H30.loads (by kernel_rfl))) (d := (some 99)) (by kernel_rfl) rfl ?_
          refine Ops.call (by kernel_rfl) (d := (some 100)) (by kernel_rfl) (Do_calls _ b701 mb702 kb703 m781 (doS SSa KKa q) (doK SSa KKa q) p H706 Hm786 Hk787 (by omega) hB788 (by first | omega | decide) (by first | omega | decide)) ?_
          rintro _ w823 ⟨m820, A821, c822, rfl, K824, Hm825, Hk826, hB827, hO828⟩
          have ob832 : ∀ i, ((Value.slice A821 ((doR (doS SSa KKa q) (doK SSa KKa q) p).rows.length) c822)).ownBlock = some i → i ≠ tb := fun i hi => by have := (World.ownsRow.lt hO828 i hi).1; have := H29.lt; omega
          have ob833 : ∀ i, ((Value.slice A821 ((doR (doS SSa KKa q) (doK SSa KKa q) p).rows.length) c822)).ownBlock = some i → i ≠ b1 := fun i hi => by have := (World.ownsRow.lt hO828 i hi).1; have := H30.lt; omega
          have ob834 : ∀ i, ((Value.slice A821 ((doR (doS SSa KKa q) (doK SSa KKa q) p).rows.length) c822)).ownBlock = some i → i ≠ b7 := fun i hi => by have := (World.ownsRow.lt hO828 i hi).1; have := H31.lt; omega
          have ob835 : ∀ i, ((Value.slice A821 ((doR (doS SSa KKa q) (doK SSa KKa q) p).rows.length) c822)).ownBlock = some i → i ≠ b13 := fun i hi => by have := (World.ownsRow.lt hO828 i hi).1; have := H32.lt; omega
          have ob836 : ∀ i, ((Value.slice A821 ((doR (doS SSa KKa q) (doK SSa KKa q) p).rows.length) c822)).ownBlock = some i → i ≠ mb14 := fun i hi => by have := (World.ownsRow.lt hO828 i hi).1; have := Hm751.lt; omega
          have ob837 : ∀ i, ((Value.slice A821 ((doR (doS SSa KKa q) (doK SSa KKa q) p).rows.length) c822)).ownBlock = some i → i ≠ kb15 := fun i hi => by have := (World.ownsRow.lt hO828 i hi).1; have := Hk752.lt; omega
          have ob838 : ∀ i, ((Value.slice A821 ((doR (doS SSa KKa q) (doK SSa KKa q) p).rows.length) c822)).ownBlock = some i → i ≠ b701 := fun i hi => by have := (World.ownsRow.lt hO828 i hi).1; have := H706.lt; omega
          have ob839 : ∀ i, ((Value.slice A821 ((doR (doS SSa KKa q) (doK SSa KKa q) p).rows.length) c822)).ownBlock = some i → i ≠ mb702 := fun i hi => by have := (World.ownsRow.lt hO828 i hi).1; have := Hm786.lt; omega
          have ob840 : ∀ i, ((Value.slice A821 ((doR (doS SSa KKa q) (doK SSa KKa q) p).rows.length) c822)).ownBlock = some i → i ≠ kb703 := fun i hi => by have := (World.ownsRow.lt hO828 i hi).1; have := Hk787.lt; omega
          have ob841 : ∀ i, ((Value.slice A821 ((doR (doS SSa KKa q) (doK SSa KKa q) p).rows.length) c822)).ownBlock = some i → i ≠ b736 := fun i hi => by have := (World.ownsRow.lt hO828 i hi).1; have := H744.lt; omega
          have ob842 : ∀ i, ((Value.slice A821 ((doR (doS SSa KKa q) (doK SSa KKa q) p).rows.length) c822)).ownBlock = some i → i ≠ b770 := fun i hi => by have := (World.ownsRow.lt hO828 i hi).1; have := H779.lt; omega
          have ob843 : ∀ i, ((Value.slice A821 ((doR (doS SSa KKa q) (doK SSa KKa q) p).rows.length) c822)).ownBlock = some i → i ≠ b808 := fun i hi => by have := (World.ownsRow.lt hO828 i hi).1; have := H818.lt; omega
          have oo844 : ∀ i, ((Value.slice A716 ((doR SSa KKa p).rows.length) c717)).ownBlock = some i → ((Value.slice A821 ((doR (doS SSa KKa q) (doK SSa KKa q) p).rows.length) c822)).ownBlock = some i → False := fun i hi hs => by have := (World.ownsRow.lt hO828 i hs).1; have := (World.ownsRow.lt O724 i hi).2; omega
          have oo845 : ∀ i, ((Value.slice A821 ((doR (doS SSa KKa q) (doK SSa KKa q) p).rows.length) c822)).ownBlock = some i → ((Value.slice A716 ((doR SSa KKa p).rows.length) c717)).ownBlock = some i → False := fun i hi hs => oo844 i hs hi
          have oo846 : ∀ i, ((Value.slice A747 ((doR (doS SSa KKa p) (doK SSa KKa p) q).rows.length) c748)).ownBlock = some i → ((Value.slice A821 ((doR (doS SSa KKa q) (doK SSa KKa q) p).rows.length) c822)).ownBlock = some i → False := fun i hi hs => by have := (World.ownsRow.lt hO828 i hs).1; have := (World.ownsRow.lt O755 i hi).2; omega
          have oo847 : ∀ i, ((Value.slice A821 ((doR (doS SSa KKa q) (doK SSa KKa q) p).rows.length) c822)).ownBlock = some i → ((Value.slice A747 ((doR (doS SSa KKa p) (doK SSa KKa p) q).rows.length) c748)).ownBlock = some i → False := fun i hi hs => oo846 i hs hi
          have oo848 : ∀ i, ((Value.slice A782 ((doR SSa KKa q).rows.length) c783)).ownBlock = some i → ((Value.slice A821 ((doR (doS SSa KKa q) (doK SSa KKa q) p).rows.length) c822)).ownBlock = some i → False := fun i hi hs => by have := (World.ownsRow.lt hO828 i hs).1; have := (World.ownsRow.lt O790 i hi).2; omega
          have oo849 : ∀ i, ((Value.slice A821 ((doR (doS SSa KKa q) (doK SSa KKa q) p).rows.length) c822)).ownBlock = some i → ((Value.slice A782 ((doR SSa KKa q).rows.length) c783)).ownBlock = some i → False := fun i hi hs => oo848 i hs hi
          have O829 := own_base hO828 K28.size
          clear hO828
          have hl830 := hB827.ledg.le
          have hl831 := doK_len (doS SSa KKa q) (doK SSa KKa q) p
          refine ⟨_, _, rfl, rfl, ?_⟩
          replace K28 := K28.trans K824 (U := none_) (fun i h1 h2 => h2) (fun i h1 h2 => by have h2 : i = mb702 ∨ i = kb703 := h2; exfalso; omega)
          replace H29 := H29.keep K824 (by intro h; change tb = mb702 ∨ tb = kb703 at h; omega)
          replace H30 := H30.keep K824 (by intro h; change b1 = mb702 ∨ b1 = kb703 at h; omega)
          replace H31 := H31.keep K824 (by intro h; change b7 = mb702 ∨ b7 = kb703 at h; omega)
          replace H32 := H32.keep K824 (by intro h; change b13 = mb702 ∨ b13 = kb703 at h; omega)
          replace Hm751 := Hm751.keep K824 (by intro h; change mb14 = mb702 ∨ mb14 = kb703 at h; omega)
          replace Hk752 := Hk752.keep K824 (by intro h; change kb15 = mb702 ∨ kb15 = kb703 at h; omega)
          replace H706 := H706.keep K824 (by intro h; change b701 = mb702 ∨ b701 = kb703 at h; omega)
          replace H744 := H744.keep K824 (by intro h; change b736 = mb702 ∨ b736 = kb703 at h; omega)
          replace H779 := H779.keep K824 (by intro h; change b770 = mb702 ∨ b770 = kb703 at h; omega)
          replace H818 := H818.keep K824 (by intro h; change b808 = mb702 ∨ b808 = kb703 at h; omega)
          replace O724 := own_keep O724 K824 (fun i hi hs => by have hs : i = mb702 ∨ i = kb703 := hs; rcases hs with hs | hs; (have := ob734 i hi; omega); (have := ob735 i hi; omega))
          replace O755 := own_keep O755 K824 (fun i hi hs => by have hs : i = mb702 ∨ i = kb703 := hs; rcases hs with hs | hs; (have := ob765 i hi; omega); (have := ob766 i hi; omega))
          replace O790 := own_keep O790 K824 (fun i hi hs => by have hs : i = mb702 ∨ i = kb703 := hs; rcases hs with hs | hs; (have := ob800 i hi; omega); (have := ob801 i hi; omega))
          clear K824
          refine Ops.new (o := rowL [(i64 0), (i64 0), (Value.slice none 0 0)] 30) (V := fun b => (ptr b)) (by kernel_rfl) (d := (some 13)) (by kernel_rfl) (fun b => rfl) (fun b850 w851 hb852 H853 K854 hs855 => ?_)
          have lb850tb : tb < b850 := by have := H29.lt; omega
          have lb850b1 : b1 < b850 := by have := H30.lt; omega
          have lb850b7 : b7 < b850 := by have := H31.lt; omega
          have lb850b13 : b13 < b850 := by have := H32.lt; omega
          have lb850mb14 : mb14 < b850 := by have := Hm751.lt; omega
          have lb850kb15 : kb15 < b850 := by have := Hk752.lt; omega
          have lb850b701 : b701 < b850 := by have := H706.lt; omega
          have lb850mb702 : mb702 < b850 := by have := Hm825.lt; omega
          have lb850kb703 : kb703 < b850 := by have := Hk826.lt; omega
          have lb850b736 : b736 < b850 := by have := H744.lt; omega
          have lb850b770 : b770 < b850 := by have := H779.lt; omega
          have lb850b808 : b808 < b850 := by have := H818.lt; omega
          have nb850 : w.heap.size ≤ b850 := by have := K28.size; omega
          have ob856 : ∀ i, ((Value.slice A716 ((doR SSa KKa p).rows.length) c717)).ownBlock = some i → i < b850 := fun i hi => by have := (World.ownsRow.lt O724 i hi).2; omega
          have ob857 : ∀ i, ((Value.slice A747 ((doR (doS SSa KKa p) (doK SSa KKa p) q).rows.length) c748)).ownBlock = some i → i < b850 := fun i hi => by have := (World.ownsRow.lt O755 i hi).2; omega
          have ob858 : ∀ i, ((Value.slice A782 ((doR SSa KKa q).rows.length) c783)).ownBlock = some i → i < b850 := fun i hi => by have := (World.ownsRow.lt O790 i hi).2; omega
          have ob859 : ∀ i, ((Value.slice A821 ((doR (doS SSa KKa q) (doK SSa KKa q) p).rows.length) c822)).ownBlock = some i → i < b850 := fun i hi => by have := (World.ownsRow.lt O829 i hi).2; omega
          replace K28 := K28.trans K854 (U := none_) (fun i h1 h2 => h2) (fun i h1 h2 => by exact h2)
          replace H29 := H29.keep K854 (fun h => h)
          replace H30 := H30.keep K854 (fun h => h)
          replace H31 := H31.keep K854 (fun h => h)
          replace H32 := H32.keep K854 (fun h => h)
          replace Hm751 := Hm751.keep K854 (fun h => h)
          replace Hk752 := Hk752.keep K854 (fun h => h)
          replace H706 := H706.keep K854 (fun h => h)
          replace Hm825 := Hm825.keep K854 (fun h => h)
          replace Hk826 := Hk826.keep K854 (fun h => h)
          replace H744 := H744.keep K854 (fun h => h)
          replace H779 := H779.keep K854 (fun h => h)
          replace H818 := H818.keep K854 (fun h => h)
          replace O724 := own_keep0 O724 K854
          replace O755 := own_keep0 O755 K854
          replace O790 := own_keep0 O790 K854
          replace O829 := own_keep0 O829 K854
          clear K854 hs855
          refine Ops.put (t := 30) (b := b850) (off := 0) (v := (agg [(i64 ((doR (doS SSa KKa q) (doK SSa KKa q) p).why)), (i64 ((doR (doS SSa KKa q) (doK SSa KKa q) p).amount)), (Value.slice A821 ((doR (doS SSa KKa q) (doK SSa KKa q) p).rows.length) c822)])) (ys := [(i64 ((doR (doS SSa KKa q) (doK SSa KKa q) p).why)), (i64 ((doR (doS SSa KKa q) (doK SSa KKa q) p).amount)), (Value.slice A821 ((doR (doS SSa KKa q) (doK SSa KKa q) p).rows.length) c822)]) (by kernel_rfl) (by kernel_rfl) H853 (by kernel_rfl) (d := none) (by kernel_rfl) rfl (fun w860 H861 K862 => ?_)
          clear H853
          replace K28 := K28.trans K862 (U := none_) (fun i h1 h2 => h2) (fun i h1 h2 => by have h2 : i = b850 := h2; exfalso; omega)
          replace H29 := H29.keep K862 (by intro h; change tb = b850 at h; omega)
          replace H30 := H30.keep K862 (by intro h; change b1 = b850 at h; omega)
          replace H31 := H31.keep K862 (by intro h; change b7 = b850 at h; omega)
          replace H32 := H32.keep K862 (by intro h; change b13 = b850 at h; omega)
          replace Hm751 := Hm751.keep K862 (by intro h; change mb14 = b850 at h; omega)
          replace Hk752 := Hk752.keep K862 (by intro h; change kb15 = b850 at h; omega)
          replace H706 := H706.keep K862 (by intro h; change b701 = b850 at h; omega)
          replace Hm825 := Hm825.keep K862 (by intro h; change mb702 = b850 at h; omega)
          replace Hk826 := Hk826.keep K862 (by intro h; change kb703 = b850 at h; omega)
          replace H744 := H744.keep K862 (by intro h; change b736 = b850 at h; omega)
          replace H779 := H779.keep K862 (by intro h; change b770 = b850 at h; omega)
          replace H818 := H818.keep K862 (by intro h; change b808 = b850 at h; omega)
          replace O724 := own_keep O724 K862 (fun i hi hs => by have hs : i = b850 := hs; have := ob856 i hi; omega)
          replace O755 := own_keep O755 K862 (fun i hi hs => by have hs : i = b850 := hs; have := ob857 i hi; omega)
          replace O790 := own_keep O790 K862 (fun i hi hs => by have hs : i = b850 := hs; have := ob858 i hi; omega)
          replace O829 := own_keep O829 K862 (fun i hi hs => by have hs : i = b850 := hs; have := ob859 i hi; omega)
          clear K862
          refine od ?_
          refine qs ?_
          refine qg ?_
          refine Ops.go (v := (agg [(i64 ((doR SSa KKa p).why)), (i64 ((doR SSa KKa p).amount)), (Value.slice A716 ((doR SSa KKa p).rows.length) c717)])) (by kernel_rfl) (Runs.load (t := 30) (a := ⟨b736, 0, none⟩) (by kernel_rfl) (H744.loads (by kernel_rfl))) (d := (some 101)) (by kernel_rfl) rfl ?_
          refine Ops.go (v := (agg [(i64 ((doR (doS SSa KKa q) (doK SSa KKa q) p).why)), (i64 ((doR (doS SSa KKa q) (doK SSa KKa q) p).amount)), (Value.slice A821 ((doR (doS SSa KKa q) (doK SSa KKa q) p).rows.length) c822)])) (by kernel_rfl) (Runs.load (t := 30) (a := ⟨b850, 0, none⟩) (by kernel_rfl) (H861.loads (by kernel_rfl))) (d := (some 102)) (by kernel_rfl) rfl ?_
          refine Ops.call (by kernel_rfl) (d := (some 103)) (by kernel_rfl) (SameReply_calls _ A716 c717 (doR SSa KKa p) A821 c822 (doR (doS SSa KKa q) (doK SSa KKa q) p) (OwnT.rd O724) (OwnT.rd O829)) ?_
          rintro _ w866 ⟨t863, rfl, ht864, K865⟩
          refine ⟨_, _, rfl, rfl, ?_⟩
          replace K28 := K28.trans K865 (U := none_) (fun i h1 h2 => h2) (fun i h1 h2 => by exact h2)
          replace H29 := H29.keep K865 (fun h => h)
          replace H30 := H30.keep K865 (fun h => h)
          replace H31 := H31.keep K865 (fun h => h)
          replace H32 := H32.keep K865 (fun h => h)
          replace Hm751 := Hm751.keep K865 (fun h => h)
          replace Hk752 := Hk752.keep K865 (fun h => h)
          replace H706 := H706.keep K865 (fun h => h)
          replace Hm825 := Hm825.keep K865 (fun h => h)
          replace Hk826 := Hk826.keep K865 (fun h => h)
          replace H744 := H744.keep K865 (fun h => h)
          replace H779 := H779.keep K865 (fun h => h)
          replace H818 := H818.keep K865 (fun h => h)
          replace H861 := H861.keep K865 (fun h => h)
          replace O724 := own_keep0 O724 K865
          replace O755 := own_keep0 O755 K865
          replace O790 := own_keep0 O790 K865
          replace O829 := own_keep0 O829 K865
          clear K865
          refine og 1 [(6, (Value.bool false)), (7, (ptr b13)), (9, (ptr b701)), (11, (ptr b770)), (12, (ptr b808)), (104, (Value.bool t863))] 4 ?_
          have hap : ApartOps p q := ⟨by simp_all, by simp_all, by simp_all, fun e => by simp_all⟩
          have hapS := doS_comm (S := SSa) (K := KKa) hap hB753.ledg.led hB827.ledg.led
          have h867 : t863 = true := ht864.2 (by first | exact (doR_do hap.symm (by omega)).symm | exact doR_do hap (by omega))
          rw [h867]
          refine Ops.go (v := (agg [(i64 ((doR (doS SSa KKa p) (doK SSa KKa p) q).why)), (i64 ((doR (doS SSa KKa p) (doK SSa KKa p) q).amount)), (Value.slice A747 ((doR (doS SSa KKa p) (doK SSa KKa p) q).rows.length) c748)])) (by kernel_rfl) (Runs.load (t := 30) (a := ⟨b770, 0, none⟩) (by kernel_rfl) (H779.loads (by kernel_rfl))) (d := (some 105)) (by kernel_rfl) rfl ?_
          refine Ops.go (v := (agg [(i64 ((doR SSa KKa q).why)), (i64 ((doR SSa KKa q).amount)), (Value.slice A782 ((doR SSa KKa q).rows.length) c783)])) (by kernel_rfl) (Runs.load (t := 30) (a := ⟨b808, 0, none⟩) (by kernel_rfl) (H818.loads (by kernel_rfl))) (d := (some 106)) (by kernel_rfl) rfl ?_
          refine Ops.call (by kernel_rfl) (d := (some 107)) (by kernel_rfl) (SameReply_calls _ A747 c748 (doR (doS SSa KKa p) (doK SSa KKa p) q) A782 c783 (doR SSa KKa q) (OwnT.rd O755) (OwnT.rd O790)) ?_
          rintro _ w871 ⟨t868, rfl, ht869, K870⟩
          refine ⟨_, _, rfl, rfl, ?_⟩
          replace K28 := K28.trans K870 (U := none_) (fun i h1 h2 => h2) (fun i h1 h2 => by exact h2)
          replace H29 := H29.keep K870 (fun h => h)
          replace H30 := H30.keep K870 (fun h => h)
          replace H31 := H31.keep K870 (fun h => h)
          replace H32 := H32.keep K870 (fun h => h)
          replace Hm751 := Hm751.keep K870 (fun h => h)
          replace Hk752 := Hk752.keep K870 (fun h => h)
          replace H706 := H706.keep K870 (fun h => h)
          replace Hm825 := Hm825.keep K870 (fun h => h)
          replace Hk826 := Hk826.keep K870 (fun h => h)
          replace H744 := H744.keep K870 (fun h => h)
          replace H779 := H779.keep K870 (fun h => h)
          replace H818 := H818.keep K870 (fun h => h)
          replace H861 := H861.keep K870 (fun h => h)
          replace O724 := own_keep0 O724 K870
          replace O755 := own_keep0 O755 K870
          replace O790 := own_keep0 O790 K870
          replace O829 := own_keep0 O829 K870
          clear K870
          refine og 2 [(6, (Value.bool false)), (7, (ptr b13)), (9, (ptr b701)), (109, (Value.bool t868))] 9 ?_
          have h872 : t868 = true := ht869.2 (by first | exact (doR_do hap.symm (by omega)).symm | exact doR_do hap (by omega))
          rw [h872]
          refine og 2 [(6, (Value.bool false)), (7, (ptr b13)), (9, (ptr b701)), (109, (Value.bool true)), (110, (ptr b13)), (111, (ptr b701))] 11 ?_
          refine Ops.call (by kernel_rfl) (d := (some 112)) (by kernel_rfl) (Same_calls _ b13 mb14 kb15 m746 (doS (doS SSa KKa p) (doK SSa KKa p) q) (doK (doS SSa KKa p) (doK SSa KKa p) q) b701 mb702 kb703 m820 (doS (doS SSa KKa q) (doK SSa KKa q) p) (doK (doS SSa KKa q) (doK SSa KKa q) p) H32 Hm751 Hk752 (by omega) hB753 H706 Hm825 Hk826 (by omega) hB827) ?_
          rintro _ w876 ⟨t873, rfl, ht874, K875⟩
          refine ⟨_, _, rfl, rfl, ?_⟩
          replace K28 := K28.trans K875 (U := none_) (fun i h1 h2 => h2) (fun i h1 h2 => by exact h2)
          replace H29 := H29.keep K875 (fun h => h)
          replace H30 := H30.keep K875 (fun h => h)
          replace H31 := H31.keep K875 (fun h => h)
          replace H32 := H32.keep K875 (fun h => h)
          replace Hm751 := Hm751.keep K875 (fun h => h)
          replace Hk752 := Hk752.keep K875 (fun h => h)
          replace H706 := H706.keep K875 (fun h => h)
          replace Hm825 := Hm825.keep K875 (fun h => h)
          replace Hk826 := Hk826.keep K875 (fun h => h)
          replace H744 := H744.keep K875 (fun h => h)
          replace H779 := H779.keep K875 (fun h => h)
          replace H818 := H818.keep K875 (fun h => h)
          replace H861 := H861.keep K875 (fun h => h)
          replace O724 := own_keep0 O724 K875
          replace O755 := own_keep0 O755 K875
          replace O790 := own_keep0 O790 K875
          replace O829 := own_keep0 O829 K875
          clear K875
          refine og 2 [(6, (Value.bool false)), (7, (ptr b13)), (9, (ptr b701)), (114, (Value.bool t873))] 14 ?_
          have h877 : t873 = true := ht874.2 ⟨hapS, doK_comm hap⟩
          rw [h877]
          refine og 1 [(6, (Value.bool false)), (9, (ptr b701)), (114, (Value.bool true)), (115, (ptr b13))] 15 ?_
          refine Ops.call (by kernel_rfl) (d := (some 116)) (by kernel_rfl) (Text_calls _ b13 mb14 kb15 m746 (doS (doS SSa KKa p) (doK SSa KKa p) q) (doK (doS SSa KKa p) (doK SSa KKa p) q) tb H32 Hm751 Hk752 (by omega) hB753 H29 (by first | omega | decide) (by first | omega | decide)) ?_
          rintro _ w879 ⟨rfl, K878⟩
          refine ⟨_, _, rfl, rfl, ?_⟩
          replace K28 := K28.trans K878 (U := none_) (fun i h1 h2 => h2) (fun i h1 h2 => by exact h2)
          replace H29 := H29.keep K878 (fun h => h)
          replace H30 := H30.keep K878 (fun h => h)
          replace H31 := H31.keep K878 (fun h => h)
          replace H32 := H32.keep K878 (fun h => h)
          replace Hm751 := Hm751.keep K878 (fun h => h)
          replace Hk752 := Hk752.keep K878 (fun h => h)
          replace H706 := H706.keep K878 (fun h => h)
          replace Hm825 := Hm825.keep K878 (fun h => h)
          replace Hk826 := Hk826.keep K878 (fun h => h)
          replace H744 := H744.keep K878 (fun h => h)
          replace H779 := H779.keep K878 (fun h => h)
          replace H818 := H818.keep K878 (fun h => h)
          replace H861 := H861.keep K878 (fun h => h)
          replace O724 := own_keep0 O724 K878
          replace O755 := own_keep0 O755 K878
          replace O790 := own_keep0 O790 K878
          replace O829 := own_keep0 O829 K878
          clear K878
          refine og 1 [(6, (Value.bool false)), (114, (Value.bool true)), (116, (Value.string (str (textE (doS (doS SSa KKa p) (doK SSa KKa p) q) (doK (doS SSa KKa p) (doK SSa KKa p) q))))), (117, (ptr b701))] 17 ?_
          refine Ops.call (by kernel_rfl) (d := (some 118)) (by kernel_rfl) (Text_calls _ b701 mb702 kb703 m820 (doS (doS SSa KKa q) (doK SSa KKa q) p) (doK (doS SSa KKa q) (doK SSa KKa q) p) tb H706 Hm825 Hk826 (by omega) hB827 H29 (by first | omega | decide) (by first | omega | decide)) ?_
          rintro _ w881 ⟨rfl, K880⟩
          refine ⟨_, _, rfl, rfl, ?_⟩
          replace K28 := K28.trans K880 (U := none_) (fun i h1 h2 => h2) (fun i h1 h2 => by exact h2)
          replace H29 := H29.keep K880 (fun h => h)
          replace H30 := H30.keep K880 (fun h => h)
          replace H31 := H31.keep K880 (fun h => h)
          replace H32 := H32.keep K880 (fun h => h)
          replace Hm751 := Hm751.keep K880 (fun h => h)
          replace Hk752 := Hk752.keep K880 (fun h => h)
          replace H706 := H706.keep K880 (fun h => h)
          replace Hm825 := Hm825.keep K880 (fun h => h)
          replace Hk826 := Hk826.keep K880 (fun h => h)
          replace H744 := H744.keep K880 (fun h => h)
          replace H779 := H779.keep K880 (fun h => h)
          replace H818 := H818.keep K880 (fun h => h)
          replace H861 := H861.keep K880 (fun h => h)
          replace O724 := own_keep0 O724 K880
          replace O755 := own_keep0 O755 K880
          replace O790 := own_keep0 O790 K880
          replace O829 := own_keep0 O829 K880
          clear K880
          refine Ops.go (v := (Value.bool ((textE (doS (doS SSa KKa p) (doK SSa KKa p) q) (doK (doS SSa KKa p) (doK SSa KKa p) q)) == (textE (doS (doS SSa KKa q) (doK SSa KKa q) p) (doK (doS SSa KKa q) (doK SSa KKa q) p))))) (by kernel_rfl) (Runs.streq (t := 9) (by kernel_rfl)) (d := (some 119)) (by kernel_rfl) rfl ?_
          refine og 2 [(6, (Value.bool false)), (121, (Value.bool ((textE (doS (doS SSa KKa p) (doK SSa KKa p) q) (doK (doS SSa KKa p) (doK SSa KKa p) q)) == (textE (doS (doS SSa KKa q) (doK SSa KKa q) p) (doK (doS SSa KKa q) (doK SSa KKa q) p)))))] 21 ?_
          have h882 : ((textE (doS (doS SSa KKa p) (doK SSa KKa p) q) (doK (doS SSa KKa p) (doK SSa KKa p) q)) == (textE (doS (doS SSa KKa q) (doK SSa KKa q) p) (doK (doS SSa KKa q) (doK SSa KKa q) p))) = true := by unfold textE; rw [hapS, sortK_of_perm hB753.ledg.ids (doK_comm hap)]; simp
          rw [h882]
          refine Ops.call (by kernel_rfl) (d := (some 122)) (by kernel_rfl) (known_calls _ tb H29) ?_
          rintro _ w884 ⟨rfl, K883⟩
          refine ⟨_, _, rfl, rfl, ?_⟩
          replace K28 := K28.trans K883 (U := none_) (fun i h1 h2 => h2) (fun i h1 h2 => by exact h2)
          replace H29 := H29.keep K883 (fun h => h)
          replace H30 := H30.keep K883 (fun h => h)
          replace H31 := H31.keep K883 (fun h => h)
          replace H32 := H32.keep K883 (fun h => h)
          replace Hm751 := Hm751.keep K883 (fun h => h)
          replace Hk752 := Hk752.keep K883 (fun h => h)
          replace H706 := H706.keep K883 (fun h => h)
          replace Hm825 := Hm825.keep K883 (fun h => h)
          replace Hk826 := Hk826.keep K883 (fun h => h)
          replace H744 := H744.keep K883 (fun h => h)
          replace H779 := H779.keep K883 (fun h => h)
          replace H818 := H818.keep K883 (fun h => h)
          replace H861 := H861.keep K883 (fun h => h)
          replace O724 := own_keep0 O724 K883
          replace O755 := own_keep0 O755 K883
          replace O790 := own_keep0 O790 K883
          replace O829 := own_keep0 O829 K883
          clear K883
          refine og 2 [(6, (Value.bool true))] 24 ?_
          refine od ?_
          refine q_ret (by kernel_rfl) ?_
          refine ⟨(Value.bool true), retv_tmp rfl rfl, ?_⟩
          exact ⟨rfl, K28⟩
end Go.Proofs.YtnfeemhpoaflfaaGreatDoor
