/- What the claim stands on, part 12: rules of the walk, contracts of the functions, plain laws. -/
import Derived.Test.YtnfeemhpoaflfaaGreatDoorProg
import Derived.Test.YtnfeemhpoaflfaaGreatDoorKOnce7
import Derived.Test.YtnfeemhpoaflfaaGreatDoorKOnce11
import Derived.Test.YtnfeemhpoaflfaaGreatDoorKOnce6
import Derived.Test.YtnfeemhpoaflfaaGreatDoorKOnce10
set_option linter.unusedVariables false
namespace Go.Proofs.YtnfeemhpoaflfaaGreatDoor
open Go.Q Go.RowKit

set_option maxHeartbeats 4000000 in
theorem Once_calls (w : World) (OAa : Option Addr) (oca : Nat) (la : List Opm) (o : Opm) (OAb : Option Addr) (ocb : Nat) (lb : List Opm) (tb : Nat) (hLa : RdT w 7 Opm.cells (.slice OAa la.length oca) la) (hLoa : ∀ x ∈ la, x.Ok) (ho : o.Ok) (hLb : RdT w 7 Opm.cells (.slice OAb lb.length ocb) lb) (hLob : ∀ x ∈ lb, x.Ok) (HT : Tab Tryz.prog w tb) : Calls Tryz.prog 3 ⟨[(Value.slice OAa la.length oca), (agg [(i64 o.kind), (Value.string (str o.frm)), (Value.string (str o.to)), (i64 o.amount), (Value.string (str o.key)), (i64 o.slot), (i64 o.shard)]), (Value.slice OAb lb.length ocb)]⟩ w (fun e w' => e = .returned (.bool true) ∧ Keeps none_ w w') := by
 have hcapa := RdT.len Opm.seven (by decide) hLa
 have hcapb := RdT.len Opm.seven (by decide) hLb
 have ho1 := ho.amount
 have HTl := HT.lt
 have K0 : Keeps none_ w w := Keeps.refl w
 refine q_calls Tryz.func3 (by kernel_rfl) (by kernel_rfl) ?_
 refine qs ?_
 refine qg ?_
 refine Ops.new (o := rowL [(i64 o.kind), (Value.string (str o.frm)), (Value.string (str o.to)), (i64 o.amount), (Value.string (str o.key)), (i64 o.slot), (i64 o.shard)] 24) (V := fun b => (ptr b)) (by kernel_rfl) (d := (some 4)) (by kernel_rfl) (fun b => rfl) (fun b1 w2 hb3 H4 K5 hs6 => ?_)
 have lb1tb : tb < b1 := by have := HT.lt; omega
 have nb1 : w.heap.size ≤ b1 := by have := K0.size; omega
 replace K0 := K0.t0 K5
 replace HT := HT.keep K5 (fun h => h)
 clear K5 hs6
 refine og 1 [(0, (Value.slice OAa la.length oca)), (2, (Value.slice OAb lb.length ocb)), (4, (ptr b1)), (6, (Value.bool false))] 2 ?_
 refine od ?_
 refine qs ?_
 refine qg ?_
 refine Ops.call (by kernel_rfl) (d := (some 13)) (by kernel_rfl) (New_calls _) ?_
 rintro _ w10 ⟨b7, mb8, kb9, rfl, K11, H12, Hm13, Hk14, hb15, hb16, hb17, hb18, hb19, hb20⟩
 have lb7tb : tb < b7 := by have := HT.lt; omega
 have lmb8tb : tb < mb8 := by have := HT.lt; omega
 have lkb9tb : tb < kb9 := by have := HT.lt; omega
 have lb7b1 : b1 < b7 := by have := H4.lt; omega
 have lmb8b1 : b1 < mb8 := by have := H4.lt; omega
 have lkb9b1 : b1 < kb9 := by have := H4.lt; omega
 have nb7 : w.heap.size ≤ b7 := by have := K0.size; omega
 have nmb8 : w.heap.size ≤ mb8 := by have := K0.size; omega
 have nkb9 : w.heap.size ≤ kb9 := by have := K0.size; omega
 refine ⟨_, _, rfl, rfl, ?_⟩
 replace K0 := K0.t0 K11
 replace HT := HT.keep K11 (fun h => h)
 replace H4 := H4.keep K11 (fun h => h)
 clear K11
 refine og 1 [(0, (Value.slice OAa la.length oca)), (2, (Value.slice OAb lb.length ocb)), (4, (ptr b1)), (6, (Value.bool false)), (7, (ptr b7))] 2 ?_
 refine od ?_
 refine qs ?_
 refine qs ?_
 refine qg ?_
 refine og 2 [(0, (Value.slice OAa la.length oca)), (2, (Value.slice OAb lb.length ocb)), (4, (ptr b1)), (6, (Value.bool false)), (7, (ptr b7)), (15, (Value.bool false))] 2 ?_
 refine od ?_
 refine q_else (o := .tmp 15) (by kernel_rfl) rfl ?_
 refine q_skip (by kernel_rfl) ?_
 refine qs ?_
 refine qs ?_
 refine qg ?_
 refine og 1 [(0, (Value.slice OAa la.length oca)), (2, (Value.slice OAb lb.length ocb)), (4, (ptr b1)), (6, (Value.bool false)), (7, (ptr b7)), (8, (i64 0))] 1 ?_
 refine od ?_
 refine q_block (id := 0) (by kernel_rfl) ?_
 refine q_keep (R := [(0, (Value.slice OAa la.length oca)), (2, (Value.slice OAb lb.length ocb)), (4, (ptr b1)), (6, (Value.bool false)), (7, (ptr b7)), (8, (i64 0))]) (by kernel_rfl) ?_
 refine q_loop (fun (gs : Nat × (List (List UInt8 × Int)) × (List RowM) × (List KeptM)) L (wx : World) => match gs with | (ia, mma, SSa, KKa) => L = [(0, (Value.slice OAa la.length oca)), (2, (Value.slice OAb lb.length ocb)), (4, (ptr b1)), (6, (Value.bool false)), (7, (ptr b7)), (8, (i64 ((ia : Nat) : Int)))] ∧ ia ≤ 50 ∧ LBook mma SSa KKa ∧ KKa.length ≤ ia + 0 ∧ Keeps none_ w wx ∧ Tab Tryz.prog wx tb ∧ Has wx b1 (rowL [(i64 o.kind), (Value.string (str o.frm)), (Value.string (str o.to)), (i64 o.amount), (Value.string (str o.key)), (i64 o.slot), (i64 o.shard)] 24) ∧ Has wx b7 (rowL [(Value.map (some mb8)), (Value.map (some kb9))] 54) ∧ HasMap wx mb8 kstr ki64 mma ∧ HasMap wx kb9 kpair keptv (KKa.map KeptM.kv)) (fun (gs : Nat × (List (List UInt8 × Int)) × (List RowM) × (List KeptM)) => match gs with | (ia, mma, SSa, KKa) => 50 - ia) (0, [], ([] : List RowM), ([] : List KeptM)) (by kernel_rfl) ⟨rfl, Nat.zero_le _, LBook.nil, (by first | omega | (simp; done) | (show 0 ≤ _; omega)), K0, HT, H4, H12, Hm13, Hk14⟩ ?_
 clear HT H4 H12 Hm13 Hk14 K0
 rintro ⟨ia, mma, SSa, KKa⟩ _ w21 ⟨rfl, hia, hBma, hkla, K22, H23, H24, H25, H26, H27⟩
 have hlea := hBma.ledg.le
 refine qs ?_
 refine qs ?_
 refine qg ?_
 refine og 5 [(0, (Value.slice OAa la.length oca)), (2, (Value.slice OAb lb.length ocb)), (4, (ptr b1)), (6, (Value.bool false)), (7, (ptr b7)), (8, (i64 ((ia : Nat) : Int))), (20, (Value.bool (decide (((ia : Nat) : Int) < ((la.length : Nat) : Int)))))] 5 ?_
 refine Ops.split (decide (((ia : Nat) : Int) < ((la.length : Nat) : Int))) (fun h28 => ?_) (fun h28 => ?_)
 ·rw [h28]
  have p29 : ((ia : Nat) : Int) < ((la.length : Nat) : Int) := of_decide_eq_true h28
  obtain ⟨xa, hxa⟩ : ∃ y, la[ia]? = some y := ⟨_, List.getElem?_eq_getElem (by omega)⟩
  have hxao := hLoa xa (List.mem_of_getElem? hxa)
  have hxa1 := hxao.amount
  obtain ⟨rb30, ro31, hA32⟩ := Rd.addr (Rd.keep0 (by decide) hLa K22) (by omega)
  refine og 3 [(0, (Value.slice OAa la.length oca)), (2, (Value.slice OAb lb.length ocb)), (4, (ptr b1)), (6, (Value.bool false)), (7, (ptr b7)), (8, (i64 ((ia : Nat) : Int))), (23, (Value.bool (decide (((ia : Nat) : Int) < 50))))] 8 ?_
  refine od ?_
  refine q_cond (o := .tmp 23) (b := (decide (((ia : Nat) : Int) < 50))) (by kernel_rfl) rfl (fun h33 => ?_) (fun h33 => ?_)
  ·rw [h33]
   have p34 : ((ia : Nat) : Int) < 50 := of_decide_eq_true h33
   refine q_skip (by kernel_rfl) ?_
   refine qs ?_
   refine q_block (id := 1) (by kernel_rfl) ?_
   refine qg ?_
   refine og 3 [(0, (Value.slice OAa la.length oca)), (2, (Value.slice OAb lb.length ocb)), (4, (ptr b1)), (6, (Value.bool false)), (7, (ptr b7)), (8, (i64 ((ia : Nat) : Int))), (23, (Value.bool true)), (26, (ptr b7)), (27, (Value.slice OAa la.length oca)), (28, (i64 ((ia : Nat) : Int)))] 3 ?_
   refine Ops.go (by kernel_rfl) (Runs.ixSliceE (k := IntKind.i64) (t := 22) (len := la.length) (cap := oca) (s := 7) (off' := ro31 + ia * 7) (i := ((ia : Nat) : Int)) hA32 (by kernel_rfl) (by kernel_rfl) (by omega) (by omega) (by omega)) (d := (some 29)) (by kernel_rfl) rfl ?_
   refine Ops.go (v := (agg [(i64 xa.kind), (Value.string (str xa.frm)), (Value.string (str xa.to)), (i64 xa.amount), (Value.string (str xa.key)), (i64 xa.slot), (i64 xa.shard)])) (by kernel_rfl) (Runs.load (t := 24) (a := ⟨rb30, ro31 + ia * 7, none⟩) (by kernel_rfl) (RdT.ld (f := Opm.cells) (x := xa) Opm.seven (Rd.keep0 (by decide) hLa K22) (by kernel_rfl) (by kernel_rfl) hA32 hxa)) (d := (some 30)) (by kernel_rfl) rfl ?_
   refine Ops.call (by kernel_rfl) (d := (some 31)) (by kernel_rfl) (Do_calls _ b7 mb8 kb9 mma SSa KKa xa H25 H26 H27 (by omega) hBma (by first | omega | decide) (by first | omega | decide)) ?_
   rintro _ w38 ⟨m35, A36, c37, rfl, K39, Hm40, Hk41, hB42, hO43⟩
   have ob47 : ∀ i, ((Value.slice A36 ((doR SSa KKa xa).rows.length) c37)).ownBlock = some i → i ≠ tb := fun i hi => by have := (World.ownsRow.lt hO43 i hi).1; have := H23.lt; omega
   have ob48 : ∀ i, ((Value.slice A36 ((doR SSa KKa xa).rows.length) c37)).ownBlock = some i → i ≠ b1 := fun i hi => by have := (World.ownsRow.lt hO43 i hi).1; have := H24.lt; omega
   have ob49 : ∀ i, ((Value.slice A36 ((doR SSa KKa xa).rows.length) c37)).ownBlock = some i → i ≠ b7 := fun i hi => by have := (World.ownsRow.lt hO43 i hi).1; have := H25.lt; omega
   have ob50 : ∀ i, ((Value.slice A36 ((doR SSa KKa xa).rows.length) c37)).ownBlock = some i → i ≠ mb8 := fun i hi => by have := (World.ownsRow.lt hO43 i hi).1; have := H26.lt; omega
   have ob51 : ∀ i, ((Value.slice A36 ((doR SSa KKa xa).rows.length) c37)).ownBlock = some i → i ≠ kb9 := fun i hi => by have := (World.ownsRow.lt hO43 i hi).1; have := H27.lt; omega
   have O44 := own_base hO43 K22.size
   clear hO43
   have hl45 := hB42.ledg.le
   have hl46 := doK_len SSa KKa xa
   refine ⟨_, _, rfl, rfl, ?_⟩
   replace K22 := K22.trans K39 (U := none_) (fun i h1 h2 => h2) (fun i h1 h2 => by have h2 : i = mb8 ∨ i = kb9 := h2; exfalso; omega)
   replace H23 := H23.keep K39 (by intro h; change tb = mb8 ∨ tb = kb9 at h; omega)
   replace H24 := H24.keep K39 (by intro h; change b1 = mb8 ∨ b1 = kb9 at h; omega)
   replace H25 := H25.keep K39 (by intro h; change b7 = mb8 ∨ b7 = kb9 at h; omega)
   clear K39
   refine od ?_
   refine qg ?_
   refine og 2 [(0, (Value.slice OAa la.length oca)), (2, (Value.slice OAb lb.length ocb)), (4, (ptr b1)), (6, (Value.bool false)), (7, (ptr b7)), (8, (i64 ((ia : Nat) : Int))), (23, (Value.bool true)), (25, (i64 (IntKind.i64.wrap (((ia : Nat) : Int) + 1))))] 2 ?_
   have e52 : IntKind.i64.wrap (((ia : Nat) : Int) + 1) = ((ia + 1 : Nat) : Int) := by rw [wrap_i64 (by omega) (by omega)]; omega
   rw [e52]
   clear e52
   refine og 1 [(0, (Value.slice OAa la.length oca)), (2, (Value.slice OAb lb.length ocb)), (4, (ptr b1)), (6, (Value.bool false)), (7, (ptr b7)), (8, (i64 ((ia + 1 : Nat) : Int))), (23, (Value.bool true))] 3 ?_
   refine Ops.keep (R := [(0, (Value.slice OAa la.length oca)), (2, (Value.slice OAb lb.length ocb)), (4, (ptr b1)), (6, (Value.bool false)), (7, (ptr b7)), (8, (i64 ((ia + 1 : Nat) : Int)))]) (by kernel_rfl) ?_
   refine od ?_
   exact ⟨(ia + 1, m35, (doS SSa KKa xa), (doK SSa KKa xa)), ⟨rfl, (by omega), hB42, (by omega), K22, H23, H24, H25, Hm40, Hk41⟩, (show 50 - (ia + 1) < 50 - ia from by omega)⟩
  ·rw [h33]
   have p53 : ¬ (((ia : Nat) : Int) < 50) := of_decide_eq_false h33
   refine q_exit (id := 0) (by kernel_rfl) ?_
   refine qs ?_
   refine qg ?_
   refine og 1 [(2, (Value.slice OAb lb.length ocb)), (4, (ptr b1)), (6, (Value.bool false)), (7, (ptr b7)), (32, (ptr b7))] 1 ?_
   refine Ops.go (v := (agg [(i64 o.kind), (Value.string (str o.frm)), (Value.string (str o.to)), (i64 o.amount), (Value.string (str o.key)), (i64 o.slot), (i64 o.shard)])) (by kernel_rfl) (Runs.load (t := 24) (a := ⟨b1, 0, none⟩) (by kernel_rfl) (H24.loads (by kernel_rfl))) (d := (some 33)) (by kernel_rfl) rfl ?_
   refine Ops.call (by kernel_rfl) (d := (some 34)) (by kernel_rfl) (Do_calls _ b7 mb8 kb9 mma SSa KKa o H25 H26 H27 (by omega) hBma (by first | omega | decide) (by first | omega | decide)) ?_
   rintro _ w57 ⟨m54, A55, c56, rfl, K58, Hm59, Hk60, hB61, hO62⟩
   have ob66 : ∀ i, ((Value.slice A55 ((doR SSa KKa o).rows.length) c56)).ownBlock = some i → i ≠ tb := fun i hi => by have := (World.ownsRow.lt hO62 i hi).1; have := H23.lt; omega
   have ob67 : ∀ i, ((Value.slice A55 ((doR SSa KKa o).rows.length) c56)).ownBlock = some i → i ≠ b1 := fun i hi => by have := (World.ownsRow.lt hO62 i hi).1; have := H24.lt; omega
   have ob68 : ∀ i, ((Value.slice A55 ((doR SSa KKa o).rows.length) c56)).ownBlock = some i → i ≠ b7 := fun i hi => by have := (World.ownsRow.lt hO62 i hi).1; have := H25.lt; omega
   have ob69 : ∀ i, ((Value.slice A55 ((doR SSa KKa o).rows.length) c56)).ownBlock = some i → i ≠ mb8 := fun i hi => by have := (World.ownsRow.lt hO62 i hi).1; have := H26.lt; omega
   have ob70 : ∀ i, ((Value.slice A55 ((doR SSa KKa o).rows.length) c56)).ownBlock = some i → i ≠ kb9 := fun i hi => by have := (World.ownsRow.lt hO62 i hi).1; have := H27.lt; omega
   have O63 := own_base hO62 K22.size
   clear hO62
   have hl64 := hB61.ledg.le
   have hl65 := doK_len SSa KKa o
   refine ⟨_, _, rfl, rfl, ?_⟩
   replace K22 := K22.trans K58 (U := none_) (fun i h1 h2 => h2) (fun i h1 h2 => by have h2 : i = mb8 ∨ i = kb9 := h2; exfalso; omega)
   replace H23 := H23.keep K58 (by intro h; change tb = mb8 ∨ tb = kb9 at h; omega)
   replace H24 := H24.keep K58 (by intro h; change b1 = mb8 ∨ b1 = kb9 at h; omega)
   replace H25 := H25.keep K58 (by intro h; change b7 = mb8 ∨ b7 = kb9 at h; omega)
   clear K58
   refine Ops.new (o := rowL [(i64 0), (i64 0), (Value.slice none 0 0)] 30) (V := fun b => (ptr b)) (by kernel_rfl) (d := (some 9)) (by kernel_rfl) (fun b => rfl) (fun b71 w72 hb73 H74 K75 hs76 => ?_)
   have lb71tb : tb < b71 := by have := H23.lt; omega
   have lb71b1 : b1 < b71 := by have := H24.lt; omega
   have lb71b7 : b7 < b71 := by have := H25.lt; omega
   have lb71mb8 : mb8 < b71 := by have := Hm59.lt; omega
   have lb71kb9 : kb9 < b71 := by have := Hk60.lt; omega
   have nb71 : w.heap.size ≤ b71 := by have := K22.size; omega
   have ob77 : ∀ i, ((Value.slice A55 ((doR SSa KKa o).rows.length) c56)).ownBlock = some i → i < b71 := fun i hi => by have := (World.ownsRow.lt O63 i hi).2; omega
   replace K22 := K22.trans K75 (U := none_) (fun i h1 h2 => h2) (fun i h1 h2 => by exact h2)
   replace H23 := H23.keep K75 (fun h => h)
   replace H24 := H24.keep K75 (fun h => h)
   replace H25 := H25.keep K75 (fun h => h)
   replace Hm59 := Hm59.keep K75 (fun h => h)
   replace Hk60 := Hk60.keep K75 (fun h => h)
   replace O63 := own_keep0 O63 K75
   clear K75 hs76
   refine Ops.put (t := 30) (b := b71) (off := 0) (v := (agg [(i64 ((doR SSa KKa o).why)), (i64 ((doR SSa KKa o).amount)), (Value.slice A55 ((doR SSa KKa o).rows.length) c56)])) (ys := [(i64 ((doR SSa KKa o).why)), (i64 ((doR SSa KKa o).amount)), (Value.slice A55 ((doR SSa KKa o).rows.length) c56)]) (by kernel_rfl) (by kernel_rfl) H74 (by kernel_rfl) (d := none) (by kernel_rfl) rfl (fun w78 H79 K80 => ?_)
   clear H74
   replace K22 := K22.trans K80 (U := none_) (fun i h1 h2 => h2) (fun i h1 h2 => by have h2 : i = b71 := h2; exfalso; omega)
   replace H23 := H23.keep K80 (by intro h; change tb = b71 at h; omega)
   replace H24 := H24.keep K80 (by intro h; change b1 = b71 at h; omega)
   replace H25 := H25.keep K80 (by intro h; change b7 = b71 at h; omega)
   replace Hm59 := Hm59.keep K80 (by intro h; change mb8 = b71 at h; omega)
   replace Hk60 := Hk60.keep K80 (by intro h; change kb9 = b71 at h; omega)
   replace O63 := own_keep O63 K80 (fun i hi hs => by have hs : i = b71 := hs; have := ob77 i hi; omega)
   clear K80
   refine od ?_
   refine qs ?_
   refine qs ?_
   refine qg ?_
   refine og 1 [(2, (Value.slice OAb lb.length ocb)), (4, (ptr b1)), (6, (Value.bool false)), (7, (ptr b7)), (9, (ptr b71)), (10, (i64 0))] 1 ?_
   refine od ?_
   refine q_block (id := 2) (by kernel_rfl) ?_
   refine q_keep (R := [(2, (Value.slice OAb lb.length ocb)), (4, (ptr b1)), (6, (Value.bool false)), (7, (ptr b7)), (9, (ptr b71)), (10, (i64 0))]) (by kernel_rfl) ?_
   refine q_loop (fun (gs : Nat × (List (List UInt8 × Int)) × (List RowM) × (List KeptM)) L (wx : World) => match gs with | (ib, mmb, SSb, KKb) => L = [(2, (Value.slice OAb lb.length ocb)), (4, (ptr b1)), (6, (Value.bool false)), (7, (ptr b7)), (9, (ptr b71)), (10, (i64 ((ib : Nat) : Int)))] ∧ OwnR wx w.heap.size 47 (Value.slice A55 ((doR SSa KKa o).rows.length) c56) (doR SSa KKa o).rows ∧ ib ≤ 50 ∧ LBook mmb SSb KKb ∧ KKb.length ≤ ib + 51 ∧ (doK SSa KKa o) <+: KKb ∧ Keeps none_ w wx ∧ Tab Tryz.prog wx tb ∧ Has wx b1 (rowL [(i64 o.kind), (Value.string (str o.frm)), (Value.string (str o.to)), (i64 o.amount), (Value.string (str o.key)), (i64 o.slot), (i64 o.shard)] 24) ∧ Has wx b7 (rowL [(Value.map (some mb8)), (Value.map (some kb9))] 54) ∧ HasMap wx mb8 kstr ki64 mmb ∧ HasMap wx kb9 kpair keptv (KKb.map KeptM.kv) ∧ Has wx b71 (rowL [(i64 ((doR SSa KKa o).why)), (i64 ((doR SSa KKa o).amount)), (Value.slice A55 ((doR SSa KKa o).rows.length) c56)] 30)) (fun (gs : Nat × (List (List UInt8 × Int)) × (List RowM) × (List KeptM)) => match gs with | (ib, mmb, SSb, KKb) => 50 - ib) (0, m54, (doS SSa KKa o), (doK SSa KKa o)) (by kernel_rfl) ⟨rfl, O63, Nat.zero_le _, hB61, (by first | omega | (simp; done) | (show ((doK SSa KKa o)).length ≤ _; omega)), (List.prefix_refl _), K22, H23, H24, H25, Hm59, Hk60, H79⟩ ?_
   clear H23 H24 H25 Hm59 Hk60 H79 O63 K22
   rintro ⟨ib, mmb, SSb, KKb⟩ _ w81 ⟨rfl, hC0, hib, hBmb, hklb, hpreb, K82, H83, H84, H85, H86, H87, H88⟩
   have hleb := hBmb.ledg.le
   refine qs ?_
   refine qs ?_
   refine qg ?_
   refine og 5 [(2, (Value.slice OAb lb.length ocb)), (4, (ptr b1)), (6, (Value.bool false)), (7, (ptr b7)), (9, (ptr b71)), (10, (i64 ((ib : Nat) : Int))), (39, (Value.bool (decide (((ib : Nat) : Int) < ((lb.length : Nat) : Int)))))] 5 ?_
   refine Ops.split (decide (((ib : Nat) : Int) < ((lb.length : Nat) : Int))) (fun h89 => ?_) (fun h89 => ?_)
   ·rw [h89]
    have p90 : ((ib : Nat) : Int) < ((lb.length : Nat) : Int) := of_decide_eq_true h89
    obtain ⟨xb, hxb⟩ : ∃ y, lb[ib]? = some y := ⟨_, List.getElem?_eq_getElem (by omega)⟩
    have hxbo := hLob xb (List.mem_of_getElem? hxb)
    have hxb1 := hxbo.amount
    obtain ⟨rb91, ro92, hA93⟩ := Rd.addr (Rd.keep0 (by decide) hLb K82) (by omega)
    refine og 3 [(2, (Value.slice OAb lb.length ocb)), (4, (ptr b1)), (6, (Value.bool false)), (7, (ptr b7)), (9, (ptr b71)), (10, (i64 ((ib : Nat) : Int))), (42, (Value.bool (decide (((ib : Nat) : Int) < 50))))] 8 ?_
    refine od ?_
    refine q_cond (o := .tmp 42) (b := (decide (((ib : Nat) : Int) < 50))) (by kernel_rfl) rfl (fun h94 => ?_) (fun h94 => ?_)
    ·rw [h94]
     have p95 : ((ib : Nat) : Int) < 50 := of_decide_eq_true h94
     refine q_skip (by kernel_rfl) ?_
     refine qs ?_
     refine q_block (id := 3) (by kernel_rfl) ?_
     refine qg ?_
     refine og 3 [(2, (Value.slice OAb lb.length ocb)), (4, (ptr b1)), (6, (Value.bool false)), (7, (ptr b7)), (9, (ptr b71)), (10, (i64 ((ib : Nat) : Int))), (42, (Value.bool true)), (45, (ptr b7)), (46, (Value.slice OAb lb.length ocb)), (47, (i64 ((ib : Nat) : Int)))] 3 ?_
     refine Ops.go (by kernel_rfl) (Runs.ixSliceE (k := IntKind.i64) (t := 22) (len := lb.length) (cap := ocb) (s := 7) (off' := ro92 + ib * 7) (i := ((ib : Nat) : Int)) hA93 (by kernel_rfl) (by kernel_rfl) (by omega) (by omega) (by omega)) (d := (some 48)) (by kernel_rfl) rfl ?_
     refine Ops.go (v := (agg [(i64 xb.kind), (Value.string (str xb.frm)), (Value.string (str xb.to)), (i64 xb.amount), (Value.string (str xb.key)), (i64 xb.slot), (i64 xb.shard)])) (by kernel_rfl) (Runs.load (t := 24) (a := ⟨rb91, ro92 + ib * 7, none⟩) (by kernel_rfl) (RdT.ld (f := Opm.cells) (x := xb) Opm.seven (Rd.keep0 (by decide) hLb K82) (by kernel_rfl) (by kernel_rfl) hA93 hxb)) (d := (some 49)) (by kernel_rfl) rfl ?_
     refine Ops.call (by kernel_rfl) (d := (some 50)) (by kernel_rfl) (Do_calls _ b7 mb8 kb9 mmb SSb KKb xb H85 H86 H87 (by omega) hBmb (by first | omega | decide) (by first | omega | decide)) ?_
     rintro _ w99 ⟨m96, A97, c98, rfl, K100, Hm101, Hk102, hB103, hO104⟩
     have ob108 : ∀ i, ((Value.slice A97 ((doR SSb KKb xb).rows.length) c98)).ownBlock = some i → i ≠ tb := fun i hi => by have := (World.ownsRow.lt hO104 i hi).1; have := H83.lt; omega
     have ob109 : ∀ i, ((Value.slice A97 ((doR SSb KKb xb).rows.length) c98)).ownBlock = some i → i ≠ b1 := fun i hi => by have := (World.ownsRow.lt hO104 i hi).1; have := H84.lt; omega
     have ob110 : ∀ i, ((Value.slice A97 ((doR SSb KKb xb).rows.length) c98)).ownBlock = some i → i ≠ b7 := fun i hi => by have := (World.ownsRow.lt hO104 i hi).1; have := H85.lt; omega
     have ob111 : ∀ i, ((Value.slice A97 ((doR SSb KKb xb).rows.length) c98)).ownBlock = some i → i ≠ mb8 := fun i hi => by have := (World.ownsRow.lt hO104 i hi).1; have := H86.lt; omega
     have ob112 : ∀ i, ((Value.slice A97 ((doR SSb KKb xb).rows.length) c98)).ownBlock = some i → i ≠ kb9 := fun i hi => by have := (World.ownsRow.lt hO104 i hi).1; have := H87.lt; omega
     have ob113 : ∀ i, ((Value.slice A97 ((doR SSb KKb xb).rows.length) c98)).ownBlock = some i → i ≠ b71 := fun i hi => by have := (World.ownsRow.lt hO104 i hi).1; have := H88.lt; omega
     have oo114 : ∀ i, ((Value.slice A55 ((doR SSa KKa o).rows.length) c56)).ownBlock = some i → ((Value.slice A97 ((doR SSb KKb xb).rows.length) c98)).ownBlock = some i → False := fun i hi hs => by have := (World.ownsRow.lt hO104 i hs).1; have := (World.ownsRow.lt hC0 i hi).2; omega
     have oo115 : ∀ i, ((Value.slice A97 ((doR SSb KKb xb).rows.length) c98)).ownBlock = some i → ((Value.slice A55 ((doR SSa KKa o).rows.length) c56)).ownBlock = some i → False := fun i hi hs => oo114 i hs hi
     have O105 := own_base hO104 K82.size
     clear hO104
     have hl106 := hB103.ledg.le
     have hl107 := doK_len SSb KKb xb
     refine ⟨_, _, rfl, rfl, ?_⟩
     replace K82 := K82.trans K100 (U := none_) (fun i h1 h2 => h2) (fun i h1 h2 => by have h2 : i = mb8 ∨ i = kb9 := h2; exfalso; omega)
     replace H83 := H83.keep K100 (by intro h; change tb = mb8 ∨ tb = kb9 at h; omega)
     replace H84 := H84.keep K100 (by intro h; change b1 = mb8 ∨ b1 = kb9 at h; omega)
     replace H85 := H85.keep K100 (by intro h; change b7 = mb8 ∨ b7 = kb9 at h; omega)
     replace H88 := H88.keep K100 (by intro h; change b71 = mb8 ∨ b71 = kb9 at h; omega)
     replace hC0 := own_keep hC0 K100 (fun i hi hs => by have hs : i = mb8 ∨ i = kb9 := hs; rcases hs with hs | hs; (have := ob69 i hi; omega); (have := ob70 i hi; omega))
     clear K100
     refine od ?_
     refine qg ?_
     refine og 2 [(2, (Value.slice OAb lb.length ocb)), (4, (ptr b1)), (6, (Value.bool false)), (7, (ptr b7)), (9, (ptr b71)), (10, (i64 ((ib : Nat) : Int))), (42, (Value.bool true)), (44, (i64 (IntKind.i64.wrap (((ib : Nat) : Int) + 1))))] 2 ?_
     have e116 : IntKind.i64.wrap (((ib : Nat) : Int) + 1) = ((ib + 1 : Nat) : Int) := by rw [wrap_i64 (by omega) (by omega)]; omega
     rw [e116]
     clear e116
     refine og 1 [(2, (Value.slice OAb lb.length ocb)), (4, (ptr b1)), (6, (Value.bool false)), (7, (ptr b7)), (9, (ptr b71)), (10, (i64 ((ib + 1 : Nat) : Int))), (42, (Value.bool true))] 3 ?_
     refine Ops.keep (R := [(2, (Value.slice OAb lb.length ocb)), (4, (ptr b1)), (6, (Value.bool false)), (7, (ptr b7)), (9, (ptr b71)), (10, (i64 ((ib + 1 : Nat) : Int)))]) (by kernel_rfl) ?_
     refine od ?_
     exact ⟨(ib + 1, m96, (doS SSb KKb xb), (doK SSb KKb xb)), ⟨rfl, hC0, (by omega), hB103, (by omega), (hpreb.trans (doK_pre _ _ _)), K82, H83, H84, H85, Hm101, Hk102, H88⟩, (show 50 - (ib + 1) < 50 - ib from by omega)⟩
    ·rw [h94]
     have p117 : ¬ (((ib : Nat) : Int) < 50) := of_decide_eq_false h94
     refine q_exit (id := 2) (by kernel_rfl) ?_
     refine qs ?_
     refine qs ?_
     refine qg ?_
     refine og 1 [(4, (ptr b1)), (6, (Value.bool false)), (7, (ptr b7)), (9, (ptr b71)), (51, (ptr b1))] 1 ?_
     refine Ops.go (v := (i64 o.kind)) (by kernel_rfl) (Runs.load (t := 3) (a := ⟨b1, 0, none⟩) (by kernel_rfl) (H84.loads (by kernel_rfl))) (d := (some 52)) (by kernel_rfl) rfl ?_
     refine og 2 [(4, (ptr b1)), (6, (Value.bool false)), (7, (ptr b7)), (9, (ptr b71)), (54, (Value.bool (decide (o.kind < 1))))] 4 ?_
     refine Ops.split (decide (o.kind < 1)) (fun h118 => ?_) (fun h118 => ?_)
     ·rw [h118]
      have p119 : o.kind < 1 := of_decide_eq_true h118
      refine og 4 [(4, (ptr b1)), (6, (Value.bool false)), (7, (ptr b7)), (9, (ptr b71)), (58, (Value.bool true))] 8 ?_
      refine od ?_
      refine q_then (o := .tmp 58) (by kernel_rfl) rfl ?_
      refine qs ?_
      refine qg ?_
      refine Ops.call (by kernel_rfl) (d := (some 59)) (by kernel_rfl) (known_calls _ tb H83) ?_
      rintro _ w121 ⟨rfl, K120⟩
      refine ⟨_, _, rfl, rfl, ?_⟩
      replace K82 := K82.trans K120 (U := none_) (fun i h1 h2 => h2) (fun i h1 h2 => by exact h2)
      replace H83 := H83.keep K120 (fun h => h)
      replace H84 := H84.keep K120 (fun h => h)
      replace H85 := H85.keep K120 (fun h => h)
      replace H86 := H86.keep K120 (fun h => h)
      replace H87 := H87.keep K120 (fun h => h)
      replace H88 := H88.keep K120 (fun h => h)
      replace hC0 := own_keep0 hC0 K120
      clear K120
      refine og 1 [(4, (ptr b1)), (6, (Value.bool true)), (7, (ptr b7)), (9, (ptr b71))] 2 ?_
      refine od ?_
      refine q_ret (by kernel_rfl) ?_
      refine ⟨(Value.bool true), retv_tmp rfl rfl, ?_⟩
      exact ⟨rfl, K82⟩
     ·rw [h118]
      have p122 : ¬ (o.kind < 1) := of_decide_eq_false h118
      refine og 1 [(4, (ptr b1)), (6, (Value.bool false)), (7, (ptr b7)), (9, (ptr b71)), (54, (Value.bool false)), (55, (ptr b1))] 5 ?_
      refine Ops.go (v := (i64 o.kind)) (by kernel_rfl) (Runs.load (t := 3) (a := ⟨b1, 0, none⟩) (by kernel_rfl) (H84.loads (by kernel_rfl))) (d := (some 56)) (by kernel_rfl) rfl ?_
      refine og 2 [(4, (ptr b1)), (6, (Value.bool false)), (7, (ptr b7)), (9, (ptr b71)), (58, (Value.bool (decide (o.kind > 4))))] 8 ?_
      refine od ?_
      refine q_cond (o := .tmp 58) (b := (decide (o.kind > 4))) (by kernel_rfl) rfl (fun h123 => ?_) (fun h123 => ?_)
      ·rw [h123]
       have p124 : o.kind > 4 := of_decide_eq_true h123
       refine qs ?_
       refine qg ?_
       refine Ops.call (by kernel_rfl) (d := (some 59)) (by kernel_rfl) (known_calls _ tb H83) ?_
       rintro _ w126 ⟨rfl, K125⟩
       refine ⟨_, _, rfl, rfl, ?_⟩
       replace K82 := K82.trans K125 (U := none_) (fun i h1 h2 => h2) (fun i h1 h2 => by exact h2)
       replace H83 := H83.keep K125 (fun h => h)
       replace H84 := H84.keep K125 (fun h => h)
       replace H85 := H85.keep K125 (fun h => h)
       replace H86 := H86.keep K125 (fun h => h)
       replace H87 := H87.keep K125 (fun h => h)
       replace H88 := H88.keep K125 (fun h => h)
       replace hC0 := own_keep0 hC0 K125
       clear K125
       refine og 1 [(4, (ptr b1)), (6, (Value.bool true)), (7, (ptr b7)), (9, (ptr b71))] 2 ?_
       refine od ?_
       refine q_ret (by kernel_rfl) ?_
       refine ⟨(Value.bool true), retv_tmp rfl rfl, ?_⟩
       exact ⟨rfl, K82⟩
      ·rw [h123]
       have p127 : ¬ (o.kind > 4) := of_decide_eq_false h123
       refine q_skip (by kernel_rfl) ?_
       refine qs ?_
       refine qg ?_
       refine og 1 [(4, (ptr b1)), (6, (Value.bool false)), (7, (ptr b7)), (9, (ptr b71)), (60, (ptr b7))] 1 ?_
       refine Ops.call (by kernel_rfl) (d := (some 61)) (by kernel_rfl) (Text_calls _ b7 mb8 kb9 mmb SSb KKb tb H85 H86 H87 (by omega) hBmb H83 (by first | omega | decide) (by first | omega | decide)) ?_
       rintro _ w129 ⟨rfl, K128⟩
       refine ⟨_, _, rfl, rfl, ?_⟩
       replace K82 := K82.trans K128 (U := none_) (fun i h1 h2 => h2) (fun i h1 h2 => by exact h2)
       replace H83 := H83.keep K128 (fun h => h)
       replace H84 := H84.keep K128 (fun h => h)
       replace H85 := H85.keep K128 (fun h => h)
       replace H86 := H86.keep K128 (fun h => h)
       replace H87 := H87.keep K128 (fun h => h)
       replace H88 := H88.keep K128 (fun h => h)
       replace hC0 := own_keep0 hC0 K128
       clear K128
       refine og 1 [(4, (ptr b1)), (6, (Value.bool false)), (7, (ptr b7)), (9, (ptr b71)), (11, (Value.string (str (textE SSb KKb))))] 3 ?_
       refine od ?_
       refine qs ?_
       refine qg ?_
       refine og 1 [(4, (ptr b1)), (6, (Value.bool false)), (7, (ptr b7)), (9, (ptr b71)), (11, (Value.string (str (textE SSb KKb)))), (62, (ptr b7))] 1 ?_
       refine Ops.go (v := (agg [(i64 o.kind), (Value.string (str o.frm)), (Value.string (str o.to)), (i64 o.amount), (Value.string (str o.key)), (i64 o.slot), (i64 o.shard)])) (by kernel_rfl) (Runs.load (t := 24) (a := ⟨b1, 0, none⟩) (by kernel_rfl) (H84.loads (by kernel_rfl))) (d := (some 63)) (by kernel_rfl) rfl ?_
       refine Ops.call (by kernel_rfl) (d := (some 64)) (by kernel_rfl) (Do_calls _ b7 mb8 kb9 mmb SSb KKb o H85 H86 H87 (by omega) hBmb (by first | omega | decide) (by first | omega | decide)) ?_
       rintro _ w133 ⟨m130, A131, c132, rfl, K134, Hm135, Hk136, hB137, hO138⟩
       have ob142 : ∀ i, ((Value.slice A131 ((doR SSb KKb o).rows.length) c132)).ownBlock = some i → i ≠ tb := fun i hi => by have := (World.ownsRow.lt hO138 i hi).1; have := H83.lt; omega
       have ob143 : ∀ i, ((Value.slice A131 ((doR SSb KKb o).rows.length) c132)).ownBlock = some i → i ≠ b1 := fun i hi => by have := (World.ownsRow.lt hO138 i hi).1; have := H84.lt; omega
       have ob144 : ∀ i, ((Value.slice A131 ((doR SSb KKb o).rows.length) c132)).ownBlock = some i → i ≠ b7 := fun i hi => by have := (World.ownsRow.lt hO138 i hi).1; have := H85.lt; omega
       have ob145 : ∀ i, ((Value.slice A131 ((doR SSb KKb o).rows.length) c132)).ownBlock = some i → i ≠ mb8 := fun i hi => by have := (World.ownsRow.lt hO138 i hi).1; have := H86.lt; omega
       have ob146 : ∀ i, ((Value.slice A131 ((doR SSb KKb o).rows.length) c132)).ownBlock = some i → i ≠ kb9 := fun i hi => by have := (World.ownsRow.lt hO138 i hi).1; have := H87.lt; omega
       have ob147 : ∀ i, ((Value.slice A131 ((doR SSb KKb o).rows.length) c132)).ownBlock = some i → i ≠ b71 := fun i hi => by have := (World.ownsRow.lt hO138 i hi).1; have := H88.lt; omega
       have oo148 : ∀ i, ((Value.slice A55 ((doR SSa KKa o).rows.length) c56)).ownBlock = some i → ((Value.slice A131 ((doR SSb KKb o).rows.length) c132)).ownBlock = some i → False := fun i hi hs => by have := (World.ownsRow.lt hO138 i hs).1; have := (World.ownsRow.lt hC0 i hi).2; omega
       have oo149 : ∀ i, ((Value.slice A131 ((doR SSb KKb o).rows.length) c132)).ownBlock = some i → ((Value.slice A55 ((doR SSa KKa o).rows.length) c56)).ownBlock = some i → False := fun i hi hs => oo148 i hs hi
       have O139 := own_base hO138 K82.size
       clear hO138
       have hl140 := hB137.ledg.le
       have hl141 := doK_len SSb KKb o
       refine ⟨_, _, rfl, rfl, ?_⟩
       replace K82 := K82.trans K134 (U := none_) (fun i h1 h2 => h2) (fun i h1 h2 => by have h2 : i = mb8 ∨ i = kb9 := h2; exfalso; omega)
       replace H83 := H83.keep K134 (by intro h; change tb = mb8 ∨ tb = kb9 at h; omega)
       replace H84 := H84.keep K134 (by intro h; change b1 = mb8 ∨ b1 = kb9 at h; omega)
       replace H85 := H85.keep K134 (by intro h; change b7 = mb8 ∨ b7 = kb9 at h; omega)
       replace H88 := H88.keep K134 (by intro h; change b71 = mb8 ∨ b71 = kb9 at h; omega)
       replace hC0 := own_keep hC0 K134 (fun i hi hs => by have hs : i = mb8 ∨ i = kb9 := hs; rcases hs with hs | hs; (have := ob69 i hi; omega); (have := ob70 i hi; omega))
       clear K134
       refine Ops.new (o := rowL [(i64 0), (i64 0), (Value.slice none 0 0)] 30) (V := fun b => (ptr b)) (by kernel_rfl) (d := (some 12)) (by kernel_rfl) (fun b => rfl) (fun b150 w151 hb152 H153 K154 hs155 => ?_)
       have lb150tb : tb < b150 := by have := H83.lt; omega
       have lb150b1 : b1 < b150 := by have := H84.lt; omega
       have lb150b7 : b7 < b150 := by have := H85.lt; omega
       have lb150mb8 : mb8 < b150 := by have := Hm135.lt; omega
       have lb150kb9 : kb9 < b150 := by have := Hk136.lt; omega
       have lb150b71 : b71 < b150 := by have := H88.lt; omega
       have nb150 : w.heap.size ≤ b150 := by have := K82.size; omega
       have ob156 : ∀ i, ((Value.slice A55 ((doR SSa KKa o).rows.length) c56)).ownBlock = some i → i < b150 := fun i hi => by have := (World.ownsRow.lt hC0 i hi).2; omega
       have ob157 : ∀ i, ((Value.slice A131 ((doR SSb KKb o).rows.length) c132)).ownBlock = some i → i < b150 := fun i hi => by have := (World.ownsRow.lt O139 i hi).2; omega
       replace K82 := K82.trans K154 (U := none_) (fun i h1 h2 => h2) (fun i h1 h2 => by exact h2)
       replace H83 := H83.keep K154 (fun h => h)
       replace H84 := H84.keep K154 (fun h => h)
       replace H85 := H85.keep K154 (fun h => h)
       replace Hm135 := Hm135.keep K154 (fun h => h)
       replace Hk136 := Hk136.keep K154 (fun h => h)
       replace H88 := H88.keep K154 (fun h => h)
       replace hC0 := own_keep0 hC0 K154
       replace O139 := own_keep0 O139 K154
       clear K154 hs155
       refine Ops.put (t := 30) (b := b150) (off := 0) (v := (agg [(i64 ((doR SSb KKb o).why)), (i64 ((doR SSb KKb o).amount)), (Value.slice A131 ((doR SSb KKb o).rows.length) c132)])) (ys := [(i64 ((doR SSb KKb o).why)), (i64 ((doR SSb KKb o).amount)), (Value.slice A131 ((doR SSb KKb o).rows.length) c132)]) (by kernel_rfl) (by kernel_rfl) H153 (by kernel_rfl) (d := none) (by kernel_rfl) rfl (fun w158 H159 K160 => ?_)
       clear H153
       replace K82 := K82.trans K160 (U := none_) (fun i h1 h2 => h2) (fun i h1 h2 => by have h2 : i = b150 := h2; exfalso; omega)
       replace H83 := H83.keep K160 (by intro h; change tb = b150 at h; omega)
       replace H84 := H84.keep K160 (by intro h; change b1 = b150 at h; omega)
       replace H85 := H85.keep K160 (by intro h; change b7 = b150 at h; omega)
       replace Hm135 := Hm135.keep K160 (by intro h; change mb8 = b150 at h; omega)
       replace Hk136 := Hk136.keep K160 (by intro h; change kb9 = b150 at h; omega)
       replace H88 := H88.keep K160 (by intro h; change b71 = b150 at h; omega)
       replace hC0 := own_keep hC0 K160 (fun i hi hs => by have hs : i = b150 := hs; have := ob156 i hi; omega)
       replace O139 := own_keep O139 K160 (fun i hi hs => by have hs : i = b150 := hs; have := ob157 i hi; omega)
       clear K160
       refine od ?_
       refine qs ?_
       refine qg ?_
       refine Ops.go (v := (agg [(i64 ((doR SSa KKa o).why)), (i64 ((doR SSa KKa o).amount)), (Value.slice A55 ((doR SSa KKa o).rows.length) c56)])) (by kernel_rfl) (Runs.load (t := 30) (a := ⟨b71, 0, none⟩) (by kernel_rfl) (H88.loads (by kernel_rfl))) (d := (some 65)) (by kernel_rfl) rfl ?_
       refine Ops.go (v := (agg [(i64 ((doR SSb KKb o).why)), (i64 ((doR SSb KKb o).amount)), (Value.slice A131 ((doR SSb KKb o).rows.length) c132)])) (by kernel_rfl) (Runs.load (t := 30) (a := ⟨b150, 0, none⟩) (by kernel_rfl) (H159.loads (by kernel_rfl))) (d := (some 66)) (by kernel_rfl) rfl ?_
       refine Ops.call (by kernel_rfl) (d := (some 67)) (by kernel_rfl) (SameReply_calls _ A55 c56 (doR SSa KKa o) A131 c132 (doR SSb KKb o) (OwnT.rd hC0) (OwnT.rd O139)) ?_
       rintro _ w164 ⟨t161, rfl, ht162, K163⟩
       refine ⟨_, _, rfl, rfl, ?_⟩
       replace K82 := K82.trans K163 (U := none_) (fun i h1 h2 => h2) (fun i h1 h2 => by exact h2)
       replace H83 := H83.keep K163 (fun h => h)
       replace H84 := H84.keep K163 (fun h => h)
       replace H85 := H85.keep K163 (fun h => h)
       replace Hm135 := Hm135.keep K163 (fun h => h)
       replace Hk136 := Hk136.keep K163 (fun h => h)
       replace H88 := H88.keep K163 (fun h => h)
       replace H159 := H159.keep K163 (fun h => h)
       replace hC0 := own_keep0 hC0 K163
       replace O139 := own_keep0 O139 K163
       clear K163
       refine og 1 [(6, (Value.bool false)), (7, (ptr b7)), (11, (Value.string (str (textE SSb KKb)))), (68, (Value.bool t161))] 4 ?_
       have h165 : t161 = true := ht162.2 (once_law hpreb (by omega)).1.symm
       rw [h165]
       refine og 1 [(6, (Value.bool false)), (11, (Value.string (str (textE SSb KKb)))), (68, (Value.bool true)), (69, (ptr b7))] 5 ?_
       refine Ops.call (by kernel_rfl) (d := (some 70)) (by kernel_rfl) (Text_calls _ b7 mb8 kb9 m130 (doS SSb KKb o) (doK SSb KKb o) tb H85 Hm135 Hk136 (by omega) hB137 H83 (by first | omega | decide) (by first | omega | decide)) ?_
       rintro _ w167 ⟨rfl, K166⟩
       refine ⟨_, _, rfl, rfl, ?_⟩
       replace K82 := K82.trans K166 (U := none_) (fun i h1 h2 => h2) (fun i h1 h2 => by exact h2)
       replace H83 := H83.keep K166 (fun h => h)
       replace H84 := H84.keep K166 (fun h => h)
       replace H85 := H85.keep K166 (fun h => h)
       replace Hm135 := Hm135.keep K166 (fun h => h)
       replace Hk136 := Hk136.keep K166 (fun h => h)
       replace H88 := H88.keep K166 (fun h => h)
       replace H159 := H159.keep K166 (fun h => h)
       replace hC0 := own_keep0 hC0 K166
       replace O139 := own_keep0 O139 K166
       clear K166
       refine og 1 [(6, (Value.bool false)), (68, (Value.bool true)), (70, (Value.string (str (textE (doS SSb KKb o) (doK SSb KKb o))))), (71, (Value.string (str (textE SSb KKb))))] 7 ?_
       refine Ops.go (v := (Value.bool ((textE (doS SSb KKb o) (doK SSb KKb o)) == (textE SSb KKb)))) (by kernel_rfl) (Runs.streq (t := 9) (by kernel_rfl)) (d := (some 72)) (by kernel_rfl) rfl ?_
       refine og 2 [(6, (Value.bool false)), (74, (Value.bool ((textE (doS SSb KKb o) (doK SSb KKb o)) == (textE SSb KKb))))] 10 ?_
       have h168 : ((textE (doS SSb KKb o) (doK SSb KKb o)) == (textE SSb KKb)) = true := by rw [(once_law hpreb (by omega)).2.1, (once_law hpreb (by omega)).2.2]; simp
       rw [h168]
       refine Ops.call (by kernel_rfl) (d := (some 75)) (by kernel_rfl) (known_calls _ tb H83) ?_
       rintro _ w170 ⟨rfl, K169⟩
       refine ⟨_, _, rfl, rfl, ?_⟩
       replace K82 := K82.trans K169 (U := none_) (fun i h1 h2 => h2) (fun i h1 h2 => by exact h2)
       replace H83 := H83.keep K169 (fun h => h)
       replace H84 := H84.keep K169 (fun h => h)
       replace H85 := H85.keep K169 (fun h => h)
       replace Hm135 := Hm135.keep K169 (fun h => h)
       replace Hk136 := Hk136.keep K169 (fun h => h)
       replace H88 := H88.keep K169 (fun h => h)
       replace H159 := H159.keep K169 (fun h => h)
       replace hC0 := own_keep0 hC0 K169
       replace O139 := own_keep0 O139 K169
       clear K169
       refine og 2 [(6, (Value.bool true))] 13 ?_
       refine od ?_
       refine q_ret (by kernel_rfl) ?_
       refine ⟨(Value.bool true), retv_tmp rfl rfl, ?_⟩
       exact ⟨rfl, K82⟩
   ·rw [h89]
    have p171 : ¬ (((ib : Nat) : Int) < ((lb.length : Nat) : Int)) := of_decide_eq_false h89
    refine og 3 [(2, (Value.slice OAb lb.length ocb)), (4, (ptr b1)), (6, (Value.bool false)), (7, (ptr b7)), (9, (ptr b71)), (10, (i64 ((ib : Nat) : Int))), (42, (Value.bool false))] 8 ?_
    refine od ?_
    refine q_else (o := .tmp 42) (by kernel_rfl) rfl ?_
    refine q_exit (id := 2) (by kernel_rfl) ?_
    refine qs ?_
    refine qs ?_
    refine qg ?_
    refine og 1 [(4, (ptr b1)), (6, (Value.bool false)), (7, (ptr b7)), (9, (ptr b71)), (51, (ptr b1))] 1 ?_
    refine Ops.go (v := (i64 o.kind)) (by kernel_rfl) (Runs.load (t := 3) (a := ⟨b1, 0, none⟩) (by kernel_rfl) (H84.loads (by kernel_rfl))) (d := (some 52)) (by kernel_rfl) rfl ?_
    refine og 2 [(4, (ptr b1)), (6, (Value.bool false)), (7, (ptr b7)), (9, (ptr b71)), (54, (Value.bool (decide (o.kind < 1))))] 4 ?_
    refine Ops.split (decide (o.kind < 1)) (fun h172 => ?_) (fun h172 => ?_)
    ·rw [h172]
     have p173 : o.kind < 1 := of_decide_eq_true h172
     refine og 4 [(4, (ptr b1)), (6, (Value.bool false)), (7, (ptr b7)), (9, (ptr b71)), (58, (Value.bool true))] 8 ?_
     refine od ?_
     refine q_then (o := .tmp 58) (by kernel_rfl) rfl ?_
     refine qs ?_
     refine qg ?_
     refine Ops.call (by kernel_rfl) (d := (some 59)) (by kernel_rfl) (known_calls _ tb H83) ?_
     rintro _ w175 ⟨rfl, K174⟩
     refine ⟨_, _, rfl, rfl, ?_⟩
     replace K82 := K82.trans K174 (U := none_) (fun i h1 h2 => h2) (fun i h1 h2 => by exact h2)
     replace H83 := H83.keep K174 (fun h => h)
     replace H84 := H84.keep K174 (fun h => h)
     replace H85 := H85.keep K174 (fun h => h)
     replace H86 := H86.keep K174 (fun h => h)
     replace H87 := H87.keep K174 (fun h => h)
     replace H88 := H88.keep K174 (fun h => h)
     replace hC0 := own_keep0 hC0 K174
     clear K174
     refine og 1 [(4, (ptr b1)), (6, (Value.bool true)), (7, (ptr b7)), (9, (ptr b71))] 2 ?_
     refine od ?_
     refine q_ret (by kernel_rfl) ?_
     refine ⟨(Value.bool true), retv_tmp rfl rfl, ?_⟩
     exact ⟨rfl, K82⟩
    ·rw [h172]
     have p176 : ¬ (o.kind < 1) := of_decide_eq_false h172
     refine og 1 [(4, (ptr b1)), (6, (Value.bool false)), (7, (ptr b7)), (9, (ptr b71)), (54, (Value.bool false)), (55, (ptr b1))] 5 ?_
     refine Ops.go (v := (i64 o.kind)) (by kernel_rfl) (Runs.load (t := 3) (a := ⟨b1, 0, none⟩) (by kernel_rfl) (H84.loads (by kernel_rfl))) (d := (some 56)) (by kernel_rfl) rfl ?_
     refine og 2 [(4, (ptr b1)), (6, (Value.bool false)), (7, (ptr b7)), (9, (ptr b71)), (58, (Value.bool (decide (o.kind > 4))))] 8 ?_
     refine od ?_
     refine q_cond (o := .tmp 58) (b := (decide (o.kind > 4))) (by kernel_rfl) rfl (fun h177 => ?_) (fun h177 => ?_)
     ·rw [h177]
      have p178 : o.kind > 4 := of_decide_eq_true h177
      refine qs ?_
      refine qg ?_
      refine Ops.call (by kernel_rfl) (d := (some 59)) (by kernel_rfl) (known_calls _ tb H83) ?_
      rintro _ w180 ⟨rfl, K179⟩
      refine ⟨_, _, rfl, rfl, ?_⟩
      replace K82 := K82.trans K179 (U := none_) (fun i h1 h2 => h2) (fun i h1 h2 => by exact h2)
      replace H83 := H83.keep K179 (fun h => h)
      replace H84 := H84.keep K179 (fun h => h)
      replace H85 := H85.keep K179 (fun h => h)
      replace H86 := H86.keep K179 (fun h => h)
      replace H87 := H87.keep K179 (fun h => h)
      replace H88 := H88.keep K179 (fun h => h)
      replace hC0 := own_keep0 hC0 K179
      clear K179
      refine og 1 [(4, (ptr b1)), (6, (Value.bool true)), (7, (ptr b7)), (9, (ptr b71))] 2 ?_
      refine od ?_
      refine q_ret (by kernel_rfl) ?_
      refine ⟨(Value.bool true), retv_tmp rfl rfl, ?_⟩
      exact ⟨rfl, K82⟩
     ·rw [h177]
      have p181 : ¬ (o.kind > 4) := of_decide_eq_false h177
      refine q_skip (by kernel_rfl) ?_
      refine qs ?_
      refine qg ?_
      refine og 1 [(4, (ptr b1)), (6, (Value.bool false)), (7, (ptr b7)), (9, (ptr b71)), (60, (ptr b7))] 1 ?_
      refine Ops.call (by kernel_rfl) (d := (some 61)) (by kernel_rfl) (Text_calls _ b7 mb8 kb9 mmb SSb KKb tb H85 H86 H87 (by omega) hBmb H83 (by first | omega | decide) (by first | omega | decide)) ?_
      rintro _ w183 ⟨rfl, K182⟩
      refine ⟨_, _, rfl, rfl, ?_⟩
      replace K82 := K82.trans K182 (U := none_) (fun i h1 h2 => h2) (fun i h1 h2 => by exact h2)
      replace H83 := H83.keep K182 (fun h => h)
      replace H84 := H84.keep K182 (fun h => h)
      replace H85 := H85.keep K182 (fun h => h)
      replace H86 := H86.keep K182 (fun h => h)
      replace H87 := H87.keep K182 (fun h => h)
      replace H88 := H88.keep K182 (fun h => h)
      replace hC0 := own_keep0 hC0 K182
      clear K182
      refine og 1 [(4, (ptr b1)), (6, (Value.bool false)), (7, (ptr b7)), (9, (ptr b71)), (11, (Value.string (str (textE SSb KKb))))] 3 ?_
      refine od ?_
      refine qs ?_
      refine qg ?_
      refine og 1 [(4, (ptr b1)), (6, (Value.bool false)), (7, (ptr b7)), (9, (ptr b71)), (11, (Value.string (str (textE SSb KKb)))), (62, (ptr b7))] 1 ?_
      refine Ops.go (v := (agg [(i64 o.kind), (Value.string (str o.frm)), (Value.string (str o.to)), (i64 o.amount), (Value.string (str o.key)), (i64 o.slot), (i64 o.shard)])) (by kernel_rfl) (Runs.load (t := 24) (a := ⟨b1, 0, none⟩) (by kernel_rfl) (H84.loads (by kernel_rfl))) (d := (some 63)) (by kernel_rfl) rfl ?_
      refine Ops.call (by kernel_rfl) (d := (some 64)) (by kernel_rfl) (Do_calls _ b7 mb8 kb9 mmb SSb KKb o H85 H86 H87 (by omega) hBmb (by first | omega | decide) (by first | omega | decide)) ?_
      rintro _ w187 ⟨m184, A185, c186, rfl, K188, Hm189, Hk190, hB191, hO192⟩
      have ob196 : ∀ i, ((Value.slice A185 ((doR SSb KKb o).rows.length) c186)).ownBlock = some i → i ≠ tb := fun i hi => by have := (World.ownsRow.lt hO192 i hi).1; have := H83.lt; omega
      have ob197 : ∀ i, ((Value.slice A185 ((doR SSb KKb o).rows.length) c186)).ownBlock = some i → i ≠ b1 := fun i hi => by have := (World.ownsRow.lt hO192 i hi).1; have := H84.lt; omega
      have ob198 : ∀ i, ((Value.slice A185 ((doR SSb KKb o).rows.length) c186)).ownBlock = some i → i ≠ b7 := fun i hi => by have := (World.ownsRow.lt hO192 i hi).1; have := H85.lt; omega
      have ob199 : ∀ i, ((Value.slice A185 ((doR SSb KKb o).rows.length) c186)).ownBlock = some i → i ≠ mb8 := fun i hi => by have := (World.ownsRow.lt hO192 i hi).1; have := H86.lt; omega
      have ob200 : ∀ i, ((Value.slice A185 ((doR SSb KKb o).rows.length) c186)).ownBlock = some i → i ≠ kb9 := fun i hi => by have := (World.ownsRow.lt hO192 i hi).1; have := H87.lt; omega
      have ob201 : ∀ i, ((Value.slice A185 ((doR SSb KKb o).rows.length) c186)).ownBlock = some i → i ≠ b71 := fun i hi => by have := (World.ownsRow.lt hO192 i hi).1; have := H88.lt; omega
      have oo202 : ∀ i, ((Value.slice A55 ((doR SSa KKa o).rows.length) c56)).ownBlock = some i → ((Value.slice A185 ((doR SSb KKb o).rows.length) c186)).ownBlock = some i → False := fun i hi hs => by have := (World.ownsRow.lt hO192 i hs).1; have := (World.ownsRow.lt hC0 i hi).2; omega
      have oo203 : ∀ i, ((Value.slice A185 ((doR SSb KKb o).rows.length) c186)).ownBlock = some i → ((Value.slice A55 ((doR SSa KKa o).rows.length) c56)).ownBlock = some i → False := fun i hi hs => oo202 i hs hi
      have O193 := own_base hO192 K82.size
      clear hO192
      have hl194 := hB191.ledg.le
      have hl195 := doK_len SSb KKb o
      refine ⟨_, _, rfl, rfl, ?_⟩
      replace K82 := K82.trans K188 (U := none_) (fun i h1 h2 => h2) (fun i h1 h2 => by have h2 : i = mb8 ∨ i = kb9 := h2; exfalso; omega)
      replace H83 := H83.keep K188 (by intro h; change tb = mb8 ∨ tb = kb9 at h; omega)
      replace H84 := H84.keep K188 (by intro h; change b1 = mb8 ∨ b1 = kb9 at h; omega)
      replace H85 := H85.keep K188 (by intro h; change b7 = mb8 ∨ b7 = kb9 at h; omega)
      replace H88 := H88.keep K188 (by intro h; change b71 = mb8 ∨ b71 = kb9 at h; omega)
      replace hC0 := own_keep hC0 K188 (fun i hi hs => by have hs : i = mb8 ∨ i = kb9 := hs; rcases hs with hs | hs; (have := ob69 i hi; omega); (have := ob70 i hi; omega))
      clear K188
      refine Ops.new (o := rowL [(i64 0), (i64 0), (Value.slice none 0 0)] 30) (V := fun b => (ptr b)) (by kernel_rfl) (d := (some 12)) (by kernel_rfl) (fun b => rfl) (fun b204 w205 hb206 H207 K208 hs209 => ?_)
      have lb204tb : tb < b204 := by have := H83.lt; omega
      have lb204b1 : b1 < b204 := by have := H84.lt; omega
      have lb204b7 : b7 < b204 := by have := H85.lt; omega
      have lb204mb8 : mb8 < b204 := by have := Hm189.lt; omega
      have lb204kb9 : kb9 < b204 := by have := Hk190.lt; omega
      have lb204b71 : b71 < b204 := by have := H88.lt; omega
      have nb204 : w.heap.size ≤ b204 := by have := K82.size; omega
      have ob210 : ∀ i, ((Value.slice A55 ((doR SSa KKa o).rows.length) c56)).ownBlock = some i → i < b204 := fun i hi => by have := (World.ownsRow.lt hC0 i hi).2; omega
      have ob211 : ∀ i, ((Value.slice A185 ((doR SSb KKb o).rows.length) c186)).ownBlock = some i → i < b204 := fun i hi => by have := (World.ownsRow.lt O193 i hi).2; omega
      replace K82 := K82.trans K208 (U := none_) (fun i h1 h2 => h2) (fun i h1 h2 => by exact h2)
      replace H83 := H83.keep K208 (fun h => h)
      replace H84 := H84.keep K208 (fun h => h)
      replace H85 := H85.keep K208 (fun h => h)
      replace Hm189 := Hm189.keep K208 (fun h => h)
      replace Hk190 := Hk190.keep K208 (fun h => h)
      replace H88 := H88.keep K208 (fun h => h)
      replace hC0 := own_keep0 hC0 K208
      replace O193 := own_keep0 O193 K208
      clear K208 hs209
      refine Ops.put (t := 30) (b := b204) (off := 0) (v := (agg [(i64 ((doR SSb KKb o).why)), (i64 ((doR SSb KKb o).amount)), (Value.slice A185 ((doR SSb KKb o).rows.length) c186)])) (ys := [(i64 ((doR SSb KKb o).why)), (i64 ((doR SSb KKb o).amount)), (Value.slice A185 ((doR SSb KKb o).rows.length) c186)]) (by kernel_rfl) (by kernel_rfl) H207 (by kernel_rfl) (d := none) (by kernel_rfl) rfl (fun w212 H213 K214 => ?_)
      clear H207
      replace K82 := K82.trans K214 (U := none_) (fun i h1 h2 => h2) (fun i h1 h2 => by have h2 : i = b204 := h2; exfalso; omega)
      replace H83 := H83.keep K214 (by intro h; change tb = b204 at h; omega)
      replace H84 := H84.keep K214 (by intro h; change b1 = b204 at h; omega)
      replace H85 := H85.keep K214 (by intro h; change b7 = b204 at h; omega)
      replace Hm189 := Hm189.keep K214 (by intro h; change mb8 = b204 at h; omega)
      replace Hk190 := Hk190.keep K214 (by intro h; change kb9 = b204 at h; omega)
      replace H88 := H88.keep K214 (by intro h; change b71 = b204 at h; omega)
      replace hC0 := own_keep hC0 K214 (fun i hi hs => by have hs : i = b204 := hs; have := ob210 i hi; omega)
      replace O193 := own_keep O193 K214 (fun i hi hs => by have hs : i = b204 := hs; have := ob211 i hi; omega)
      clear K214
      refine od ?_
      refine qs ?_
      refine qg ?_
      refine Ops.go (v := (agg [(i64 ((doR SSa KKa o).why)), (i64 ((doR SSa KKa o).amount)), (Value.slice A55 ((doR SSa KKa o).rows.length) c56)])) (by kernel_rfl) (Runs.load (t := 30) (a := ⟨b71, 0, none⟩) (by kernel_rfl) (H88.loads (by kernel_rfl))) (d := (some 65)) (by kernel_rfl) rfl ?_
      refine Ops.go (v := (agg [(i64 ((doR SSb KKb o).why)), (i64 ((doR SSb KKb o).amount)), (Value.slice A185 ((doR SSb KKb o).rows.length) c186)])) (by kernel_rfl) (Runs.load (t := 30) (a := ⟨b204, 0, none⟩) (by kernel_rfl) (H213.loads (by kernel_rfl))) (d := (some 66)) (by kernel_rfl) rfl ?_
      refine Ops.call (by kernel_rfl) (d := (some 67)) (by kernel_rfl) (SameReply_calls _ A55 c56 (doR SSa KKa o) A185 c186 (doR SSb KKb o) (OwnT.rd hC0) (OwnT.rd O193)) ?_
      rintro _ w218 ⟨t215, rfl, ht216, K217⟩
      refine ⟨_, _, rfl, rfl, ?_⟩
      replace K82 := K82.trans K217 (U := none_) (fun i h1 h2 => h2) (fun i h1 h2 => by exact h2)
      replace H83 := H83.keep K217 (fun h => h)
      replace H84 := H84.keep K217 (fun h => h)
      replace H85 := H85.keep K217 (fun h => h)
      replace Hm189 := Hm189.keep K217 (fun h => h)
      replace Hk190 := Hk190.keep K217 (fun h => h)
      replace H88 := H88.keep K217 (fun h => h)
      replace H213 := H213.keep K217 (fun h => h)
      replace hC0 := own_keep0 hC0 K217
      replace O193 := own_keep0 O193 K217
      clear K217
      refine og 1 [(6, (Value.bool false)), (7, (ptr b7)), (11, (Value.string (str (textE SSb KKb)))), (68, (Value.bool t215))] 4 ?_
      have h219 : t215 = true := ht216.2 (once_law hpreb (by omega)).1.symm
      rw [h219]
      refine og 1 [(6, (Value.bool false)), (11, (Value.string (str (textE SSb KKb)))), (68, (Value.bool true)), (69, (ptr b7))] 5 ?_
      refine Ops.call (by kernel_rfl) (d := (some 70)) (by kernel_rfl) (Text_calls _ b7 mb8 kb9 m184 (doS SSb KKb o) (doK SSb KKb o) tb H85 Hm189 Hk190 (by omega) hB191 H83 (by first | omega | decide) (by first | omega | decide)) ?_
      rintro _ w221 ⟨rfl, K220⟩
      refine ⟨_, _, rfl, rfl, ?_⟩
      replace K82 := K82.trans K220 (U := none_) (fun i h1 h2 => h2) (fun i h1 h2 => by exact h2)
      replace H83 := H83.keep K220 (fun h => h)
      replace H84 := H84.keep K220 (fun h => h)
      replace H85 := H85.keep K220 (fun h => h)
      replace Hm189 := Hm189.keep K220 (fun h => h)
      replace Hk190 := Hk190.keep K220 (fun h => h)
      replace H88 := H88.keep K220 (fun h => h)
      replace H213 := H213.keep K220 (fun h => h)
      replace hC0 := own_keep0 hC0 K220
      replace O193 := own_keep0 O193 K220
      clear K220
      refine og 1 [(6, (Value.bool false)), (68, (Value.bool true)), (70, (Value.string (str (textE (doS SSb KKb o) (doK SSb KKb o))))), (71, (Value.string (str (textE SSb KKb))))] 7 ?_
      refine Ops.go (v := (Value.bool ((textE (doS SSb KKb o) (doK SSb KKb o)) == (textE SSb KKb)))) (by kernel_rfl) (Runs.streq (t := 9) (by kernel_rfl)) (d := (some 72)) (by kernel_rfl) rfl ?_
      refine og 2 [(6, (Value.bool false)), (74, (Value.bool ((textE (doS SSb KKb o) (doK SSb KKb o)) == (textE SSb KKb))))] 10 ?_
      have h222 : ((textE (doS SSb KKb o) (doK SSb KKb o)) == (textE SSb KKb)) = true := by rw [(once_law hpreb (by omega)).2.1, (once_law hpreb (by omega)).2.2]; simp
      rw [h222]
      refine Ops.call (by kernel_rfl) (d := (some 75)) (by kernel_rfl) (known_calls _ tb H83) ?_
      rintro _ w224 ⟨rfl, K223⟩
      refine ⟨_, _, rfl, rfl, ?_⟩
      replace K82 := K82.trans K223 (U := none_) (fun i h1 h2 => h2) (fun i h1 h2 => by exact h2)
      replace H83 := H83.keep K223 (fun h => h)
      replace H84 := H84.keep K223 (fun h => h)
      replace H85 := H85.keep K223 (fun h => h)
      replace Hm189 := Hm189.keep K223 (fun h => h)
      replace Hk190 := Hk190.keep K223 (fun h => h)
      replace H88 := H88.keep K223 (fun h => h)
      replace H213 := H213.keep K223 (fun h => h)
      replace hC0 := own_keep0 hC0 K223
      replace O193 := own_keep0 O193 K223
      clear K223
      refine og 2 [(6, (Value.bool true))] 13 ?_
      refine od ?_
      refine q_ret (by kernel_rfl) ?_
      refine ⟨(Value.bool true), retv_tmp rfl rfl, ?_⟩
      exact ⟨rfl, K82⟩
 ·rw [h28]
  have p225 : ¬ (((ia : Nat) : Int) < ((la.length : Nat) : Int)) := of_decide_eq_false h28
  refine og 3 [(0, (Value.slice OAa la.length oca)), (2, (Value.slice OAb lb.length ocb)), (4, (ptr b1)), (6, (Value.bool false)), (7, (ptr b7)), (8, (i64 ((ia : Nat) : Int))), (23, (Value.bool false))] 8 ?_
  refine od ?_
  refine q_else (o := .tmp 23) (by kernel_rfl) rfl ?_
  refine q_exit (id := 0) (by kernel_rfl) ?_
  refine qs ?_
  refine qg ?_
  refine og 1 [(2, (Value.slice OAb lb.length ocb)), (4, (ptr b1)), (6, (Value.bool false)), (7, (ptr b7)), (32, (ptr b7))] 1 ?_
  refine Ops.go (v := (agg [(i64 o.kind), (Value.string (str o.frm)), (Value.string (str o.to)), (i64 o.amount), (Value.string (str o.key)), (i64 o.slot), (i64 o.shard)])) (by kernel_rfl) (Runs.load (t := 24) (a := ⟨b1, 0, none⟩) (by kernel_rfl) (H24.loads (by kernel_rfl))) (d := (some 33)) (by kernel_rfl) rfl ?_
  refine Ops.call (by kernel_rfl) (d := (some 34)) (by kernel_rfl) (Do_calls _ b7 mb8 kb9 mma SSa KKa o H25 H26 H27 (by omega) hBma (by first | omega | decide) (by first | omega | decide)) ?_
  rintro _ w229 ⟨m226, A227, c228, rfl, K230, Hm231, Hk232, hB233, hO234⟩
  have ob238 : ∀ i, ((Value.slice A227 ((doR SSa KKa o).rows.length) c228)).ownBlock = some i → i ≠ tb := fun i hi => by have := (World.ownsRow.lt hO234 i hi).1; have := H23.lt; omega
  have ob239 : ∀ i, ((Value.slice A227 ((doR SSa KKa o).rows.length) c228)).ownBlock = some i → i ≠ b1 := fun i hi => by have := (World.ownsRow.lt hO234 i hi).1; have := H24.lt; omega
  have ob240 : ∀ i, ((Value.slice A227 ((doR SSa KKa o).rows.length) c228)).ownBlock = some i → i ≠ b7 := fun i hi => by have := (World.ownsRow.lt hO234 i hi).1; have := H25.lt; omega
  have ob241 : ∀ i, ((Value.slice A227 ((doR SSa KKa o).rows.length) c228)).ownBlock = some i → i ≠ mb8 := fun i hi => by have := (World.ownsRow.lt hO234 i hi).1; have := H26.lt; omega
  have ob242 : ∀ i, ((Value.slice A227 ((doR SSa KKa o).rows.length) c228)).ownBlock = some i → i ≠ kb9 := fun i hi => by have := (World.ownsRow.lt hO234 i hi).1; have := H27.lt; omega
  have O235 := own_base hO234 K22.size
  clear hO234
  have hl236 := hB233.ledg.le
  have hl237 := doK_len SSa KKa o
  refine ⟨_, _, rfl, rfl, ?_⟩
  replace K22 := K22.trans K230 (U := none_) (fun i h1 h2 => h2) (fun i h1 h2 => by have h2 : i = mb8 ∨ i = kb9 := h2; exfalso; omega)
  replace H23 := H23.keep K230 (by intro h; change tb = mb8 ∨ tb = kb9 at h; omega)
  replace H24 := H24.keep K230 (by intro h; change b1 = mb8 ∨ b1 = kb9 at h; omega)
  replace H25 := H25.keep K230 (by intro h; change b7 = mb8 ∨ b7 = kb9 at h; omega)
  clear K230
  refine Ops.new (o := rowL [(i64 0), (i64 0), (Value.slice none 0 0)] 30) (V := fun b => (ptr b)) (by kernel_rfl) (d := (some 9)) (by kernel_rfl) (fun b => rfl) (fun b243 w244 hb245 H246 K247 hs248 => ?_)
  have lb243tb : tb < b243 := by have := H23.lt; omega
  have lb243b1 : b1 < b243 := by have := H24.lt; omega
  have lb243b7 : b7 < b243 := by have := H25.lt; omega
  have lb243mb8 : mb8 < b243 := by have := Hm231.lt; omega
  have lb243kb9 : kb9 < b243 := by have := Hk232.lt; omega
  have nb243 : w.heap.size ≤ b243 := by have := K22.size; omega
  have ob249 : ∀ i, ((Value.slice A227 ((doR SSa KKa o).rows.length) c228)).ownBlock = some i → i < b243 := fun i hi => by have := (World.ownsRow.lt O235 i hi).2; omega
  replace K22 := K22.trans K247 (U := none_) (fun i h1 h2 => h2) (fun i h1 h2 => by exact h2)
  replace H23 := H23.keep K247 (fun h => h)
  replace H24 := H24.keep K247 (fun h => h)
  replace H25 := H25.keep K247 (fun h => h)
  replace Hm231 := Hm231.keep K247 (fun h => h)
  replace Hk232 := Hk232.keep K247 (fun h => h)
  replace O235 := own_keep0 O235 K247
  clear K247 hs248
  refine Ops.put (t := 30) (b := b243) (off := 0) (v := (agg [(i64 ((doR SSa KKa o).why)), (i64 ((doR SSa KKa o).amount)), (Value.slice A227 ((doR SSa KKa o).rows.length) c228)])) (ys := [(i64 ((doR SSa KKa o).why)), (i64 ((doR SSa KKa o).amount)), (Value.slice A227 ((doR SSa KKa o).rows.length) c228)]) (by kernel_rfl) (by kernel_rfl) H246 (by kernel_rfl) (d := none) (by kernel_rfl) rfl (fun w250 H251 K252 => ?_)
  clear H246
  replace K22 := K22.trans K252 (U := none_) (fun i h1 h2 => h2) (fun i h1 h2 => by have h2 : i = b243 := h2; exfalso; omega)
  replace H23 := H23.keep K252 (by intro h; change tb = b243 at h; omega)
  replace H24 := H24.keep K252 (by intro h; change b1 = b243 at h; omega)
  replace H25 := H25.keep K252 (by intro h; change b7 = b243 at h; omega)
  replace Hm231 := Hm231.keep K252 (by intro h; change mb8 = b243 at h; omega)
  replace Hk232 := Hk232.keep K252 (by intro h; change kb9 = b243 at h; omega)
  replace O235 := own_keep O235 K252 (fun i hi hs => by have hs : i = b243 := hs; have := ob249 i hi; omega)
  clear K252
  refine od ?_
  refine qs ?_
  refine qs ?_
  refine qg ?_
  refine og 1 [(2, (Value.slice OAb lb.length ocb)), (4, (ptr b1)), (6, (Value.bool false)), (7, (ptr b7)), (9, (ptr b243)), (10, (i64 0))] 1 ?_
  refine od ?_
  refine q_block (id := 2) (by kernel_rfl) ?_
  refine q_keep (R := [(2, (Value.slice OAb lb.length ocb)), (4, (ptr b1)), (6, (Value.bool false)), (7, (ptr b7)), (9, (ptr b243)), (10, (i64 0))]) (by kernel_rfl) ?_
  refine q_loop (fun (gs : Nat × (List (List UInt8 × Int)) × (List RowM) × (List KeptM)) L (wx : World) => match gs with | (ib, mmb, SSb, KKb) => L = [(2, (Value.slice OAb lb.length ocb)), (4, (ptr b1)), (6, (Value.bool false)), (7, (ptr b7)), (9, (ptr b243)), (10, (i64 ((ib : Nat) : Int)))] ∧ OwnR wx w.heap.size 47 (Value.slice A227 ((doR SSa KKa o).rows.length) c228) (doR SSa KKa o).rows ∧ ib ≤ 50 ∧ LBook mmb SSb KKb ∧ KKb.length ≤ ib + 51 ∧ (doK SSa KKa o) <+: KKb ∧ Keeps none_ w wx ∧ Tab Tryz.prog wx tb ∧ Has wx b1 (rowL [(i64 o.kind), (Value.string (str o.frm)), (Value.string (str o.to)), (i64 o.amount), (Value.string (str o.key)), (i64 o.slot), (i64 o.shard)] 24) ∧ Has wx b7 (rowL [(Value.map (some mb8)), (Value.map (some kb9))] 54) ∧ HasMap wx mb8 kstr ki64 mmb ∧ HasMap wx kb9 kpair keptv (KKb.map KeptM.kv) ∧ Has wx b243 (rowL [(i64 ((doR SSa KKa o).why)), (i64 ((doR SSa KKa o).amount)), (Value.slice A227 ((doR SSa KKa o).rows.length) c228)] 30)) (fun (gs : Nat × (List (List UInt8 × Int)) × (List RowM) × (List KeptM)) => match gs with | (ib, mmb, SSb, KKb) => 50 - ib) (0, m226, (doS SSa KKa o), (doK SSa KKa o)) (by kernel_rfl) ⟨rfl, O235, Nat.zero_le _, hB233, (by first | omega | (simp; done) | (show ((doK SSa KKa o)).length ≤ _; omega)), (List.prefix_refl _), K22, H23, H24, H25, Hm231, Hk232, H251⟩ ?_
  clear H23 H24 H25 Hm231 Hk232 H251 O235 K22
  rintro ⟨ib, mmb, SSb, KKb⟩ _ w253 ⟨rfl, hC0, hib, hBmb, hklb, hpreb, K254, H255, H256, H257, H258, H259, H260⟩
  have hleb := hBmb.ledg.le
  refine qs ?_
  refine qs ?_
  refine qg ?_
  refine og 5 [(2, (Value.slice OAb lb.length ocb)), (4, (ptr b1)), (6, (Value.bool false)), (7, (ptr b7)), (9, (ptr b243)), (10, (i64 ((ib : Nat) : Int))), (39, (Value.bool (decide (((ib : Nat) : Int) < ((lb.length : Nat) : Int)))))] 5 ?_
  refine Ops.split (decide (((ib : Nat) : Int) < ((lb.length : Nat) : Int))) (fun h261 => ?_) (fun h261 => ?_)
  ·rw [h261]
   have p262 : ((ib : Nat) : Int) < ((lb.length : Nat) : Int) := of_decide_eq_true h261
   obtain ⟨xb, hxb⟩ : ∃ y, lb[ib]? = some y := ⟨_, List.getElem?_eq_getElem (by omega)⟩
   have hxbo := hLob xb (List.mem_of_getElem? hxb)
   have hxb1 := hxbo.amount
   obtain ⟨rb263, ro264, hA265⟩ := Rd.addr (Rd.keep0 (by decide) hLb K254) (by omega)
   refine og 3 [(2, (Value.slice OAb lb.length ocb)), (4, (ptr b1)), (6, (Value.bool false)), (7, (ptr b7)), (9, (ptr b243)), (10, (i64 ((ib : Nat) : Int))), (42, (Value.bool (decide (((ib : Nat) : Int) < 50))))] 8 ?_
   refine od ?_
   refine q_cond (o := .tmp 42) (b := (decide (((ib : Nat) : Int) < 50))) (by kernel_rfl) rfl (fun h266 => ?_) (fun h266 => ?_)
   ·rw [h266]
    have p267 : ((ib : Nat) : Int) < 50 := of_decide_eq_true h266
    refine q_skip (by kernel_rfl) ?_
    refine qs ?_
    refine q_block (id := 3) (by kernel_rfl) ?_
    refine qg ?_
    refine og 3 [(2, (Value.slice OAb lb.length ocb)), (4, (ptr b1)), (6, (Value.bool false)), (7, (ptr b7)), (9, (ptr b243)), (10, (i64 ((ib : Nat) : Int))), (42, (Value.bool true)), (45, (ptr b7)), (46, (Value.slice OAb lb.length ocb)), (47, (i64 ((ib : Nat) : Int)))] 3 ?_
    refine Ops.go (by kernel_rfl) (Runs.ixSliceE (k := IntKind.i64) (t := 22) (len := lb.length) (cap := ocb) (s := 7) (off' := ro264 + ib * 7) (i := ((ib : Nat) : Int)) hA265 (by kernel_rfl) (by kernel_rfl) (by omega) (by omega) (by omega)) (d := (some 48)) (by kernel_rfl) rfl ?_
    refine Ops.go (v := (agg [(i64 xb.kind), (Value.string (str xb.frm)), (Value.string (str xb.to)), (i64 xb.amount), (Value.string (str xb.key)), (i64 xb.slot), (i64 xb.shard)])) (by kernel_rfl) (Runs.load (t := 24) (a := ⟨rb263, ro264 + ib * 7, none⟩) (by kernel_rfl) (RdT.ld (f := Opm.cells) (x := xb) Opm.seven (Rd.keep0 (by decide) hLb K254) (by kernel_rfl) (by kernel_rfl) hA265 hxb)) (d := (some 49)) (by kernel_rfl) rfl ?_
    refine Ops.call (by kernel_rfl) (d := (some 50)) (by kernel_rfl) (Do_calls _ b7 mb8 kb9 mmb SSb KKb xb H257 H258 H259 (by omega) hBmb (by first | omega | decide) (by first | omega | decide)) ?_
    rintro _ w271 ⟨m268, A269, c270, rfl, K272, Hm273, Hk274, hB275, hO276⟩
    have ob280 : ∀ i, ((Value.slice A269 ((doR SSb KKb xb).rows.length) c270)).ownBlock = some i → i ≠ tb := fun i hi => by have := (World.ownsRow.lt hO276 i hi).1; have := H255.lt; omega
    have ob281 : ∀ i, ((Value.slice A269 ((doR SSb KKb xb).rows.length) c270)).ownBlock = some i → i ≠ b1 := fun i hi => by have := (World.ownsRow.lt hO276 i hi).1; have := H256.lt; omega
    have ob282 : ∀ i, ((Value.slice A269 ((doR SSb KKb xb).rows.length) c270)).ownBlock = some i → i ≠ b7 := fun i hi => by have := (World.ownsRow.lt hO276 i hi).1; have := H257.lt; omega
    have ob283 : ∀ i, ((Value.slice A269 ((doR SSb KKb xb).rows.length) c270)).ownBlock = some i → i ≠ mb8 := fun i hi => by have := (World.ownsRow.lt hO276 i hi).1; have := H258.lt; omega
    have ob284 : ∀ i, ((Value.slice A269 ((doR SSb KKb xb).rows.length) c270)).ownBlock = some i → i ≠ kb9 := fun i hi => by have := (World.ownsRow.lt hO276 i hi).1; have := H259.lt; omega
    have ob285 : ∀ i, ((Value.slice A269 ((doR SSb KKb xb).rows.length) c270)).ownBlock = some i → i ≠ b243 := fun i hi => by have := (World.ownsRow.lt hO276 i hi).1; have := H260.lt; omega
    have oo286 : ∀ i, ((Value.slice A227 ((doR SSa KKa o).rows.length) c228)).ownBlock = some i → ((Value.slice A269 ((doR SSb KKb xb).rows.length) c270)).ownBlock = some i → False := fun i hi hs => by have := (World.ownsRow.lt hO276 i hs).1; have := (World.ownsRow.lt hC0 i hi).2; omega
    have oo287 : ∀ i, ((Value.slice A269 ((doR SSb KKb xb).rows.length) c270)).ownBlock = some i → ((Value.slice A227 ((doR SSa KKa o).rows.length) c228)).ownBlock = some i → False := fun i hi hs => oo286 i hs hi
    have O277 := own_base hO276 K254.size
    clear hO276
    have hl278 := hB275.ledg.le
    have hl279 := doK_len SSb KKb xb
    refine ⟨_, _, rfl, rfl, ?_⟩
    replace K254 := K254.trans K272 (U := none_) (fun i h1 h2 => h2) (fun i h1 h2 => by have h2 : i = mb8 ∨ i = kb9 := h2; exfalso; omega)
    replace H255 := H255.keep K272 (by intro h; change tb = mb8 ∨ tb = kb9 at h; omega)
    replace H256 := H256.keep K272 (by intro h; change b1 = mb8 ∨ b1 = kb9 at h; omega)
    replace H257 := H257.keep K272 (by intro h; change b7 = mb8 ∨ b7 = kb9 at h; omega)
    replace H260 := H260.keep K272 (by intro h; change b243 = mb8 ∨ b243 = kb9 at h; omega)
    replace hC0 := own_keep hC0 K272 (fun i hi hs => by have hs : i = mb8 ∨ i = kb9 := hs; rcases hs with hs | hs; (have := ob241 i hi; omega); (have := ob242 i hi; omega))
    clear K272
    refine od ?_
    refine qg ?_
    refine og 2 [(2, (Value.slice OAb lb.length ocb)), (4, (ptr b1)), (6, (Value.bool false)), (7, (ptr b7)), (9, (ptr b243)), (10, (i64 ((ib : Nat) : Int))), (42, (Value.bool true)), (44, (i64 (IntKind.i64.wrap (((ib : Nat) : Int) + 1))))] 2 ?_
    have e288 : IntKind.i64.wrap (((ib : Nat) : Int) + 1) = ((ib + 1 : Nat) : Int) := by rw [wrap_i64 (by omega) (by omega)]; omega
    rw [e288]
    clear e288
    refine og 1 [(2, (Value.slice OAb lb.length ocb)), (4, (ptr b1)), (6, (Value.bool false)), (7, (ptr b7)), (9, (ptr b243)), (10, (i64 ((ib + 1 : Nat) : Int))), (42, (Value.bool true))] 3 ?_
    refine Ops.keep (R := [(2, (Value.slice OAb lb.length ocb)), (4, (ptr b1)), (6, (Value.bool false)), (7, (ptr b7)), (9, (ptr b243)), (10, (i64 ((ib + 1 : Nat) : Int)))]) (by kernel_rfl) ?_
    refine od ?_
    exact ⟨(ib + 1, m268, (doS SSb KKb xb), (doK SSb KKb xb)), ⟨rfl, hC0, (by omega), hB275, (by omega), (hpreb.trans (doK_pre _ _ _)), K254, H255, H256, H257, Hm273, Hk274, H260⟩, (show 50 - (ib + 1) < 50 - ib from by omega)⟩
   ·rw [h266]
    have p289 : ¬ (((ib : Nat) : Int) < 50) := of_decide_eq_false h266
    refine q_exit (id := 2) (by kernel_rfl) ?_
    refine qs ?_
    refine qs ?_
    refine qg ?_
    refine og 1 [(4, (ptr b1)), (6, (Value.bool false)), (7, (ptr b7)), (9, (ptr b243)), (51, (ptr b1))] 1 ?_
    refine Ops.go (v := (i64 o.kind)) (by kernel_rfl) (Runs.load (t := 3) (a := ⟨b1, 0, none⟩) (by kernel_rfl) (H256.loads (by kernel_rfl))) (d := (some 52)) (by kernel_rfl) rfl ?_
    refine og 2 [(4, (ptr b1)), (6, (Value.bool false)), (7, (ptr b7)), (9, (ptr b243)), (54, (Value.bool (decide (o.kind < 1))))] 4 ?_
    refine Ops.split (decide (o.kind < 1)) (fun h290 => ?_) (fun h290 => ?_)
    ·rw [h290]
     have p291 : o.kind < 1 := of_decide_eq_true h290
     refine og 4 [(4, (ptr b1)), (6, (Value.bool false)), (7, (ptr b7)), (9, (ptr b243)), (58, (Value.bool true))] 8 ?_
     refine od ?_
     refine q_then (o := .tmp 58) (by kernel_rfl) rfl ?_
     refine qs ?_
     refine qg ?_
     refine Ops.call (by kernel_rfl) (d := (some 59)) (by kernel_rfl) (known_calls _ tb H255) ?_
     rintro _ w293 ⟨rfl, K292⟩
     refine ⟨_, _, rfl, rfl, ?_⟩
     replace K254 := K254.trans K292 (U := none_) (fun i h1 h2 => h2) (fun i h1 h2 => by exact h2)
     replace H255 := H255.keep K292 (fun h => h)
     replace H256 := H256.keep K292 (fun h => h)
     replace H257 := H257.keep K292 (fun h => h)
     replace H258 := H258.keep K292 (fun h => h)
     replace H259 := H259.keep K292 (fun h => h)
     replace H260 := H260.keep K292 (fun h => h)
     replace hC0 := own_keep0 hC0 K292
     clear K292
     refine og 1 [(4, (ptr b1)), (6, (Value.bool true)), (7, (ptr b7)), (9, (ptr b243))] 2 ?_
     refine od ?_
     refine q_ret (by kernel_rfl) ?_
     refine ⟨(Value.bool true), retv_tmp rfl rfl, ?_⟩
     exact ⟨rfl, K254⟩
    ·rw [h290]
     have p294 : ¬ (o.kind < 1) := of_decide_eq_false h290
     refine og 1 [(4, (ptr b1)), (6, (Value.bool false)), (7, (ptr b7)), (9, (ptr b243)), (54, (Value.bool false)), (55, (ptr b1))] 5 ?_
     refine Ops.go (v := (i64 o.kind)) (by kernel_rfl) (Runs.load (t := 3) (a := ⟨b1, 0, none⟩) (by kernel_rfl) (H256.loads (by kernel_rfl))) (d := (some 56)) (by kernel_rfl) rfl ?_
     refine og 2 [(4, (ptr b1)), (6, (Value.bool false)), (7, (ptr b7)), (9, (ptr b243)), (58, (Value.bool (decide (o.kind > 4))))] 8 ?_
     refine od ?_
     refine q_cond (o := .tmp 58) (b := (decide (o.kind > 4))) (by kernel_rfl) rfl (fun h295 => ?_) (fun h295 => ?_)
     ·rw [h295]
      have p296 : o.kind > 4 := of_decide_eq_true h295
      refine qs ?_
      refine qg ?_
      refine Ops.call (by kernel_rfl) (d := (some 59)) (by kernel_rfl) (known_calls _ tb H255) ?_
      rintro _ w298 ⟨rfl, K297⟩
      refine ⟨_, _, rfl, rfl, ?_⟩
      replace K254 := K254.trans K297 (U := none_) (fun i h1 h2 => h2) (fun i h1 h2 => by exact h2)
      replace H255 := H255.keep K297 (fun h => h)
      replace H256 := H256.keep K297 (fun h => h)
      replace H257 := H257.keep K297 (fun h => h)
      replace H258 := H258.keep K297 (fun h => h)
      replace H259 := H259.keep K297 (fun h => h)
      replace H260 := H260.keep K297 (fun h => h)
      replace hC0 := own_keep0 hC0 K297
      clear K297
      refine og 1 [(4, (ptr b1)), (6, (Value.bool true)), (7, (ptr b7)), (9, (ptr b243))] 2 ?_
      refine od ?_
      refine q_ret (by kernel_rfl) ?_
      refine ⟨(Value.bool true), retv_tmp rfl rfl, ?_⟩
      exact ⟨rfl, K254⟩
     ·rw [h295]
      have p299 : ¬ (o.kind > 4) := of_decide_eq_false h295
      refine q_skip (by kernel_rfl) ?_
      refine qs ?_
      refine qg ?_
      refine og 1 [(4, (ptr b1)), (6, (Value.bool false)), (7, (ptr b7)), (9, (ptr b243)), (60, (ptr b7))] 1 ?_
      refine Ops.call (by kernel_rfl) (d := (some 61)) (by kernel_rfl) (Text_calls _ b7 mb8 kb9 mmb SSb KKb tb H257 H258 H259 (by omega) hBmb H255 (by first | omega | decide) (by first | omega | decide)) ?_
      rintro _ w301 ⟨rfl, K300⟩
      refine ⟨_, _, rfl, rfl, ?_⟩
      replace K254 := K254.trans K300 (U := none_) (fun i h1 h2 => h2) (fun i h1 h2 => by exact h2)
      replace H255 := H255.keep K300 (fun h => h)
      replace H256 := H256.keep K300 (fun h => h)
      replace H257 := H257.keep K300 (fun h => h)
      replace H258 := H258.keep K300 (fun h => h)
      replace H259 := H259.keep K300 (fun h => h)
      replace H260 := H260.keep K300 (fun h => h)
      replace hC0 := own_keep0 hC0 K300
      clear K300
      refine og 1 [(4, (ptr b1)), (6, (Value.bool false)), (7, (ptr b7)), (9, (ptr b243)), (11, (Value.string (str (textE SSb KKb))))] 3 ?_
      refine od ?_
      refine qs ?_
      refine qg ?_
      refine og 1 [(4, (ptr b1)), (6, (Value.bool false)), (7, (ptr b7)), (9, (ptr b243)), (11, (Value.string (str (textE SSb KKb)))), (62, (ptr b7))] 1 ?_
      refine Ops.go (v := (agg [(i64 o.kind), (Value.string (str o.frm)), (Value.string (str o.to)), (i64 o.amount), (Value.string (str o.key)), (i64 o.slot), (i64 o.shard)])) (by kernel_rfl) (Runs.load (t := 24) (a := ⟨b1, 0, none⟩) (by kernel_rfl) (H256.loads (by kernel_rfl))) (d := (some 63)) (by kernel_rfl) rfl ?_
      refine Ops.call (by kernel_rfl) (d := (some 64)) (by kernel_rfl) (Do_calls _ b7 mb8 kb9 mmb SSb KKb o H257 H258 H259 (by omega) hBmb (by first | omega | decide) (by first | omega | decide)) ?_
      rintro _ w305 ⟨m302, A303, c304, rfl, K306, Hm307, Hk308, hB309, hO310⟩
      have ob314 : ∀ i, ((Value.slice A303 ((doR SSb KKb o).rows.length) c304)).ownBlock = some i → i ≠ tb := fun i hi => by have := (World.ownsRow.lt hO310 i hi).1; have := H255.lt; omega
      have ob315 : ∀ i, ((Value.slice A303 ((doR SSb KKb o).rows.length) c304)).ownBlock = some i → i ≠ b1 := fun i hi => by have := (World.ownsRow.lt hO310 i hi).1; have := H256.lt; omega
      have ob316 : ∀ i, ((Value.slice A303 ((doR SSb KKb o).rows.length) c304)).ownBlock = some i → i ≠ b7 := fun i hi => by have := (World.ownsRow.lt hO310 i hi).1; have := H257.lt; omega
      have ob317 : ∀ i, ((Value.slice A303 ((doR SSb KKb o).rows.length) c304)).ownBlock = some i → i ≠ mb8 := fun i hi => by have := (World.ownsRow.lt hO310 i hi).1; have := H258.lt; omega
      have ob318 : ∀ i, ((Value.slice A303 ((doR SSb KKb o).rows.length) c304)).ownBlock = some i → i ≠ kb9 := fun i hi => by have := (World.ownsRow.lt hO310 i hi).1; have := H259.lt; omega
      have ob319 : ∀ i, ((Value.slice A303 ((doR SSb KKb o).rows.length) c304)).ownBlock = some i → i ≠ b243 := fun i hi => by have := (World.ownsRow.lt hO310 i hi).1; have := H260.lt; omega
      have oo320 : ∀ i, ((Value.slice A227 ((doR SSa KKa o).rows.length) c228)).ownBlock = some i → ((Value.slice A303 ((doR SSb KKb o).rows.length) c304)).ownBlock = some i → False := fun i hi hs => by have := (World.ownsRow.lt hO310 i hs).1; have := (World.ownsRow.lt hC0 i hi).2; omega
      have oo321 : ∀ i, ((Value.slice A303 ((doR SSb KKb o).rows.length) c304)).ownBlock = some i → ((Value.slice A227 ((doR SSa KKa o).rows.length) c228)).ownBlock = some i → False := fun i hi hs => oo320 i hs hi
      have O311 := own_base hO310 K254.size
      clear hO310
      have hl312 := hB309.ledg.le
      have hl313 := doK_len SSb KKb o
      refine ⟨_, _, rfl, rfl, ?_⟩
      replace K254 := K254.trans K306 (U := none_) (fun i h1 h2 => h2) (fun i h1 h2 => by have h2 : i = mb8 ∨ i = kb9 := h2; exfalso; omega)
      replace H255 := H255.keep K306 (by intro h; change tb = mb8 ∨ tb = kb9 at h; omega)
      replace H256 := H256.keep K306 (by intro h; change b1 = mb8 ∨ b1 = kb9 at h; omega)
      replace H257 := H257.keep K306 (by intro h; change b7 = mb8 ∨ b7 = kb9 at h; omega)
      replace H260 := H260.keep K306 (by intro h; change b243 = mb8 ∨ b243 = kb9 at h; omega)
      replace hC0 := own_keep hC0 K306 (fun i hi hs => by have hs : i = mb8 ∨ i = kb9 := hs; rcases hs with hs | hs; (have := ob241 i hi; omega); (have := ob242 i hi; omega))
      clear K306
      refine Ops.new (o := rowL [(i64 0), (i64 0), (Value.slice none 0 0)] 30) (V := fun b => (ptr b)) (by kernel_rfl) (d := (some 12)) (by kernel_rfl) (fun b => rfl) (fun b322 w323 hb324 H325 K326 hs327 => ?_)
      have lb322tb : tb < b322 := by have := H255.lt; omega
      have lb322b1 : b1 < b322 := by have := H256.lt; omega
      have lb322b7 : b7 < b322 := by have := H257.lt; omega
      have lb322mb8 : mb8 < b322 := by have := Hm307.lt; omega
      have lb322kb9 : kb9 < b322 := by have := Hk308.lt; omega
      have lb322b243 : b243 < b322 := by have := H260.lt; omega
      have nb322 : w.heap.size ≤ b322 := by have := K254.size; omega
      have ob328 : ∀ i, ((Value.slice A227 ((doR SSa KKa o).rows.length) c228)).ownBlock = some i → i < b322 := fun i hi => by have := (World.ownsRow.lt hC0 i hi).2; omega
      have ob329 : ∀ i, ((Value.slice A303 ((doR SSb KKb o).rows.length) c304)).ownBlock = some i → i < b322 := fun i hi => by have := (World.ownsRow.lt O311 i hi).2; omega
      replace K254 := K254.trans K326 (U := none_) (fun i h1 h2 => h2) (fun i h1 h2 => by exact h2)
      replace H255 := H255.keep K326 (fun h => h)
      replace H256 := H256.keep K326 (fun h => h)
      replace H257 := H257.keep K326 (fun h => h)
      replace Hm307 := Hm307.keep K326 (fun h => h)
      replace Hk308 := Hk308.keep K326 (fun h => h)
      replace H260 := H260.keep K326 (fun h => h)
      replace hC0 := own_keep0 hC0 K326
      replace O311 := own_keep0 O311 K326
      clear K326 hs327
      refine Ops.put (t := 30) (b := b322) (off := 0) (v := (agg [(i64 ((doR SSb KKb o).why)), (i64 ((doR SSb KKb o).amount)), (Value.slice A303 ((doR SSb KKb o).rows.length) c304)])) (ys := [(i64 ((doR SSb KKb o).why)), (i64 ((doR SSb KKb o).amount)), (Value.slice A303 ((doR SSb KKb o).rows.length) c304)]) (by kernel_rfl) (by kernel_rfl) H325 (by kernel_rfl) (d := none) (by kernel_rfl) rfl (fun w330 H331 K332 => ?_)
      clear H325
      replace K254 := K254.trans K332 (U := none_) (fun i h1 h2 => h2) (fun i h1 h2 => by have h2 : i = b322 := h2; exfalso; omega)
      replace H255 := H255.keep K332 (by intro h; change tb = b322 at h; omega)
      replace H256 := H256.keep K332 (by intro h; change b1 = b322 at h; omega)
      replace H257 := H257.keep K332 (by intro h; change b7 = b322 at h; omega)
      replace Hm307 := Hm307.keep K332 (by intro h; change mb8 = b322 at h; omega)
      replace Hk308 := Hk308.keep K332 (by intro h; change kb9 = b322 at h; omega)
      replace H260 := H260.keep K332 (by intro h; change b243 = b322 at h; omega)
      replace hC0 := own_keep hC0 K332 (fun i hi hs => by have hs : i = b322 := hs; have := ob328 i hi; omega)
      replace O311 := own_keep O311 K332 (fun i hi hs => by have hs : i = b322 := hs; have := ob329 i hi; omega)
      clear K332
      refine od ?_
      refine qs ?_
      refine qg ?_
      refine Ops.go (v := (agg [(i64 ((doR SSa KKa o).why)), (i64 ((doR SSa KKa o).amount)), (Value.slice A227 ((doR SSa KKa o).rows.length) c228)])) (by kernel_rfl) (Runs.load (t := 30) (a := ⟨b243, 0, none⟩) (by kernel_rfl) (H260.loads (by kernel_rfl))) (d := (some 65)) (by kernel_rfl) rfl ?_
      refine Ops.go (v := (agg [(i64 ((doR SSb KKb o).why)), (i64 ((doR SSb KKb o).amount)), (Value.slice A303 ((doR SSb KKb o).rows.length) c304)])) (by kernel_rfl) (Runs.load (t := 30) (a := ⟨b322, 0, none⟩) (by kernel_rfl) (H331.loads (by kernel_rfl))) (d := (some 66)) (by kernel_rfl) rfl ?_
      refine Ops.call (by kernel_rfl) (d := (some 67)) (by kernel_rfl) (SameReply_calls _ A227 c228 (doR SSa KKa o) A303 c304 (doR SSb KKb o) (OwnT.rd hC0) (OwnT.rd O311)) ?_
      rintro _ w336 ⟨t333, rfl, ht334, K335⟩
      refine ⟨_, _, rfl, rfl, ?_⟩
      replace K254 := K254.trans K335 (U := none_) (fun i h1 h2 => h2) (fun i h1 h2 => by exact h2)
      replace H255 := H255.keep K335 (fun h => h)
      replace H256 := H256.keep K335 (fun h => h)
      replace H257 := H257.keep K335 (fun h => h)
      replace Hm307 := Hm307.keep K335 (fun h => h)
      replace Hk308 := Hk308.keep K335 (fun h => h)
      replace H260 := H260.keep K335 (fun h => h)
      replace H331 := H331.keep K335 (fun h => h)
      replace hC0 := own_keep0 hC0 K335
      replace O311 := own_keep0 O311 K335
      clear K335
      refine og 1 [(6, (Value.bool false)), (7, (ptr b7)), (11, (Value.string (str (textE SSb KKb)))), (68, (Value.bool t333))] 4 ?_
      have h337 : t333 = true := ht334.2 (once_law hpreb (by omega)).1.symm
      rw [h337]
      refine og 1 [(6, (Value.bool false)), (11, (Value.string (str (textE SSb KKb)))), (68, (Value.bool true)), (69, (ptr b7))] 5 ?_
      refine Ops.call (by kernel_rfl) (d := (some 70)) (by kernel_rfl) (Text_calls _ b7 mb8 kb9 m302 (doS SSb KKb o) (doK SSb KKb o) tb H257 Hm307 Hk308 (by omega) hB309 H255 (by first | omega | decide) (by first | omega | decide)) ?_
      rintro _ w339 ⟨rfl, K338⟩
      refine ⟨_, _, rfl, rfl, ?_⟩
      replace K254 := K254.trans K338 (U := none_) (fun i h1 h2 => h2) (fun i h1 h2 => by exact h2)
      replace H255 := H255.keep K338 (fun h => h)
      replace H256 := H256.keep K338 (fun h => h)
      replace H257 := H257.keep K338 (fun h => h)
      replace Hm307 := Hm307.keep K338 (fun h => h)
      replace Hk308 := Hk308.keep K338 (fun h => h)
      replace H260 := H260.keep K338 (fun h => h)
      replace H331 := H331.keep K338 (fun h => h)
      replace hC0 := own_keep0 hC0 K338
      replace O311 := own_keep0 O311 K338
      clear K338
      refine og 1 [(6, (Value.bool false)), (68, (Value.bool true)), (70, (Value.string (str (textE (doS SSb KKb o) (doK SSb KKb o))))), (71, (Value.string (str (textE SSb KKb))))] 7 ?_
      refine Ops.go (v := (Value.bool ((textE (doS SSb KKb o) (doK SSb KKb o)) == (textE SSb KKb)))) (by kernel_rfl) (Runs.streq (t := 9) (by kernel_rfl)) (d := (some 72)) (by kernel_rfl) rfl ?_
      refine og 2 [(6, (Value.bool false)), (74, (Value.bool ((textE (doS SSb KKb o) (doK SSb KKb o)) == (textE SSb KKb))))] 10 ?_
      have h340 : ((textE (doS SSb KKb o) (doK SSb KKb o)) == (textE SSb KKb)) = true := by rw [(once_law hpreb (by omega)).2.1, (once_law hpreb (by omega)).2.2]; simp
      rw [h340]
      refine Ops.call (by kernel_rfl) (d := (some 75)) (by kernel_rfl) (known_calls _ tb H255) ?_
      rintro _ w342 ⟨rfl, K341⟩
      refine ⟨_, _, rfl, rfl, ?_⟩
      replace K254 := K254.trans K341 (U := none_) (fun i h1 h2 => h2) (fun i h1 h2 => by exact h2)
      replace H255 := H255.keep K341 (fun h => h)
      replace H256 := H256.keep K341 (fun h => h)
      replace H257 := H257.keep K341 (fun h => h)
      replace Hm307 := Hm307.keep K341 (fun h => h)
      replace Hk308 := Hk308.keep K341 (fun h => h)
      replace H260 := H260.keep K341 (fun h => h)
      replace H331 := H331.keep K341 (fun h => h)
      replace hC0 := own_keep0 hC0 K341
      replace O311 := own_keep0 O311 K341
      clear K341
      refine og 2 [(6, (Value.bool true))] 13 ?_
      refine od ?_
      refine q_ret (by kernel_rfl) ?_
      refine ⟨(Value.bool true), retv_tmp rfl rfl, ?_⟩
      exact ⟨rfl, K254⟩
  ·rw [h261]
   have p343 : ¬ (((ib : Nat) : Int) < ((lb.length : Nat) : Int)) := of_decide_eq_false h261
   refine og 3 [(2, (Value.slice OAb lb.length ocb)), (4, (ptr b1)), (6, (Value.bool false)), (7, (ptr b7)), (9, (ptr b243)), (10, (i64 ((ib : Nat) : Int))), (42, (Value.bool false))] 8 ?_
   refine od ?_
   refine q_else (o := .tmp 42) (by kernel_rfl) rfl ?_
   refine q_exit (id := 2) (by kernel_rfl) ?_
   refine qs ?_
   refine qs ?_
   refine qg ?_
   refine og 1 [(4, (ptr b1)), (6, (Value.bool false)), (7, (ptr b7)), (9, (ptr b243)), (51, (ptr b1))] 1 ?_
   refine Ops.go (v := (i64 o.kind)) (by kernel_rfl) (Runs.load (t := 3) (a := ⟨b1, 0, none⟩) (by kernel_rfl) (H256.loads (by kernel_rfl))) (d := (some 52)) (by kernel_rfl) rfl ?_
   refine og 2 [(4, (ptr b1)), (6, (Value.bool false)), (7, (ptr b7)), (9, (ptr b243)), (54, (Value.bool (decide (o.kind < 1))))] 4 ?_
   refine Ops.split (decide (o.kind < 1)) (fun h344 => ?_) (fun h344 => ?_)
   ·rw [h344]
    have p345 : o.kind < 1 := of_decide_eq_true h344
    refine og 4 [(4, (ptr b1)), (6, (Value.bool false)), (7, (ptr b7)), (9, (ptr b243)), (58, (Value.bool true))] 8 ?_
    refine od ?_
    refine q_then (o := .tmp 58) (by kernel_rfl) rfl ?_
    refine qs ?_
    refine qg ?_
    refine Ops.call (by kernel_rfl) (d := (some 59)) (by kernel_rfl) (known_calls _ tb H255) ?_
    rintro _ w347 ⟨rfl, K346⟩
    refine ⟨_, _, rfl, rfl, ?_⟩
    replace K254 := K254.trans K346 (U := none_) (fun i h1 h2 => h2) (fun i h1 h2 => by exact h2)
    replace H255 := H255.keep K346 (fun h => h)
    replace H256 := H256.keep K346 (fun h => h)
    replace H257 := H257.keep K346 (fun h => h)
    replace H258 := H258.keep K346 (fun h => h)
    replace H259 := H259.keep K346 (fun h => h)
    replace H260 := H260.keep K346 (fun h => h)
    replace hC0 := own_keep0 hC0 K346
    clear K346
    refine og 1 [(4, (ptr b1)), (6, (Value.bool true)), (7, (ptr b7)), (9, (ptr b243))] 2 ?_
    refine od ?_
    refine q_ret (by kernel_rfl) ?_
    refine ⟨(Value.bool true), retv_tmp rfl rfl, ?_⟩
    exact ⟨rfl, K254⟩
   ·rw [h344]
    have p348 : ¬ (o.kind < 1) := of_decide_eq_false h344
    refine og 1 [(4, (ptr b1)), (6, (Value.bool false)), (7, (ptr b7)), (9, (ptr b243)), (54, (Value.bool false)), (55, (ptr b1))] 5 ?_
    refine Ops.go (v := (i64 o.kind)) (by kernel_rfl) (Runs.load (t := 3) (a := ⟨b1, 0, none⟩) (by kernel_rfl) (H256.loads (by kernel_rfl))) (d := (some 56)) (by kernel_rfl) rfl ?_
    refine og 2 [(4, (ptr b1)), (6, (Value.bool false)), (7, (ptr b7)), (9, (ptr b243)), (58, (Value.bool (decide (o.kind > 4))))] 8 ?_
    refine od ?_
    refine q_cond (o := .tmp 58) (b := (decide (o.kind > 4))) (by kernel_rfl) rfl (fun h349 => ?_) (fun h349 => ?_)
    ·rw [h349]
     have p350 : o.kind > 4 := of_decide_eq_true h349
     refine qs ?_
     refine qg ?_
     refine Ops.call (by kernel_rfl) (d := (some 59)) (by kernel_rfl) (known_calls _ tb H255) ?_
     rintro _ w352 ⟨rfl, K351⟩
     refine ⟨_, _, rfl, rfl, ?_⟩
     replace K254 := K254.trans K351 (U := none_) (fun i h1 h2 => h2) (fun i h1 h2 => by exact h2)
     replace H255 := H255.keep K351 (fun h => h)
     replace H256 := H256.keep K351 (fun h => h)
     replace H257 := H257.keep K351 (fun h => h)
     replace H258 := H258.keep K351 (fun h => h)
     replace H259 := H259.keep K351 (fun h => h)
     replace H260 := H260.keep K351 (fun h => h)
     replace hC0 := own_keep0 hC0 K351
     clear K351
     refine og 1 [(4, (ptr b1)), (6, (Value.bool true)), (7, (ptr b7)), (9, (ptr b243))] 2 ?_
     refine od ?_
     refine q_ret (by kernel_rfl) ?_
     refine ⟨(Value.bool true), retv_tmp rfl rfl, ?_⟩
     exact ⟨rfl, K254⟩
    ·rw [h349]
     have p353 : ¬ (o.kind > 4) := of_decide_eq_false h349
     refine q_skip (by kernel_rfl) ?_
     refine qs ?_
     refine qg ?_
     refine og 1 [(4, (ptr b1)), (6, (Value.bool false)), (7, (ptr b7)), (9, (ptr b243)), (60, (ptr b7))] 1 ?_
     refine Ops.call (by kernel_rfl) (d := (some 61)) (by kernel_rfl) (Text_calls _ b7 mb8 kb9 mmb SSb KKb tb H257 H258 H259 (by omega) hBmb H255 (by first | omega | decide) (by first | omega | decide)) ?_
     rintro _ w355 ⟨rfl, K354⟩
     refine ⟨_, _, rfl, rfl, ?_⟩
     replace K254 := K254.trans K354 (U := none_) (fun i h1 h2 => h2) (fun i h1 h2 => by exact h2)
     replace H255 := H255.keep K354 (fun h => h)
     replace H256 := H256.keep K354 (fun h => h)
     replace H257 := H257.keep K354 (fun h => h)
     replace H258 := H258.keep K354 (fun h => h)
     replace H259 := H259.keep K354 (fun h => h)
     replace H260 := H260.keep K354 (fun h => h)
     replace hC0 := own_keep0 hC0 K354
     clear K354
     refine og 1 [(4, (ptr b1)), (6, (Value.bool false)), (7, (ptr b7)), (9, (ptr b243)), (11, (Value.string (str (textE SSb KKb))))] 3 ?_
     refine od ?_
     refine qs ?_
     refine qg ?_
     refine og 1 [(4, (ptr b1)), (6, (Value.bool false)), (7, (ptr b7)), (9, (ptr b243)), (11, (Value.string (str (textE SSb KKb)))), (62, (ptr b7))] 1 ?_
     refine Ops.go (v := (agg [(i64 o.kind), (Value.string (str o.frm)), (Value.string (str o.to)), (i64 o.amount), (Value.string (str o.key)), (i64 o.slot), (i64 o.shard)])) (by kernel_rfl) (Runs.load (t := 24) (a := ⟨b1, 0, none⟩) (by kernel_rfl) (H256.loads (by kernel_rfl))) (d := (some 63)) (by kernel_rfl) rfl ?_
     refine Ops.call (by kernel_rfl) (d := (some 64)) (by kernel_rfl) (Do_calls _ b7 mb8 kb9 mmb SSb KKb o H257 H258 H259 (by omega) hBmb (by first | omega | decide) (by first | omega | decide)) ?_
     rintro _ w359 ⟨m356, A357, c358, rfl, K360, Hm361, Hk362, hB363, hO364⟩
     have ob368 : ∀ i, ((Value.slice A357 ((doR SSb KKb o).rows.length) c358)).ownBlock = some i → i ≠ tb := fun i hi => by have := (World.ownsRow.lt hO364 i hi).1; have := H255.lt; omega
     have ob369 : ∀ i, ((Value.slice A357 ((doR SSb KKb o).rows.length) c358)).ownBlock = some i → i ≠ b1 := fun i hi => by have := (World.ownsRow.lt hO364 i hi).1; have := H256.lt; omega
     have ob370 : ∀ i, ((Value.slice A357 ((doR SSb KKb o).rows.length) c358)).ownBlock = some i → i ≠ b7 := fun i hi => by have := (World.ownsRow.lt hO364 i hi).1; have := H257.lt; omega
     have ob371 : ∀ i, ((Value.slice A357 ((doR SSb KKb o).rows.length) c358)).ownBlock = some i → i ≠ mb8 := fun i hi => by have := (World.ownsRow.lt hO364 i hi).1; have := H258.lt; omega
     have ob372 : ∀ i, ((Value.slice A357 ((doR SSb KKb o).rows.length) c358)).ownBlock = some i → i ≠ kb9 := fun i hi => by have := (World.ownsRow.lt hO364 i hi).1; have := H259.lt; omega
     have ob373 : ∀ i, ((Value.slice A357 ((doR SSb KKb o).rows.length) c358)).ownBlock = some i → i ≠ b243 := fun i hi => by have := (World.ownsRow.lt hO364 i hi).1; have := H260.lt; omega
     have oo374 : ∀ i, ((Value.slice A227 ((doR SSa KKa o).rows.length) c228)).ownBlock = some i → ((Value.slice A357 ((doR SSb KKb o).rows.length) c358)).ownBlock = some i → False := fun i hi hs => by have := (World.ownsRow.lt hO364 i hs).1; have := (World.ownsRow.lt hC0 i hi).2; omega
     have oo375 : ∀ i, ((Value.slice A357 ((doR SSb KKb o).rows.length) c358)).ownBlock = some i → ((Value.slice A227 ((doR SSa KKa o).rows.length) c228)).ownBlock = some i → False := fun i hi hs => oo374 i hs hi
     have O365 := own_base hO364 K254.size
     clear hO364
     have hl366 := hB363.ledg.le
     have hl367 := doK_len SSb KKb o
     refine ⟨_, _, rfl, rfl, ?_⟩
     replace K254 := K254.trans K360 (U := none_) (fun i h1 h2 => h2) (fun i h1 h2 => by have h2 : i = mb8 ∨ i = kb9 := h2; exfalso; omega)
     replace H255 := H255.keep K360 (by intro h; change tb = mb8 ∨ tb = kb9 at h; omega)
     replace H256 := H256.keep K360 (by intro h; change b1 = mb8 ∨ b1 = kb9 at h; omega)
     replace H257 := H257.keep K360 (by intro h; change b7 = mb8 ∨ b7 = kb9 at h; omega)
     replace H260 := H260.keep K360 (by intro h; change b243 = mb8 ∨ b243 = kb9 at h; omega)
     replace hC0 := own_keep hC0 K360 (fun i hi hs => by have hs : i = mb8 ∨ i = kb9 := hs; rcases hs with hs | hs; (have := ob241 i hi; omega); (have := ob242 i hi; omega))
     clear K360
     refine Ops.new (o := rowL [(i64 0), (i64 0), (Value.slice none 0 0)] 30) (V := fun b => (ptr b)) (by kernel_rfl) (d := (some 12)) (by kernel_rfl) (fun b => rfl) (fun b376 w377 hb378 H379 K380 hs381 => ?_)
     have lb376tb : tb < b376 := by have := H255.lt; omega
     have lb376b1 : b1 < b376 := by have := H256.lt; omega
     have lb376b7 : b7 < b376 := by have := H257.lt; omega
     have lb376mb8 : mb8 < b376 := by have := Hm361.lt; omega
     have lb376kb9 : kb9 < b376 := by have := Hk362.lt; omega
     have lb376b243 : b243 < b376 := by have := H260.lt; omega
     have nb376 : w.heap.size ≤ b376 := by have := K254.size; omega
     have ob382 : ∀ i, ((Value.slice A227 ((doR SSa KKa o).rows.length) c228)).ownBlock = some i → i < b376 := fun i hi => by have := (World.ownsRow.lt hC0 i hi).2; omega
     have ob383 : ∀ i, ((Value.slice A357 ((doR SSb KKb o).rows.length) c358)).ownBlock = some i → i < b376 := fun i hi => by have := (World.ownsRow.lt O365 i hi).2; omega
     replace K254 := K254.trans K380 (U := none_) (fun i h1 h2 => h2) (fun i h1 h2 => by exact h2)
     replace H255 := H255.keep K380 (fun h => h)
     replace H256 := H256.keep K380 (fun h => h)
     replace H257 := H257.keep K380 (fun h => h)
     replace Hm361 := Hm361.keep K380 (fun h => h)
     replace Hk362 := Hk362.keep K380 (fun h => h)
     replace H260 := H260.keep K380 (fun h => h)
     replace hC0 := own_keep0 hC0 K380
     replace O365 := own_keep0 O365 K380
     clear K380 hs381
     refine Ops.put (t := 30) (b := b376) (off := 0) (v := (agg [(i64 ((doR SSb KKb o).why)), (i64 ((doR SSb KKb o).amount)), (Value.slice A357 ((doR SSb KKb o).rows.length) c358)])) (ys := [(i64 ((doR SSb KKb o).why)), (i64 ((doR SSb KKb o).amount)), (Value.slice A357 ((doR SSb KKb o).rows.length) c358)]) (by kernel_rfl) (by kernel_rfl) H379 (by kernel_rfl) (d := none) (by kernel_rfl) rfl (fun w384 H385 K386 => ?_)
     clear H379
     replace K254 := K254.trans K386 (U := none_) (fun i h1 h2 => h2) (fun i h1 h2 => by have h2 : i = b376 := h2; exfalso; omega)
     replace H255 := H255.keep K386 (by intro h; change tb = b376 at h; omega)
     replace H256 := H256.keep K386 (by intro h; change b1 = b376 at h; omega)
     replace H257 := H257.keep K386 (by intro h; change b7 = b376 at h; omega)
     replace Hm361 := Hm361.keep K386 (by intro h; change mb8 = b376 at h; omega)
     replace Hk362 := Hk362.keep K386 (by intro h; change kb9 = b376 at h; omega)
     replace H260 := H260.keep K386 (by intro h; change b243 = b376 at h; omega)
     replace hC0 := own_keep hC0 K386 (fun i hi hs => by have hs : i = b376 := hs; have := ob382 i hi; omega)
     replace O365 := own_keep O365 K386 (fun i hi hs => by have hs : i = b376 := hs; have := ob383 i hi; omega)
     clear K386
     refine od ?_
     refine qs ?_
     refine qg ?_
     refine Ops.go (v := (agg [(i64 ((doR SSa KKa o).why)), (i64 ((doR SSa KKa o).amount)), (Value.slice A227 ((doR SSa KKa o).rows.length) c228)])) (by kernel_rfl) (Runs.load (t := 30) (a := ⟨b243, 0, none⟩) (by kernel_rfl) (H260.loads (by kernel_rfl))) (d := (some 65)) (by kernel_rfl) rfl ?_
     refine Ops.go (v := (agg [(i64 ((doR SSb KKb o).why)), (i64 ((doR SSb KKb o).amount)), (Value.slice A357 ((doR SSb KKb o).rows.length) c358)])) (by kernel_rfl) (Runs.load (t := 30) (a := ⟨b376, 0, none⟩) (by kernel_rfl) (H385.loads (by kernel_rfl))) (d := (some 66)) (by kernel_rfl) rfl ?_
     refine Ops.call (by kernel_rfl) (d := (some 67)) (by kernel_rfl) (SameReply_calls _ A227 c228 (doR SSa KKa o) A357 c358 (doR SSb KKb o) (OwnT.rd hC0) (OwnT.rd O365)) ?_
     rintro _ w390 ⟨t387, rfl, ht388, K389⟩
     refine ⟨_, _, rfl, rfl, ?_⟩
     replace K254 := K254.trans K389 (U := none_) (fun i h1 h2 => h2) (fun i h1 h2 => by exact h2)
     replace H255 := H255.keep K389 (fun h => h)
     replace H256 := H256.keep K389 (fun h => h)
     replace H257 := H257.keep K389 (fun h => h)
     replace Hm361 := Hm361.keep K389 (fun h => h)
     replace Hk362 := Hk362.keep K389 (fun h => h)
     replace H260 := H260.keep K389 (fun h => h)
     replace H385 := H385.keep K389 (fun h => h)
     replace hC0 := own_keep0 hC0 K389
     replace O365 := own_keep0 O365 K389
     clear K389
     refine og 1 [(6, (Value.bool false)), (7, (ptr b7)), (11, (Value.string (str (textE SSb KKb)))), (68, (Value.bool t387))] 4 ?_
     have h391 : t387 = true := ht388.2 (once_law hpreb (by omega)).1.symm
     rw [h391]
     refine og 1 [(6, (Value.bool false)), (11, (Value.string (str (textE SSb KKb)))), (68, (Value.bool true)), (69, (ptr b7))] 5 ?_
     refine Ops.call (by kernel_rfl) (d := (some 70)) (by kernel_rfl) (Text_calls _ b7 mb8 kb9 m356 (doS SSb KKb o) (doK SSb KKb o) tb H257 Hm361 Hk362 (by omega) hB363 H255 (by first | omega | decide) (by first | omega | decide)) ?_
     rintro _ w393 ⟨rfl, K392⟩
     refine ⟨_, _, rfl, rfl, ?_⟩
     replace K254 := K254.trans K392 (U := none_) (fun i h1 h2 => h2) (fun i h1 h2 => by exact h2)
     replace H255 := H255.keep K392 (fun h => h)
     replace H256 := H256.keep K392 (fun h => h)
     replace H257 := H257.keep K392 (fun h => h)
     replace Hm361 := Hm361.keep K392 (fun h => h)
     replace Hk362 := Hk362.keep K392 (fun h => h)
     replace H260 := H260.keep K392 (fun h => h)
     replace H385 := H385.keep K392 (fun h => h)
     replace hC0 := own_keep0 hC0 K392
     replace O365 := own_keep0 O365 K392
     clear K392
     refine og 1 [(6, (Value.bool false)), (68, (Value.bool true)), (70, (Value.string (str (textE (doS SSb KKb o) (doK SSb KKb o))))), (71, (Value.string (str (textE SSb KKb))))] 7 ?_
     refine Ops.go (v := (Value.bool ((textE (doS SSb KKb o) (doK SSb KKb o)) == (textE SSb KKb)))) (by kernel_rfl) (Runs.streq (t := 9) (by kernel_rfl)) (d := (some 72)) (by kernel_rfl) rfl ?_
     refine og 2 [(6, (Value.bool false)), (74, (Value.bool ((textE (doS SSb KKb o) (doK SSb KKb o)) == (textE SSb KKb))))] 10 ?_
     have h394 : ((textE (doS SSb KKb o) (doK SSb KKb o)) == (textE SSb KKb)) = true := by rw [(once_law hpreb (by omega)).2.1, (once_law hpreb (by omega)).2.2]; simp
     rw [h394]
     refine Ops.call (by kernel_rfl) (d := (some 75)) (by kernel_rfl) (known_calls _ tb H255) ?_
     rintro _ w396 ⟨rfl, K395⟩
     refine ⟨_, _, rfl, rfl, ?_⟩
     replace K254 := K254.trans K395 (U := none_) (fun i h1 h2 => h2) (fun i h1 h2 => by exact h2)
     replace H255 := H255.keep K395 (fun h => h)
     replace H256 := H256.keep K395 (fun h => h)
     replace H257 := H257.keep K395 (fun h => h)
     replace Hm361 := Hm361.keep K395 (fun h => h)
     replace Hk362 := Hk362.keep K395 (fun h => h)
     replace H260 := H260.keep K395 (fun h => h)
     replace H385 := H385.keep K395 (fun h => h)
     replace hC0 := own_keep0 hC0 K395
     replace O365 := own_keep0 O365 K395
     clear K395
     refine og 2 [(6, (Value.bool true))] 13 ?_
     refine od ?_
     refine q_ret (by kernel_rfl) ?_
     refine ⟨(Value.bool true), retv_tmp rfl rfl, ?_⟩
     exact ⟨rfl, K254⟩
end Go.Proofs.YtnfeemhpoaflfaaGreatDoor
namespace Go.Q
open Go.ChangeShapes Go.WideShapes Go.ChangeAt Go.RowKit Go.Deep
variable {H : Type} {enc : TypeId × Value → H} {P : Program} {w : World} {spare : Nat → Bool} {held : Bool}
theorem open_ops {t e : TypeId} {fs : Array Field} {v : Value} {d : DataW H} {ps : List MemPlace} (ht : P.underlying t = some (.slice e)) (he : P.underlying e = some (.struct fs)) (hone : oneCellFields P fs = true) (hC : P.cellsOf e = fs.size) (h7 : fs.size = 7)
    (k0 : fieldOf? P fs 0 = some (.int .i64)) (k1 : fieldOf? P fs 1 = some .string) (k2 : fieldOf? P fs 2 = some .string) (k3 : fieldOf? P fs 3 = some (.int .i64)) (k4 : fieldOf? P fs 4 = some .string) (k5 : fieldOf? P fs 5 = some (.int .i64)) (k6 : fieldOf? P fs 6 = some (.int .i64))
    (hv : Value.okWide P w .any 0 t v) (h : DataW.Trod enc P w 0 spare held t v d ps) : ∃ (l : List Opm) (A : Option Addr) (c : Nat), v = .slice A l.length c ∧ RdT w 7 Opm.cells (.slice A l.length c) l ∧ ∀ x ∈ l, x.Ok := by
  obtain ⟨fuel, h⟩ := trod_fuel h (slice_form ht hv)
  obtain ⟨l, hR, hg, _, A, c, rfl⟩ := open_models Opm.cells Opm.Ok ht (sz := 7) (by rw [hC, h7]) (by decide) (slice_trod ht h) h fun m cs y hl h => dec_op he hone hC h7 k0 k1 k2 k3 k4 k5 k6 (hl.trans h7.symm) h
  exact ⟨l, A, c, rfl, hR, hg⟩
theorem tab_third {n1 n2 : String} {d1 d2 d : DataW Unit} {rest : List (String × DataW Unit)} {W : World} {g : Nat} {t e : TypeId}
    (hg : P.globalNamed "internal/strconv.uint64pow10" = some g) (hty : (P.globals[g]?).map (·.type) = some t) (ht : P.underlying t = some (.array 20 e)) (he : P.underlying e = some (.int .u64)) (hce : P.cellsOf e = 1) (hct : P.cellsOf t = 20)
    (hd : d = Lib.tabData .u64 Lib.pow10Tab) (h : laidMet P ((n1, d1) :: (n2, d2) :: ("internal/strconv.uint64pow10", d) :: rest) W) : Tab P W g := by
  subst hd
  obtain ⟨ps, ⟨_, _, _, _, _, _, _, _, _, _, ⟨_, _, _, _, _, _, _, _, _, _, ⟨g', t', cs, fuel, p, q, hg', ht', hvar, hd, _, _⟩, _⟩, _⟩, _⟩ := h
  obtain rfl := Option.some.inj (hg.symm.trans hg')
  obtain rfl := Option.some.inj (hty.symm.trans ht')
  refine ⟨hg, ?_⟩
  unfold Lib.TabIs
  rw [hvar, ← Lib.cells_of_tab ht he hce hct hd]
end Go.Q
