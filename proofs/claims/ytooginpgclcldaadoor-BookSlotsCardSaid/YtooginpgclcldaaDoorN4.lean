/- chapter 11: BookSlots returns true -/
import Derived.Test.YtooginpgclcldaaDoorProg
import Derived.Test.YtooginpgclcldaaDoorKJ
import Derived.Test.YtooginpgclcldaaDoorKG
import Derived.Test.YtooginpgclcldaaDoorKL
import Derived.Test.YtooginpgclcldaaDoorOG
import Derived.Test.YtooginpgclcldaaDoorLX
set_option linter.unusedVariables false
namespace Go.Proofs.YtooginpgclcldaaDoor
open Go.Q Go.RowKit

set_option maxHeartbeats 4000000 in
theorem Slots_calls (w : World) (A : Option Addr) (c : Nat) (l : List (List UInt8)) (hL : RdT w 1 kcell (.slice A l.length c) l) : Calls Tryd.prog 6 ⟨[(Value.slice A l.length c)]⟩ w (fun e w' => e = .returned (.bool true) ∧ Keeps none_ w w') := by
 have hcap := RdT.len kcell_len (by decide) hL
 have K0 : Keeps none_ w w := Keeps.refl w
 refine q_calls Tryd.func6 (by kernel_rfl) (by kernel_rfl) ?_
 refine qs ?_
 refine qg ?_
 refine og 1 [(0, (Value.slice A l.length c)), (2, (Value.bool false))] 1 ?_
 refine od ?_
 refine qs ?_
 refine qg ?_
 refine Ops.call (by kernel_rfl) (d := (some 11)) (by kernel_rfl) (New_calls _) ?_
 rintro _ w3 ⟨b1, mb2, rfl, K4, H5, Hm6, hb7, hb8, hb9⟩
 have nb1 : w.heap.size ≤ b1 := by have := K0.size; omega
 have nmb2 : w.heap.size ≤ mb2 := by have := K0.size; omega
 refine ⟨_, _, rfl, rfl, ?_⟩
 replace K0 := K0.t0 K4
 clear K4
 refine og 1 [(0, (Value.slice A l.length c)), (2, (Value.bool false)), (3, (ptr b1))] 2 ?_
 refine od ?_
 refine qs ?_
 refine qs ?_
 refine qg ?_
 refine og 2 [(0, (Value.slice A l.length c)), (2, (Value.bool false)), (3, (ptr b1)), (13, (Value.bool false))] 2 ?_
 refine od ?_
 refine q_else (o := .tmp 13) (by kernel_rfl) rfl ?_
 refine q_skip (by kernel_rfl) ?_
 refine qs ?_
 refine qs ?_
 refine qg ?_
 refine og 1 [(0, (Value.slice A l.length c)), (2, (Value.bool false)), (3, (ptr b1)), (4, (i64 0))] 1 ?_
 refine od ?_
 refine q_block (id := 0) (by kernel_rfl) ?_
 refine q_keep (R := [(0, (Value.slice A l.length c)), (2, (Value.bool false)), (3, (ptr b1)), (4, (i64 0))]) (by kernel_rfl) ?_
 refine q_loop (fun (gs : Nat × (List (List UInt8 × AccV)) × (List AccM)) L (wx : World) => match gs with | (i, mm, SS) => L = [(0, (Value.slice A l.length c)), (2, (Value.bool false)), (3, (ptr b1)), (4, (i64 ((i : Nat) : Int)))] ∧ i ≤ l.length ∧ Book mm SS ∧ Keeps none_ w wx ∧ Has wx b1 (rowL [(Value.map (some mb2))] 61) ∧ HasMap wx mb2 kstr accv mm) (fun (gs : Nat × (List (List UInt8 × AccV)) × (List AccM)) => match gs with | (i, mm, SS) => l.length - i) (0, [], []) (by kernel_rfl) ⟨rfl, Nat.zero_le _, Book.nil, K0, H5, Hm6⟩ ?_
 clear H5 Hm6 K0
 rintro ⟨i, mm, SS⟩ _ w10 ⟨rfl, hi, hBm, K11, H12, H13⟩
 refine qs ?_
 refine qs ?_
 refine qg ?_
 refine og 5 [(0, (Value.slice A l.length c)), (2, (Value.bool false)), (3, (ptr b1)), (4, (i64 ((i : Nat) : Int))), (18, (Value.bool (decide (((i : Nat) : Int) < ((l.length : Nat) : Int)))))] 5 ?_
 refine Ops.split (decide (((i : Nat) : Int) < ((l.length : Nat) : Int))) (fun h14 => ?_) (fun h14 => ?_)
 ·rw [h14]
  have p15 : ((i : Nat) : Int) < ((l.length : Nat) : Int) := of_decide_eq_true h14
  obtain ⟨x, hx⟩ : ∃ y, l[i]? = some y := ⟨_, List.getElem?_eq_getElem (by omega)⟩
  obtain ⟨rb16, ro17, hA18⟩ := Rd.addr (Rd.keep0 (by decide) hL K11) (by omega)
  refine og 3 [(0, (Value.slice A l.length c)), (2, (Value.bool false)), (3, (ptr b1)), (4, (i64 ((i : Nat) : Int))), (21, (Value.bool (decide (((i : Nat) : Int) < 60))))] 8 ?_
  refine od ?_
  refine q_cond (o := .tmp 21) (b := (decide (((i : Nat) : Int) < 60))) (by kernel_rfl) rfl (fun h19 => ?_) (fun h19 => ?_)
  ·rw [h19]
   have p20 : ((i : Nat) : Int) < 60 := of_decide_eq_true h19
   refine q_skip (by kernel_rfl) ?_
   refine qs ?_
   refine q_block (id := 1) (by kernel_rfl) ?_
   refine qg ?_
   refine og 3 [(0, (Value.slice A l.length c)), (2, (Value.bool false)), (3, (ptr b1)), (4, (i64 ((i : Nat) : Int))), (21, (Value.bool true)), (24, (ptr b1)), (25, (Value.slice A l.length c)), (26, (i64 ((i : Nat) : Int)))] 3 ?_
   refine Ops.go (by kernel_rfl) (Runs.ixSliceE (k := IntKind.i64) (t := 47) (len := l.length) (cap := c) (s := 1) (off' := ro17 + i) (i := ((i : Nat) : Int)) hA18 (by kernel_rfl) (by kernel_rfl) (by omega) (by omega) (by omega)) (d := (some 27)) (by kernel_rfl) rfl ?_
   refine Ops.go (v := (Value.string (str x))) (by kernel_rfl) (Runs.load (t := 9) (a := ⟨rb16, ro17 + i, none⟩) (by kernel_rfl) (RdT.ld1 (f := kcell) (x := x) kcell_len (Rd.keep0 (by decide) hL K11) (by kernel_rfl) hA18 hx rfl)) (d := (some 28)) (by kernel_rfl) rfl ?_
   refine Ops.call (by kernel_rfl) (d := (some 29)) (by kernel_rfl) (Open_calls _ b1 mb2 mm SS x H12 H13 (by omega) hBm) ?_
   rintro _ w22 ⟨m21, rfl, K23, H24, hB25⟩
   have hl26 := hB25.len
   refine ⟨_, _, rfl, rfl, ?_⟩
   replace K11 := K11.trans K23 (U := none_) (fun i h1 h2 => h2) (fun i h1 h2 => by have h2 : i = mb2 := h2; exfalso; omega)
   replace H12 := H12.keep K23 (by intro h; change b1 = mb2 at h; omega)
   clear K23
   refine od ?_
   refine qg ?_
   refine og 2 [(0, (Value.slice A l.length c)), (2, (Value.bool false)), (3, (ptr b1)), (4, (i64 ((i : Nat) : Int))), (21, (Value.bool true)), (23, (i64 (IntKind.i64.wrap (((i : Nat) : Int) + 1))))] 2 ?_
   have e27 : IntKind.i64.wrap (((i : Nat) : Int) + 1) = ((i + 1 : Nat) : Int) := by rw [wrap_i64 (by omega) (by omega)]; omega
   rw [e27]
   clear e27
   refine og 1 [(0, (Value.slice A l.length c)), (2, (Value.bool false)), (3, (ptr b1)), (4, (i64 ((i + 1 : Nat) : Int))), (21, (Value.bool true))] 3 ?_
   refine Ops.keep (R := [(0, (Value.slice A l.length c)), (2, (Value.bool false)), (3, (ptr b1)), (4, (i64 ((i + 1 : Nat) : Int)))]) (by kernel_rfl) ?_
   refine od ?_
   exact ⟨(i + 1, m21, putS SS x 0), ⟨rfl, (by omega), hB25, K11, H12, H24⟩, (show l.length - (i + 1) < l.length - i from by omega)⟩
  ·rw [h19]
   have p28 : ¬ (((i : Nat) : Int) < 60) := of_decide_eq_false h19
   refine q_exit (id := 0) (by kernel_rfl) ?_
   refine qs ?_
   refine qg ?_
   refine og 1 [(2, (Value.bool false)), (3, (ptr b1)), (5, (i64 0))] 1 ?_
   refine od ?_
   refine qs ?_
   refine qs ?_
   refine qg ?_
   refine og 1 [(2, (Value.bool false)), (3, (ptr b1)), (5, (i64 0)), (6, (i64 0))] 1 ?_
   refine od ?_
   refine q_block (id := 2) (by kernel_rfl) ?_
   refine q_keep (R := [(3, (ptr b1)), (5, (i64 0)), (6, (i64 0))]) (by kernel_rfl) ?_
   refine q_loop (fun (gs : Nat × Nat) L (wx : World) => match gs with | (q, n) => L = [(3, (ptr b1)), (5, (i64 ((n : Nat) : Int))), (6, (i64 ((q : Nat) : Int)))] ∧ q ≤ 16 ∧ n = cntS SS q ∧ Keeps none_ w wx ∧ Has wx b1 (rowL [(Value.map (some mb2))] 61) ∧ HasMap wx mb2 kstr accv mm) (fun (gs : Nat × Nat) => match gs with | (q, n) => 16 - q) (0, 0) (by kernel_rfl) ⟨rfl, Nat.zero_le _, (cntS_zero _).symm, K11, H12, H13⟩ ?_
   clear H12 H13 K11
   rintro ⟨q, n⟩ _ w29 ⟨rfl, hq, hn, K30, H31, H32⟩
   have hcl := cntS_le SS (q + 1)
   have hcn := cntS_next SS q
   have hSl := hBm.accs.len
   refine qs ?_
   refine qs ?_
   refine qg ?_
   refine og 2 [(3, (ptr b1)), (5, (i64 ((n : Nat) : Int))), (6, (i64 ((q : Nat) : Int))), (31, (Value.bool (decide (((q : Nat) : Int) < 16))))] 2 ?_
   refine od ?_
   refine q_cond (o := .tmp 31) (b := (decide (((q : Nat) : Int) < 16))) (by kernel_rfl) rfl (fun h33 => ?_) (fun h33 => ?_)
   ·rw [h33]
    have p34 : ((q : Nat) : Int) < 16 := of_decide_eq_true h33
    refine q_skip (by kernel_rfl) ?_
    refine qs ?_
    refine q_block (id := 3) (by kernel_rfl) ?_
    refine qs ?_
    refine qg ?_
    refine og 2 [(3, (ptr b1)), (5, (i64 ((n : Nat) : Int))), (6, (i64 ((q : Nat) : Int))), (31, (Value.bool true)), (34, (ptr b1)), (35, (i64 ((q : Nat) : Int)))] 2 ?_
    refine Ops.call (by kernel_rfl) (d := (some 36)) (by kernel_rfl) (Rows_calls _ b1 mb2 mm SS ((q : Nat) : Int) H31 H32 (by omega) hBm) ?_
    rintro _ w37 ⟨A35, c36, rfl, K38, hO39⟩
    have ob41 : ∀ i, ((Value.slice A35 ((rowsS SS ((q : Nat) : Int)).length) c36)).ownBlock = some i → i ≠ b1 := fun i hi => by have := (World.ownsRow.lt hO39 i hi).1; have := H31.lt; omega
    have ob42 : ∀ i, ((Value.slice A35 ((rowsS SS ((q : Nat) : Int)).length) c36)).ownBlock = some i → i ≠ mb2 := fun i hi => by have := (World.ownsRow.lt hO39 i hi).1; have := H32.lt; omega
    have O40 := own_base hO39 K30.size
    clear hO39
    have hl43 := rowsS_len SS ((q : Nat) : Int)
    have hl44 := hBm.accs.len
    refine ⟨_, _, rfl, rfl, ?_⟩
    replace K30 := K30.trans K38 (U := none_) (fun i h1 h2 => h2) (fun i h1 h2 => by exact h2)
    replace H31 := H31.keep K38 (fun h => h)
    replace H32 := H32.keep K38 (fun h => h)
    clear K38
    refine og 1 [(3, (ptr b1)), (5, (i64 ((n : Nat) : Int))), (6, (i64 ((q : Nat) : Int))), (7, (Value.slice A35 ((rowsS SS ((q : Nat) : Int)).length) c36)), (31, (Value.bool true))] 4 ?_
    refine od ?_
    refine qs ?_
    refine qs ?_
    refine qg ?_
    refine og 1 [(3, (ptr b1)), (5, (i64 ((n : Nat) : Int))), (6, (i64 ((q : Nat) : Int))), (7, (Value.slice A35 ((rowsS SS ((q : Nat) : Int)).length) c36)), (8, (i64 0)), (31, (Value.bool true))] 1 ?_
    refine od ?_
    refine q_block (id := 4) (by kernel_rfl) ?_
    refine q_keep (R := [(3, (ptr b1)), (5, (i64 ((n : Nat) : Int))), (6, (i64 ((q : Nat) : Int))), (7, (Value.slice A35 ((rowsS SS ((q : Nat) : Int)).length) c36)), (8, (i64 0)), (31, (Value.bool true))]) (by kernel_rfl) ?_
    refine q_loop (fun (j : Nat) L (wx : World) => L = [(3, (ptr b1)), (5, (i64 ((n : Nat) : Int))), (6, (i64 ((q : Nat) : Int))), (7, (Value.slice A35 ((rowsS SS ((q : Nat) : Int)).length) c36)), (8, (i64 ((j : Nat) : Int))), (31, (Value.bool true))] ∧ OwnR wx w.heap.size 27 (Value.slice A35 ((rowsS SS ((q : Nat) : Int)).length) c36) (rowsS SS ((q : Nat) : Int)) ∧ (∀ i, ((Value.slice A35 ((rowsS SS ((q : Nat) : Int)).length) c36)).ownBlock = some i → i ≠ b1) ∧ (∀ i, ((Value.slice A35 ((rowsS SS ((q : Nat) : Int)).length) c36)).ownBlock = some i → i ≠ mb2) ∧ j ≤ (rowsS SS ((q : Nat) : Int)).length ∧ Keeps none_ w wx ∧ Has wx b1 (rowL [(Value.map (some mb2))] 61) ∧ HasMap wx mb2 kstr accv mm) (fun (j : Nat) => (rowsS SS ((q : Nat) : Int)).length - j) 0 (by kernel_rfl) ⟨rfl, O40, ob41, ob42, Nat.zero_le _, K30, H31, H32⟩ ?_
    clear H31 H32 O40 K30
    rintro j _ w45 ⟨rfl, hON, obNb1, obNmb2, hj, K46, H47, H48⟩
    refine qs ?_
    refine qs ?_
    refine qg ?_
    refine og 4 [(3, (ptr b1)), (5, (i64 ((n : Nat) : Int))), (6, (i64 ((q : Nat) : Int))), (7, (Value.slice A35 ((rowsS SS ((q : Nat) : Int)).length) c36)), (8, (i64 ((j : Nat) : Int))), (31, (Value.bool true)), (40, (Value.bool (decide (((j : Nat) : Int) < (((rowsS SS ((q : Nat) : Int)).length : Nat) : Int)))))] 4 ?_
    refine od ?_
    refine q_cond (o := .tmp 40) (b := (decide (((j : Nat) : Int) < (((rowsS SS ((q : Nat) : Int)).length : Nat) : Int)))) (by kernel_rfl) rfl (fun h49 => ?_) (fun h49 => ?_)
    ·rw [h49]
     have p50 : ((j : Nat) : Int) < (((rowsS SS ((q : Nat) : Int)).length : Nat) : Int) := of_decide_eq_true h49
     obtain ⟨r, hr⟩ : ∃ y, (rowsS SS ((q : Nat) : Int))[j]? = some y := ⟨_, List.getElem?_eq_getElem (by omega)⟩
     have hrs := row_slot (List.mem_of_getElem? hr)
     have hrp := rows_pos hBm.accs (List.mem_of_getElem? hr)
     obtain ⟨rb51, ro52, hA53⟩ := Rd.addr (OwnT.rd hON) (by omega)
     refine q_skip (by kernel_rfl) ?_
     refine qs ?_
     refine q_block (id := 5) (by kernel_rfl) ?_
     refine qs ?_
     refine qg ?_
     refine og 2 [(3, (ptr b1)), (5, (i64 ((n : Nat) : Int))), (6, (i64 ((q : Nat) : Int))), (7, (Value.slice A35 ((rowsS SS ((q : Nat) : Int)).length) c36)), (8, (i64 ((j : Nat) : Int))), (31, (Value.bool true)), (40, (Value.bool true)), (43, (Value.slice A35 ((rowsS SS ((q : Nat) : Int)).length) c36)), (44, (i64 ((j : Nat) : Int)))] 2 ?_
     refine Ops.go (by kernel_rfl) (Runs.ixSliceE (k := IntKind.i64) (t := 43) (len := ((rowsS SS ((q : Nat) : Int)).length)) (cap := c36) (s := 2) (off' := ro52 + j * 2) (i := ((j : Nat) : Int)) hA53 (by kernel_rfl) (by kernel_rfl) (by omega) (by omega) (by omega)) (d := (some 45)) (by kernel_rfl) rfl ?_
     refine og 1 [(3, (ptr b1)), (5, (i64 ((n : Nat) : Int))), (6, (i64 ((q : Nat) : Int))), (7, (Value.slice A35 ((rowsS SS ((q : Nat) : Int)).length) c36)), (8, (i64 ((j : Nat) : Int))), (31, (Value.bool true)), (40, (Value.bool true)), (46, (Value.pointer (some ⟨rb51, ro52 + j * 2, none⟩)))] 4 ?_
     refine Ops.go (v := (Value.string (str r.name))) (by kernel_rfl) (Runs.load (t := 9) (a := ⟨rb51, ro52 + j * 2, none⟩) (by kernel_rfl) (RdT.ldf (f := RowM.cells) (x := r) (o := 0) RowM.two (OwnT.rd hON) (by kernel_rfl) hA53 hr rfl)) (d := (some 47)) (by kernel_rfl) rfl ?_
     refine Ops.call (by kernel_rfl) (d := (some 48)) (by kernel_rfl) (RSlot_calls _ r.name (by omega)) ?_
     rintro _ w55 ⟨rfl, K54⟩
     refine ⟨_, _, rfl, rfl, ?_⟩
     replace K46 := K46.trans K54 (U := none_) (fun i h1 h2 => h2) (fun i h1 h2 => by exact h2)
     replace H47 := H47.keep K54 (fun h => h)
     replace H48 := H48.keep K54 (fun h => h)
     replace hON := own_keep0 hON K54
     clear K54
     refine og 2 [(3, (ptr b1)), (5, (i64 ((n : Nat) : Int))), (6, (i64 ((q : Nat) : Int))), (7, (Value.slice A35 ((rowsS SS ((q : Nat) : Int)).length) c36)), (8, (i64 ((j : Nat) : Int))), (31, (Value.bool true)), (40, (Value.bool true)), (50, (Value.bool (((slotB r.name : Nat) : Int) != ((q : Nat) : Int))))] 8 ?_
     refine od ?_
     have h56 : (((slotB r.name : Nat) : Int) != ((q : Nat) : Int)) = false := bne_f (by omega)
     rw [h56]
     refine q_else (o := .tmp 50) (by kernel_rfl) rfl ?_
     refine q_skip (by kernel_rfl) ?_
     refine qg ?_
     refine og 2 [(3, (ptr b1)), (5, (i64 ((n : Nat) : Int))), (6, (i64 ((q : Nat) : Int))), (7, (Value.slice A35 ((rowsS SS ((q : Nat) : Int)).length) c36)), (8, (i64 ((j : Nat) : Int))), (31, (Value.bool true)), (40, (Value.bool true)), (42, (i64 (IntKind.i64.wrap (((j : Nat) : Int) + 1)))), (50, (Value.bool false))] 2 ?_
     have e57 : IntKind.i64.wrap (((j : Nat) : Int) + 1) = ((j + 1 : Nat) : Int) := by rw [wrap_i64 (by omega) (by omega)]; omega
     rw [e57]
     clear e57
     refine og 1 [(3, (ptr b1)), (5, (i64 ((n : Nat) : Int))), (6, (i64 ((q : Nat) : Int))), (7, (Value.slice A35 ((rowsS SS ((q : Nat) : Int)).length) c36)), (8, (i64 ((j + 1 : Nat) : Int))), (31, (Value.bool true)), (40, (Value.bool true)), (50, (Value.bool false))] 3 ?_
     refine Ops.keep (R := [(3, (ptr b1)), (5, (i64 ((n : Nat) : Int))), (6, (i64 ((q : Nat) : Int))), (7, (Value.slice A35 ((rowsS SS ((q : Nat) : Int)).length) c36)), (8, (i64 ((j + 1 : Nat) : Int))), (31, (Value.bool true))]) (by kernel_rfl) ?_
     refine od ?_
     exact ⟨j + 1, ⟨rfl, hON, obNb1, obNmb2, (by omega), K46, H47, H48⟩, (show (rowsS SS ((q : Nat) : Int)).length - (j + 1) < (rowsS SS ((q : Nat) : Int)).length - j from by omega)⟩
    ·rw [h49]
     have p58 : ¬ (((j : Nat) : Int) < (((rowsS SS ((q : Nat) : Int)).length : Nat) : Int)) := of_decide_eq_false h49
     refine q_exit (id := 4) (by kernel_rfl) ?_
     refine qg ?_
     refine og 4 [(3, (ptr b1)), (5, (i64 ((n : Nat) : Int))), (6, (i64 ((q : Nat) : Int))), (7, (Value.slice A35 ((rowsS SS ((q : Nat) : Int)).length) c36)), (8, (i64 ((j : Nat) : Int))), (31, (Value.bool true)), (40, (Value.bool false)), (54, (i64 (IntKind.i64.wrap (((n : Nat) : Int) + (((rowsS SS ((q : Nat) : Int)).length : Nat) : Int)))))] 4 ?_
     have e59 : IntKind.i64.wrap (((n : Nat) : Int) + (((rowsS SS ((q : Nat) : Int)).length : Nat) : Int)) = ((n + ((rowsS SS ((q : Nat) : Int)).length) : Nat) : Int) := by rw [wrap_i64 (by omega) (by omega)]; omega
     rw [e59]
     clear e59
     refine og 1 [(3, (ptr b1)), (5, (i64 ((n + ((rowsS SS ((q : Nat) : Int)).length) : Nat) : Int))), (6, (i64 ((q : Nat) : Int))), (7, (Value.slice A35 ((rowsS SS ((q : Nat) : Int)).length) c36)), (8, (i64 ((j : Nat) : Int))), (31, (Value.bool true)), (40, (Value.bool false))] 5 ?_
     refine od ?_
     refine qg ?_
     refine og 2 [(3, (ptr b1)), (5, (i64 ((n + ((rowsS SS ((q : Nat) : Int)).length) : Nat) : Int))), (6, (i64 ((q : Nat) : Int))), (7, (Value.slice A35 ((rowsS SS ((q : Nat) : Int)).length) c36)), (8, (i64 ((j : Nat) : Int))), (31, (Value.bool true)), (33, (i64 (IntKind.i64.wrap (((q : Nat) : Int) + 1)))), (40, (Value.bool false))] 2 ?_
     have e60 : IntKind.i64.wrap (((q : Nat) : Int) + 1) = ((q + 1 : Nat) : Int) := by rw [wrap_i64 (by omega) (by omega)]; omega
     rw [e60]
     clear e60
     refine og 1 [(3, (ptr b1)), (5, (i64 ((n + ((rowsS SS ((q : Nat) : Int)).length) : Nat) : Int))), (6, (i64 ((q + 1 : Nat) : Int))), (7, (Value.slice A35 ((rowsS SS ((q : Nat) : Int)).length) c36)), (8, (i64 ((j : Nat) : Int))), (31, (Value.bool true)), (40, (Value.bool false))] 3 ?_
     refine Ops.keep (R := [(3, (ptr b1)), (5, (i64 ((n + ((rowsS SS ((q : Nat) : Int)).length) : Nat) : Int))), (6, (i64 ((q + 1 : Nat) : Int)))]) (by kernel_rfl) ?_
     refine od ?_
     exact ⟨(q + 1, n + ((rowsS SS ((q : Nat) : Int)).length)), ⟨rfl, (by omega), (by omega), K46, H47, H48⟩, (show 16 - (q + 1) < 16 - q from by omega)⟩
   ·rw [h33]
    have p61 : ¬ (((q : Nat) : Int) < 16) := of_decide_eq_false h33
    refine q_exit (id := 2) (by kernel_rfl) ?_
    refine qs ?_
    refine qs ?_
    refine qg ?_
    refine og 2 [(3, (ptr b1)), (55, (i64 ((n : Nat) : Int))), (56, (ptr b1))] 2 ?_
    refine Ops.call (by kernel_rfl) (d := (some 57)) (by kernel_rfl) (Len_calls _ b1 mb2 mm SS H31 H32 (by omega) hBm) ?_
    rintro _ w63 ⟨rfl, K62⟩
    refine ⟨_, _, rfl, rfl, ?_⟩
    replace K30 := K30.trans K62 (U := none_) (fun i h1 h2 => h2) (fun i h1 h2 => by exact h2)
    replace H31 := H31.keep K62 (fun h => h)
    replace H32 := H32.keep K62 (fun h => h)
    clear K62
    refine og 1 [(3, (ptr b1)), (58, (Value.bool (((n : Nat) : Int) != ((SS.length : Nat) : Int))))] 4 ?_
    refine od ?_
    have h64 : (((n : Nat) : Int) != ((SS.length : Nat) : Int)) = false := bne_f (by rw [hn, show q = 16 from by omega, cntS_all])
    rw [h64]
    refine q_else (o := .tmp 58) (by kernel_rfl) rfl ?_
    refine q_skip (by kernel_rfl) ?_
    refine qs ?_
    refine qs ?_
    refine qg ?_
    refine og 1 [(3, (ptr b1)), (9, (i64 0))] 1 ?_
    refine od ?_
    refine q_block (id := 6) (by kernel_rfl) ?_
    refine q_keep (R := [(3, (ptr b1)), (9, (i64 0))]) (by kernel_rfl) ?_
    refine q_loop (fun (gs : Nat × (List (List UInt8 × AccV))) L (wx : World) => match gs with | (q, m3) => L = [(3, (ptr b1)), (9, (i64 ((q : Nat) : Int)))] ∧ q ≤ 16 ∧ Book m3 (restS SS q) ∧ Keeps none_ w wx ∧ Has wx b1 (rowL [(Value.map (some mb2))] 61) ∧ HasMap wx mb2 kstr accv m3) (fun (gs : Nat × (List (List UInt8 × AccV))) => match gs with | (q, m3) => 16 - q) (0, mm) (by kernel_rfl) ⟨rfl, Nat.zero_le _, (by rw [restS_zero]; exact hBm), K30, H31, H32⟩ ?_
    clear H31 H32 K30
    rintro ⟨q, m3⟩ _ w65 ⟨rfl, hq, hB3, K66, H67, H68⟩
    refine qs ?_
    refine qs ?_
    refine qg ?_
    refine og 2 [(3, (ptr b1)), (9, (i64 ((q : Nat) : Int))), (60, (Value.bool (decide (((q : Nat) : Int) < 16))))] 2 ?_
    refine od ?_
    refine q_cond (o := .tmp 60) (b := (decide (((q : Nat) : Int) < 16))) (by kernel_rfl) rfl (fun h69 => ?_) (fun h69 => ?_)
    ·rw [h69]
     have p70 : ((q : Nat) : Int) < 16 := of_decide_eq_true h69
     refine q_skip (by kernel_rfl) ?_
     refine qs ?_
     refine q_block (id := 7) (by kernel_rfl) ?_
     refine qs ?_
     refine qg ?_
     refine og 2 [(3, (ptr b1)), (9, (i64 ((q : Nat) : Int))), (60, (Value.bool true)), (63, (ptr b1)), (64, (i64 ((q : Nat) : Int)))] 2 ?_
     refine Ops.call (by kernel_rfl) (d := (some 65)) (by kernel_rfl) (Rows_calls _ b1 mb2 m3 (restS SS q) ((q : Nat) : Int) H67 H68 (by omega) hB3) ?_
     rintro _ w73 ⟨A71, c72, rfl, K74, hO75⟩
     have ob77 : ∀ i, ((Value.slice A71 ((rowsS (restS SS q) ((q : Nat) : Int)).length) c72)).ownBlock = some i → i ≠ b1 := fun i hi => by have := (World.ownsRow.lt hO75 i hi).1; have := H67.lt; omega
     have ob78 : ∀ i, ((Value.slice A71 ((rowsS (restS SS q) ((q : Nat) : Int)).length) c72)).ownBlock = some i → i ≠ mb2 := fun i hi => by have := (World.ownsRow.lt hO75 i hi).1; have := H68.lt; omega
     have O76 := own_base hO75 K66.size
     clear hO75
     have hl79 := rowsS_len (restS SS q) ((q : Nat) : Int)
     have hl80 := hB3.accs.len
     refine ⟨_, _, rfl, rfl, ?_⟩
     replace K66 := K66.trans K74 (U := none_) (fun i h1 h2 => h2) (fun i h1 h2 => by exact h2)
     replace H67 := H67.keep K74 (fun h => h)
     replace H68 := H68.keep K74 (fun h => h)
     clear K74
     refine og 2 [(3, (ptr b1)), (9, (i64 ((q : Nat) : Int))), (10, (i64 (((rowsS (restS SS q) ((q : Nat) : Int)).length : Nat) : Int))), (60, (Value.bool true))] 5 ?_
     refine od ?_
     refine qs ?_
     refine qg ?_
     refine og 2 [(3, (ptr b1)), (9, (i64 ((q : Nat) : Int))), (10, (i64 (((rowsS (restS SS q) ((q : Nat) : Int)).length : Nat) : Int))), (60, (Value.bool true)), (67, (ptr b1)), (68, (i64 ((q : Nat) : Int)))] 2 ?_
     refine Ops.call (by kernel_rfl) (d := (some 69)) (by kernel_rfl) (Drop_calls _ b1 mb2 m3 (restS SS q) ((q : Nat) : Int) H67 H68 (by omega) hB3) ?_
     rintro _ w82 ⟨m81, rfl, K83, H84, hB85⟩
     have hl86 := hB85.len
     refine ⟨_, _, rfl, rfl, ?_⟩
     replace K66 := K66.trans K83 (U := none_) (fun i h1 h2 => h2) (fun i h1 h2 => by have h2 : i = mb2 := h2; exfalso; omega)
     replace H67 := H67.keep K83 (by intro h; change b1 = mb2 at h; omega)
     replace O76 := own_keep O76 K83 (fun i hi hs => by have hs : i = mb2 := hs; have := ob78 i hi; omega)
     clear K83
     refine og 2 [(3, (ptr b1)), (9, (i64 ((q : Nat) : Int))), (10, (i64 (((rowsS (restS SS q) ((q : Nat) : Int)).length : Nat) : Int))), (60, (Value.bool true)), (71, (Value.bool (((dropN (restS SS q) ((q : Nat) : Int) : Nat) : Int) != (((rowsS (restS SS q) ((q : Nat) : Int)).length : Nat) : Int))))] 5 ?_
     refine od ?_
     have h87 : (((dropN (restS SS q) ((q : Nat) : Int) : Nat) : Int) != (((rowsS (restS SS q) ((q : Nat) : Int)).length : Nat) : Int)) = false := bne_f (by rw [dropN_nat])
     rw [h87]
     refine q_else (o := .tmp 71) (by kernel_rfl) rfl ?_
     refine q_skip (by kernel_rfl) ?_
     refine qg ?_
     refine og 2 [(3, (ptr b1)), (9, (i64 ((q : Nat) : Int))), (10, (i64 (((rowsS (restS SS q) ((q : Nat) : Int)).length : Nat) : Int))), (60, (Value.bool true)), (62, (i64 (IntKind.i64.wrap (((q : Nat) : Int) + 1)))), (71, (Value.bool false))] 2 ?_
     have e88 : IntKind.i64.wrap (((q : Nat) : Int) + 1) = ((q + 1 : Nat) : Int) := by rw [wrap_i64 (by omega) (by omega)]; omega
     rw [e88]
     clear e88
     refine og 1 [(3, (ptr b1)), (9, (i64 ((q + 1 : Nat) : Int))), (10, (i64 (((rowsS (restS SS q) ((q : Nat) : Int)).length : Nat) : Int))), (60, (Value.bool true)), (71, (Value.bool false))] 3 ?_
     refine Ops.keep (R := [(3, (ptr b1)), (9, (i64 ((q + 1 : Nat) : Int)))]) (by kernel_rfl) ?_
     refine od ?_
     exact ⟨(q + 1, m81), ⟨rfl, (by omega), (by rw [← restS_next]; exact hB85), K66, H67, H84⟩, (show 16 - (q + 1) < 16 - q from by omega)⟩
    ·rw [h69]
     have p89 : ¬ (((q : Nat) : Int) < 16) := of_decide_eq_false h69
     refine q_exit (id := 6) (by kernel_rfl) ?_
     refine qs ?_
     refine qg ?_
     refine og 1 [(72, (ptr b1))] 1 ?_
     refine Ops.call (by kernel_rfl) (d := (some 73)) (by kernel_rfl) (Len_calls _ b1 mb2 m3 (restS SS q) H67 H68 (by omega) hB3) ?_
     rintro _ w91 ⟨rfl, K90⟩
     refine ⟨_, _, rfl, rfl, ?_⟩
     replace K66 := K66.trans K90 (U := none_) (fun i h1 h2 => h2) (fun i h1 h2 => by exact h2)
     replace H67 := H67.keep K90 (fun h => h)
     replace H68 := H68.keep K90 (fun h => h)
     clear K90
     refine og 2 [(75, (Value.bool ((((restS SS q).length : Nat) : Int) == 0)))] 4 ?_
     have h92 : ((((restS SS q).length : Nat) : Int) == 0) = true := beq_t (by rw [show q = 16 from by omega, restS_end]; rfl)
     rw [h92]
     refine Ops.call (by kernel_rfl) (d := (some 76)) (by kernel_rfl) (known_calls _) ?_
     rintro _ w94 ⟨rfl, K93⟩
     refine ⟨_, _, rfl, rfl, ?_⟩
     replace K66 := K66.trans K93 (U := none_) (fun i h1 h2 => h2) (fun i h1 h2 => by exact h2)
     replace H67 := H67.keep K93 (fun h => h)
     replace H68 := H68.keep K93 (fun h => h)
     clear K93
     refine og 2 [(2, (Value.bool true))] 7 ?_
     refine od ?_
     refine q_ret (by kernel_rfl) ?_
     refine ⟨(Value.bool true), retv_tmp rfl rfl, ?_⟩
     exact ⟨rfl, K66⟩
 ·rw [h14]
  have p95 : ¬ (((i : Nat) : Int) < ((l.length : Nat) : Int)) := of_decide_eq_false h14
  refine og 3 [(0, (Value.slice A l.length c)), (2, (Value.bool false)), (3, (ptr b1)), (4, (i64 ((i : Nat) : Int))), (21, (Value.bool false))] 8 ?_
  refine od ?_
  refine q_else (o := .tmp 21) (by kernel_rfl) rfl ?_
  refine q_exit (id := 0) (by kernel_rfl) ?_
  refine qs ?_
  refine qg ?_
  refine og 1 [(2, (Value.bool false)), (3, (ptr b1)), (5, (i64 0))] 1 ?_
  refine od ?_
  refine qs ?_
  refine qs ?_
  refine qg ?_
  refine og 1 [(2, (Value.bool false)), (3, (ptr b1)), (5, (i64 0)), (6, (i64 0))] 1 ?_
  refine od ?_
  refine q_block (id := 2) (by kernel_rfl) ?_
  refine q_keep (R := [(3, (ptr b1)), (5, (i64 0)), (6, (i64 0))]) (by kernel_rfl) ?_
  refine q_loop (fun (gs : Nat × Nat) L (wx : World) => match gs with | (q, n) => L = [(3, (ptr b1)), (5, (i64 ((n : Nat) : Int))), (6, (i64 ((q : Nat) : Int)))] ∧ q ≤ 16 ∧ n = cntS SS q ∧ Keeps none_ w wx ∧ Has wx b1 (rowL [(Value.map (some mb2))] 61) ∧ HasMap wx mb2 kstr accv mm) (fun (gs : Nat × Nat) => match gs with | (q, n) => 16 - q) (0, 0) (by kernel_rfl) ⟨rfl, Nat.zero_le _, (cntS_zero _).symm, K11, H12, H13⟩ ?_
  clear H12 H13 K11
  rintro ⟨q, n⟩ _ w96 ⟨rfl, hq, hn, K97, H98, H99⟩
  have hcl := cntS_le SS (q + 1)
  have hcn := cntS_next SS q
  have hSl := hBm.accs.len
  refine qs ?_
  refine qs ?_
  refine qg ?_
  refine og 2 [(3, (ptr b1)), (5, (i64 ((n : Nat) : Int))), (6, (i64 ((q : Nat) : Int))), (31, (Value.bool (decide (((q : Nat) : Int) < 16))))] 2 ?_
  refine od ?_
  refine q_cond (o := .tmp 31) (b := (decide (((q : Nat) : Int) < 16))) (by kernel_rfl) rfl (fun h100 => ?_) (fun h100 => ?_)
  ·rw [h100]
   have p101 : ((q : Nat) : Int) < 16 := of_decide_eq_true h100
   refine q_skip (by kernel_rfl) ?_
   refine qs ?_
   refine q_block (id := 3) (by kernel_rfl) ?_
   refine qs ?_
   refine qg ?_
   refine og 2 [(3, (ptr b1)), (5, (i64 ((n : Nat) : Int))), (6, (i64 ((q : Nat) : Int))), (31, (Value.bool true)), (34, (ptr b1)), (35, (i64 ((q : Nat) : Int)))] 2 ?_
   refine Ops.call (by kernel_rfl) (d := (some 36)) (by kernel_rfl) (Rows_calls _ b1 mb2 mm SS ((q : Nat) : Int) H98 H99 (by omega) hBm) ?_
   rintro _ w104 ⟨A102, c103, rfl, K105, hO106⟩
   have ob108 : ∀ i, ((Value.slice A102 ((rowsS SS ((q : Nat) : Int)).length) c103)).ownBlock = some i → i ≠ b1 := fun i hi => by have := (World.ownsRow.lt hO106 i hi).1; have := H98.lt; omega
   have ob109 : ∀ i, ((Value.slice A102 ((rowsS SS ((q : Nat) : Int)).length) c103)).ownBlock = some i → i ≠ mb2 := fun i hi => by have := (World.ownsRow.lt hO106 i hi).1; have := H99.lt; omega
   have O107 := own_base hO106 K97.size
   clear hO106
   have hl110 := rowsS_len SS ((q : Nat) : Int)
   have hl111 := hBm.accs.len
   refine ⟨_, _, rfl, rfl, ?_⟩
   replace K97 := K97.trans K105 (U := none_) (fun i h1 h2 => h2) (fun i h1 h2 => by exact h2)
   replace H98 := H98.keep K105 (fun h => h)
   replace H99 := H99.keep K105 (fun h => h)
   clear K105
   refine og 1 [(3, (ptr b1)), (5, (i64 ((n : Nat) : Int))), (6, (i64 ((q : Nat) : Int))), (7, (Value.slice A102 ((rowsS SS ((q : Nat) : Int)).length) c103)), (31, (Value.bool true))] 4 ?_
   refine od ?_
   refine qs ?_
   refine qs ?_
   refine qg ?_
   refine og 1 [(3, (ptr b1)), (5, (i64 ((n : Nat) : Int))), (6, (i64 ((q : Nat) : Int))), (7, (Value.slice A102 ((rowsS SS ((q : Nat) : Int)).length) c103)), (8, (i64 0)), (31, (Value.bool true))] 1 ?_
   refine od ?_
   refine q_block (id := 4) (by kernel_rfl) ?_
   refine q_keep (R := [(3, (ptr b1)), (5, (i64 ((n : Nat) : Int))), (6, (i64 ((q : Nat) : Int))), (7, (Value.slice A102 ((rowsS SS ((q : Nat) : Int)).length) c103)), (8, (i64 0)), (31, (Value.bool true))]) (by kernel_rfl) ?_
   refine q_loop (fun (j : Nat) L (wx : World) => L = [(3, (ptr b1)), (5, (i64 ((n : Nat) : Int))), (6, (i64 ((q : Nat) : Int))), (7, (Value.slice A102 ((rowsS SS ((q : Nat) : Int)).length) c103)), (8, (i64 ((j : Nat) : Int))), (31, (Value.bool true))] ∧ OwnR wx w.heap.size 27 (Value.slice A102 ((rowsS SS ((q : Nat) : Int)).length) c103) (rowsS SS ((q : Nat) : Int)) ∧ (∀ i, ((Value.slice A102 ((rowsS SS ((q : Nat) : Int)).length) c103)).ownBlock = some i → i ≠ b1) ∧ (∀ i, ((Value.slice A102 ((rowsS SS ((q : Nat) : Int)).length) c103)).ownBlock = some i → i ≠ mb2) ∧ j ≤ (rowsS SS ((q : Nat) : Int)).length ∧ Keeps none_ w wx ∧ Has wx b1 (rowL [(Value.map (some mb2))] 61) ∧ HasMap wx mb2 kstr accv mm) (fun (j : Nat) => (rowsS SS ((q : Nat) : Int)).length - j) 0 (by kernel_rfl) ⟨rfl, O107, ob108, ob109, Nat.zero_le _, K97, H98, H99⟩ ?_
   clear H98 H99 O107 K97
   rintro j _ w112 ⟨rfl, hON, obNb1, obNmb2, hj, K113, H114, H115⟩
   refine qs ?_
   refine qs ?_
   refine qg ?_
   refine og 4 [(3, (ptr b1)), (5, (i64 ((n : Nat) : Int))), (6, (i64 ((q : Nat) : Int))), (7, (Value.slice A102 ((rowsS SS ((q : Nat) : Int)).length) c103)), (8, (i64 ((j : Nat) : Int))), (31, (Value.bool true)), (40, (Value.bool (decide (((j : Nat) : Int) < (((rowsS SS ((q : Nat) : Int)).length : Nat) : Int)))))] 4 ?_
   refine od ?_
   refine q_cond (o := .tmp 40) (b := (decide (((j : Nat) : Int) < (((rowsS SS ((q : Nat) : Int)).length : Nat) : Int)))) (by kernel_rfl) rfl (fun h116 => ?_) (fun h116 => ?_)
   ·rw [h116]
    have p117 : ((j : Nat) : Int) < (((rowsS SS ((q : Nat) : Int)).length : Nat) : Int) := of_decide_eq_true h116
    obtain ⟨r, hr⟩ : ∃ y, (rowsS SS ((q : Nat) : Int))[j]? = some y := ⟨_, List.getElem?_eq_getElem (by omega)⟩
    have hrs := row_slot (List.mem_of_getElem? hr)
    have hrp := rows_pos hBm.accs (List.mem_of_getElem? hr)
    obtain ⟨rb118, ro119, hA120⟩ := Rd.addr (OwnT.rd hON) (by omega)
    refine q_skip (by kernel_rfl) ?_
    refine qs ?_
    refine q_block (id := 5) (by kernel_rfl) ?_
    refine qs ?_
    refine qg ?_
    refine og 2 [(3, (ptr b1)), (5, (i64 ((n : Nat) : Int))), (6, (i64 ((q : Nat) : Int))), (7, (Value.slice A102 ((rowsS SS ((q : Nat) : Int)).length) c103)), (8, (i64 ((j : Nat) : Int))), (31, (Value.bool true)), (40, (Value.bool true)), (43, (Value.slice A102 ((rowsS SS ((q : Nat) : Int)).length) c103)), (44, (i64 ((j : Nat) : Int)))] 2 ?_
    refine Ops.go (by kernel_rfl) (Runs.ixSliceE (k := IntKind.i64) (t := 43) (len := ((rowsS SS ((q : Nat) : Int)).length)) (cap := c103) (s := 2) (off' := ro119 + j * 2) (i := ((j : Nat) : Int)) hA120 (by kernel_rfl) (by kernel_rfl) (by omega) (by omega) (by omega)) (d := (some 45)) (by kernel_rfl) rfl ?_
    refine og 1 [(3, (ptr b1)), (5, (i64 ((n : Nat) : Int))), (6, (i64 ((q : Nat) : Int))), (7, (Value.slice A102 ((rowsS SS ((q : Nat) : Int)).length) c103)), (8, (i64 ((j : Nat) : Int))), (31, (Value.bool true)), (40, (Value.bool true)), (46, (Value.pointer (some ⟨rb118, ro119 + j * 2, none⟩)))] 4 ?_
    refine Ops.go (v := (Value.string (str r.name))) (by kernel_rfl) (Runs.load (t := 9) (a := ⟨rb118, ro119 + j * 2, none⟩) (by kernel_rfl) (RdT.ldf (f := RowM.cells) (x := r) (o := 0) RowM.two (OwnT.rd hON) (by kernel_rfl) hA120 hr rfl)) (d := (some 47)) (by kernel_rfl) rfl ?_
    refine Ops.call (by kernel_rfl) (d := (some 48)) (by kernel_rfl) (RSlot_calls _ r.name (by omega)) ?_
    rintro _ w122 ⟨rfl, K121⟩
    refine ⟨_, _, rfl, rfl, ?_⟩
    replace K113 := K113.trans K121 (U := none_) (fun i h1 h2 => h2) (fun i h1 h2 => by exact h2)
    replace H114 := H114.keep K121 (fun h => h)
    replace H115 := H115.keep K121 (fun h => h)
    replace hON := own_keep0 hON K121
    clear K121
    refine og 2 [(3, (ptr b1)), (5, (i64 ((n : Nat) : Int))), (6, (i64 ((q : Nat) : Int))), (7, (Value.slice A102 ((rowsS SS ((q : Nat) : Int)).length) c103)), (8, (i64 ((j : Nat) : Int))), (31, (Value.bool true)), (40, (Value.bool true)), (50, (Value.bool (((slotB r.name : Nat) : Int) != ((q : Nat) : Int))))] 8 ?_
    refine od ?_
    have h123 : (((slotB r.name : Nat) : Int) != ((q : Nat) : Int)) = false := bne_f (by omega)
    rw [h123]
    refine q_else (o := .tmp 50) (by kernel_rfl) rfl ?_
    refine q_skip (by kernel_rfl) ?_
    refine qg ?_
    refine og 2 [(3, (ptr b1)), (5, (i64 ((n : Nat) : Int))), (6, (i64 ((q : Nat) : Int))), (7, (Value.slice A102 ((rowsS SS ((q : Nat) : Int)).length) c103)), (8, (i64 ((j : Nat) : Int))), (31, (Value.bool true)), (40, (Value.bool true)), (42, (i64 (IntKind.i64.wrap (((j : Nat) : Int) + 1)))), (50, (Value.bool false))] 2 ?_
    have e124 : IntKind.i64.wrap (((j : Nat) : Int) + 1) = ((j + 1 : Nat) : Int) := by rw [wrap_i64 (by omega) (by omega)]; omega
    rw [e124]
    clear e124
    refine og 1 [(3, (ptr b1)), (5, (i64 ((n : Nat) : Int))), (6, (i64 ((q : Nat) : Int))), (7, (Value.slice A102 ((rowsS SS ((q : Nat) : Int)).length) c103)), (8, (i64 ((j + 1 : Nat) : Int))), (31, (Value.bool true)), (40, (Value.bool true)), (50, (Value.bool false))] 3 ?_
    refine Ops.keep (R := [(3, (ptr b1)), (5, (i64 ((n : Nat) : Int))), (6, (i64 ((q : Nat) : Int))), (7, (Value.slice A102 ((rowsS SS ((q : Nat) : Int)).length) c103)), (8, (i64 ((j + 1 : Nat) : Int))), (31, (Value.bool true))]) (by kernel_rfl) ?_
    refine od ?_
    exact ⟨j + 1, ⟨rfl, hON, obNb1, obNmb2, (by omega), K113, H114, H115⟩, (show (rowsS SS ((q : Nat) : Int)).length - (j + 1) < (rowsS SS ((q : Nat) : Int)).length - j from by omega)⟩
   ·rw [h116]
    have p125 : ¬ (((j : Nat) : Int) < (((rowsS SS ((q : Nat) : Int)).length : Nat) : Int)) := of_decide_eq_false h116
    refine q_exit (id := 4) (by kernel_rfl) ?_
    refine qg ?_
    refine og 4 [(3, (ptr b1)), (5, (i64 ((n : Nat) : Int))), (6, (i64 ((q : Nat) : Int))), (7, (Value.slice A102 ((rowsS SS ((q : Nat) : Int)).length) c103)), (8, (i64 ((j : Nat) : Int))), (31, (Value.bool true)), (40, (Value.bool false)), (54, (i64 (IntKind.i64.wrap (((n : Nat) : Int) + (((rowsS SS ((q : Nat) : Int)).length : Nat) : Int)))))] 4 ?_
    have e126 : IntKind.i64.wrap (((n : Nat) : Int) + (((rowsS SS ((q : Nat) : Int)).length : Nat) : Int)) = ((n + ((rowsS SS ((q : Nat) : Int)).length) : Nat) : Int) := by rw [wrap_i64 (by omega) (by omega)]; omega
    rw [e126]
    clear e126
    refine og 1 [(3, (ptr b1)), (5, (i64 ((n + ((rowsS SS ((q : Nat) : Int)).length) : Nat) : Int))), (6, (i64 ((q : Nat) : Int))), (7, (Value.slice A102 ((rowsS SS ((q : Nat) : Int)).length) c103)), (8, (i64 ((j : Nat) : Int))), (31, (Value.bool true)), (40, (Value.bool false))] 5 ?_
    refine od ?_
    refine qg ?_
    refine og 2 [(3, (ptr b1)), (5, (i64 ((n + ((rowsS SS ((q : Nat) : Int)).length) : Nat) : Int))), (6, (i64 ((q : Nat) : Int))), (7, (Value.slice A102 ((rowsS SS ((q : Nat) : Int)).length) c103)), (8, (i64 ((j : Nat) : Int))), (31, (Value.bool true)), (33, (i64 (IntKind.i64.wrap (((q : Nat) : Int) + 1)))), (40, (Value.bool false))] 2 ?_
    have e127 : IntKind.i64.wrap (((q : Nat) : Int) + 1) = ((q + 1 : Nat) : Int) := by rw [wrap_i64 (by omega) (by omega)]; omega
    rw [e127]
    clear e127
    refine og 1 [(3, (ptr b1)), (5, (i64 ((n + ((rowsS SS ((q : Nat) : Int)).length) : Nat) : Int))), (6, (i64 ((q + 1 : Nat) : Int))), (7, (Value.slice A102 ((rowsS SS ((q : Nat) : Int)).length) c103)), (8, (i64 ((j : Nat) : Int))), (31, (Value.bool true)), (40, (Value.bool false))] 3 ?_
    refine Ops.keep (R := [(3, (ptr b1)), (5, (i64 ((n + ((rowsS SS ((q : Nat) : Int)).length) : Nat) : Int))), (6, (i64 ((q + 1 : Nat) : Int)))]) (by kernel_rfl) ?_
    refine od ?_
    exact ⟨(q + 1, n + ((rowsS SS ((q : Nat) : Int)).length)), ⟨rfl, (by omega), (by omega), K113, H114, H115⟩, (show 16 - (q + 1) < 16 - q from by omega)⟩
  ·rw [h100]
   have p128 : ¬ (((q : Nat) : Int) < 16) := of_decide_eq_false h100
   refine q_exit (id := 2) (by kernel_rfl) ?_
   refine qs ?_
   refine qs ?_
   refine qg ?_
   refine og 2 [(3, (ptr b1)), (55, (i64 ((n : Nat) : Int))), (56, (ptr b1))] 2 ?_
   refine Ops.call (by kernel_rfl) (d := (some 57)) (by kernel_rfl) (Len_calls _ b1 mb2 mm SS H98 H99 (by omega) hBm) ?_
   rintro _ w130 ⟨rfl, K129⟩
   refine ⟨_, _, rfl, rfl, ?_⟩
   replace K97 := K97.trans K129 (U := none_) (fun i h1 h2 => h2) (fun i h1 h2 => by exact h2)
   replace H98 := H98.keep K129 (fun h => h)
   replace H99 := H99.keep K129 (fun h => h)
   clear K129
   refine og 1 [(3, (ptr b1)), (58, (Value.bool (((n : Nat) : Int) != ((SS.length : Nat) : Int))))] 4 ?_
   refine od ?_
   have h131 : (((n : Nat) : Int) != ((SS.length : Nat) : Int)) = false := bne_f (by rw [hn, show q = 16 from by omega, cntS_all])
   rw [h131]
   refine q_else (o := .tmp 58) (by kernel_rfl) rfl ?_
   refine q_skip (by kernel_rfl) ?_
   refine qs ?_
   refine qs ?_
   refine qg ?_
   refine og 1 [(3, (ptr b1)), (9, (i64 0))] 1 ?_
   refine od ?_
   refine q_block (id := 6) (by kernel_rfl) ?_
   refine q_keep (R := [(3, (ptr b1)), (9, (i64 0))]) (by kernel_rfl) ?_
   refine q_loop (fun (gs : Nat × (List (List UInt8 × AccV))) L (wx : World) => match gs with | (q, m3) => L = [(3, (ptr b1)), (9, (i64 ((q : Nat) : Int)))] ∧ q ≤ 16 ∧ Book m3 (restS SS q) ∧ Keeps none_ w wx ∧ Has wx b1 (rowL [(Value.map (some mb2))] 61) ∧ HasMap wx mb2 kstr accv m3) (fun (gs : Nat × (List (List UInt8 × AccV))) => match gs with | (q, m3) => 16 - q) (0, mm) (by kernel_rfl) ⟨rfl, Nat.zero_le _, (by rw [restS_zero]; exact hBm), K97, H98, H99⟩ ?_
   clear H98 H99 K97
   rintro ⟨q, m3⟩ _ w132 ⟨rfl, hq, hB3, K133, H134, H135⟩
   refine qs ?_
   refine qs ?_
   refine qg ?_
   refine og 2 [(3, (ptr b1)), (9, (i64 ((q : Nat) : Int))), (60, (Value.bool (decide (((q : Nat) : Int) < 16))))] 2 ?_
   refine od ?_
   refine q_cond (o := .tmp 60) (b := (decide (((q : Nat) : Int) < 16))) (by kernel_rfl) rfl (fun h136 => ?_) (fun h136 => ?_)
   ·rw [h136]
    have p137 : ((q : Nat) : Int) < 16 := of_decide_eq_true h136
    refine q_skip (by kernel_rfl) ?_
    refine qs ?_
    refine q_block (id := 7) (by kernel_rfl) ?_
    refine qs ?_
    refine qg ?_
    refine og 2 [(3, (ptr b1)), (9, (i64 ((q : Nat) : Int))), (60, (Value.bool true)), (63, (ptr b1)), (64, (i64 ((q : Nat) : Int)))] 2 ?_
    refine Ops.call (by kernel_rfl) (d := (some 65)) (by kernel_rfl) (Rows_calls _ b1 mb2 m3 (restS SS q) ((q : Nat) : Int) H134 H135 (by omega) hB3) ?_
    rintro _ w140 ⟨A138, c139, rfl, K141, hO142⟩
    have ob144 : ∀ i, ((Value.slice A138 ((rowsS (restS SS q) ((q : Nat) : Int)).length) c139)).ownBlock = some i → i ≠ b1 := fun i hi => by have := (World.ownsRow.lt hO142 i hi).1; have := H134.lt; omega
    have ob145 : ∀ i, ((Value.slice A138 ((rowsS (restS SS q) ((q : Nat) : Int)).length) c139)).ownBlock = some i → i ≠ mb2 := fun i hi => by have := (World.ownsRow.lt hO142 i hi).1; have := H135.lt; omega
    have O143 := own_base hO142 K133.size
    clear hO142
    have hl146 := rowsS_len (restS SS q) ((q : Nat) : Int)
    have hl147 := hB3.accs.len
    refine ⟨_, _, rfl, rfl, ?_⟩
    replace K133 := K133.trans K141 (U := none_) (fun i h1 h2 => h2) (fun i h1 h2 => by exact h2)
    replace H134 := H134.keep K141 (fun h => h)
    replace H135 := H135.keep K141 (fun h => h)
    clear K141
    refine og 2 [(3, (ptr b1)), (9, (i64 ((q : Nat) : Int))), (10, (i64 (((rowsS (restS SS q) ((q : Nat) : Int)).length : Nat) : Int))), (60, (Value.bool true))] 5 ?_
    refine od ?_
    refine qs ?_
    refine qg ?_
    refine og 2 [(3, (ptr b1)), (9, (i64 ((q : Nat) : Int))), (10, (i64 (((rowsS (restS SS q) ((q : Nat) : Int)).length : Nat) : Int))), (60, (Value.bool true)), (67, (ptr b1)), (68, (i64 ((q : Nat) : Int)))] 2 ?_
    refine Ops.call (by kernel_rfl) (d := (some 69)) (by kernel_rfl) (Drop_calls _ b1 mb2 m3 (restS SS q) ((q : Nat) : Int) H134 H135 (by omega) hB3) ?_
    rintro _ w149 ⟨m148, rfl, K150, H151, hB152⟩
    have hl153 := hB152.len
    refine ⟨_, _, rfl, rfl, ?_⟩
    replace K133 := K133.trans K150 (U := none_) (fun i h1 h2 => h2) (fun i h1 h2 => by have h2 : i = mb2 := h2; exfalso; omega)
    replace H134 := H134.keep K150 (by intro h; change b1 = mb2 at h; omega)
    replace O143 := own_keep O143 K150 (fun i hi hs => by have hs : i = mb2 := hs; have := ob145 i hi; omega)
    clear K150
    refine og 2 [(3, (ptr b1)), (9, (i64 ((q : Nat) : Int))), (10, (i64 (((rowsS (restS SS q) ((q : Nat) : Int)).length : Nat) : Int))), (60, (Value.bool true)), (71, (Value.bool (((dropN (restS SS q) ((q : Nat) : Int) : Nat) : Int) != (((rowsS (restS SS q) ((q : Nat) : Int)).length : Nat) : Int))))] 5 ?_
    refine od ?_
    have h154 : (((dropN (restS SS q) ((q : Nat) : Int) : Nat) : Int) != (((rowsS (restS SS q) ((q : Nat) : Int)).length : Nat) : Int)) = false := bne_f (by rw [dropN_nat])
    rw [h154]
    refine q_else (o := .tmp 71) (by kernel_rfl) rfl ?_
    refine q_skip (by kernel_rfl) ?_
    refine qg ?_
    refine og 2 [(3, (ptr b1)), (9, (i64 ((q : Nat) : Int))), (10, (i64 (((rowsS (restS SS q) ((q : Nat) : Int)).length : Nat) : Int))), (60, (Value.bool true)), (62, (i64 (IntKind.i64.wrap (((q : Nat) : Int) + 1)))), (71, (Value.bool false))] 2 ?_
    have e155 : IntKind.i64.wrap (((q : Nat) : Int) + 1) = ((q + 1 : Nat) : Int) := by rw [wrap_i64 (by omega) (by omega)]; omega
    rw [e155]
    clear e155
    refine og 1 [(3, (ptr b1)), (9, (i64 ((q + 1 : Nat) : Int))), (10, (i64 (((rowsS (restS SS q) ((q : Nat) : Int)).length : Nat) : Int))), (60, (Value.bool true)), (71, (Value.bool false))] 3 ?_
    refine Ops.keep (R := [(3, (ptr b1)), (9, (i64 ((q + 1 : Nat) : Int)))]) (by kernel_rfl) ?_
    refine od ?_
    exact ⟨(q + 1, m148), ⟨rfl, (by omega), (by rw [← restS_next]; exact hB152), K133, H134, H151⟩, (show 16 - (q + 1) < 16 - q from by omega)⟩
   ·rw [h136]
    have p156 : ¬ (((q : Nat) : Int) < 16) := of_decide_eq_false h136
    refine q_exit (id := 6) (by kernel_rfl) ?_
    refine qs ?_
    refine qg ?_
    refine og 1 [(72, (ptr b1))] 1 ?_
    refine Ops.call (by kernel_rfl) (d := (some 73)) (by kernel_rfl) (Len_calls _ b1 mb2 m3 (restS SS q) H134 H135 (by omega) hB3) ?_
    rintro _ w158 ⟨rfl, K157⟩
    refine ⟨_, _, rfl, rfl, ?_⟩
    replace K133 := K133.trans K157 (U := none_) (fun i h1 h2 => h2) (fun i h1 h2 => by exact h2)
    replace H134 := H134.keep K157 (fun h => h)
    replace H135 := H135.keep K157 (fun h => h)
    clear K157
    refine og 2 [(75, (Value.bool ((((restS SS q).length : Nat) : Int) == 0)))] 4 ?_
    have h159 : ((((restS SS q).length : Nat) : Int) == 0) = true := beq_t (by rw [show q = 16 from by omega, restS_end]; rfl)
    rw [h159]
    refine Ops.call (by kernel_rfl) (d := (some 76)) (by kernel_rfl) (known_calls _) ?_
    rintro _ w161 ⟨rfl, K160⟩
    refine ⟨_, _, rfl, rfl, ?_⟩
    replace K133 := K133.trans K160 (U := none_) (fun i h1 h2 => h2) (fun i h1 h2 => by exact h2)
    replace H134 := H134.keep K160 (fun h => h)
    replace H135 := H135.keep K160 (fun h => h)
    clear K160
    refine og 2 [(2, (Value.bool true))] 7 ?_
    refine od ?_
    refine q_ret (by kernel_rfl) ?_
    refine ⟨(Value.bool true), retv_tmp rfl rfl, ?_⟩
    exact ⟨rfl, K133⟩
end Go.Proofs.YtooginpgclcldaaDoor
