/- What the claim stands on, part 14: rules of the walk, contracts of the functions, plain laws. -/
import Derived.Test.YtnbcghbgeiocbaaDoorProg
import Derived.Test.YtnbcghbgeiocbaaDoorKHOrders11
import Derived.Test.YtnbcghbgeiocbaaDoorKHOrders6
import Derived.Test.YtnbcghbgeiocbaaDoorKHOrders8
import Derived.Test.YtnbcghbgeiocbaaDoorKHOrders9
import Derived.Test.YtnbcghbgeiocbaaDoorKHOrders13
import Derived.Test.YtnbcghbgeiocbaaDoorKHOrders10
set_option linter.unusedVariables false
namespace Go.Proofs.YtnbcghbgeiocbaaDoor
open Go.Q Go.RowKit
set_option maxHeartbeats 4000000 in
theorem Do_calls (w : World) (b mb kb : Nat) (m : List (List UInt8 × Int)) (S : List RowM) (K : List KeptM) (o : Opm) (Hb : Has w b (rowL [.map (some mb), .map (some kb)] 110)) (Hm : HasMap w mb kstr ki64 m) (Hk : HasMap w kb kpair keptv (K.map KeptM.kv)) (hne : b ≠ mb ∧ b ≠ kb ∧ mb ≠ kb) (hB : LBook m S K) (hr : -9223372036854775808 ≤ o.amount ∧ o.amount ≤ 9223372036854775807) (hSl : S.length ≤ 1000) : Calls Tryd.prog 49 ⟨[(ptr b), (agg (Opm.cells o))]⟩ w (fun e w' => ∃ m' A c, e = .returned (agg [i64 (doR S K o).why, i64 (doR S K o).amount, .slice A (doR S K o).rows.length c]) ∧ Keeps (fun i => i = mb ∨ i = kb) w w' ∧ HasMap w' mb kstr ki64 m' ∧ HasMap w' kb kpair keptv ((doK S K o).map KeptM.kv) ∧ LBook m' (doS S K o) (doK S K o) ∧ OwnR w' w.heap.size 98 (.slice A (doR S K o).rows.length c) (doR S K o).rows) := by
 have Hbl := Hb.lt
 have Hml := Hm.lt
 have Hkl := Hk.lt
 have hL := hB.lmap
 have K0 : Keeps (fun i => i = mb ∨ i = kb) w w := (Keeps.refl w).mono (fun _ _ h => h.elim)
 refine q_calls Tryd.func49 (by kernel_rfl) (by kernel_rfl) ?_
 refine qsg ?_
 refine onew (rowL (Opm.cells o) 24) (fun b => (ptr b)) 3 (fun b => rfl) (fun b1 w2 hb3 H4 K5 hs6 => ?_)
 have lb1b : b < b1 := by have := Hb.lt; omega
 have lb1mb : mb < b1 := by have := Hm.lt; omega
 have lb1kb : kb < b1 := by have := Hk.lt; omega
 have nb1 : w.heap.size ≤ b1 := by have := K0.size; omega
 replace K0 := K0.tn K5
 replace Hb := Hb.kn K5
 replace Hm := Hm.kn K5
 replace Hk := Hk.kn K5
 clear K5 hs6
 refine onew (rowL [(i64 0), (i64 0), (Value.slice none 0 0)] 28) (fun b => (ptr b)) 4 (fun b => rfl) (fun b7 w8 hb9 H10 K11 hs12 => ?_)
 have lb7b : b < b7 := by have := Hb.lt; omega
 have lb7mb : mb < b7 := by have := Hm.lt; omega
 have lb7kb : kb < b7 := by have := Hk.lt; omega
 have lb7b1 : b1 < b7 := by have := H4.lt; omega
 have nb7 : w.heap.size ≤ b7 := by have := K0.size; omega
 replace K0 := K0.tn K11
 replace Hb := Hb.kn K11
 replace Hm := Hm.kn K11
 replace Hk := Hk.kn K11
 replace H4 := H4.kn K11
 clear K11 hs12
 refine od ?_
 refine qs ?_
 refine qsg ?_
 refine ogd 2 [(0, ptr b), (3, ptr b1), (4, ptr b7), (13, .bool false)] ?_
 refine q_else (o := .tmp 13) (by kernel_rfl) rfl ?_
 refine qkQ ?_
 refine qs ?_
 refine qsg ?_
 refine ogo (agg (Opm.cells o)) 15 (rld 24 b1 0 H4) rfl ?_
 refine ocQ 16 (Wrong_calls _ o) ?_
 rintro _ w14 ⟨rfl, K13⟩
 refine ⟨_, _, rfl, rfl, ?_⟩
 replace K0 := K0.tn K13
 replace Hb := Hb.kn K13
 replace Hm := Hm.kn K13
 replace Hk := Hk.kn K13
 replace H4 := H4.kn K13
 replace H10 := H10.kn K13
 refine odz 1 ?_
 refine qsg ?_
 refine ogd 2 [(0, ptr b), (3, ptr b1), (4, ptr b7), (5, (i64 (wrongE o))), (18, (Value.bool ((wrongE o) != 0)))] ?_
 refine qcQ 18 ((wrongE o) != 0) rfl (fun h15 => ?_) (fun h15 => ?_)
 ·rw [h15]
  have p16 := of_bne_t h15
  refine qsg ?_
  refine og 2 [(0, ptr b), (3, ptr b1), (4, ptr b7), (20, (agg [(i64 (wrongE o)), (i64 0), (Value.slice none 0 0)]))] 2 ?_
  refine oput 28 b7 [(i64 (wrongE o)), (i64 0), (Value.slice none 0 0)] H10 rfl (fun w17 H18 K19 => ?_)
  replace K0 := K0.t1 K19 fun _ => by show b7 = mb ∨ b7 = kb; omega
  replace Hm := Hm.k1 K19 (by omega)
  replace Hk := Hk.k1 K19 (by omega)
  refine od ?_
  refine qtQ ?_
  refine ⟨(agg [(i64 (wrongE o)), (i64 0), (Value.slice none 0 0)]), retv_cell rfl rfl (H18.loads (by kernel_rfl)), ?_⟩
  have e0 := do_wrong (S := S) (K := K) (o := o) (by omega)
  obtain ⟨e1, e2, e3⟩ := e0
  rw [e1, e2, e3]
  exact ⟨_, none, 0, rfl, K0, Hm, Hk, hB, (OwnT.nil _ _ _ _ _)⟩
 ·rw [h15]
  have p20 := of_bne_f h15
  have hw : wrongE o = 0 := by omega
  refine qkQ ?_
  refine qs ?_
  refine q_draw (fun wz => Keeps none_ w14 wz) 12 (by kernel_rfl) (by kernel_rfl) (by kernel_rfl) (fun w21 K22 _ _ => ⟨K22, ?_⟩)
  replace K0 := K0.tn K22
  replace Hb := Hb.kn K22
  replace Hm := Hm.kn K22
  replace Hk := Hk.kn K22
  replace H4 := H4.kn K22
  replace H10 := H10.kn K22
  refine Dr.strong (S' := (fun wz => Keeps none_ w21 wz)) (Keeps.refl w21) (fun wz hx => K22.trans hx (fun i _ h => h) (fun _ _ h => h)) ?_
  refine dkQ 9 [0, 1, 2] [(0, ptr b), (3, ptr b1), (4, ptr b7), (24, ptr b)] ?_
  refine dtQ 3 (Value.map (some mb)) 25 (fun wz hS => rld 107 b 0 (Hb.keep hS (fun h => h))) rfl ?_
  refine dkQ 7 [4] [(0, ptr b), (3, ptr b1), (4, ptr b7), (25, .map (some mb)), (26, .pointer (some ⟨b1, 1, none⟩))] ?_
  refine dtQ 5 (Value.string (str o.frm)) 27 (fun wz hS => rld 9 b1 1 (H4.keep hS (fun h => h))) rfl ?_
  rcases hg23 : getM m o.frm with _ | y24
  ·skip
   have hw25 := hL.got_none hg23
   refine dtQ 6 (Value.tuple #[(i64 0), (Value.bool false)]) 28 (fun wz hS => Runs.lookup_none (ok := true) (z := (i64 0)) KT Tryd.underlying107 (by kernel_rfl) (Hm.keep hS (fun h => h)) hg23 (by kernel_rfl)) rfl ?_
   refine dkQ 0 [7, 8, 9, 10, 11] [(0, ptr b), (3, ptr b1), (4, ptr b7), (6, i64 0), (7, .bool false)] ?_
   refine Dr.done (by kernel_rfl) ?_
   refine qs ?_
   refine qsg ?_
   refine og 1 [(0, ptr b), (3, ptr b1), (4, ptr b7), (6, i64 0), (7, .bool false), (31, ptr b1)] 1 ?_
   refine ogo (i64 o.kind) 32 (rld 3 b1 0 H4) rfl ?_
   refine od ?_
   refine q_block (id := 0) (by kernel_rfl) ?_
   refine qsg ?_
   refine ogd 2 [(0, ptr b), (3, ptr b1), (4, ptr b7), (6, i64 0), (7, .bool false), (32, i64 o.kind), (33, .bool (o.kind == 7))] ?_
   refine qcQ 33 (o.kind == 7) rfl (fun h26 => ?_) (fun h26 => ?_)
   ·rw [h26]
    have p27 := of_beq_t h26
    refine qsg ?_
    refine og 1 [(0, ptr b), (3, ptr b1), (4, ptr b7), (6, i64 0), (7, .bool false), (32, i64 o.kind), (35, (agg [(i64 0), (i64 0), (Value.slice none 0 0)]))] 1 ?_
    refine oput 28 b7 [(i64 0), (i64 0), (Value.slice none 0 0)] H10 rfl (fun w28 H29 K30 => ?_)
    replace K0 := K0.t1 K30 fun _ => by show b7 = mb ∨ b7 = kb; omega
    replace Hm := Hm.k1 K30 (by omega)
    replace Hk := Hk.k1 K30 (by omega)
    refine od ?_
    refine qtQ ?_
    refine ⟨(agg [(i64 0), (i64 0), (Value.slice none 0 0)]), retv_cell rfl rfl (H29.loads (by kernel_rfl)), ?_⟩
    have e0 := do_move (S := S) (K := K) (o := o) hw (by omega)
    obtain ⟨e1, e2, e3⟩ := e0
    rw [e1, e2, e3]
    exact ⟨_, none, 0, rfl, K0, Hm, Hk, hB, (OwnT.nil _ _ _ _ _)⟩
   ·rw [h26]
    have p31 := of_beq_f h26
    refine qsg ?_
    refine ogd 2 [(0, ptr b), (3, ptr b1), (4, ptr b7), (6, i64 0), (7, .bool false), (32, i64 o.kind), (36, .bool (o.kind == 6))] ?_
    refine qcQ 36 (o.kind == 6) rfl (fun h32 => ?_) (fun h32 => ?_)
    ·rw [h32]
     have p33 := of_beq_t h32
     refine qsg ?_
     refine og 1 [(0, ptr b), (3, ptr b1), (4, ptr b7), (6, i64 0), (7, .bool false), (32, i64 o.kind), (38, ptr b)] 1 ?_
     refine ocQ 39 (rows_calls _ b mb kb m S Hb Hm (by omega) hL (by omega)) ?_
     rintro _ w36 ⟨A34, c35, rfl, K37, hO38⟩
     have ob44 : ∀ i, Ow (.slice A34 S.length c35) i → i ≠ b7 := fun i hi => by have := (World.ownsRow.lt hO38 i hi).1; have := H10.lt; omega
     have O39 := own_base hO38 K0.size
     refine ⟨_, _, rfl, rfl, ?_⟩
     replace K0 := K0.tn K37
     replace Hm := Hm.kn K37
     replace Hk := Hk.kn K37
     replace H10 := H10.kn K37
     refine og 1 [(0, ptr b), (3, ptr b1), (4, ptr b7), (6, i64 0), (7, .bool false), (32, i64 o.kind), (40, (agg [(i64 0), (i64 0), (Value.slice A34 S.length c35)]))] 3 ?_
     refine oput 28 b7 [(i64 0), (i64 0), (Value.slice A34 S.length c35)] H10 rfl (fun w45 H46 K47 => ?_)
     replace K0 := K0.t1 K47 fun _ => by show b7 = mb ∨ b7 = kb; omega
     replace Hm := Hm.k1 K47 (by omega)
     replace Hk := Hk.k1 K47 (by omega)
     replace O39 := own_keep O39 K47 (fun i hi => by have := ob44 i hi; omega)
     refine od ?_
     refine qtQ ?_
     refine ⟨(agg [(i64 0), (i64 0), (Value.slice A34 S.length c35)]), retv_cell rfl rfl (H46.loads (by kernel_rfl)), ?_⟩
     have e0 := do_audit (S := S) (K := K) (o := o) hw (by omega)
     obtain ⟨e1, e2, e3⟩ := e0
     rw [e1, e2, e3]
     exact ⟨_, A34, c35, rfl, K0, Hm, Hk, hB, O39⟩
    ·rw [h32]
     have p48 := of_beq_f h32
     refine qsg ?_
     refine ogd 2 [(0, ptr b), (3, ptr b1), (4, ptr b7), (6, i64 0), (7, .bool false), (41, .bool (o.kind == 5))] ?_
     refine qcQ 41 (o.kind == 5) rfl (fun h49 => ?_) (fun h49 => ?_)
     ·rw [h49]
      have p50 := of_beq_t h49
      refine qs ?_
      refine qsg ?_
      refine ogd 2 [(0, ptr b), (3, ptr b1), (4, ptr b7), (6, i64 0), (7, .bool false), (44, .bool true)] ?_
      refine q_then (o := .tmp 44) (by kernel_rfl) rfl ?_
      refine qsg ?_
      refine og 1 [(0, ptr b), (3, ptr b1), (4, ptr b7), (6, i64 0), (7, .bool false), (45, (agg [(i64 40), (i64 0), (Value.slice none 0 0)]))] 1 ?_
      refine oput 28 b7 [(i64 40), (i64 0), (Value.slice none 0 0)] H10 rfl (fun w51 H52 K53 => ?_)
      replace K0 := K0.t1 K53 fun _ => by show b7 = mb ∨ b7 = kb; omega
      replace Hm := Hm.k1 K53 (by omega)
      replace Hk := Hk.k1 K53 (by omega)
      refine od ?_
      refine qtQ ?_
      refine ⟨(agg [(i64 40), (i64 0), (Value.slice none 0 0)]), retv_cell rfl rfl (H52.loads (by kernel_rfl)), ?_⟩
      have e0 := do_bal_none (S := S) (K := K) (o := o) hw (by omega) hw25
      obtain ⟨e1, e2, e3⟩ := e0
      rw [e1, e2, e3]
      exact ⟨_, none, 0, rfl, K0, Hm, Hk, hB, (OwnT.nil _ _ _ _ _)⟩
     ·rw [h49]
      have p54 := of_beq_f h49
      have hwa := wrong_act hw (by omega) (by omega) (by omega)
      have hro : -9223372036854775808 ≤ (plainE o).amount ∧ (plainE o).amount ≤ 9223372036854775807 := by unfold plainE; simp only; split <;> omega
      refine qkQ ?_
      refine qsg ?_
      refine ogo (agg (Opm.cells o)) 48 (rld 24 b1 0 H4) rfl ?_
      refine ocQ 49 (plain_calls _ o) ?_
      rintro _ w56 ⟨rfl, K55⟩
      refine ⟨_, _, rfl, rfl, ?_⟩
      replace K0 := K0.tn K55
      replace Hb := Hb.kn K55
      replace Hm := Hm.kn K55
      replace Hk := Hk.kn K55
      replace H4 := H4.kn K55
      replace H10 := H10.kn K55
      refine oput 24 b1 [(i64 o.kind), (Value.string (str o.frm)), (Value.string (str ((plainE o).to))), (i64 ((plainE o).amount)), (Value.string (str o.key)), (i64 0), (i64 0)] H4 rfl (fun w57 H58 K59 => ?_)
      clear H4
      replace K0 := K0.t1 K59 fun _ => by show b1 = mb ∨ b1 = kb; omega
      replace Hb := Hb.k1 K59 (by omega)
      replace Hm := Hm.k1 K59 (by omega)
      replace Hk := Hk.k1 K59 (by omega)
      replace H10 := H10.k1 K59 (by omega)
      refine od ?_
      refine qsg ?_
      refine og 1 [(0, ptr b), (3, ptr b1), (4, ptr b7), (6, i64 0), (7, .bool false), (50, .pointer (some ⟨b1, 1, none⟩))] 1 ?_
      refine ogo (Value.string (str o.frm)) 51 (rld 9 b1 1 H58) rfl ?_
      refine og 1 [(0, ptr b), (3, ptr b1), (4, ptr b7), (6, i64 0), (7, .bool false), (51, .string (str o.frm)), (52, .pointer (some ⟨b1, 4, none⟩))] 3 ?_
      refine ogo (Value.string (str o.key)) 53 (rld 9 b1 4 H58) rfl ?_
      refine og 1 [(0, ptr b), (3, ptr b1), (4, ptr b7), (6, i64 0), (7, .bool false), (54, (agg [(Value.string (str o.frm)), (Value.string (str o.key))]))] 5 ?_
      refine onew (rowL [(Value.string ByteArray.empty), (Value.string ByteArray.empty)] 116) (fun b => (ptr b)) 8 (fun b => rfl) (fun b60 w61 hb62 H63 K64 hs65 => ?_)
      have lb60b : b < b60 := by have := Hb.lt; omega
      have lb60mb : mb < b60 := by have := Hm.lt; omega
      have lb60kb : kb < b60 := by have := Hk.lt; omega
      have lb60b1 : b1 < b60 := by have := H58.lt; omega
      have lb60b7 : b7 < b60 := by have := H10.lt; omega
      have nb60 : w.heap.size ≤ b60 := by have := K0.size; omega
      replace K0 := K0.tn K64
      replace Hb := Hb.kn K64
      replace Hm := Hm.kn K64
      replace Hk := Hk.kn K64
      replace H58 := H58.kn K64
      replace H10 := H10.kn K64
      clear K64 hs65
      refine oput 116 b60 [(Value.string (str o.frm)), (Value.string (str o.key))] H63 rfl (fun w66 H67 K68 => ?_)
      replace K0 := K0.t1 K68 fun _ => by show b60 = mb ∨ b60 = kb; omega
      replace Hb := Hb.k1 K68 (by omega)
      replace Hm := Hm.k1 K68 (by omega)
      replace Hk := Hk.k1 K68 (by omega)
      replace H58 := H58.k1 K68 (by omega)
      replace H10 := H10.k1 K68 (by omega)
      refine od ?_
      refine qs ?_
      refine qs ?_
      refine q_draw (fun wz => Keeps none_ w66 wz) 12 (by kernel_rfl) (by kernel_rfl) (by kernel_rfl) (fun w69 K70 _ _ => ⟨K70, ?_⟩)
      replace K0 := K0.tn K70
      replace Hb := Hb.kn K70
      replace Hm := Hm.kn K70
      replace Hk := Hk.kn K70
      replace H58 := H58.kn K70
      replace H10 := H10.kn K70
      replace H67 := H67.kn K70
      refine Dr.strong (S' := (fun wz => Keeps none_ w69 wz)) (Keeps.refl w69) (fun wz hx => K70.trans hx (fun i _ h => h) (fun _ _ h => h)) ?_
      refine dkQ 9 [0, 1, 2] [(0, ptr b), (3, ptr b1), (4, ptr b7), (6, i64 0), (7, .bool false), (8, ptr b60), (58, .pointer (some ⟨b, 1, none⟩))] ?_
      refine dtQ 3 (Value.map (some kb)) 59 (fun wz hS => rld 108 b 1 (Hb.keep hS (fun h => h))) rfl ?_
      refine dtQ 4 (agg [(Value.string (str o.frm)), (Value.string (str o.key))]) 60 (fun wz hS => rld 116 b60 0 (H67.keep hS (fun h => h))) rfl ?_
      rcases hg71 : getM (K.map KeptM.kv) (o.frm, o.key) with _ | y72
      ·skip
       have hk73 : findK K o.frm o.key = none := hg71
       refine dtQ 5 (Value.tuple #[(agg [(i64 0), (Value.string ByteArray.empty), (Value.string ByteArray.empty), (i64 0), (Value.string ByteArray.empty), (i64 0), (i64 0), (i64 0)]), (Value.bool false)]) 61 (fun wz hS => Runs.lookup_none (ok := true) (z := (agg [(i64 0), (Value.string ByteArray.empty), (Value.string ByteArray.empty), (i64 0), (Value.string ByteArray.empty), (i64 0), (i64 0), (i64 0)])) KT2 Tryd.underlying108 (by kernel_rfl) (Hk.keep hS (fun h => h)) hg71 (by kernel_rfl)) rfl ?_
       refine dkQ 3 [6, 7, 8] [(0, ptr b), (3, ptr b1), (4, ptr b7), (6, i64 0), (7, .bool false), (8, ptr b60), (62, (agg [(i64 0), (Value.string ByteArray.empty), (Value.string ByteArray.empty), (i64 0), (Value.string ByteArray.empty), (i64 0), (i64 0), (i64 0)])), (63, .bool false)] ?_
       refine Dr.new (i := 9) (o := rowL [(i64 0), (Value.string ByteArray.empty), (Value.string ByteArray.empty), (i64 0), (Value.string ByteArray.empty), (i64 0), (i64 0), (i64 0)] 118) (V := fun b => (ptr b)) (by kernel_rfl) (by kernel_rfl) (d := (some 9)) (by kernel_rfl) (fun b => rfl) (fun b74 w75 hb76 H77 K78 hs79 => ?_)
       have lb74b : b < b74 := by have := Hb.lt; omega
       have lb74mb : mb < b74 := by have := Hm.lt; omega
       have lb74kb : kb < b74 := by have := Hk.lt; omega
       have lb74b1 : b1 < b74 := by have := H58.lt; omega
       have lb74b7 : b7 < b74 := by have := H10.lt; omega
       have lb74b60 : b60 < b74 := by have := H67.lt; omega
       have nb74 : w.heap.size ≤ b74 := by have := K0.size; omega
       replace K0 := K0.tn K78
       replace Hb := Hb.kn K78
       replace Hm := Hm.kn K78
       replace Hk := Hk.kn K78
       replace H58 := H58.kn K78
       replace H10 := H10.kn K78
       replace H67 := H67.kn K78
       refine ⟨K78, ?_⟩
       refine Dr.strong (S' := (fun wz => Keeps (fun i => i = b74) w75 wz)) ((Keeps.refl w75).mono (fun _ _ h => h.elim)) (fun wz hx => K78.trans hx (U := none_) (fun i _ h => h) (fun i hi h => by have h : i = b74 := h; exfalso; omega)) ?_
       clear K78 hs79
       refine Dr.put (i := 10) (t := 118) (b := b74) (off := 0) (v := (agg [(i64 0), (Value.string ByteArray.empty), (Value.string ByteArray.empty), (i64 0), (Value.string ByteArray.empty), (i64 0), (i64 0), (i64 0)])) (ys := [(i64 0), (Value.string ByteArray.empty), (Value.string ByteArray.empty), (i64 0), (Value.string ByteArray.empty), (i64 0), (i64 0), (i64 0)]) (by kernel_rfl) (by kernel_rfl) (by kernel_rfl) H77 (by kernel_rfl) (d := none) (by kernel_rfl) rfl (fun w80 H81 K82 => ?_)
       replace K0 := K0.t1 K82 fun _ => by show b74 = mb ∨ b74 = kb; omega
       replace Hb := Hb.k1 K82 (by omega)
       replace Hm := Hm.k1 K82 (by omega)
       replace Hk := Hk.k1 K82 (by omega)
       replace H58 := H58.k1 K82 (by omega)
       replace H10 := H10.k1 K82 (by omega)
       replace H67 := H67.k1 K82 (by omega)
       refine ⟨K82, ?_⟩
       refine Dr.strong (S' := (fun wz => Keeps (fun i => i = b74) w80 wz)) ((Keeps.refl w80).mono (fun _ _ h => h.elim)) (fun wz hx => K82.trans hx (fun i _ h => by have h : i = b74 := h; show i = b74; omega) (fun _ _ h => h)) ?_
       refine dkQ 0 [11] [(0, ptr b), (3, ptr b1), (4, ptr b7), (6, i64 0), (7, .bool false), (8, ptr b60), (9, ptr b74), (10, .bool false)] ?_
       refine Dr.done (by kernel_rfl) ?_
       refine qsg ?_
       refine ogd 1 [(0, ptr b), (3, ptr b1), (4, ptr b7), (6, i64 0), (7, .bool false), (8, ptr b60), (9, ptr b74), (64, .bool false)] ?_
       refine q_else (o := .tmp 64) (by kernel_rfl) rfl ?_
       refine qkQ ?_
       refine qsg ?_
       refine og 1 [(0, ptr b), (3, ptr b1), (4, ptr b7), (6, i64 0), (7, .bool false), (8, ptr b60), (73, ptr b)] 1 ?_
       refine ogo (agg [(i64 o.kind), (Value.string (str o.frm)), (Value.string (str ((plainE o).to))), (i64 ((plainE o).amount)), (Value.string (str o.key)), (i64 0), (i64 0)]) 74 (rld 24 b1 0 H58) rfl ?_
       refine og 2 [(0, ptr b), (3, ptr b1), (4, ptr b7), (8, ptr b60), (73, ptr b), (74, (agg [(i64 o.kind), (Value.string (str o.frm)), (Value.string (str ((plainE o).to))), (i64 ((plainE o).amount)), (Value.string (str o.key)), (i64 0), (i64 0)])), (75, i64 0), (76, .bool false)] 4 ?_
       refine ocQ 77 (act_none _ b mb kb m S (plainE o) Hb Hm (by omega) hL hwa.1 hwa.2.1 (fun q => by have h1 := hwa.2.2.2.1 q; have h2 := plainE_amount o q; omega) hro (fun q => by have h2 := plainE_to o q; rw [h2]; exact (hwa.2.2.2.2 q).2) hg23) ?_
       rintro _ w84 ⟨m83, rfl, K85, Hm86, hL87⟩
       refine ⟨_, _, rfl, rfl, ?_⟩
       replace K0 := K0.t1 K85 fun _ => by show mb = mb ∨ mb = kb; omega
       replace Hb := Hb.k1 K85 (by omega)
       replace Hk := Hk.k1 K85 (by omega)
       replace H58 := H58.k1 K85 (by omega)
       replace H10 := H10.k1 K85 (by omega)
       replace H67 := H67.k1 K85 (by omega)
       refine ogd 1 [(0, ptr b), (3, ptr b1), (4, ptr b7), (8, ptr b60), (11, (i64 (actE S (plainE o))))] ?_
       refine qs ?_
       refine q_draw (fun wz => Keeps (fun i => i = kb) w84 wz) 9 (by kernel_rfl) (by kernel_rfl) (by kernel_rfl) (fun w88 K89 _ _ => ⟨(K89.mono (fun _ _ h => h.elim)), ?_⟩)
       replace K0 := K0.tn K89
       replace Hb := Hb.kn K89
       replace Hm86 := Hm86.kn K89
       replace Hk := Hk.kn K89
       replace H58 := H58.kn K89
       replace H10 := H10.kn K89
       replace H67 := H67.kn K89
       refine Dr.strong (S' := (fun wz => Keeps (fun i => i = kb) w88 wz)) ((Keeps.refl w88).mono (fun _ _ h => h.elim)) (fun wz hx => K89.trans hx (fun i _ h => h.elim) (fun _ _ h => h)) ?_
       refine dkQ 6 [0, 1, 2] [(3, ptr b1), (4, ptr b7), (8, ptr b60), (11, (i64 (actE S (plainE o)))), (80, .pointer (some ⟨b, 1, none⟩))] ?_
       refine dtQ 3 (Value.map (some kb)) 81 (fun wz hS => rld 108 b 1 (Hb.keep hS (by intro h; change b = kb at h; omega))) rfl ?_
       refine dtQ 4 (agg [(Value.string (str o.frm)), (Value.string (str o.key))]) 82 (fun wz hS => rld 116 b60 0 (H67.keep hS (by intro h; change b60 = kb at h; omega))) rfl ?_
       refine dtQ 5 (agg [(i64 o.kind), (Value.string (str o.frm)), (Value.string (str ((plainE o).to))), (i64 ((plainE o).amount)), (Value.string (str o.key)), (i64 0), (i64 0)]) 83 (fun wz hS => rld 24 b1 0 (H58.keep hS (by intro h; change b1 = kb at h; omega))) rfl ?_
       refine dkQ 1 [6, 7] [(4, ptr b7), (11, (i64 (actE S (plainE o)))), (81, .map (some kb)), (82, (agg [(Value.string (str o.frm)), (Value.string (str o.key))])), (85, (agg [(i64 o.kind), (Value.string (str o.frm)), (Value.string (str ((plainE o).to))), (i64 ((plainE o).amount)), (Value.string (str o.key)), (i64 0), (i64 0), (i64 (actE S (plainE o)))]))] ?_
       obtain ⟨w90, hr91, K92, H93⟩ := HasMap.update KT2 Tryd.underlying108 Hk (o.frm, o.key) (⟨(plainE o), actE S (plainE o)⟩ : KeptM)
       refine Dr.goU (i := 8) (by kernel_rfl) (by kernel_rfl) (RunsU.of_update (by kernel_rfl) hr91) (d := none) (by kernel_rfl) rfl K92 ?_
       clear Hk
       replace K0 := K0.t1 K92 fun _ => by show kb = mb ∨ kb = kb; omega
       replace Hm86 := Hm86.k1 K92 (by omega)
       replace H10 := H10.k1 K92 (by omega)
       refine Dr.strong (S' := (fun wz => Keeps (fun i => i = kb) w90 wz)) ((Keeps.refl w90).mono (fun _ _ h => h.elim)) (fun wz hx => K92.trans hx (fun i _ h => by have h : i = kb := h; show i = kb; omega) (fun _ _ h => h)) ?_
       clear K92 hr91
       refine Dr.done (by kernel_rfl) ?_
       refine qsg ?_
       refine og 2 [(4, ptr b7), (87, (agg [(i64 (actE S (plainE o))), (i64 0), (Value.slice none 0 0)]))] 2 ?_
       refine oput 28 b7 [(i64 (actE S (plainE o))), (i64 0), (Value.slice none 0 0)] H10 rfl (fun w94 H95 K96 => ?_)
       replace K0 := K0.t1 K96 fun _ => by show b7 = mb ∨ b7 = kb; omega
       replace Hm86 := Hm86.k1 K96 (by omega)
       replace H93 := H93.k1 K96 (by omega)
       refine od ?_
       refine qtQ ?_
       refine ⟨(agg [(i64 (actE S (plainE o))), (i64 0), (Value.slice none 0 0)]), retv_cell rfl rfl (H95.loads (by kernel_rfl)), ?_⟩
       have e0 := do_fresh (S := S) (K := K) (o := o) hw (by omega) (by omega) (by omega) hk73
       obtain ⟨e1, e2, e3⟩ := e0
       rw [e1, e2, e3]
       exact ⟨_, none, 0, rfl, K0, Hm86, by have h := H93; rwa [show putM (K.map KeptM.kv) (o.frm, o.key) (⟨plainE o, actE S (plainE o)⟩ : KeptM) = _ from putM_kept (x := ⟨plainE o, actE S (plainE o)⟩) hk73] at h, hB.fresh hw (by omega) (by omega) (by omega) hk73 hr hL87, (OwnT.nil _ _ _ _ _)⟩
      ·skip
       have hk97 : findK K o.frm o.key = some y72 := hg71
       have hy98 := hB.ledg.ok _ (findK_some hk97).1
       have hy99 := hy98.why
       have hy100 := hy98.kind
       refine dtQ 5 (Value.tuple #[(agg [(i64 y72.op.kind), (Value.string (str y72.op.frm)), (Value.string (str y72.op.to)), (i64 y72.op.amount), (Value.string (str y72.op.key)), (i64 y72.op.slot), (i64 y72.op.shard), (i64 y72.why)]), (Value.bool true)]) 61 (fun wz hS => Runs.lookup_some (ok := true) (vf := keptv) (a := (⟨y72.op, y72.why⟩ : KeptM)) KT2 Tryd.underlying108 (Hk.keep hS (fun h => h)) hg71 (by kernel_rfl)) rfl ?_
       refine dkQ 3 [6, 7, 8] [(0, ptr b), (3, ptr b1), (4, ptr b7), (6, i64 0), (7, .bool false), (8, ptr b60), (62, (agg [(i64 y72.op.kind), (Value.string (str y72.op.frm)), (Value.string (str y72.op.to)), (i64 y72.op.amount), (Value.string (str y72.op.key)), (i64 y72.op.slot), (i64 y72.op.shard), (i64 y72.why)])), (63, .bool true)] ?_
       refine Dr.new (i := 9) (o := rowL [(i64 0), (Value.string ByteArray.empty), (Value.string ByteArray.empty), (i64 0), (Value.string ByteArray.empty), (i64 0), (i64 0), (i64 0)] 118) (V := fun b => (ptr b)) (by kernel_rfl) (by kernel_rfl) (d := (some 9)) (by kernel_rfl) (fun b => rfl) (fun b101 w102 hb103 H104 K105 hs106 => ?_)
       have lb101b : b < b101 := by have := Hb.lt; omega
       have lb101mb : mb < b101 := by have := Hm.lt; omega
       have lb101kb : kb < b101 := by have := Hk.lt; omega
       have lb101b1 : b1 < b101 := by have := H58.lt; omega
       have lb101b7 : b7 < b101 := by have := H10.lt; omega
       have lb101b60 : b60 < b101 := by have := H67.lt; omega
       have nb101 : w.heap.size ≤ b101 := by have := K0.size; omega
       replace K0 := K0.tn K105
       replace Hm := Hm.kn K105
       replace Hk := Hk.kn K105
       replace H58 := H58.kn K105
       replace H10 := H10.kn K105
       refine ⟨K105, ?_⟩
       refine Dr.strong (S' := (fun wz => Keeps (fun i => i = b101) w102 wz)) ((Keeps.refl w102).mono (fun _ _ h => h.elim)) (fun wz hx => K105.trans hx (U := none_) (fun i _ h => h) (fun i hi h => by have h : i = b101 := h; exfalso; omega)) ?_
       clear K105 hs106
       refine Dr.put (i := 10) (t := 118) (b := b101) (off := 0) (v := (agg [(i64 y72.op.kind), (Value.string (str y72.op.frm)), (Value.string (str y72.op.to)), (i64 y72.op.amount), (Value.string (str y72.op.key)), (i64 y72.op.slot), (i64 y72.op.shard), (i64 y72.why)])) (ys := [(i64 y72.op.kind), (Value.string (str y72.op.frm)), (Value.string (str y72.op.to)), (i64 y72.op.amount), (Value.string (str y72.op.key)), (i64 y72.op.slot), (i64 y72.op.shard), (i64 y72.why)]) (by kernel_rfl) (by kernel_rfl) (by kernel_rfl) H104 (by kernel_rfl) (d := none) (by kernel_rfl) rfl (fun w107 H108 K109 => ?_)
       replace K0 := K0.t1 K109 fun _ => by show b101 = mb ∨ b101 = kb; omega
       replace Hm := Hm.k1 K109 (by omega)
       replace Hk := Hk.k1 K109 (by omega)
       replace H58 := H58.k1 K109 (by omega)
       replace H10 := H10.k1 K109 (by omega)
       refine ⟨K109, ?_⟩
       refine Dr.strong (S' := (fun wz => Keeps (fun i => i = b101) w107 wz)) ((Keeps.refl w107).mono (fun _ _ h => h.elim)) (fun wz hx => K109.trans hx (fun i _ h => by have h : i = b101 := h; show i = b101; omega) (fun _ _ h => h)) ?_
       refine dkQ 0 [11] [(0, ptr b), (3, ptr b1), (4, ptr b7), (6, i64 0), (7, .bool false), (8, ptr b60), (9, ptr b101), (10, .bool true)] ?_
       refine Dr.done (by kernel_rfl) ?_
       refine qsg ?_
       refine ogd 1 [(0, ptr b), (3, ptr b1), (4, ptr b7), (6, i64 0), (7, .bool false), (8, ptr b60), (9, ptr b101), (64, .bool true)] ?_
       refine q_then (o := .tmp 64) (by kernel_rfl) rfl ?_
       refine qs ?_
       refine qsg ?_
       refine og 1 [(0, ptr b), (3, ptr b1), (4, ptr b7), (6, i64 0), (7, .bool false), (8, ptr b60), (9, ptr b101), (65, ptr b101)] 1 ?_
       refine ogo (agg (Opm.cells y72.op)) 66 (rld 24 b101 0 H108) rfl ?_
       refine ogo (agg [(i64 o.kind), (Value.string (str o.frm)), (Value.string (str ((plainE o).to))), (i64 ((plainE o).amount)), (Value.string (str o.key)), (i64 0), (i64 0)]) 67 (rld 24 b1 0 H58) rfl ?_
       refine ogo (Value.bool (!(aggB [(i64 y72.op.kind), (Value.string (str y72.op.frm)), (Value.string (str y72.op.to)), (i64 y72.op.amount), (Value.string (str y72.op.key)), (i64 y72.op.slot), (i64 y72.op.shard)] [(i64 o.kind), (Value.string (str o.frm)), (Value.string (str ((plainE o).to))), (i64 ((plainE o).amount)), (Value.string (str o.key)), (i64 0), (i64 0)]))) 68 (Runs.aggne (t := 24) (by kernel_rfl) (by kernel_rfl)) rfl ?_
       refine od ?_
       refine qcQ 68 (!(aggB [(i64 y72.op.kind), (Value.string (str y72.op.frm)), (Value.string (str y72.op.to)), (i64 y72.op.amount), (Value.string (str y72.op.key)), (i64 y72.op.slot), (i64 y72.op.shard)] [(i64 o.kind), (Value.string (str o.frm)), (Value.string (str ((plainE o).to))), (i64 ((plainE o).amount)), (Value.string (str o.key)), (i64 0), (i64 0)])) rfl (fun h110 => ?_) (fun h110 => ?_)
       ·rw [h110]
        have p111 := bnot_true h110
        refine qsg ?_
        refine og 1 [(0, ptr b), (3, ptr b1), (4, ptr b7), (6, i64 0), (7, .bool false), (8, ptr b60), (9, ptr b101), (69, (agg [(i64 45), (i64 0), (Value.slice none 0 0)]))] 1 ?_
        refine oput 28 b7 [(i64 45), (i64 0), (Value.slice none 0 0)] H10 rfl (fun w112 H113 K114 => ?_)
        replace K0 := K0.t1 K114 fun _ => by show b7 = mb ∨ b7 = kb; omega
        replace Hm := Hm.k1 K114 (by omega)
        replace Hk := Hk.k1 K114 (by omega)
        refine od ?_
        refine qtQ ?_
        refine ⟨(agg [(i64 45), (i64 0), (Value.slice none 0 0)]), retv_cell rfl rfl (H113.loads (by kernel_rfl)), ?_⟩
        have e0 := do_other (S := S) (K := K) (o := o) hw (by omega) (by omega) (by omega) hk97 (bnot_true h110)
        obtain ⟨e1, e2, e3⟩ := e0
        rw [e1, e2, e3]
        exact ⟨_, none, 0, rfl, K0, Hm, Hk, hB, (OwnT.nil _ _ _ _ _)⟩
       ·rw [h110]
        have p115 := bnot_false h110
        refine qkQ ?_
        refine qsg ?_
        refine og 1 [(0, ptr b), (3, ptr b1), (4, ptr b7), (6, i64 0), (7, .bool false), (8, ptr b60), (70, .pointer (some ⟨b101, 7, none⟩))] 1 ?_
        refine ogo (i64 y72.why) 71 (rld 25 b101 7 H108) rfl ?_
        refine og 1 [(0, ptr b), (3, ptr b1), (4, ptr b7), (6, i64 0), (7, .bool false), (8, ptr b60), (72, (agg [(i64 y72.why), (i64 0), (Value.slice none 0 0)]))] 3 ?_
        refine oput 28 b7 [(i64 y72.why), (i64 0), (Value.slice none 0 0)] H10 rfl (fun w116 H117 K118 => ?_)
        replace K0 := K0.t1 K118 fun _ => by show b7 = mb ∨ b7 = kb; omega
        replace Hm := Hm.k1 K118 (by omega)
        replace Hk := Hk.k1 K118 (by omega)
        refine od ?_
        refine qtQ ?_
        refine ⟨(agg [(i64 y72.why), (i64 0), (Value.slice none 0 0)]), retv_cell rfl rfl (H117.loads (by kernel_rfl)), ?_⟩
        have e0 := do_again (S := S) (K := K) (o := o) hw (by omega) (by omega) (by omega) hk97 (bnot_false h110)
        obtain ⟨e1, e2, e3⟩ := e0
        rw [e1, e2, e3]
        exact ⟨_, none, 0, rfl, K0, Hm, Hk, hB, (OwnT.nil _ _ _ _ _)⟩
  ·skip
   obtain ⟨hw119, hr120, hr121⟩ := hL.got_some hg23
   refine dtQ 6 (Value.tuple #[(i64 y24), (Value.bool true)]) 28 (fun wz hS => Runs.lookup_some (ok := true) (vf := ki64) (a := y24) KT Tryd.underlying107 (Hm.keep hS (fun h => h)) hg23 (by kernel_rfl)) rfl ?_
   refine dkQ 0 [7, 8, 9, 10, 11] [(0, ptr b), (3, ptr b1), (4, ptr b7), (6, i64 y24), (7, .bool true)] ?_
   refine Dr.done (by kernel_rfl) ?_
   refine qs ?_
   refine qsg ?_
   refine og 1 [(0, ptr b), (3, ptr b1), (4, ptr b7), (6, i64 y24), (7, .bool true), (31, ptr b1)] 1 ?_
   refine ogo (i64 o.kind) 32 (rld 3 b1 0 H4) rfl ?_
   refine od ?_
   refine q_block (id := 0) (by kernel_rfl) ?_
   refine qsg ?_
   refine ogd 2 [(0, ptr b), (3, ptr b1), (4, ptr b7), (6, i64 y24), (7, .bool true), (32, i64 o.kind), (33, .bool (o.kind == 7))] ?_
   refine qcQ 33 (o.kind == 7) rfl (fun h122 => ?_) (fun h122 => ?_)
   ·rw [h122]
    have p123 := of_beq_t h122
    refine qsg ?_
    refine og 1 [(0, ptr b), (3, ptr b1), (4, ptr b7), (6, i64 y24), (7, .bool true), (32, i64 o.kind), (35, (agg [(i64 0), (i64 0), (Value.slice none 0 0)]))] 1 ?_
    refine oput 28 b7 [(i64 0), (i64 0), (Value.slice none 0 0)] H10 rfl (fun w124 H125 K126 => ?_)
    replace K0 := K0.t1 K126 fun _ => by show b7 = mb ∨ b7 = kb; omega
    replace Hm := Hm.k1 K126 (by omega)
    replace Hk := Hk.k1 K126 (by omega)
    refine od ?_
    refine qtQ ?_
    refine ⟨(agg [(i64 0), (i64 0), (Value.slice none 0 0)]), retv_cell rfl rfl (H125.loads (by kernel_rfl)), ?_⟩
    have e0 := do_move (S := S) (K := K) (o := o) hw (by omega)
    obtain ⟨e1, e2, e3⟩ := e0
    rw [e1, e2, e3]
    exact ⟨_, none, 0, rfl, K0, Hm, Hk, hB, (OwnT.nil _ _ _ _ _)⟩
   ·rw [h122]
    have p127 := of_beq_f h122
    refine qsg ?_
    refine ogd 2 [(0, ptr b), (3, ptr b1), (4, ptr b7), (6, i64 y24), (7, .bool true), (32, i64 o.kind), (36, .bool (o.kind == 6))] ?_
    refine qcQ 36 (o.kind == 6) rfl (fun h128 => ?_) (fun h128 => ?_)
    ·rw [h128]
     have p129 := of_beq_t h128
     refine qsg ?_
     refine og 1 [(0, ptr b), (3, ptr b1), (4, ptr b7), (6, i64 y24), (7, .bool true), (32, i64 o.kind), (38, ptr b)] 1 ?_
     refine ocQ 39 (rows_calls _ b mb kb m S Hb Hm (by omega) hL (by omega)) ?_
     rintro _ w132 ⟨A130, c131, rfl, K133, hO134⟩
     have ob140 : ∀ i, Ow (.slice A130 S.length c131) i → i ≠ b7 := fun i hi => by have := (World.ownsRow.lt hO134 i hi).1; have := H10.lt; omega
     have O135 := own_base hO134 K0.size
     refine ⟨_, _, rfl, rfl, ?_⟩
     replace K0 := K0.tn K133
     replace Hm := Hm.kn K133
     replace Hk := Hk.kn K133
     replace H10 := H10.kn K133
     refine og 1 [(0, ptr b), (3, ptr b1), (4, ptr b7), (6, i64 y24), (7, .bool true), (32, i64 o.kind), (40, (agg [(i64 0), (i64 0), (Value.slice A130 S.length c131)]))] 3 ?_
     refine oput 28 b7 [(i64 0), (i64 0), (Value.slice A130 S.length c131)] H10 rfl (fun w141 H142 K143 => ?_)
     replace K0 := K0.t1 K143 fun _ => by show b7 = mb ∨ b7 = kb; omega
     replace Hm := Hm.k1 K143 (by omega)
     replace Hk := Hk.k1 K143 (by omega)
     replace O135 := own_keep O135 K143 (fun i hi => by have := ob140 i hi; omega)
     refine od ?_
     refine qtQ ?_
     refine ⟨(agg [(i64 0), (i64 0), (Value.slice A130 S.length c131)]), retv_cell rfl rfl (H142.loads (by kernel_rfl)), ?_⟩
     have e0 := do_audit (S := S) (K := K) (o := o) hw (by omega)
     obtain ⟨e1, e2, e3⟩ := e0
     rw [e1, e2, e3]
     exact ⟨_, A130, c131, rfl, K0, Hm, Hk, hB, O135⟩
    ·rw [h128]
     have p144 := of_beq_f h128
     refine qsg ?_
     refine ogd 2 [(0, ptr b), (3, ptr b1), (4, ptr b7), (6, i64 y24), (7, .bool true), (41, .bool (o.kind == 5))] ?_
     refine qcQ 41 (o.kind == 5) rfl (fun h145 => ?_) (fun h145 => ?_)
     ·rw [h145]
      have p146 := of_beq_t h145
      refine qs ?_
      refine qsg ?_
      refine ogd 2 [(0, ptr b), (3, ptr b1), (4, ptr b7), (6, i64 y24), (7, .bool true), (44, .bool false)] ?_
      refine q_else (o := .tmp 44) (by kernel_rfl) rfl ?_
      refine qkQ ?_
      refine qsg ?_
      refine og 2 [(0, ptr b), (3, ptr b1), (4, ptr b7), (6, i64 y24), (7, .bool true), (47, (agg [(i64 0), (i64 y24), (Value.slice none 0 0)]))] 2 ?_
      refine oput 28 b7 [(i64 0), (i64 y24), (Value.slice none 0 0)] H10 rfl (fun w147 H148 K149 => ?_)
      replace K0 := K0.t1 K149 fun _ => by show b7 = mb ∨ b7 = kb; omega
      replace Hm := Hm.k1 K149 (by omega)
      replace Hk := Hk.k1 K149 (by omega)
      refine od ?_
      refine qtQ ?_
      refine ⟨(agg [(i64 0), (i64 y24), (Value.slice none 0 0)]), retv_cell rfl rfl (H148.loads (by kernel_rfl)), ?_⟩
      have e0 := do_bal_some (S := S) (K := K) (o := o) hw (by omega) hw119
      obtain ⟨e1, e2, e3⟩ := e0
      rw [e1, e2, e3]
      exact ⟨_, none, 0, rfl, K0, Hm, Hk, hB, (OwnT.nil _ _ _ _ _)⟩
     ·rw [h145]
      have p150 := of_beq_f h145
      have hwa := wrong_act hw (by omega) (by omega) (by omega)
      have hro : -9223372036854775808 ≤ (plainE o).amount ∧ (plainE o).amount ≤ 9223372036854775807 := by unfold plainE; simp only; split <;> omega
      refine qkQ ?_
      refine qsg ?_
      refine ogo (agg (Opm.cells o)) 48 (rld 24 b1 0 H4) rfl ?_
      refine ocQ 49 (plain_calls _ o) ?_
      rintro _ w152 ⟨rfl, K151⟩
      refine ⟨_, _, rfl, rfl, ?_⟩
      replace K0 := K0.tn K151
      replace Hb := Hb.kn K151
      replace Hm := Hm.kn K151
      replace Hk := Hk.kn K151
      replace H4 := H4.kn K151
      replace H10 := H10.kn K151
      refine oput 24 b1 [(i64 o.kind), (Value.string (str o.frm)), (Value.string (str ((plainE o).to))), (i64 ((plainE o).amount)), (Value.string (str o.key)), (i64 0), (i64 0)] H4 rfl (fun w153 H154 K155 => ?_)
      clear H4
      replace K0 := K0.t1 K155 fun _ => by show b1 = mb ∨ b1 = kb; omega
      replace Hb := Hb.k1 K155 (by omega)
      replace Hm := Hm.k1 K155 (by omega)
      replace Hk := Hk.k1 K155 (by omega)
      replace H10 := H10.k1 K155 (by omega)
      refine od ?_
      refine qsg ?_
      refine og 1 [(0, ptr b), (3, ptr b1), (4, ptr b7), (6, i64 y24), (7, .bool true), (50, .pointer (some ⟨b1, 1, none⟩))] 1 ?_
      refine ogo (Value.string (str o.frm)) 51 (rld 9 b1 1 H154) rfl ?_
      refine og 1 [(0, ptr b), (3, ptr b1), (4, ptr b7), (6, i64 y24), (7, .bool true), (51, .string (str o.frm)), (52, .pointer (some ⟨b1, 4, none⟩))] 3 ?_
      refine ogo (Value.string (str o.key)) 53 (rld 9 b1 4 H154) rfl ?_
      refine og 1 [(0, ptr b), (3, ptr b1), (4, ptr b7), (6, i64 y24), (7, .bool true), (54, (agg [(Value.string (str o.frm)), (Value.string (str o.key))]))] 5 ?_
      refine onew (rowL [(Value.string ByteArray.empty), (Value.string ByteArray.empty)] 116) (fun b => (ptr b)) 8 (fun b => rfl) (fun b156 w157 hb158 H159 K160 hs161 => ?_)
      have lb156b : b < b156 := by have := Hb.lt; omega
      have lb156mb : mb < b156 := by have := Hm.lt; omega
      have lb156kb : kb < b156 := by have := Hk.lt; omega
      have lb156b1 : b1 < b156 := by have := H154.lt; omega
      have lb156b7 : b7 < b156 := by have := H10.lt; omega
      have nb156 : w.heap.size ≤ b156 := by have := K0.size; omega
      replace K0 := K0.tn K160
      replace Hb := Hb.kn K160
      replace Hm := Hm.kn K160
      replace Hk := Hk.kn K160
      replace H154 := H154.kn K160
      replace H10 := H10.kn K160
      clear K160 hs161
      refine oput 116 b156 [(Value.string (str o.frm)), (Value.string (str o.key))] H159 rfl (fun w162 H163 K164 => ?_)
      replace K0 := K0.t1 K164 fun _ => by show b156 = mb ∨ b156 = kb; omega
      replace Hb := Hb.k1 K164 (by omega)
      replace Hm := Hm.k1 K164 (by omega)
      replace Hk := Hk.k1 K164 (by omega)
      replace H154 := H154.k1 K164 (by omega)
      replace H10 := H10.k1 K164 (by omega)
      refine od ?_
      refine qs ?_
      refine qs ?_
      refine q_draw (fun wz => Keeps none_ w162 wz) 12 (by kernel_rfl) (by kernel_rfl) (by kernel_rfl) (fun w165 K166 _ _ => ⟨K166, ?_⟩)
      replace K0 := K0.tn K166
      replace Hb := Hb.kn K166
      replace Hm := Hm.kn K166
      replace Hk := Hk.kn K166
      replace H154 := H154.kn K166
      replace H10 := H10.kn K166
      replace H163 := H163.kn K166
      refine Dr.strong (S' := (fun wz => Keeps none_ w165 wz)) (Keeps.refl w165) (fun wz hx => K166.trans hx (fun i _ h => h) (fun _ _ h => h)) ?_
      refine dkQ 9 [0, 1, 2] [(0, ptr b), (3, ptr b1), (4, ptr b7), (6, i64 y24), (7, .bool true), (8, ptr b156), (58, .pointer (some ⟨b, 1, none⟩))] ?_
      refine dtQ 3 (Value.map (some kb)) 59 (fun wz hS => rld 108 b 1 (Hb.keep hS (fun h => h))) rfl ?_
      refine dtQ 4 (agg [(Value.string (str o.frm)), (Value.string (str o.key))]) 60 (fun wz hS => rld 116 b156 0 (H163.keep hS (fun h => h))) rfl ?_
      rcases hg167 : getM (K.map KeptM.kv) (o.frm, o.key) with _ | y168
      ·skip
       have hk169 : findK K o.frm o.key = none := hg167
       refine dtQ 5 (Value.tuple #[(agg [(i64 0), (Value.string ByteArray.empty), (Value.string ByteArray.empty), (i64 0), (Value.string ByteArray.empty), (i64 0), (i64 0), (i64 0)]), (Value.bool false)]) 61 (fun wz hS => Runs.lookup_none (ok := true) (z := (agg [(i64 0), (Value.string ByteArray.empty), (Value.string ByteArray.empty), (i64 0), (Value.string ByteArray.empty), (i64 0), (i64 0), (i64 0)])) KT2 Tryd.underlying108 (by kernel_rfl) (Hk.keep hS (fun h => h)) hg167 (by kernel_rfl)) rfl ?_
       refine dkQ 3 [6, 7, 8] [(0, ptr b), (3, ptr b1), (4, ptr b7), (6, i64 y24), (7, .bool true), (8, ptr b156), (62, (agg [(i64 0), (Value.string ByteArray.empty), (Value.string ByteArray.empty), (i64 0), (Value.string ByteArray.empty), (i64 0), (i64 0), (i64 0)])), (63, .bool false)] ?_
       refine Dr.new (i := 9) (o := rowL [(i64 0), (Value.string ByteArray.empty), (Value.string ByteArray.empty), (i64 0), (Value.string ByteArray.empty), (i64 0), (i64 0), (i64 0)] 118) (V := fun b => (ptr b)) (by kernel_rfl) (by kernel_rfl) (d := (some 9)) (by kernel_rfl) (fun b => rfl) (fun b170 w171 hb172 H173 K174 hs175 => ?_)
       have lb170b : b < b170 := by have := Hb.lt; omega
       have lb170mb : mb < b170 := by have := Hm.lt; omega
       have lb170kb : kb < b170 := by have := Hk.lt; omega
       have lb170b1 : b1 < b170 := by have := H154.lt; omega
       have lb170b7 : b7 < b170 := by have := H10.lt; omega
       have lb170b156 : b156 < b170 := by have := H163.lt; omega
       have nb170 : w.heap.size ≤ b170 := by have := K0.size; omega
       replace K0 := K0.tn K174
       replace Hb := Hb.kn K174
       replace Hm := Hm.kn K174
       replace Hk := Hk.kn K174
       replace H154 := H154.kn K174
       replace H10 := H10.kn K174
       replace H163 := H163.kn K174
       refine ⟨K174, ?_⟩
       refine Dr.strong (S' := (fun wz => Keeps (fun i => i = b170) w171 wz)) ((Keeps.refl w171).mono (fun _ _ h => h.elim)) (fun wz hx => K174.trans hx (U := none_) (fun i _ h => h) (fun i hi h => by have h : i = b170 := h; exfalso; omega)) ?_
       clear K174 hs175
       refine Dr.put (i := 10) (t := 118) (b := b170) (off := 0) (v := (agg [(i64 0), (Value.string ByteArray.empty), (Value.string ByteArray.empty), (i64 0), (Value.string ByteArray.empty), (i64 0), (i64 0), (i64 0)])) (ys := [(i64 0), (Value.string ByteArray.empty), (Value.string ByteArray.empty), (i64 0), (Value.string ByteArray.empty), (i64 0), (i64 0), (i64 0)]) (by kernel_rfl) (by kernel_rfl) (by kernel_rfl) H173 (by kernel_rfl) (d := none) (by kernel_rfl) rfl (fun w176 H177 K178 => ?_)
       replace K0 := K0.t1 K178 fun _ => by show b170 = mb ∨ b170 = kb; omega
       replace Hb := Hb.k1 K178 (by omega)
       replace Hm := Hm.k1 K178 (by omega)
       replace Hk := Hk.k1 K178 (by omega)
       replace H154 := H154.k1 K178 (by omega)
       replace H10 := H10.k1 K178 (by omega)
       replace H163 := H163.k1 K178 (by omega)
       refine ⟨K178, ?_⟩
       refine Dr.strong (S' := (fun wz => Keeps (fun i => i = b170) w176 wz)) ((Keeps.refl w176).mono (fun _ _ h => h.elim)) (fun wz hx => K178.trans hx (fun i _ h => by have h : i = b170 := h; show i = b170; omega) (fun _ _ h => h)) ?_
       refine dkQ 0 [11] [(0, ptr b), (3, ptr b1), (4, ptr b7), (6, i64 y24), (7, .bool true), (8, ptr b156), (9, ptr b170), (10, .bool false)] ?_
       refine Dr.done (by kernel_rfl) ?_
       refine qsg ?_
       refine ogd 1 [(0, ptr b), (3, ptr b1), (4, ptr b7), (6, i64 y24), (7, .bool true), (8, ptr b156), (9, ptr b170), (64, .bool false)] ?_
       refine q_else (o := .tmp 64) (by kernel_rfl) rfl ?_
       refine qkQ ?_
       refine qsg ?_
       refine og 1 [(0, ptr b), (3, ptr b1), (4, ptr b7), (6, i64 y24), (7, .bool true), (8, ptr b156), (73, ptr b)] 1 ?_
       refine ogo (agg [(i64 o.kind), (Value.string (str o.frm)), (Value.string (str ((plainE o).to))), (i64 ((plainE o).amount)), (Value.string (str o.key)), (i64 0), (i64 0)]) 74 (rld 24 b1 0 H154) rfl ?_
       refine og 2 [(0, ptr b), (3, ptr b1), (4, ptr b7), (8, ptr b156), (73, ptr b), (74, (agg [(i64 o.kind), (Value.string (str o.frm)), (Value.string (str ((plainE o).to))), (i64 ((plainE o).amount)), (Value.string (str o.key)), (i64 0), (i64 0)])), (75, i64 y24), (76, .bool true)] 4 ?_
       refine ocQ 77 (act_some _ b mb kb m S (plainE o) Hb Hm (by omega) hL hwa.1 hwa.2.1 (fun q => by have h1 := hwa.2.2.2.1 q; have h2 := plainE_amount o q; omega) hro (fun q => by have h2 := plainE_to o q; rw [h2]; exact (hwa.2.2.2.2 q).2) y24 hg23) ?_
       rintro _ w180 ⟨m179, rfl, K181, Hm182, hL183⟩
       refine ⟨_, _, rfl, rfl, ?_⟩
       replace K0 := K0.t1 K181 fun _ => by show mb = mb ∨ mb = kb; omega
       replace Hb := Hb.k1 K181 (by omega)
       replace Hk := Hk.k1 K181 (by omega)
       replace H154 := H154.k1 K181 (by omega)
       replace H10 := H10.k1 K181 (by omega)
       replace H163 := H163.k1 K181 (by omega)
       refine ogd 1 [(0, ptr b), (3, ptr b1), (4, ptr b7), (8, ptr b156), (11, (i64 (actE S (plainE o))))] ?_
       refine qs ?_
       refine q_draw (fun wz => Keeps (fun i => i = kb) w180 wz) 9 (by kernel_rfl) (by kernel_rfl) (by kernel_rfl) (fun w184 K185 _ _ => ⟨(K185.mono (fun _ _ h => h.elim)), ?_⟩)
       replace K0 := K0.tn K185
       replace Hb := Hb.kn K185
       replace Hm182 := Hm182.kn K185
       replace Hk := Hk.kn K185
       replace H154 := H154.kn K185
       replace H10 := H10.kn K185
       replace H163 := H163.kn K185
       refine Dr.strong (S' := (fun wz => Keeps (fun i => i = kb) w184 wz)) ((Keeps.refl w184).mono (fun _ _ h => h.elim)) (fun wz hx => K185.trans hx (fun i _ h => h.elim) (fun _ _ h => h)) ?_
       refine dkQ 6 [0, 1, 2] [(3, ptr b1), (4, ptr b7), (8, ptr b156), (11, (i64 (actE S (plainE o)))), (80, .pointer (some ⟨b, 1, none⟩))] ?_
       refine dtQ 3 (Value.map (some kb)) 81 (fun wz hS => rld 108 b 1 (Hb.keep hS (by intro h; change b = kb at h; omega))) rfl ?_
       refine dtQ 4 (agg [(Value.string (str o.frm)), (Value.string (str o.key))]) 82 (fun wz hS => rld 116 b156 0 (H163.keep hS (by intro h; change b156 = kb at h; omega))) rfl ?_
       refine dtQ 5 (agg [(i64 o.kind), (Value.string (str o.frm)), (Value.string (str ((plainE o).to))), (i64 ((plainE o).amount)), (Value.string (str o.key)), (i64 0), (i64 0)]) 83 (fun wz hS => rld 24 b1 0 (H154.keep hS (by intro h; change b1 = kb at h; omega))) rfl ?_
       refine dkQ 1 [6, 7] [(4, ptr b7), (11, (i64 (actE S (plainE o)))), (81, .map (some kb)), (82, (agg [(Value.string (str o.frm)), (Value.string (str o.key))])), (85, (agg [(i64 o.kind), (Value.string (str o.frm)), (Value.string (str ((plainE o).to))), (i64 ((plainE o).amount)), (Value.string (str o.key)), (i64 0), (i64 0), (i64 (actE S (plainE o)))]))] ?_
       obtain ⟨w186, hr187, K188, H189⟩ := HasMap.update KT2 Tryd.underlying108 Hk (o.frm, o.key) (⟨(plainE o), actE S (plainE o)⟩ : KeptM)
       refine Dr.goU (i := 8) (by kernel_rfl) (by kernel_rfl) (RunsU.of_update (by kernel_rfl) hr187) (d := none) (by kernel_rfl) rfl K188 ?_
       clear Hk
       replace K0 := K0.t1 K188 fun _ => by show kb = mb ∨ kb = kb; omega
       replace Hm182 := Hm182.k1 K188 (by omega)
       replace H10 := H10.k1 K188 (by omega)
       refine Dr.strong (S' := (fun wz => Keeps (fun i => i = kb) w186 wz)) ((Keeps.refl w186).mono (fun _ _ h => h.elim)) (fun wz hx => K188.trans hx (fun i _ h => by have h : i = kb := h; show i = kb; omega) (fun _ _ h => h)) ?_
       clear K188 hr187
       refine Dr.done (by kernel_rfl) ?_
       refine qsg ?_
       refine og 2 [(4, ptr b7), (87, (agg [(i64 (actE S (plainE o))), (i64 0), (Value.slice none 0 0)]))] 2 ?_
       refine oput 28 b7 [(i64 (actE S (plainE o))), (i64 0), (Value.slice none 0 0)] H10 rfl (fun w190 H191 K192 => ?_)
       replace K0 := K0.t1 K192 fun _ => by show b7 = mb ∨ b7 = kb; omega
       replace Hm182 := Hm182.k1 K192 (by omega)
       replace H189 := H189.k1 K192 (by omega)
       refine od ?_
       refine qtQ ?_
       refine ⟨(agg [(i64 (actE S (plainE o))), (i64 0), (Value.slice none 0 0)]), retv_cell rfl rfl (H191.loads (by kernel_rfl)), ?_⟩
       have e0 := do_fresh (S := S) (K := K) (o := o) hw (by omega) (by omega) (by omega) hk169
       obtain ⟨e1, e2, e3⟩ := e0
       rw [e1, e2, e3]
       exact ⟨_, none, 0, rfl, K0, Hm182, by have h := H189; rwa [show putM (K.map KeptM.kv) (o.frm, o.key) (⟨plainE o, actE S (plainE o)⟩ : KeptM) = _ from putM_kept (x := ⟨plainE o, actE S (plainE o)⟩) hk169] at h, hB.fresh hw (by omega) (by omega) (by omega) hk169 hr hL183, (OwnT.nil _ _ _ _ _)⟩
      ·skip
       have hk193 : findK K o.frm o.key = some y168 := hg167
       have hy194 := hB.ledg.ok _ (findK_some hk193).1
       have hy195 := hy194.why
       have hy196 := hy194.kind
       refine dtQ 5 (Value.tuple #[(agg [(i64 y168.op.kind), (Value.string (str y168.op.frm)), (Value.string (str y168.op.to)), (i64 y168.op.amount), (Value.string (str y168.op.key)), (i64 y168.op.slot), (i64 y168.op.shard), (i64 y168.why)]), (Value.bool true)]) 61 (fun wz hS => Runs.lookup_some (ok := true) (vf := keptv) (a := (⟨y168.op, y168.why⟩ : KeptM)) KT2 Tryd.underlying108 (Hk.keep hS (fun h => h)) hg167 (by kernel_rfl)) rfl ?_
       refine dkQ 3 [6, 7, 8] [(0, ptr b), (3, ptr b1), (4, ptr b7), (6, i64 y24), (7, .bool true), (8, ptr b156), (62, (agg [(i64 y168.op.kind), (Value.string (str y168.op.frm)), (Value.string (str y168.op.to)), (i64 y168.op.amount), (Value.string (str y168.op.key)), (i64 y168.op.slot), (i64 y168.op.shard), (i64 y168.why)])), (63, .bool true)] ?_
       refine Dr.new (i := 9) (o := rowL [(i64 0), (Value.string ByteArray.empty), (Value.string ByteArray.empty), (i64 0), (Value.string ByteArray.empty), (i64 0), (i64 0), (i64 0)] 118) (V := fun b => (ptr b)) (by kernel_rfl) (by kernel_rfl) (d := (some 9)) (by kernel_rfl) (fun b => rfl) (fun b197 w198 hb199 H200 K201 hs202 => ?_)
       have lb197b : b < b197 := by have := Hb.lt; omega
       have lb197mb : mb < b197 := by have := Hm.lt; omega
       have lb197kb : kb < b197 := by have := Hk.lt; omega
       have lb197b1 : b1 < b197 := by have := H154.lt; omega
       have lb197b7 : b7 < b197 := by have := H10.lt; omega
       have lb197b156 : b156 < b197 := by have := H163.lt; omega
       have nb197 : w.heap.size ≤ b197 := by have := K0.size; omega
       replace K0 := K0.tn K201
       replace Hm := Hm.kn K201
       replace Hk := Hk.kn K201
       replace H154 := H154.kn K201
       replace H10 := H10.kn K201
       refine ⟨K201, ?_⟩
       refine Dr.strong (S' := (fun wz => Keeps (fun i => i = b197) w198 wz)) ((Keeps.refl w198).mono (fun _ _ h => h.elim)) (fun wz hx => K201.trans hx (U := none_) (fun i _ h => h) (fun i hi h => by have h : i = b197 := h; exfalso; omega)) ?_
       clear K201 hs202
       refine Dr.put (i := 10) (t := 118) (b := b197) (off := 0) (v := (agg [(i64 y168.op.kind), (Value.string (str y168.op.frm)), (Value.string (str y168.op.to)), (i64 y168.op.amount), (Value.string (str y168.op.key)), (i64 y168.op.slot), (i64 y168.op.shard), (i64 y168.why)])) (ys := [(i64 y168.op.kind), (Value.string (str y168.op.frm)), (Value.string (str y168.op.to)), (i64 y168.op.amount), (Value.string (str y168.op.key)), (i64 y168.op.slot), (i64 y168.op.shard), (i64 y168.why)]) (by kernel_rfl) (by kernel_rfl) (by kernel_rfl) H200 (by kernel_rfl) (d := none) (by kernel_rfl) rfl (fun w203 H204 K205 => ?_)
       replace K0 := K0.t1 K205 fun _ => by show b197 = mb ∨ b197 = kb; omega
       replace Hm := Hm.k1 K205 (by omega)
       replace Hk := Hk.k1 K205 (by omega)
       replace H154 := H154.k1 K205 (by omega)
       replace H10 := H10.k1 K205 (by omega)
       refine ⟨K205, ?_⟩
       refine Dr.strong (S' := (fun wz => Keeps (fun i => i = b197) w203 wz)) ((Keeps.refl w203).mono (fun _ _ h => h.elim)) (fun wz hx => K205.trans hx (fun i _ h => by have h : i = b197 := h; show i = b197; omega) (fun _ _ h => h)) ?_
       refine dkQ 0 [11] [(0, ptr b), (3, ptr b1), (4, ptr b7), (6, i64 y24), (7, .bool true), (8, ptr b156), (9, ptr b197), (10, .bool true)] ?_
       refine Dr.done (by kernel_rfl) ?_
       refine qsg ?_
       refine ogd 1 [(0, ptr b), (3, ptr b1), (4, ptr b7), (6, i64 y24), (7, .bool true), (8, ptr b156), (9, ptr b197), (64, .bool true)] ?_
       refine q_then (o := .tmp 64) (by kernel_rfl) rfl ?_
       refine qs ?_
       refine qsg ?_
       refine og 1 [(0, ptr b), (3, ptr b1), (4, ptr b7), (6, i64 y24), (7, .bool true), (8, ptr b156), (9, ptr b197), (65, ptr b197)] 1 ?_
       refine ogo (agg (Opm.cells y168.op)) 66 (rld 24 b197 0 H204) rfl ?_
       refine ogo (agg [(i64 o.kind), (Value.string (str o.frm)), (Value.string (str ((plainE o).to))), (i64 ((plainE o).amount)), (Value.string (str o.key)), (i64 0), (i64 0)]) 67 (rld 24 b1 0 H154) rfl ?_
       refine ogo (Value.bool (!(aggB [(i64 y168.op.kind), (Value.string (str y168.op.frm)), (Value.string (str y168.op.to)), (i64 y168.op.amount), (Value.string (str y168.op.key)), (i64 y168.op.slot), (i64 y168.op.shard)] [(i64 o.kind), (Value.string (str o.frm)), (Value.string (str ((plainE o).to))), (i64 ((plainE o).amount)), (Value.string (str o.key)), (i64 0), (i64 0)]))) 68 (Runs.aggne (t := 24) (by kernel_rfl) (by kernel_rfl)) rfl ?_
       refine od ?_
       refine qcQ 68 (!(aggB [(i64 y168.op.kind), (Value.string (str y168.op.frm)), (Value.string (str y168.op.to)), (i64 y168.op.amount), (Value.string (str y168.op.key)), (i64 y168.op.slot), (i64 y168.op.shard)] [(i64 o.kind), (Value.string (str o.frm)), (Value.string (str ((plainE o).to))), (i64 ((plainE o).amount)), (Value.string (str o.key)), (i64 0), (i64 0)])) rfl (fun h206 => ?_) (fun h206 => ?_)
       ·rw [h206]
        have p207 := bnot_true h206
        refine qsg ?_
        refine og 1 [(0, ptr b), (3, ptr b1), (4, ptr b7), (6, i64 y24), (7, .bool true), (8, ptr b156), (9, ptr b197), (69, (agg [(i64 45), (i64 0), (Value.slice none 0 0)]))] 1 ?_
        refine oput 28 b7 [(i64 45), (i64 0), (Value.slice none 0 0)] H10 rfl (fun w208 H209 K210 => ?_)
        replace K0 := K0.t1 K210 fun _ => by show b7 = mb ∨ b7 = kb; omega
        replace Hm := Hm.k1 K210 (by omega)
        replace Hk := Hk.k1 K210 (by omega)
        refine od ?_
        refine qtQ ?_
        refine ⟨(agg [(i64 45), (i64 0), (Value.slice none 0 0)]), retv_cell rfl rfl (H209.loads (by kernel_rfl)), ?_⟩
        have e0 := do_other (S := S) (K := K) (o := o) hw (by omega) (by omega) (by omega) hk193 (bnot_true h206)
        obtain ⟨e1, e2, e3⟩ := e0
        rw [e1, e2, e3]
        exact ⟨_, none, 0, rfl, K0, Hm, Hk, hB, (OwnT.nil _ _ _ _ _)⟩
       ·rw [h206]
        have p211 := bnot_false h206
        refine qkQ ?_
        refine qsg ?_
        refine og 1 [(0, ptr b), (3, ptr b1), (4, ptr b7), (6, i64 y24), (7, .bool true), (8, ptr b156), (70, .pointer (some ⟨b197, 7, none⟩))] 1 ?_
        refine ogo (i64 y168.why) 71 (rld 25 b197 7 H204) rfl ?_
        refine og 1 [(0, ptr b), (3, ptr b1), (4, ptr b7), (6, i64 y24), (7, .bool true), (8, ptr b156), (72, (agg [(i64 y168.why), (i64 0), (Value.slice none 0 0)]))] 3 ?_
        refine oput 28 b7 [(i64 y168.why), (i64 0), (Value.slice none 0 0)] H10 rfl (fun w212 H213 K214 => ?_)
        replace K0 := K0.t1 K214 fun _ => by show b7 = mb ∨ b7 = kb; omega
        replace Hm := Hm.k1 K214 (by omega)
        replace Hk := Hk.k1 K214 (by omega)
        refine od ?_
        refine qtQ ?_
        refine ⟨(agg [(i64 y168.why), (i64 0), (Value.slice none 0 0)]), retv_cell rfl rfl (H213.loads (by kernel_rfl)), ?_⟩
        have e0 := do_again (S := S) (K := K) (o := o) hw (by omega) (by omega) (by omega) hk193 (bnot_false h206)
        obtain ⟨e1, e2, e3⟩ := e0
        rw [e1, e2, e3]
        exact ⟨_, none, 0, rfl, K0, Hm, Hk, hB, (OwnT.nil _ _ _ _ _)⟩
end Go.Proofs.YtnbcghbgeiocbaaDoor
namespace Go.Proofs.YtnbcghbgeiocbaaDoor
open Go.Q Go.RowKit
theorem MClone55_calls (w : World) (mb : Nat) (m : List ((List UInt8) × Int)) (Hm : HasMap w mb kstr ki64 m) : Calls Tryd.prog 55 ⟨[.map (some mb)]⟩ w (fun e w' => ∃ m2, e = .returned (.map (some m2)) ∧ Keeps none_ w w' ∧ HasMap w' m2 kstr ki64 m ∧ m2 = w.heap.size) := by
 obtain ⟨es, clock, hb, hs, he⟩ := Hm
 refine (Go.Proofs.AnyW.maps_Clone Go.Proofs.Tryd.clone55 mb es clock w hb).mono ?_
 rintro e w' ⟨rfl, rfl⟩
 exact ⟨_, rfl, Keeps.alloc _ _, ⟨es, clock, heap_alloc_new _ _, hs, he⟩, rfl⟩
theorem MClone56_calls (w : World) (mb : Nat) (m : List ((List UInt8 × List UInt8) × KeptM)) (Hm : HasMap w mb kpair keptv m) : Calls Tryd.prog 56 ⟨[.map (some mb)]⟩ w (fun e w' => ∃ m2, e = .returned (.map (some m2)) ∧ Keeps none_ w w' ∧ HasMap w' m2 kpair keptv m ∧ m2 = w.heap.size) := by
 obtain ⟨es, clock, hb, hs, he⟩ := Hm
 refine (Go.Proofs.AnyW.maps_Clone Go.Proofs.Tryd.clone56 mb es clock w hb).mono ?_
 rintro e w' ⟨rfl, rfl⟩
 exact ⟨_, rfl, Keeps.alloc _ _, ⟨es, clock, heap_alloc_new _ _, hs, he⟩, rfl⟩
theorem Copy_calls (w : World) (b mb kb : Nat) (m : List (List UInt8 × Int)) (S : List RowM) (K : List KeptM) (Hb : Has w b (rowL [.map (some mb), .map (some kb)] 110)) (Hm : HasMap w mb kstr ki64 m) (Hk : HasMap w kb kpair keptv (K.map KeptM.kv)) (hne : b ≠ mb ∧ b ≠ kb ∧ mb ≠ kb) (hB : LBook m S K) : Calls Tryd.prog 48 ⟨[(ptr b)]⟩ w (fun e w' => ∃ b2 mb2 kb2, e = .returned (ptr b2) ∧ Keeps none_ w w' ∧ Has w' b2 (rowL [.map (some mb2), .map (some kb2)] 110) ∧ HasMap w' mb2 kstr ki64 m ∧ HasMap w' kb2 kpair keptv (K.map KeptM.kv) ∧ w.heap.size ≤ b2 ∧ w.heap.size ≤ mb2 ∧ w.heap.size ≤ kb2 ∧ b2 ≠ mb2 ∧ b2 ≠ kb2 ∧ mb2 ≠ kb2) := by
 have Hbl := Hb.lt
 have Hml := Hm.lt
 have Hkl := Hk.lt
 have hL := hB.lmap
 have K0 : Keeps none_ w w := Keeps.refl w
 refine q_calls Tryd.func48 (by kernel_rfl) (by kernel_rfl) ?_
 refine qsg ?_
 refine odz 1 ?_
 refine qs ?_
 refine qsg ?_
 refine ogd 2 [(0, ptr b), (2, .pointer none), (4, .bool false)] ?_
 refine q_else (o := .tmp 4) (by kernel_rfl) rfl ?_
 refine qkQ ?_
 refine qs ?_
 refine q_draw (fun wz => Keeps none_ w wz) 13 (by kernel_rfl) (by kernel_rfl) (by kernel_rfl) (fun w1 K2 _ _ => ⟨K2, ?_⟩)
 replace K0 := K0.t0 K2
 replace Hb := Hb.kn K2
 replace Hm := Hm.kn K2
 replace Hk := Hk.kn K2
 refine Dr.strong (S' := (fun wz => Keeps none_ w1 wz)) (Keeps.refl w1) (fun wz hx => K2.trans hx (fun i _ h => h) (fun _ _ h => h)) ?_
 clear K2
 refine dkQ 10 [0, 1, 2] [(0, ptr b), (2, .pointer none), (7, ptr b)] ?_
 refine dtQ 3 (Value.map (some mb)) 8 (fun wz hS => rld 107 b 0 (Hb.keep hS (fun h => h))) rfl ?_
 refine dkQ 6 [5, 6, 7] [(2, .pointer none), (8, .map (some mb)), (12, .pointer (some ⟨b, 1, none⟩))] ?_
 refine dtQ 8 (Value.map (some kb)) 13 (fun wz hS => rld 108 b 1 (Hb.keep hS (fun h => h))) rfl ?_
 refine Dr.call (i := 4) (by kernel_rfl) (by kernel_rfl) (d := (some 9)) (by kernel_rfl) (fun _ => MClone55_calls _ mb m Hm) ?_
 rintro _ w4 ⟨mb3, rfl, K5, H6, hq7⟩
 have lmb3b : b < mb3 := by have := Hb.lt; omega
 have lmb3mb : mb < mb3 := by have := Hm.lt; omega
 have lmb3kb : kb < mb3 := by have := Hk.lt; omega
 have nmb3 : w.heap.size ≤ mb3 := by have := K0.size; omega
 replace K0 := K0.t0 K5
 replace Hb := Hb.kn K5
 replace Hm := Hm.kn K5
 replace Hk := Hk.kn K5
 refine ⟨_, _, rfl, rfl, K5, ?_⟩
 refine Dr.strong (S' := (fun wz => Keeps none_ w4 wz)) (Keeps.refl w4) (fun wz hx => K5.trans hx (fun i _ h => h) (fun _ _ h => h)) ?_
 clear K5
 refine Dr.call (i := 9) (by kernel_rfl) (by kernel_rfl) (d := (some 14)) (by kernel_rfl) (fun _ => MClone56_calls _ kb (K.map KeptM.kv) Hk) ?_
 rintro _ w9 ⟨mb8, rfl, K10, H11, hq12⟩
 have lmb8b : b < mb8 := by have := Hb.lt; omega
 have lmb8mb : mb < mb8 := by have := Hm.lt; omega
 have lmb8kb : kb < mb8 := by have := Hk.lt; omega
 have lmb8mb3 : mb3 < mb8 := by have := H6.lt; omega
 have nmb8 : w.heap.size ≤ mb8 := by have := K0.size; omega
 replace K0 := K0.t0 K10
 replace Hb := Hb.kn K10
 replace Hm := Hm.kn K10
 replace Hk := Hk.kn K10
 replace H6 := H6.kn K10
 refine ⟨_, _, rfl, rfl, K10, ?_⟩
 refine Dr.strong (S' := (fun wz => Keeps none_ w9 wz)) (Keeps.refl w9) (fun wz hx => K10.trans hx (fun i _ h => h) (fun _ _ h => h)) ?_
 refine dkQ 2 [10] [(2, .pointer none), (15, (agg [(Value.map (some mb3)), (Value.map (some mb8))]))] ?_
 refine Dr.new (i := 11) (o := rowL [(Value.map (some mb3)), (Value.map (some mb8))] 110) (V := fun b => (ptr b)) (by kernel_rfl) (by kernel_rfl) (d := (some 16)) (by kernel_rfl) (fun b => rfl) (fun b13 w14 hb15 H16 K17 hs18 => ?_)
 have lb13b : b < b13 := by have := Hb.lt; omega
 have lb13mb : mb < b13 := by have := Hm.lt; omega
 have lb13kb : kb < b13 := by have := Hk.lt; omega
 have lb13mb3 : mb3 < b13 := by have := H6.lt; omega
 have lb13mb8 : mb8 < b13 := by have := H11.lt; omega
 have nb13 : w.heap.size ≤ b13 := by have := K0.size; omega
 replace K0 := K0.t0 K17
 replace H6 := H6.kn K17
 replace H11 := H11.kn K17
 refine ⟨K17, ?_⟩
 refine Dr.strong (S' := (fun wz => Keeps none_ w14 wz)) (Keeps.refl w14) (fun wz hx => K17.trans hx (fun i _ h => h) (fun _ _ h => h)) ?_
 clear K17 hs18
 refine dkQ 0 [12] [(2, ptr b13)] ?_
 refine Dr.done (by kernel_rfl) ?_
 refine qtQ ?_
 refine ⟨(ptr b13), retv_tmp rfl rfl, ?_⟩
 exact ⟨b13, mb3, mb8, rfl, K0, H16, H6, H11, nb13, nmb3, nmb8, by omega, by omega, by omega⟩
end Go.Proofs.YtnbcghbgeiocbaaDoor
namespace Go.Proofs.YtnbcghbgeiocbaaDoor
open Go.Q Go.RowKit
set_option maxHeartbeats 4000000 in
theorem next_walk (w : World) (ln m0 b2 b3 : Nat) (LA : Option Addr) (lc : Nat) (l : List HC) (AA : Option Addr) (ac : Nat) (a : List Nat) (OA : Option Addr) (oc : Nat) (o : List Nat) (d : Nat) (lf : Int) (b mb kb : Nat) (m : List (List UInt8 × Int)) (S : List RowM) (K : List KeptM) (T G : Nat → Prop) (J : Nat → World → Prop) (Hx2 : Has w b2 (rowL [(Value.slice LA l.length lc), (Value.slice AA a.length ac)] 68)) (Hx3 : Has w b3 (rowL [(Value.slice OA o.length oc), (Value.int IntKind.u64 ((d : Nat) : Int)), (i64 lf), (ptr b)] 73)) (Hb : Has w b (rowL [.map (some mb), .map (some kb)] 110)) (Hm : HasMap w mb kstr ki64 m) (Hk : HasMap w kb kpair keptv (K.map KeptM.kv)) (hne : b ≠ mb ∧ b ≠ kb ∧ mb ≠ kb) (hB : LBook m S K) (hbs : b2 ≠ b3 ∧ b ≠ b2 ∧ b ≠ b3) (hRL : RdT w 13 HC.cells (Value.slice LA l.length lc) l) (hRA : RdT w 1 iN (Value.slice AA a.length ac) a) (hal : a.length = l.length) (hRO : RdT w 1 iN (Value.slice OA o.length oc) o) (hG : RowsE w HC.rv HC.rows G l) (ho : ∀ x ∈ l, -9223372036854775808 ≤ x.c.op.amount ∧ x.c.op.amount ≤ 9223372036854775807) (hT0 : ∀ i, T i → i ≠ b2 ∧ i ≠ b3 ∧ i ≠ b ∧ i ≠ mb ∧ i ≠ kb) (hF : ∀ i, (((Value.slice LA l.length lc)).ownBlock = some i ∨ ((Value.slice AA a.length ac)).ownBlock = some i ∨ ((Value.slice OA o.length oc)).ownBlock = some i ∨ G i) → i < w.heap.size ∧ ¬ T i) (h8 : l.length ≤ 8) (hok : SrOk (XS l a) (⟨o, d, lf, (S, K)⟩ : Sr LS_)) (hJ : ∀ k W W', J k W → Keeps none_ W W' → J k W') (hY : ∀ k v Wp W1, J k Wp → Keeps none_ Wp W1 → w.heap.size ≤ Wp.heap.size → k < ((probH (XS l a)).nexts (⟨o, d, lf, (S, K)⟩ : Sr LS_)).length → nextA 110 (XS l a) (⟨o, d, lf, (S, K)⟩ : Sr LS_) Wp.heap.size k v W1 → YieldAt Fence.wide m0 Tryd.prog ln #[v] W1 fun e W' => e = .returned (.bool true) ∧ J (k + 1) W' ∧ Keeps T W1 W') (h0 : J 0 w) : Calls Tryd.prog 47 ⟨[(Value.func (Fn.yield ln) #[] #[]), (ptr b2), (ptr b3)]⟩ w (fun e w' => (∃ v, e = .returned v) ∧ J ((probH (XS l a)).nexts (⟨o, d, lf, (S, K)⟩ : Sr LS_)).length w') := by
 have Hbl := Hb.lt
 have Hml := Hm.lt
 have Hkl := Hk.lt
 have hL := hB.lmap
 have Hx2l := Hx2.lt
 have Hx3l := Hx3.lt
 have hTb : ∀ i, T i → i ≠ b := fun i h => by have := hT0 i h; omega
 have hTmb : ∀ i, T i → i ≠ mb := fun i h => by have := hT0 i h; omega
 have hTkb : ∀ i, T i → i ≠ kb := fun i h => by have := hT0 i h; omega
 have hTb2 : ∀ i, T i → i ≠ b2 := fun i h => by have := hT0 i h; omega
 have hTb3 : ∀ i, T i → i ≠ b3 := fun i h => by have := hT0 i h; omega
 have hFL : ∀ i, Ow (.slice LA l.length lc) i → i < w.heap.size ∧ ¬ T i := fun i h => hF i (.inl h)
 have hFA : ∀ i, Ow (.slice AA a.length ac) i → i < w.heap.size ∧ ¬ T i := fun i h => hF i (.inr (.inl h))
 have hFO : ∀ i, Ow (.slice OA o.length oc) i → i < w.heap.size ∧ ¬ T i := fun i h => hF i (.inr (.inr (.inl h)))
 have hFG : ∀ i, G i → i < w.heap.size ∧ ¬ T i := fun i h => hF i (.inr (.inr (.inr h)))
 have hFA1 : ∀ i, Ow (.slice AA a.length ac) i → i < w.heap.size := fun i h => (hFA i h).1
 have hFO1 : ∀ i, Ow (.slice OA o.length oc) i → i < w.heap.size := fun i h => (hFO i h).1
 have hlen := hok.len
 rw [xs_len hal] at hlen
 simp only at hlen
 have hd64 : d < 18446744073709551616 := hok.d64 (by rw [xs_len hal]; exact h8)
 have hSle := hB.ledg.le
 have K0 : Keeps (fun i => T i) w w := (Keeps.refl w).mono (fun _ _ h => h.elim)
 refine qr_calls (m0 + 1) Tryd.func47 (by kernel_rfl) (by kernel_rfl) ?_
 refine qr_scope (by kernel_rfl) ?_
 refine rsQ ?_
 refine qr_label (by kernel_rfl) ?_
 refine rsg Open.wide ?_
 refine og 1 [(0, .func (Fn.yield ln) #[] #[]), (1, ptr b2), (2, ptr b3), (11, ptr b2)] 1 ?_
 refine ogo (Value.slice LA l.length lc) 12 (rld 33 b2 0 Hx2) rfl ?_
 refine ogd 2 [(0, .func (Fn.yield ln) #[] #[]), (1, ptr b2), (2, ptr b3), (12, .slice LA l.length lc), (13, i64 ↑l.length), (14, i64 0)] ?_
 refine qr_block (id := 0) (by kernel_rfl) ?_
 refine qr_keep (R := [(0, .func (Fn.yield ln) #[] #[]), (1, ptr b2), (2, ptr b3), (12, .slice LA l.length lc), (13, i64 ↑l.length), (14, i64 0)]) (by kernel_rfl) ?_
 refine qr_loop (fun (i : Nat) (ds : List Deferred) L (wx : World) => ds = [] ∧ L = [(0, (Value.func (Fn.yield ln) #[] #[])), (1, (ptr b2)), (2, (ptr b3)), (12, (Value.slice LA l.length lc)), (13, (i64 ((l.length : Nat) : Int))), (14, (i64 ((i : Nat) : Int)))] ∧ J ((probH (XS l a)).nth (⟨o, d, lf, (S, K)⟩ : Sr LS_) i) wx ∧ i ≤ l.length ∧ Keeps (fun i => T i) w wx ∧ Has wx b (rowL [(Value.map (some mb)), (Value.map (some kb))] 110) ∧ HasMap wx mb kstr ki64 m ∧ HasMap wx kb kpair keptv (K.map KeptM.kv) ∧ Has wx b2 (rowL [(Value.slice LA l.length lc), (Value.slice AA a.length ac)] 68) ∧ Has wx b3 (rowL [(Value.slice OA o.length oc), (Value.int IntKind.u64 ((d : Nat) : Int)), (i64 lf), (ptr b)] 73)) (fun (i : Nat) => l.length - i) 0 (by kernel_rfl) ⟨rfl, rfl, h0, Nat.zero_le _, K0, Hb, Hm, Hk, Hx2, Hx3⟩ ?_
 clear Hb Hm Hk Hx2 Hx3 K0
 rintro i _ _ w1 ⟨rfl, rfl, hj, hi, K2, H3, H4, H5, H6, H7⟩
 have hR8 := Rd.keep (by decide) hRL K2 (fun i hi => (hFL i hi).2)
 have hcx : Keeps none_ w1 w1 := Keeps.refl _
 have hWw : w.heap.size ≤ w1.heap.size := K2.size
 refine rsg Open.wide ?_
 refine ogd 1 [(0, .func (Fn.yield ln) #[] #[]), (1, ptr b2), (2, ptr b3), (12, .slice LA l.length lc), (13, i64 ↑l.length), (14, i64 ↑i), (15, (Value.bool (decide (((i : Nat) : Int) < ((l.length : Nat) : Int)))))] ?_
 refine rsQ ?_
 refine rcQ 15 (decide (((i : Nat) : Int) < ((l.length : Nat) : Int))) rfl (fun h11 => ?_) (fun h11 => ?_)
 ·rw [h11]
  have p12 := of_decide_eq_true h11
  refine rkQ ?_
  refine rsQ ?_
  refine qr_block (id := 1) (by kernel_rfl) ?_
  refine rsg Open.wide ?_
  refine og 1 [(0, .func (Fn.yield ln) #[] #[]), (1, ptr b2), (2, ptr b3), (12, .slice LA l.length lc), (13, i64 ↑l.length), (14, i64 ↑i), (16, i64 ↑i)] 1 ?_
  obtain ⟨x, hx⟩ : ∃ x, l[i]? = some x := ⟨_, List.getElem?_eq_getElem (by omega)⟩
  obtain ⟨rb13, ro14, hA15⟩ := Rd.addr hR8 (by omega)
  refine Ops.go (by kernel_rfl) (Runs.ixSliceE (k := IntKind.i64) (t := 33) (len := l.length) (cap := lc) (s := 13) (off' := ro14 + i * 13) (i := ((i : Nat) : Int)) hA15 (by kernel_rfl) (by kernel_rfl) (by omega) (by omega) (by omega)) (d := (some 17)) (by kernel_rfl) rfl ?_
  refine ogo (agg (HC.cells x)) 18 (Runs.load (t := 43) (a := ⟨rb13, ro14 + i * 13, none⟩) (by kernel_rfl) (RdT.ld (f := HC.cells) (x := x) HC.two hR8 (by kernel_rfl) (by kernel_rfl) hA15 hx)) rfl ?_
  refine onew (rowL [(i64 0), (Value.string ByteArray.empty), (Value.string ByteArray.empty), (i64 0), (Value.string ByteArray.empty), (i64 0), (i64 0), (i64 0), (i64 0), (Value.bool false), (i64 0), (i64 0), (Value.slice none 0 0)] 43) (fun b => (ptr b)) 5 (fun b => rfl) (fun b16 w17 hb18 H19 K20 hs21 => ?_)
  have lb16b : b < b16 := by have := H3.lt; omega
  have lb16mb : mb < b16 := by have := H4.lt; omega
  have lb16kb : kb < b16 := by have := H5.lt; omega
  have lb16b2 : b2 < b16 := by have := H6.lt; omega
  have lb16b3 : b3 < b16 := by have := H7.lt; omega
  have nb16 : w.heap.size ≤ b16 := by have := K2.size; omega
  have ox22 : w1.heap.size ≤ b16 := by have := hcx.size; omega
  replace K2 := K2.tn K20
  replace H3 := H3.kn K20
  replace H4 := H4.kn K20
  replace H5 := H5.kn K20
  replace H6 := H6.kn K20
  replace H7 := H7.kn K20
  replace hcx := hcx.trans K20 (fun _ _ h => h) (fun _ _ h => h)
  clear K20 hs21
  refine og 1 [(0, .func (Fn.yield ln) #[] #[]), (1, ptr b2), (2, ptr b3), (4, i64 ↑i), (5, ptr b16), (12, .slice LA l.length lc), (13, i64 ↑l.length), (14, i64 ↑i), (18, (agg (HC.cells x)))] 5 ?_
  refine oput 43 b16 (HC.cells x) H19 rfl (fun w23 H24 K25 => ?_)
  replace K2 := K2.t1 K25 fun _ => by omega
  replace H3 := H3.k1 K25 (by omega)
  replace H4 := H4.k1 K25 (by omega)
  replace H5 := H5.k1 K25 (by omega)
  replace H6 := H6.k1 K25 (by omega)
  replace H7 := H7.k1 K25 (by omega)
  replace hcx := Keeps.trans hcx K25 (U := none_) (fun _ _ h => h) (fun i hi hs => by have hs : i = b16 := hs; exfalso; have := ox22; omega)
  refine od ?_
  refine rsQ ?_
  refine rsg Open.wide ?_
  refine og 1 [(0, .func (Fn.yield ln) #[] #[]), (1, ptr b2), (2, ptr b3), (4, i64 ↑i), (5, ptr b16), (12, .slice LA l.length lc), (13, i64 ↑l.length), (14, i64 ↑i), (19, .pointer (some ⟨b3, 1, none⟩))] 1 ?_
  refine ogo (Value.int IntKind.u64 ((d : Nat) : Int)) 20 (rld 71 b3 1 H7) rfl ?_
  refine og 1 [(0, .func (Fn.yield ln) #[] #[]), (1, ptr b2), (2, ptr b3), (4, i64 ↑i), (5, ptr b16), (12, .slice LA l.length lc), (13, i64 ↑l.length), (14, i64 ↑i), (20, (Value.int IntKind.u64 ((d : Nat) : Int))), (21, i64 ↑i)] 3 ?_
  refine ogo (Value.int IntKind.u64 ((d / 2 ^ i : Nat) : Int)) 22 (Runs.int (op := .shr) (t := 71) (by kernel_rfl) (run_shrN (k := IntKind.i64) (i := i) (s := ((i : Nat) : Int)) rfl (by omega))) rfl ?_
  refine ogo (Value.int IntKind.u64 (((d / 2 ^ i) % 2 : Nat) : Int)) 23 (Runs.int (op := .and) (t := 71) (by kernel_rfl) (run_and1 (div_lt64 (by omega)))) rfl ?_
  refine ogd 1 [(0, .func (Fn.yield ln) #[] #[]), (1, ptr b2), (2, ptr b3), (4, i64 ↑i), (5, ptr b16), (12, .slice LA l.length lc), (13, i64 ↑l.length), (14, i64 ↑i), (24, (Value.bool ((((d / 2 ^ i) % 2 : Nat) : Int) == 1)))] ?_
  refine rcQ 24 ((((d / 2 ^ i) % 2 : Nat) : Int) == 1) rfl (fun h26 => ?_) (fun h26 => ?_)
  ·rw [h26]
   have p27 := of_beq_t h26
   have hbit : d.testBit i = true := bit_one.1 (by omega)
   refine qr_exit (id := 1) (by kernel_rfl) ?_
   refine rgQ Open.wide ?_
   refine oid 2 (fun z => [(0, .func (Fn.yield ln) #[] #[]), (1, ptr b2), (2, ptr b3), (12, .slice LA l.length lc), (13, i64 ↑l.length), (14, i64 z)]) i ?_
   exact ⟨i + 1, ⟨rfl, rfl, (by rw [Prob.nth_none (one_done hbit)]; exact hJ _ _ _ hj hcx), (by omega), K2, H3, H4, H5, H6, H7⟩, (show l.length - (i + 1) < l.length - i from by omega)⟩
  ·rw [h26]
   have p29 := of_beq_f h26
   have hbit : d.testBit i = false := bit_zero.1 (by omega)
   refine rkQ ?_
   refine rsQ ?_
   refine rsg Open.wide ?_
   refine og 1 [(0, .func (Fn.yield ln) #[] #[]), (1, ptr b2), (2, ptr b3), (4, i64 ↑i), (5, ptr b16), (12, .slice LA l.length lc), (13, i64 ↑l.length), (14, i64 ↑i), (25, ptr b2)] 1 ?_
   refine ogo (Value.slice LA l.length lc) 26 (rld 33 b2 0 H6) rfl ?_
   refine ogd 2 [(0, .func (Fn.yield ln) #[] #[]), (1, ptr b2), (2, ptr b3), (4, i64 ↑i), (5, ptr b16), (12, .slice LA l.length lc), (13, i64 ↑l.length), (14, i64 ↑i), (26, .slice LA l.length lc), (27, i64 ↑l.length), (28, i64 0)] ?_
   refine qr_block (id := 2) (by kernel_rfl) ?_
   refine qr_keep (R := [(0, .func (Fn.yield ln) #[] #[]), (1, ptr b2), (2, ptr b3), (4, i64 ↑i), (5, ptr b16), (12, .slice LA l.length lc), (13, i64 ↑l.length), (14, i64 ↑i), (26, .slice LA l.length lc), (27, i64 ↑l.length), (28, i64 0)]) (by kernel_rfl) ?_
   refine qr_loop (fun (kk : Nat) (ds : List Deferred) L (wx : World) => ds = [] ∧ L = [(0, (Value.func (Fn.yield ln) #[] #[])), (1, (ptr b2)), (2, (ptr b3)), (4, (i64 ((i : Nat) : Int))), (5, (ptr b16)), (12, (Value.slice LA l.length lc)), (13, (i64 ((l.length : Nat) : Int))), (14, (i64 ((i : Nat) : Int))), (26, (Value.slice LA l.length lc)), (27, (i64 ((l.length : Nat) : Int))), (28, (i64 ((kk : Nat) : Int)))] ∧ Keeps none_ w1 wx ∧ w1.heap.size ≤ b16 ∧ (∀ j z, j < kk → l[j]? = some z → j ≠ i → d.testBit j = false → aheadH z.c x.c = false) ∧ kk ≤ l.length ∧ Keeps (fun i => T i) w wx ∧ Has wx b (rowL [(Value.map (some mb)), (Value.map (some kb))] 110) ∧ HasMap wx mb kstr ki64 m ∧ HasMap wx kb kpair keptv (K.map KeptM.kv) ∧ Has wx b2 (rowL [(Value.slice LA l.length lc), (Value.slice AA a.length ac)] 68) ∧ Has wx b3 (rowL [(Value.slice OA o.length oc), (Value.int IntKind.u64 ((d : Nat) : Int)), (i64 lf), (ptr b)] 73) ∧ Has wx b16 (rowL (HC.cells x) 43)) (fun (kk : Nat) => l.length - kk) 0 (by kernel_rfl) ⟨rfl, rfl, hcx, ox22, (fun j z hj => absurd hj (Nat.not_lt_zero _)), Nat.zero_le _, K2, H3, H4, H5, H6, H7, H24⟩ ?_
   clear H3 H4 H5 H6 H7 H24 hcx hR8 K2
   rintro kk _ _ w30 ⟨rfl, rfl, hcx, ob5, hwt, hkk, K31, H32, H33, H34, H35, H36, H37⟩
   have hR38 := Rd.keep (by decide) hRL K31 (fun i hi => (hFL i hi).2)
   have hR39 := Rd.keep (by decide) hRA K31 (fun i hi => (hFA i hi).2)
   have hR40 := Rd.keep (by decide) hRO K31 (fun i hi => (hFO i hi).2)
   refine rsg Open.wide ?_
   refine ogd 1 [(0, .func (Fn.yield ln) #[] #[]), (1, ptr b2), (2, ptr b3), (4, i64 ↑i), (5, ptr b16), (12, .slice LA l.length lc), (13, i64 ↑l.length), (14, i64 ↑i), (26, .slice LA l.length lc), (27, i64 ↑l.length), (28, i64 ↑kk), (29, (Value.bool (decide (((kk : Nat) : Int) < ((l.length : Nat) : Int)))))] ?_
   refine rsQ ?_
   refine rcQ 29 (decide (((kk : Nat) : Int) < ((l.length : Nat) : Int))) rfl (fun h41 => ?_) (fun h41 => ?_)
   ·rw [h41]
    have p42 := of_decide_eq_true h41
    refine rkQ ?_
    refine rsQ ?_
    refine qr_block (id := 3) (by kernel_rfl) ?_
    refine rsg Open.wide ?_
    refine og 1 [(0, .func (Fn.yield ln) #[] #[]), (1, ptr b2), (2, ptr b3), (4, i64 ↑i), (5, ptr b16), (12, .slice LA l.length lc), (13, i64 ↑l.length), (14, i64 ↑i), (26, .slice LA l.length lc), (27, i64 ↑l.length), (28, i64 ↑kk), (30, i64 ↑kk)] 1 ?_
    obtain ⟨y, hy⟩ : ∃ x, l[kk]? = some x := ⟨_, List.getElem?_eq_getElem (by omega)⟩
    obtain ⟨rb43, ro44, hA45⟩ := Rd.addr hR38 (by omega)
    refine Ops.go (by kernel_rfl) (Runs.ixSliceE (k := IntKind.i64) (t := 33) (len := l.length) (cap := lc) (s := 13) (off' := ro44 + kk * 13) (i := ((kk : Nat) : Int)) hA45 (by kernel_rfl) (by kernel_rfl) (by omega) (by omega) (by omega)) (d := (some 31)) (by kernel_rfl) rfl ?_
    refine ogo (agg (HC.cells y)) 32 (Runs.load (t := 43) (a := ⟨rb43, ro44 + kk * 13, none⟩) (by kernel_rfl) (RdT.ld (f := HC.cells) (x := y) HC.two hR38 (by kernel_rfl) (by kernel_rfl) hA45 hy)) rfl ?_
    refine onew (rowL [(i64 0), (Value.string ByteArray.empty), (Value.string ByteArray.empty), (i64 0), (Value.string ByteArray.empty), (i64 0), (i64 0), (i64 0), (i64 0), (Value.bool false), (i64 0), (i64 0), (Value.slice none 0 0)] 43) (fun b => (ptr b)) 7 (fun b => rfl) (fun b46 w47 hb48 H49 K50 hs51 => ?_)
    have lb46b : b < b46 := by have := H32.lt; omega
    have lb46mb : mb < b46 := by have := H33.lt; omega
    have lb46kb : kb < b46 := by have := H34.lt; omega
    have lb46b2 : b2 < b46 := by have := H35.lt; omega
    have lb46b3 : b3 < b46 := by have := H36.lt; omega
    have lb46b16 : b16 < b46 := by have := H37.lt; omega
    have nb46 : w.heap.size ≤ b46 := by have := K31.size; omega
    have ox52 : w1.heap.size ≤ b46 := by have := hcx.size; omega
    replace K31 := K31.tn K50
    replace H32 := H32.kn K50
    replace H33 := H33.kn K50
    replace H34 := H34.kn K50
    replace H35 := H35.kn K50
    replace H36 := H36.kn K50
    replace H37 := H37.kn K50
    replace hcx := hcx.trans K50 (fun _ _ h => h) (fun _ _ h => h)
    clear K50 hs51
    refine og 1 [(0, .func (Fn.yield ln) #[] #[]), (1, ptr b2), (2, ptr b3), (4, i64 ↑i), (5, ptr b16), (6, i64 ↑kk), (7, ptr b46), (12, .slice LA l.length lc), (13, i64 ↑l.length), (14, i64 ↑i), (26, .slice LA l.length lc), (27, i64 ↑l.length), (28, i64 ↑kk), (32, (agg (HC.cells y)))] 5 ?_
    refine oput 43 b46 (HC.cells y) H49 rfl (fun w53 H54 K55 => ?_)
    replace K31 := K31.t1 K55 fun _ => by omega
    replace H32 := H32.k1 K55 (by omega)
    replace H33 := H33.k1 K55 (by omega)
    replace H34 := H34.k1 K55 (by omega)
    replace H35 := H35.k1 K55 (by omega)
    replace H36 := H36.k1 K55 (by omega)
    replace H37 := H37.k1 K55 (by omega)
    replace hcx := Keeps.trans hcx K55 (U := none_) (fun _ _ h => h) (fun i hi hs => by have hs : i = b46 := hs; exfalso; have := ox52; omega)
    refine od ?_
    refine rsg Open.wide ?_
    refine og 4 [(0, .func (Fn.yield ln) #[] #[]), (1, ptr b2), (2, ptr b3), (4, i64 ↑i), (5, ptr b16), (6, i64 ↑kk), (7, ptr b46), (12, .slice LA l.length lc), (13, i64 ↑l.length), (14, i64 ↑i), (26, .slice LA l.length lc), (27, i64 ↑l.length), (28, i64 ↑kk), (36, (Value.bool (((kk : Nat) : Int) != ((i : Nat) : Int))))] 4 ?_
    refine Ops.split (((kk : Nat) : Int) != ((i : Nat) : Int)) (fun h56 => ?_) (fun h56 => ?_)
    ·rw [h56]
     have p57 := of_bne_t h56
     refine og 1 [(0, .func (Fn.yield ln) #[] #[]), (1, ptr b2), (2, ptr b3), (4, i64 ↑i), (5, ptr b16), (6, i64 ↑kk), (7, ptr b46), (12, .slice LA l.length lc), (13, i64 ↑l.length), (14, i64 ↑i), (26, .slice LA l.length lc), (27, i64 ↑l.length), (28, i64 ↑kk), (36, .bool true), (37, .pointer (some ⟨b3, 1, none⟩))] 5 ?_
     refine ogo (Value.int IntKind.u64 ((d : Nat) : Int)) 38 (rld 71 b3 1 H36) rfl ?_
     refine og 1 [(0, .func (Fn.yield ln) #[] #[]), (1, ptr b2), (2, ptr b3), (4, i64 ↑i), (5, ptr b16), (7, ptr b46), (12, .slice LA l.length lc), (13, i64 ↑l.length), (14, i64 ↑i), (26, .slice LA l.length lc), (27, i64 ↑l.length), (28, i64 ↑kk), (36, .bool true), (38, (Value.int IntKind.u64 ((d : Nat) : Int))), (39, i64 ↑kk)] 7 ?_
     refine ogo (Value.int IntKind.u64 ((d / 2 ^ kk : Nat) : Int)) 40 (Runs.int (op := .shr) (t := 71) (by kernel_rfl) (run_shrN (k := IntKind.i64) (i := kk) (s := ((kk : Nat) : Int)) rfl (by omega))) rfl ?_
     refine ogo (Value.int IntKind.u64 (((d / 2 ^ kk) % 2 : Nat) : Int)) 41 (Runs.int (op := .and) (t := 71) (by kernel_rfl) (run_and1 (div_lt64 (by omega)))) rfl ?_
     refine og 3 [(0, .func (Fn.yield ln) #[] #[]), (1, ptr b2), (2, ptr b3), (4, i64 ↑i), (5, ptr b16), (7, ptr b46), (12, .slice LA l.length lc), (13, i64 ↑l.length), (14, i64 ↑i), (26, .slice LA l.length lc), (27, i64 ↑l.length), (28, i64 ↑kk), (44, (Value.bool ((((d / 2 ^ kk) % 2 : Nat) : Int) == 0)))] 12 ?_
     refine Ops.split ((((d / 2 ^ kk) % 2 : Nat) : Int) == 0) (fun h58 => ?_) (fun h58 => ?_)
     ·rw [h58]
      have p59 := of_beq_t h58
      have hbk : d.testBit kk = false := bit_zero.1 (by omega)
      refine ogo (agg (HC.cells y)) 45 (rld 43 b46 0 H54) rfl ?_
      refine ogo (agg (HC.cells x)) 46 (rld 43 b16 0 H37) rfl ?_
      refine ocQ 47 (AheadP_calls _ y x) ?_
      rintro _ w60 ⟨rfl, K61⟩
      refine ⟨_, _, rfl, rfl, ?_⟩
      replace K31 := K31.tn K61
      replace H32 := H32.kn K61
      replace H33 := H33.kn K61
      replace H34 := H34.kn K61
      replace H35 := H35.kn K61
      replace H36 := H36.kn K61
      replace H37 := H37.kn K61
      replace hcx := hcx.trans K61 (fun _ _ h => h) (fun _ _ h => h)
      refine ogd 1 [(0, .func (Fn.yield ln) #[] #[]), (1, ptr b2), (2, ptr b3), (4, i64 ↑i), (5, ptr b16), (12, .slice LA l.length lc), (13, i64 ↑l.length), (14, i64 ↑i), (26, .slice LA l.length lc), (27, i64 ↑l.length), (28, i64 ↑kk), (48, .bool (aheadH y.c x.c))] ?_
      refine rcQ 48 (aheadH y.c x.c) rfl (fun h62 => ?_) (fun h62 => ?_)
      ·rw [h62]
       have p63 : (aheadH y.c x.c) = true := h62
       refine qr_exit (id := 1) (by kernel_rfl) ?_
       refine rgQ Open.wide ?_
       refine oid 2 (fun z => [(0, .func (Fn.yield ln) #[] #[]), (1, ptr b2), (2, ptr b3), (12, .slice LA l.length lc), (13, i64 ↑l.length), (14, i64 z)]) i ?_
       exact ⟨i + 1, ⟨rfl, rfl, (by rw [Prob.nth_none (one_wait hal hx hy (by omega) hbk h62)]; exact hJ _ _ _ hj hcx), (by omega), K31, H32, H33, H34, H35, H36⟩, (show l.length - (i + 1) < l.length - i from by omega)⟩
      ·rw [h62]
       have p65 : (aheadH y.c x.c) = false := h62
       refine rkQ ?_
       refine rgQ Open.wide ?_
       refine oid 2 (fun z => [(0, .func (Fn.yield ln) #[] #[]), (1, ptr b2), (2, ptr b3), (4, i64 ↑i), (5, ptr b16), (12, .slice LA l.length lc), (13, i64 ↑l.length), (14, i64 ↑i), (26, .slice LA l.length lc), (27, i64 ↑l.length), (28, i64 z)]) kk ?_
       exact ⟨kk + 1, ⟨rfl, rfl, hcx, ob5, (fun j z hj hz => by rcases Nat.lt_succ_iff_lt_or_eq.1 hj with hj | hj; (exact hwt j z hj hz); (subst hj; obtain rfl : y = z := Option.some.inj (hy.symm.trans hz); exact fun q1 q2 => h62)), (by omega), K31, H32, H33, H34, H35, H36, H37⟩, (show l.length - (kk + 1) < l.length - kk from by omega)⟩
     ·rw [h58]
      have p67 := of_beq_f h58
      have hbk : d.testBit kk = true := bit_one.1 (by omega)
      refine ogd 4 [(0, .func (Fn.yield ln) #[] #[]), (1, ptr b2), (2, ptr b3), (4, i64 ↑i), (5, ptr b16), (12, .slice LA l.length lc), (13, i64 ↑l.length), (14, i64 ↑i), (26, .slice LA l.length lc), (27, i64 ↑l.length), (28, i64 ↑kk), (48, .bool false)] ?_
      refine qr_else (o := .tmp 48) (by kernel_rfl) rfl ?_
      refine rkQ ?_
      refine rgQ Open.wide ?_
      refine oid 2 (fun z => [(0, .func (Fn.yield ln) #[] #[]), (1, ptr b2), (2, ptr b3), (4, i64 ↑i), (5, ptr b16), (12, .slice LA l.length lc), (13, i64 ↑l.length), (14, i64 ↑i), (26, .slice LA l.length lc), (27, i64 ↑l.length), (28, i64 z)]) kk ?_
      exact ⟨kk + 1, ⟨rfl, rfl, hcx, ob5, (fun j z hj hz => by rcases Nat.lt_succ_iff_lt_or_eq.1 hj with hj | hj; (exact hwt j z hj hz); (subst hj; obtain rfl : y = z := Option.some.inj (hy.symm.trans hz); exact fun q1 q2 => absurd (hbk.symm.trans q2) (by decide))), (by omega), K31, H32, H33, H34, H35, H36, H37⟩, (show l.length - (kk + 1) < l.length - kk from by omega)⟩
    ·rw [h56]
     have p69 := of_bne_f h56
     refine ogd 12 [(0, .func (Fn.yield ln) #[] #[]), (1, ptr b2), (2, ptr b3), (4, i64 ↑i), (5, ptr b16), (12, .slice LA l.length lc), (13, i64 ↑l.length), (14, i64 ↑i), (26, .slice LA l.length lc), (27, i64 ↑l.length), (28, i64 ↑kk), (48, .bool false)] ?_
     refine qr_else (o := .tmp 48) (by kernel_rfl) rfl ?_
     refine rkQ ?_
     refine rgQ Open.wide ?_
     refine oid 2 (fun z => [(0, .func (Fn.yield ln) #[] #[]), (1, ptr b2), (2, ptr b3), (4, i64 ↑i), (5, ptr b16), (12, .slice LA l.length lc), (13, i64 ↑l.length), (14, i64 ↑i), (26, .slice LA l.length lc), (27, i64 ↑l.length), (28, i64 z)]) kk ?_
     exact ⟨kk + 1, ⟨rfl, rfl, hcx, ob5, (fun j z hj hz => by rcases Nat.lt_succ_iff_lt_or_eq.1 hj with hj | hj; (exact hwt j z hj hz); (subst hj; obtain rfl : y = z := Option.some.inj (hy.symm.trans hz); exact fun q1 q2 => (q1 (by omega)).elim)), (by omega), K31, H32, H33, H34, H35, H36, H37⟩, (show l.length - (kk + 1) < l.length - kk from by omega)⟩
   ·rw [h41]
    have p71 := of_decide_eq_false h41
    refine qr_exit (id := 2) (by kernel_rfl) ?_
    refine rsg Open.wide ?_
    refine og 1 [(0, .func (Fn.yield ln) #[] #[]), (1, ptr b2), (2, ptr b3), (4, i64 ↑i), (5, ptr b16), (12, .slice LA l.length lc), (13, i64 ↑l.length), (14, i64 ↑i), (28, i64 ↑kk), (50, .pointer (some ⟨b3, 3, none⟩))] 1 ?_
    refine ogo (ptr b) 51 (rld 69 b3 3 H36) rfl ?_
    refine ocQ 52 (Copy_calls _ b mb kb m S K H32 H33 H34 (by omega) hB) ?_
    rintro _ w75 ⟨b72, mb73, kb74, rfl, K76, H77, Hm78, Hk79, hb80, hb81, hb82, hb83, hb84, hb85⟩
    have lb72b : b < b72 := by have := H32.lt; omega
    have lmb73b : b < mb73 := by have := H32.lt; omega
    have lkb74b : b < kb74 := by have := H32.lt; omega
    have lb72mb : mb < b72 := by have := H33.lt; omega
    have lmb73mb : mb < mb73 := by have := H33.lt; omega
    have lkb74mb : mb < kb74 := by have := H33.lt; omega
    have lb72kb : kb < b72 := by have := H34.lt; omega
    have lmb73kb : kb < mb73 := by have := H34.lt; omega
    have lkb74kb : kb < kb74 := by have := H34.lt; omega
    have lb72b2 : b2 < b72 := by have := H35.lt; omega
    have lmb73b2 : b2 < mb73 := by have := H35.lt; omega
    have lkb74b2 : b2 < kb74 := by have := H35.lt; omega
    have lb72b3 : b3 < b72 := by have := H36.lt; omega
    have lmb73b3 : b3 < mb73 := by have := H36.lt; omega
    have lkb74b3 : b3 < kb74 := by have := H36.lt; omega
    have lb72b16 : b16 < b72 := by have := H37.lt; omega
    have lmb73b16 : b16 < mb73 := by have := H37.lt; omega
    have lkb74b16 : b16 < kb74 := by have := H37.lt; omega
    have nb72 : w.heap.size ≤ b72 := by have := K31.size; omega
    have nmb73 : w.heap.size ≤ mb73 := by have := K31.size; omega
    have nkb74 : w.heap.size ≤ kb74 := by have := K31.size; omega
    have ox86 : w1.heap.size ≤ b72 := by have := hcx.size; omega
    have ox87 : w1.heap.size ≤ mb73 := by have := hcx.size; omega
    have ox88 : w1.heap.size ≤ kb74 := by have := hcx.size; omega
    refine ⟨_, _, rfl, rfl, ?_⟩
    replace K31 := K31.tn K76
    replace H32 := H32.kn K76
    replace H33 := H33.kn K76
    replace H34 := H34.kn K76
    replace H35 := H35.kn K76
    replace H36 := H36.kn K76
    replace H37 := H37.kn K76
    replace hcx := hcx.trans K76 (fun _ _ h => h) (fun _ _ h => h)
    replace hR39 := Rd.keep0 (by decide) hR39 K76
    replace hR40 := Rd.keep0 (by decide) hR40 K76
    refine ogd 1 [(0, .func (Fn.yield ln) #[] #[]), (1, ptr b2), (2, ptr b3), (4, i64 ↑i), (5, ptr b16), (8, ptr b72), (12, .slice LA l.length lc), (13, i64 ↑l.length), (14, i64 ↑i), (28, i64 ↑kk)] ?_
    refine rsQ ?_
    refine rsQ ?_
    have hxa := ho x (List.mem_of_getElem? hx)
    refine rgQ Open.wide ?_
    refine og 2 [(0, .func (Fn.yield ln) #[] #[]), (1, ptr b2), (2, ptr b3), (4, i64 ↑i), (5, ptr b16), (8, ptr b72), (12, .slice LA l.length lc), (13, i64 ↑l.length), (14, i64 ↑i), (28, i64 ↑kk), (53, ptr b72), (54, ptr b16)] 2 ?_
    refine ogo (agg (Opm.cells x.c.op)) 55 (rld 24 b16 0 H37) rfl ?_
    refine ocQ 56 (Do_calls _ b72 mb73 kb74 m S K x.c.op H77 Hm78 Hk79 (by omega) hB (by first | omega | decide | exact ⟨(by decide : (-9223372036854775808 : Int) ≤ 0), (by decide : (0 : Int) ≤ 9223372036854775807)⟩) (by first | omega | decide)) ?_
    rintro _ w92 ⟨m89, A90, c91, rfl, K93, Hm94, Hk95, hB96, hO97⟩
    have O98 := own_base hO97 K31.size
    have hl99 := hB96.ledg.le
    have hl100 := doK_len S K x.c.op
    refine ⟨_, _, rfl, rfl, ?_⟩
    replace K31 := K31.trans K93 (U := (fun i => T i)) (fun i h1 h2 => h2) (fun i h1 h2 => by have h2 : i = mb73 ∨ i = kb74 := h2; rcases h2 with h2 | h2; (exfalso; omega); (exfalso; omega))
    replace H32 := H32.keep K93 (by intro h; change b = mb73 ∨ b = kb74 at h; omega)
    replace H33 := H33.keep K93 (by intro h; change mb = mb73 ∨ mb = kb74 at h; omega)
    replace H34 := H34.keep K93 (by intro h; change kb = mb73 ∨ kb = kb74 at h; omega)
    replace H35 := H35.keep K93 (by intro h; change b2 = mb73 ∨ b2 = kb74 at h; omega)
    replace H36 := H36.keep K93 (by intro h; change b3 = mb73 ∨ b3 = kb74 at h; omega)
    replace H37 := H37.keep K93 (by intro h; change b16 = mb73 ∨ b16 = kb74 at h; omega)
    replace H77 := H77.keep K93 (by intro h; change b72 = mb73 ∨ b72 = kb74 at h; omega)
    replace hcx := Keeps.trans hcx K93 (U := none_) (fun _ _ h => h) (fun i hi hs => by have hs : i = mb73 ∨ i = kb74 := hs; rcases hs with hs | hs; (exfalso; have := ox87; omega); (exfalso; have := ox88; omega))
    replace hR39 := (Rd.keep (by decide) hR39 K93 (fun i hi hs => by have hs : i = mb73 ∨ i = kb74 := hs; have := hFA1 i hi; omega))
    replace hR40 := (Rd.keep (by decide) hR40 K93 (fun i hi hs => by have hs : i = mb73 ∨ i = kb74 := hs; have := hFO1 i hi; omega))
    refine onew (rowL [(i64 0), (i64 0), (Value.slice none 0 0)] 28) (fun b => (ptr b)) 9 (fun b => rfl) (fun b110 w111 hb112 H113 K114 hs115 => ?_)
    have lb110b : b < b110 := by have := H32.lt; omega
    have lb110mb : mb < b110 := by have := H33.lt; omega
    have lb110kb : kb < b110 := by have := H34.lt; omega
    have lb110b2 : b2 < b110 := by have := H35.lt; omega
    have lb110b3 : b3 < b110 := by have := H36.lt; omega
    have lb110b16 : b16 < b110 := by have := H37.lt; omega
    have lb110b72 : b72 < b110 := by have := H77.lt; omega
    have lb110mb73 : mb73 < b110 := by have := Hm94.lt; omega
    have lb110kb74 : kb74 < b110 := by have := Hk95.lt; omega
    have nb110 : w.heap.size ≤ b110 := by have := K31.size; omega
    have ox116 : w1.heap.size ≤ b110 := by have := hcx.size; omega
    have ob117 : ∀ i, Ow (.slice A90 ((doR S K x.c.op).rows.length) c91) i → i < b110 := fun i hi => by have := (World.ownsRow.lt O98 i hi).2; omega
    replace K31 := K31.tn K114
    replace H32 := H32.kn K114
    replace H33 := H33.kn K114
    replace H34 := H34.kn K114
    replace H35 := H35.kn K114
    replace H36 := H36.kn K114
    replace H37 := H37.kn K114
    replace H77 := H77.kn K114
    replace Hm94 := Hm94.kn K114
    replace Hk95 := Hk95.kn K114
    replace hcx := hcx.trans K114 (fun _ _ h => h) (fun _ _ h => h)
    replace hR39 := Rd.keep0 (by decide) hR39 K114
    replace hR40 := Rd.keep0 (by decide) hR40 K114
    replace O98 := own_keep0 O98 K114
    clear K114 hs115
    refine oput 28 b110 [(i64 ((doR S K x.c.op).why)), (i64 ((doR S K x.c.op).amount)), (Value.slice A90 ((doR S K x.c.op).rows.length) c91)] H113 rfl (fun w118 H119 K120 => ?_)
    replace K31 := K31.t1 K120 fun _ => by omega
    replace H32 := H32.k1 K120 (by omega)
    replace H33 := H33.k1 K120 (by omega)
    replace H34 := H34.k1 K120 (by omega)
    replace H35 := H35.k1 K120 (by omega)
    replace H36 := H36.k1 K120 (by omega)
    replace H37 := H37.k1 K120 (by omega)
    replace H77 := H77.k1 K120 (by omega)
    replace Hm94 := Hm94.k1 K120 (by omega)
    replace Hk95 := Hk95.k1 K120 (by omega)
    replace hcx := Keeps.trans hcx K120 (U := none_) (fun _ _ h => h) (fun i hi hs => by have hs : i = b110 := hs; exfalso; have := ox116; omega)
    replace hR39 := (Rd.keep (by decide) hR39 K120 (fun i hi hs => by have hs : i = b110 := hs; have := hFA1 i hi; omega))
    replace hR40 := (Rd.keep (by decide) hR40 K120 (fun i hi hs => by have hs : i = b110 := hs; have := hFO1 i hi; omega))
    replace O98 := own_keep O98 K120 (fun i hi => by have := ob117 i hi; omega)
    refine od ?_
    refine rsQ ?_
    have hX121 : RdR w118 (Value.slice x.A x.c.rep.rows.length x.k) x.c.rep.rows := (RowsE.keep hG K31 (fun i hi => (hFG i hi).2)).1 x (List.mem_of_getElem? hx)
    refine qr_mono (Q := fun ds2 e2 L2 wm => ds2 = [] ∧ e2 = .normal ∧ ∃ t122 : Bool, L2 = [(0, (Value.func (Fn.yield ln) #[] #[])), (1, (ptr b2)), (2, (ptr b3)), (4, (i64 ((i : Nat) : Int))), (5, (ptr b16)), (8, (ptr b72)), (12, (Value.slice LA l.length lc)), (13, (i64 ((l.length : Nat) : Int))), (14, (i64 ((i : Nat) : Int))), (28, (i64 ((kk : Nat) : Int))), (65, (Value.bool t122))] ∧ Keeps none_ w118 wm ∧ (t122 = false → stepH x.c (S, K) = some (doS S K x.c.op, doK S K x.c.op)) ∧ (t122 = true → stepH x.c (S, K) = none)) ?_ ?_
    ·skip
     have hmid127 : Keeps none_ w118 w118 := Keeps.refl _
     refine rgQ Open.wide ?_
     refine og 1 [(0, .func (Fn.yield ln) #[] #[]), (1, ptr b2), (2, ptr b3), (4, i64 ↑i), (5, ptr b16), (8, ptr b72), (9, ptr b110), (12, .slice LA l.length lc), (13, i64 ↑l.length), (14, i64 ↑i), (28, i64 ↑kk), (57, .pointer (some ⟨b16, 9, none⟩))] 1 ?_
     refine ogo (Value.bool x.c.told) 58 (rld 4 b16 9 H37) rfl ?_
     refine og 1 [(0, .func (Fn.yield ln) #[] #[]), (1, ptr b2), (2, ptr b3), (4, i64 ↑i), (5, ptr b16), (8, ptr b72), (9, ptr b110), (12, .slice LA l.length lc), (13, i64 ↑l.length), (14, i64 ↑i), (28, i64 ↑kk), (59, .bool x.c.told)] 3 ?_
     refine Ops.split x.c.told (fun h128 => ?_) (fun h128 => ?_)
     ·rw [h128]
      have p129 : x.c.told = true := h128
      refine ogo (agg [(i64 ((doR S K x.c.op).why)), (i64 ((doR S K x.c.op).amount)), (Value.slice A90 ((doR S K x.c.op).rows.length) c91)]) 60 (rld 28 b110 0 H119) rfl ?_
      refine og 1 [(0, .func (Fn.yield ln) #[] #[]), (1, ptr b2), (2, ptr b3), (4, i64 ↑i), (5, ptr b16), (8, ptr b72), (12, .slice LA l.length lc), (13, i64 ↑l.length), (14, i64 ↑i), (28, i64 ↑kk), (59, .bool true), (60, (agg [(i64 ((doR S K x.c.op).why)), (i64 ((doR S K x.c.op).amount)), (Value.slice A90 ((doR S K x.c.op).rows.length) c91)])), (61, .pointer (some ⟨b16, 10, none⟩))] 5 ?_
      refine ogo (agg [(i64 x.c.rep.why), (i64 x.c.rep.amount), (Value.slice x.A x.c.rep.rows.length x.k)]) 62 (rld 28 b16 10 H37) rfl ?_
      refine ocQ 63 (sameH_calls _ A90 c91 (⟨(doR S K x.c.op).why, (doR S K x.c.op).amount, (doR S K x.c.op).rows⟩ : ReplyM) x.A x.k (⟨x.c.rep.why, x.c.rep.amount, x.c.rep.rows⟩ : ReplyM) (OwnT.rd O98) hX121) ?_
      rintro _ w133 ⟨t130, rfl, ht131, K132⟩
      refine ⟨_, _, rfl, rfl, ?_⟩
      replace hmid127 := hmid127.trans K132 (fun _ _ h => h) (fun _ _ h => h)
      refine ogd 2 [(0, .func (Fn.yield ln) #[] #[]), (1, ptr b2), (2, ptr b3), (4, i64 ↑i), (5, ptr b16), (8, ptr b72), (12, .slice LA l.length lc), (13, i64 ↑l.length), (14, i64 ↑i), (28, i64 ↑kk), (65, .bool (!t130))] ?_
      exact ⟨rfl, rfl, _, rfl, hmid127, fun q => stepH_yes (ht131.1 (by cases t130 with | true => rfl | false => cases q)), fun q => stepH_no h128 (fun q1 => by rw [ht131.2 q1] at q; cases q)⟩
     ·rw [h128]
      have p134 : x.c.told = false := h128
      refine ogd 6 [(0, .func (Fn.yield ln) #[] #[]), (1, ptr b2), (2, ptr b3), (4, i64 ↑i), (5, ptr b16), (8, ptr b72), (12, .slice LA l.length lc), (13, i64 ↑l.length), (14, i64 ↑i), (28, i64 ↑kk), (65, .bool false)] ?_
      exact ⟨rfl, rfl, _, rfl, hmid127, fun _ => stepH_not h128, fun q => by cases q⟩
    ·skip
     rintro _ _ _ w124 ⟨rfl, rfl, t122, rfl, K123, ha125, hb126⟩
     replace K31 := K31.tn K123
     replace H32 := H32.kn K123
     replace H33 := H33.kn K123
     replace H34 := H34.kn K123
     replace H35 := H35.kn K123
     replace H36 := H36.kn K123
     replace H37 := H37.kn K123
     replace H77 := H77.kn K123
     replace Hm94 := Hm94.kn K123
     replace Hk95 := Hk95.kn K123
     replace H119 := H119.kn K123
     replace hcx := hcx.trans K123 (fun _ _ h => h) (fun _ _ h => h)
     replace hR39 := Rd.keep0 (by decide) hR39 K123
     replace hR40 := Rd.keep0 (by decide) hR40 K123
     refine rcQ 65 t122 rfl (fun h135 => ?_) (fun h135 => ?_)
     ·rw [h135]
      have p136 : t122 = true := h135
      refine qr_exit (id := 1) (by kernel_rfl) ?_
      refine rgQ Open.wide ?_
      refine oid 2 (fun z => [(0, .func (Fn.yield ln) #[] #[]), (1, ptr b2), (2, ptr b3), (12, .slice LA l.length lc), (13, i64 ↑l.length), (14, i64 z)]) i ?_
      exact ⟨i + 1, ⟨rfl, rfl, (by rw [Prob.nth_none (one_refuse hal hx (hb126 h135))]; exact hJ _ _ _ hj hcx), (by omega), K31, H32, H33, H34, H35, H36⟩, (show l.length - (i + 1) < l.length - i from by omega)⟩
     ·rw [h135]
      have p138 : t122 = false := h135
      have hst := ha125 h135
      refine rkQ ?_
      refine rsQ ?_
      refine qr_drawS Open.wide 21 (by kernel_rfl) (by kernel_rfl) (by kernel_rfl) (by kernel_rfl) (fun w139 K140 _ _ => ?_)
      replace K31 := K31.tn K140
      replace H32 := H32.kn K140
      replace H33 := H33.kn K140
      replace H34 := H34.kn K140
      replace H35 := H35.kn K140
      replace H36 := H36.kn K140
      replace H37 := H37.kn K140
      replace H77 := H77.kn K140
      replace Hm94 := Hm94.kn K140
      replace Hk95 := Hk95.kn K140
      replace H119 := H119.kn K140
      replace hcx := hcx.trans K140 (fun _ _ h => h) (fun _ _ h => h)
      replace hR39 := Rd.keep0 (by decide) hR39 K140
      replace hR40 := Rd.keep0 (by decide) hR40 K140
      have Kb141 : Keeps none_ w139 w139 := Keeps.refl w139
      have zb := H32.lt
      have zmb := H33.lt
      have zkb := H34.lt
      have zb2 := H35.lt
      have zb3 := H36.lt
      have zb16 := H37.lt
      have zb72 := H77.lt
      have zmb73 := Hm94.lt
      have zkb74 := Hk95.lt
      have zb110 := H119.lt
      refine ⟨fun wz => Keeps none_ w139 wz, [], (SH.nil Kb141), ?_⟩
      refine skQ 20 [0] [(0, .func (Fn.yield ln) #[] #[]), (1, ptr b2), (2, ptr b3), (4, i64 ↑i), (5, ptr b16), (8, ptr b72), (12, .slice LA l.length lc), (13, i64 ↑l.length), (14, i64 ↑i), (28, i64 ↑kk), (66, ptr b3)] ?_
      refine stQ 1 (Value.slice OA o.length oc) 67 (fun wz hS => rld 35 b3 0 (H36.keep hS (fun h => h))) rfl ?_
      refine skQ 18 [3] [(0, .func (Fn.yield ln) #[] #[]), (1, ptr b2), (2, ptr b3), (4, i64 ↑i), (5, ptr b16), (8, ptr b72), (12, .slice LA l.length lc), (13, i64 ↑l.length), (14, i64 ↑i), (28, i64 ↑kk), (67, .slice OA o.length oc), (69, .pointer (some ⟨b2, 1, none⟩))] ?_
      refine stQ 4 (Value.slice AA a.length ac) 70 (fun wz hS => rld 35 b2 1 (H35.keep hS (fun h => h))) rfl ?_
      obtain ⟨rb142, ro143, na, hA144, hx145⟩ := RdT.open hR39 rfl (k := i) (by omega)
      have hna := hx145
      refine skQ 16 [5] [(0, .func (Fn.yield ln) #[] #[]), (1, ptr b2), (2, ptr b3), (4, i64 ↑i), (5, ptr b16), (8, ptr b72), (12, .slice LA l.length lc), (13, i64 ↑l.length), (14, i64 ↑i), (28, i64 ↑kk), (67, .slice OA o.length oc), (70, .slice AA a.length ac), (71, i64 ↑i)] ?_
      refine stQ 6 (Value.pointer (some ⟨rb142, ro143 + i, none⟩)) 72 (fun wz hS => Runs.ixSliceE (k := IntKind.i64) (t := 35) (len := a.length) (cap := ac) (s := 1) (off' := ro143 + i) (i := ((i : Nat) : Int)) hA144 (by kernel_rfl) (by kernel_rfl) (by omega) (by omega) (by omega)) rfl ?_
      refine stQ 7 (i64 ((na : Nat) : Int)) 73 (fun wz hS => Runs.load (t := 3) (a := ⟨rb142, ro143 + i, none⟩) (by kernel_rfl) (RdT.ldu (f := iN) (x := na) iN_one (Rd.keep0 (by omega) hR39 hS) (by kernel_rfl) hA144 hx145 rfl)) rfl ?_
      refine skQ 13 [10] [(0, .func (Fn.yield ln) #[] #[]), (1, ptr b2), (2, ptr b3), (4, i64 ↑i), (5, ptr b16), (8, ptr b72), (12, .slice LA l.length lc), (13, i64 ↑l.length), (14, i64 ↑i), (28, i64 ↑kk), (67, .slice OA o.length oc), (73, i64 ↑na), (76, .pointer (some ⟨b3, 1, none⟩))] ?_
      refine stQ 11 (Value.int IntKind.u64 ((d : Nat) : Int)) 77 (fun wz hS => rld 71 b3 1 (H36.keep hS (fun h => h))) rfl ?_
      refine skQ 11 [12] [(0, .func (Fn.yield ln) #[] #[]), (1, ptr b2), (2, ptr b3), (5, ptr b16), (8, ptr b72), (12, .slice LA l.length lc), (13, i64 ↑l.length), (14, i64 ↑i), (28, i64 ↑kk), (67, .slice OA o.length oc), (73, i64 ↑na), (77, (Value.int IntKind.u64 ((d : Nat) : Int))), (78, i64 ↑i)] ?_
      refine stQ 13 (Value.int IntKind.u64 ((1 <<< i : Nat) : Int)) 79 (fun wz hS => Runs.int (op := .shl) (t := 71) (by kernel_rfl) (run_shl1 (k := IntKind.i64) (i := i) (s := ((i : Nat) : Int)) rfl (by omega))) rfl ?_
      refine stQ 14 (Value.int IntKind.u64 ((d ||| 1 <<< i : Nat) : Int)) 80 (fun wz hS => Runs.int (op := .or) (t := 71) (by kernel_rfl) (run_orN (by omega) (shl_lt (by omega)))) rfl ?_
      refine skQ 8 [15] [(0, .func (Fn.yield ln) #[] #[]), (1, ptr b2), (2, ptr b3), (5, ptr b16), (8, ptr b72), (12, .slice LA l.length lc), (13, i64 ↑l.length), (14, i64 ↑i), (28, i64 ↑kk), (67, .slice OA o.length oc), (73, i64 ↑na), (80, (Value.int IntKind.u64 ((d ||| 1 <<< i : Nat) : Int))), (81, .pointer (some ⟨b3, 2, none⟩))] ?_
      refine stQ 16 (i64 lf) 82 (fun wz hS => rld 3 b3 2 (H36.keep hS (fun h => h))) rfl ?_
      refine skQ 6 [17] [(0, .func (Fn.yield ln) #[] #[]), (1, ptr b2), (2, ptr b3), (5, ptr b16), (12, .slice LA l.length lc), (13, i64 ↑l.length), (14, i64 ↑i), (28, i64 ↑kk), (67, .slice OA o.length oc), (73, i64 ↑na), (80, (Value.int IntKind.u64 ((d ||| 1 <<< i : Nat) : Int))), (82, i64 lf), (83, ptr b72)] ?_
      refine DrS.three (i := 2) (j := 8) (k := 19) (by kernel_rfl) ?_ ?_ ?_
      ·skip
       refine Dr1.call (by kernel_rfl) (d := (some 68)) (by kernel_rfl) (CloneI_calls _ OA oc o (Rd.keep0 (by decide) hR40 Kb141) (by omega)) ?_
       rintro _ w148 ⟨A146, c147, rfl, K149, hO150⟩
       have oy152 : ∀ i, Ow (.slice A146 o.length c147) i → w139.heap.size ≤ i := fun i hi => by have := (World.ownsRow.lt hO150 i hi).1; have := Kb141.size; omega
       have O151 := own_base hO150 (Nat.le_trans hcx.size Kb141.size)
       have Kb154 := Kb141.tn K149
       refine ⟨_, _, rfl, rfl, (SH.nil Kb154), ?_⟩
       refine DrS.two (i := 8) (j := 19) (by kernel_rfl) ?_ ?_
       ·skip
        refine Dr1.new (o := rowL [(i64 ((na : Nat) : Int))] 3) (V := fun b => (Value.slice (some ⟨b, 0, none⟩) 1 1)) (by kernel_rfl) (d := (some 74)) (by kernel_rfl) (fun b => rfl) (fun b155 w156 hb157 H158 K159 hs160 => ?_)
        have xb155 : w139.heap.size ≤ b155 := by have := Kb154.size; omega
        have nb155 : w.heap.size ≤ b155 := by have := K31.size; omega
        have ox161 : w1.heap.size ≤ b155 := by have := hcx.size; omega
        have ob162 : ∀ i, Ow (.slice A146 o.length c147) i → i < b155 := fun i hi => by have := (World.ownsRow.lt O151 i hi).2; omega
        replace O151 := own_keep0 O151 K159
        have Kb163 := Kb154.tn K159
        refine ⟨(SH.nil Kb163), ?_⟩
        clear K159 hs160
        refine DrS.two (i := 9) (j := 19) (by kernel_rfl) ?_ ?_
        ·skip
         obtain ⟨v164, w165, hr166, hO167, hK168, hg169⟩ := OwnT.app (ty := 35) iN_one iN_cells tyI O151 (show RdT _ 1 iN _ [na] from Rd.lit H158 (n := 1) rfl (by decide)) (by simp only [List.length_cons, List.length_nil]; omega) (by simp only [List.length_cons, List.length_nil]; omega) (Nat.le_trans hcx.size Kb163.size)
         obtain ⟨A171, c172, rfl⟩ := RdT.form iN_one (by decide) (OwnT.rd hO167)
         have K170 := hK168
         replace H158 := H158.keep K170 (by intro h; change Ow (.slice A146 o.length c147) b155 at h; have := ob162 b155 h; omega)
         have Kb174 := Kb163.trans K170 (U := none_) (fun _ _ h => h) (fun i h1 h2 => by have h2 : Ow (.slice A146 o.length c147) i := h2; exfalso; have := oy152 i h2; omega)
         refine Dr1.go (v := (Value.slice A171 ((o ++ [na]).length) c172)) (by kernel_rfl) (Runs.append (ts := #[35, 35]) (ty := 35) (vs := [(Value.slice A146 o.length c147), (Value.slice (some ⟨b155, 0, none⟩) 1 1)]) (by kernel_rfl) hr166) (d := (some 75)) (by kernel_rfl) rfl (SH.nil Kb174) ?_
         clear K170 hr166 hK168 hg169
         refine skQ 2 [18] [(0, .func (Fn.yield ln) #[] #[]), (1, ptr b2), (2, ptr b3), (5, ptr b16), (12, .slice LA l.length lc), (13, i64 ↑l.length), (14, i64 ↑i), (28, i64 ↑kk), (84, (agg [(Value.slice A171 ((o ++ [na]).length) c172), (Value.int IntKind.u64 ((d ||| 1 <<< i : Nat) : Int)), (i64 lf), (ptr b72)]))] ?_
         refine soQ 19 ?_
         refine Dr1.new (o := rowL [(Value.slice none 0 0), (Value.int IntKind.u64 0), (i64 0), (Value.pointer none)] 73) (V := fun b => (ptr b)) (by kernel_rfl) (d := (some 10)) (by kernel_rfl) (fun b => rfl) (fun b175 w176 hb177 H178 K179 hs180 => ?_)
         have xb175 : w139.heap.size ≤ b175 := by have := Kb174.size; omega
         have lb175b155 : b155 < b175 := by have := H158.lt; omega
         have nb175 : w.heap.size ≤ b175 := by have := K31.size; omega
         have ox181 : w1.heap.size ≤ b175 := by have := hcx.size; omega
         have ob182 : ∀ i, Ow (.slice A171 ((o ++ [na]).length) c172) i → i < b175 := fun i hi => by have := (World.ownsRow.lt hO167 i hi).2; omega
         replace hO167 := own_keep0 hO167 K179
         have Kb183 := Kb174.tn K179
         refine ⟨(SH.nil Kb183), ?_⟩
         clear K179 hs180
         refine soQ 20 ?_
         refine Dr1.put (t := 73) (b := b175) (off := 0) (v := (agg [(Value.slice A171 ((o ++ [na]).length) c172), (Value.int IntKind.u64 ((d ||| 1 <<< i : Nat) : Int)), (i64 lf), (ptr b72)])) (ys := [(Value.slice A171 ((o ++ [na]).length) c172), (Value.int IntKind.u64 ((d ||| 1 <<< i : Nat) : Int)), (i64 lf), (ptr b72)]) (by kernel_rfl) (by kernel_rfl) H178 (by kernel_rfl) (d := none) (by kernel_rfl) rfl (fun w184 H185 K186 => ?_)
         replace hO167 := own_keep hO167 K186 (fun i hi => by have := ob182 i hi; omega)
         have Kb187 := Kb183.t1 K186 fun _ => by have := xb175; omega
         refine ⟨(SH.nil Kb187), ?_⟩
         refine DrS.keep (R := [(0, .func (Fn.yield ln) #[] #[]), (1, ptr b2), (2, ptr b3), (5, ptr b16), (10, ptr b175), (12, .slice LA l.length lc), (13, i64 ↑l.length), (14, i64 ↑i)]) (by kernel_rfl) ?_
         refine DrS.done (by kernel_rfl) ?_
         replace K31 := K31.tn Kb187
         replace H32 := H32.kn Kb187
         replace H33 := H33.kn Kb187
         replace H34 := H34.kn Kb187
         replace H35 := H35.kn Kb187
         replace H36 := H36.kn Kb187
         replace H37 := H37.kn Kb187
         replace H77 := H77.kn Kb187
         replace Hm94 := Hm94.kn Kb187
         replace Hk95 := Hk95.kn Kb187
         replace hcx := hcx.trans Kb187 (fun _ _ h => h) (fun _ _ h => h)
         have hgo := one_go (t := (⟨o, d, lf, (S, K)⟩ : Sr LS_)) hal hx hna hbit (fun j z hz => hwt j z (by have := (List.getElem?_eq_some_iff.1 hz).1; omega) hz) hst
         have hq1 : (b72 ≠ mb73 ∧ b72 ≠ kb74 ∧ mb73 ≠ kb74) ∧ b72 ≠ b175 ∧ mb73 ≠ b175 ∧ kb74 ≠ b175 := by omega
         have hyA : ∀ z, StC.At w184 110 (fun i => w1.heap.size ≤ i ∧ i < w184.heap.size ∧ i ≠ b175) (⟨o ++ [na], A171, c172, d ||| 1 <<< i, z, b72, ((doS S K x.c.op), (doK S K x.c.op))⟩ : StC) := fun z => ⟨OwnT.rd hO167, fun i hi => ⟨(World.ownsRow.lt hO167 i hi).1, (World.ownsRow.lt hO167 i hi).2, by have := ob182 i hi; omega⟩, mb73, kb74, m89, H77, Hm94, Hk95, hq1.1, hB96, ⟨ox86, H77.lt, hq1.2.1⟩, ⟨ox87, Hm94.lt, hq1.2.2.1⟩, ⟨ox88, Hk95.lt, hq1.2.2.2⟩⟩
         refine next_tail w184 ln m0 b2 b3 b16 b175 i l.length LA lc x A171 (o ++ [na]).length c172 (d ||| 1 <<< i) b72 lf T (J ((probH (XS l a)).nth (⟨o, d, lf, (S, K)⟩ : Sr LS_) (i + 1))) H37 H185 (by omega) (by omega) (fun W1 k1 => ?_) (fun w9 hj9 k9 => ?_)
         ·rw [Prob.nth_some hgo]
          refine hY _ _ _ W1 hj (hcx.trans k1 (U := none_) (fun _ _ h => h) (fun i hi h => by have h : i = b175 := h; exfalso; omega)) hWw (Prob.nth_lt (by show i < (XS l a).length; rw [xs_len hal]; omega) hgo) ⟨(⟨o ++ [na], A171, c172, d ||| 1 <<< i, (if x.c.told then lf - 1 else lf), b72, ((doS S K x.c.op), (doK S K x.c.op))⟩ : StC), rfl, Prob.nth_at (by show i < (XS l a).length; rw [xs_len hal]; omega) hgo, ?_⟩
          exact ((hyA _).keep k1 (fun i hi h => hi.2.2 h)).mono (fun i hi => ⟨hi.1, Nat.lt_of_lt_of_le hi.2.1 k1.size⟩)
         clear H37 H77 Hm94 Hk95 H119 H158 H185
         replace K31 := K31.trans k9 (U := (fun i => T i)) (fun i h1 h2 => h2) (fun i h1 h2 => by have h2 : T i ∨ i = b175 := h2; rcases h2 with h2 | h2; (exact h2); (exfalso; omega))
         replace H35 := H35.keep k9 (by intro h; change T b2 ∨ b2 = b175 at h; rcases h with h | h; (have := hTb2 b2 h; omega); (omega))
         replace H36 := H36.keep k9 (by intro h; change T b3 ∨ b3 = b175 at h; rcases h with h | h; (have := hTb3 b3 h; omega); (omega))
         replace H32 := H32.keep k9 (by intro h; change T b ∨ b = b175 at h; rcases h with h | h; (have := hTb b h; omega); (omega))
         replace H33 := H33.keep k9 (by intro h; change T mb ∨ mb = b175 at h; rcases h with h | h; (have := hTmb mb h; omega); (omega))
         replace H34 := H34.keep k9 (by intro h; change T kb ∨ kb = b175 at h; rcases h with h | h; (have := hTkb kb h; omega); (omega))
         refine rgQ Open.wide ?_
         refine oid 2 (fun z => [(0, .func (Fn.yield ln) #[] #[]), (1, ptr b2), (2, ptr b3), (12, .slice LA l.length lc), (13, i64 ↑l.length), (14, i64 z)]) i ?_
         exact ⟨i + 1, ⟨rfl, rfl, hj9, (by omega), K31, H32, H33, H34, H35, H36⟩, (show l.length - (i + 1) < l.length - i from by omega)⟩
        ·skip
         refine Dr1.new (o := rowL [(Value.slice none 0 0), (Value.int IntKind.u64 0), (i64 0), (Value.pointer none)] 73) (V := fun b => (ptr b)) (by kernel_rfl) (d := (some 10)) (by kernel_rfl) (fun b => rfl) (fun b189 w190 hb191 H192 K193 hs194 => ?_)
         have xb189 : w139.heap.size ≤ b189 := by have := Kb163.size; omega
         have lb189b155 : b155 < b189 := by have := H158.lt; omega
         have nb189 : w.heap.size ≤ b189 := by have := K31.size; omega
         have ox195 : w1.heap.size ≤ b189 := by have := hcx.size; omega
         have ob196 : ∀ i, Ow (.slice A146 o.length c147) i → i < b189 := fun i hi => by have := (World.ownsRow.lt O151 i hi).2; omega
         replace H158 := H158.kn K193
         replace O151 := own_keep0 O151 K193
         have Kb197 := Kb163.tn K193
         refine ⟨(SH.nil Kb197), ?_⟩
         clear K193 hs194
         refine soQ 9 ?_
         obtain ⟨v198, w199, hr200, hO201, hK202, hg203⟩ := OwnT.app (ty := 35) iN_one iN_cells tyI O151 (show RdT _ 1 iN _ [na] from Rd.lit H158 (n := 1) rfl (by decide)) (by simp only [List.length_cons, List.length_nil]; omega) (by simp only [List.length_cons, List.length_nil]; omega) (Nat.le_trans hcx.size Kb197.size)
         obtain ⟨A205, c206, rfl⟩ := RdT.form iN_one (by decide) (OwnT.rd hO201)
         have ob208 : ∀ i, Ow (.slice A205 ((o ++ [na]).length) c206) i → i ≠ b189 := fun i hi => by rcases hg203 i hi with h | h; (have := ob196 i h; omega); (have := H192.lt; omega)
         have K204 := hK202
         replace H192 := H192.keep K204 (by intro h; change Ow (.slice A146 o.length c147) b189 at h; have := ob196 b189 h; omega)
         have Kb209 := Kb197.trans K204 (U := none_) (fun _ _ h => h) (fun i h1 h2 => by have h2 : Ow (.slice A146 o.length c147) i := h2; exfalso; have := oy152 i h2; omega)
         refine Dr1.go (v := (Value.slice A205 ((o ++ [na]).length) c206)) (by kernel_rfl) (Runs.append (ts := #[35, 35]) (ty := 35) (vs := [(Value.slice A146 o.length c147), (Value.slice (some ⟨b155, 0, none⟩) 1 1)]) (by kernel_rfl) hr200) (d := (some 75)) (by kernel_rfl) rfl (SH.nil Kb209) ?_
         clear K204 hr200 hK202 hg203
         refine skQ 1 [18] [(0, .func (Fn.yield ln) #[] #[]), (1, ptr b2), (2, ptr b3), (5, ptr b16), (10, ptr b189), (12, .slice LA l.length lc), (13, i64 ↑l.length), (14, i64 ↑i), (28, i64 ↑kk), (84, (agg [(Value.slice A205 ((o ++ [na]).length) c206), (Value.int IntKind.u64 ((d ||| 1 <<< i : Nat) : Int)), (i64 lf), (ptr b72)]))] ?_
         refine soQ 20 ?_
         refine Dr1.put (t := 73) (b := b189) (off := 0) (v := (agg [(Value.slice A205 ((o ++ [na]).length) c206), (Value.int IntKind.u64 ((d ||| 1 <<< i : Nat) : Int)), (i64 lf), (ptr b72)])) (ys := [(Value.slice A205 ((o ++ [na]).length) c206), (Value.int IntKind.u64 ((d ||| 1 <<< i : Nat) : Int)), (i64 lf), (ptr b72)]) (by kernel_rfl) (by kernel_rfl) H192 (by kernel_rfl) (d := none) (by kernel_rfl) rfl (fun w210 H211 K212 => ?_)
         replace hO201 := own_keep hO201 K212 (fun i hi => by have := ob208 i hi; omega)
         have Kb213 := Kb209.t1 K212 fun _ => by have := xb189; omega
         refine ⟨(SH.nil Kb213), ?_⟩
         refine DrS.keep (R := [(0, .func (Fn.yield ln) #[] #[]), (1, ptr b2), (2, ptr b3), (5, ptr b16), (10, ptr b189), (12, .slice LA l.length lc), (13, i64 ↑l.length), (14, i64 ↑i)]) (by kernel_rfl) ?_
         refine DrS.done (by kernel_rfl) ?_
         replace K31 := K31.tn Kb213
         replace H32 := H32.kn Kb213
         replace H33 := H33.kn Kb213
         replace H34 := H34.kn Kb213
         replace H35 := H35.kn Kb213
         replace H36 := H36.kn Kb213
         replace H37 := H37.kn Kb213
         replace H77 := H77.kn Kb213
         replace Hm94 := Hm94.kn Kb213
         replace Hk95 := Hk95.kn Kb213
         replace hcx := hcx.trans Kb213 (fun _ _ h => h) (fun _ _ h => h)
         have hgo := one_go (t := (⟨o, d, lf, (S, K)⟩ : Sr LS_)) hal hx hna hbit (fun j z hz => hwt j z (by have := (List.getElem?_eq_some_iff.1 hz).1; omega) hz) hst
         have hq1 : (b72 ≠ mb73 ∧ b72 ≠ kb74 ∧ mb73 ≠ kb74) ∧ b72 ≠ b189 ∧ mb73 ≠ b189 ∧ kb74 ≠ b189 := by omega
         have hyA : ∀ z, StC.At w210 110 (fun i => w1.heap.size ≤ i ∧ i < w210.heap.size ∧ i ≠ b189) (⟨o ++ [na], A205, c206, d ||| 1 <<< i, z, b72, ((doS S K x.c.op), (doK S K x.c.op))⟩ : StC) := fun z => ⟨OwnT.rd hO201, fun i hi => ⟨(World.ownsRow.lt hO201 i hi).1, (World.ownsRow.lt hO201 i hi).2, by have := ob208 i hi; omega⟩, mb73, kb74, m89, H77, Hm94, Hk95, hq1.1, hB96, ⟨ox86, H77.lt, hq1.2.1⟩, ⟨ox87, Hm94.lt, hq1.2.2.1⟩, ⟨ox88, Hk95.lt, hq1.2.2.2⟩⟩
         refine next_tail w210 ln m0 b2 b3 b16 b189 i l.length LA lc x A205 (o ++ [na]).length c206 (d ||| 1 <<< i) b72 lf T (J ((probH (XS l a)).nth (⟨o, d, lf, (S, K)⟩ : Sr LS_) (i + 1))) H37 H211 (by omega) (by omega) (fun W1 k1 => ?_) (fun w9 hj9 k9 => ?_)
         ·rw [Prob.nth_some hgo]
          refine hY _ _ _ W1 hj (hcx.trans k1 (U := none_) (fun _ _ h => h) (fun i hi h => by have h : i = b189 := h; exfalso; omega)) hWw (Prob.nth_lt (by show i < (XS l a).length; rw [xs_len hal]; omega) hgo) ⟨(⟨o ++ [na], A205, c206, d ||| 1 <<< i, (if x.c.told then lf - 1 else lf), b72, ((doS S K x.c.op), (doK S K x.c.op))⟩ : StC), rfl, Prob.nth_at (by show i < (XS l a).length; rw [xs_len hal]; omega) hgo, ?_⟩
          exact ((hyA _).keep k1 (fun i hi h => hi.2.2 h)).mono (fun i hi => ⟨hi.1, Nat.lt_of_lt_of_le hi.2.1 k1.size⟩)
         clear H37 H77 Hm94 Hk95 H119 H158 H211
         replace K31 := K31.trans k9 (U := (fun i => T i)) (fun i h1 h2 => h2) (fun i h1 h2 => by have h2 : T i ∨ i = b189 := h2; rcases h2 with h2 | h2; (exact h2); (exfalso; omega))
         replace H35 := H35.keep k9 (by intro h; change T b2 ∨ b2 = b189 at h; rcases h with h | h; (have := hTb2 b2 h; omega); (omega))
         replace H36 := H36.keep k9 (by intro h; change T b3 ∨ b3 = b189 at h; rcases h with h | h; (have := hTb3 b3 h; omega); (omega))
         replace H32 := H32.keep k9 (by intro h; change T b ∨ b = b189 at h; rcases h with h | h; (have := hTb b h; omega); (omega))
         replace H33 := H33.keep k9 (by intro h; change T mb ∨ mb = b189 at h; rcases h with h | h; (have := hTmb mb h; omega); (omega))
         replace H34 := H34.keep k9 (by intro h; change T kb ∨ kb = b189 at h; rcases h with h | h; (have := hTkb kb h; omega); (omega))
         refine rgQ Open.wide ?_
         refine oid 2 (fun z => [(0, .func (Fn.yield ln) #[] #[]), (1, ptr b2), (2, ptr b3), (12, .slice LA l.length lc), (13, i64 ↑l.length), (14, i64 z)]) i ?_
         exact ⟨i + 1, ⟨rfl, rfl, hj9, (by omega), K31, H32, H33, H34, H35, H36⟩, (show l.length - (i + 1) < l.length - i from by omega)⟩
       ·skip
        refine Dr1.new (o := rowL [(Value.slice none 0 0), (Value.int IntKind.u64 0), (i64 0), (Value.pointer none)] 73) (V := fun b => (ptr b)) (by kernel_rfl) (d := (some 10)) (by kernel_rfl) (fun b => rfl) (fun b215 w216 hb217 H218 K219 hs220 => ?_)
        have xb215 : w139.heap.size ≤ b215 := by have := Kb154.size; omega
        have nb215 : w.heap.size ≤ b215 := by have := K31.size; omega
        have ox221 : w1.heap.size ≤ b215 := by have := hcx.size; omega
        have ob222 : ∀ i, Ow (.slice A146 o.length c147) i → i < b215 := fun i hi => by have := (World.ownsRow.lt O151 i hi).2; omega
        replace O151 := own_keep0 O151 K219
        have Kb223 := Kb154.tn K219
        refine ⟨(SH.nil Kb223), ?_⟩
        clear K219 hs220
        refine soQ 8 ?_
        refine Dr1.new (o := rowL [(i64 ((na : Nat) : Int))] 3) (V := fun b => (Value.slice (some ⟨b, 0, none⟩) 1 1)) (by kernel_rfl) (d := (some 74)) (by kernel_rfl) (fun b => rfl) (fun b224 w225 hb226 H227 K228 hs229 => ?_)
        have xb224 : w139.heap.size ≤ b224 := by have := Kb223.size; omega
        have lb224b215 : b215 < b224 := by have := H218.lt; omega
        have nb224 : w.heap.size ≤ b224 := by have := K31.size; omega
        have ox230 : w1.heap.size ≤ b224 := by have := hcx.size; omega
        replace H218 := H218.kn K228
        replace O151 := own_keep0 O151 K228
        have Kb232 := Kb223.tn K228
        refine ⟨(SH.nil Kb232), ?_⟩
        clear K228 hs229
        refine soQ 9 ?_
        obtain ⟨v233, w234, hr235, hO236, hK237, hg238⟩ := OwnT.app (ty := 35) iN_one iN_cells tyI O151 (show RdT _ 1 iN _ [na] from Rd.lit H227 (n := 1) rfl (by decide)) (by simp only [List.length_cons, List.length_nil]; omega) (by simp only [List.length_cons, List.length_nil]; omega) (Nat.le_trans hcx.size Kb232.size)
        obtain ⟨A240, c241, rfl⟩ := RdT.form iN_one (by decide) (OwnT.rd hO236)
        have ob242 : ∀ i, Ow (.slice A240 ((o ++ [na]).length) c241) i → i ≠ b215 := fun i hi => by rcases hg238 i hi with h | h; (have := ob222 i h; omega); (have := H218.lt; omega)
        have K239 := hK237
        replace H218 := H218.keep K239 (by intro h; change Ow (.slice A146 o.length c147) b215 at h; have := ob222 b215 h; omega)
        have Kb244 := Kb232.trans K239 (U := none_) (fun _ _ h => h) (fun i h1 h2 => by have h2 : Ow (.slice A146 o.length c147) i := h2; exfalso; have := oy152 i h2; omega)
        refine Dr1.go (v := (Value.slice A240 ((o ++ [na]).length) c241)) (by kernel_rfl) (Runs.append (ts := #[35, 35]) (ty := 35) (vs := [(Value.slice A146 o.length c147), (Value.slice (some ⟨b224, 0, none⟩) 1 1)]) (by kernel_rfl) hr235) (d := (some 75)) (by kernel_rfl) rfl (SH.nil Kb244) ?_
        clear K239 hr235 hK237 hg238
        refine skQ 1 [18] [(0, .func (Fn.yield ln) #[] #[]), (1, ptr b2), (2, ptr b3), (5, ptr b16), (10, ptr b215), (12, .slice LA l.length lc), (13, i64 ↑l.length), (14, i64 ↑i), (28, i64 ↑kk), (84, (agg [(Value.slice A240 ((o ++ [na]).length) c241), (Value.int IntKind.u64 ((d ||| 1 <<< i : Nat) : Int)), (i64 lf), (ptr b72)]))] ?_
        refine soQ 20 ?_
        refine Dr1.put (t := 73) (b := b215) (off := 0) (v := (agg [(Value.slice A240 ((o ++ [na]).length) c241), (Value.int IntKind.u64 ((d ||| 1 <<< i : Nat) : Int)), (i64 lf), (ptr b72)])) (ys := [(Value.slice A240 ((o ++ [na]).length) c241), (Value.int IntKind.u64 ((d ||| 1 <<< i : Nat) : Int)), (i64 lf), (ptr b72)]) (by kernel_rfl) (by kernel_rfl) H218 (by kernel_rfl) (d := none) (by kernel_rfl) rfl (fun w245 H246 K247 => ?_)
        replace hO236 := own_keep hO236 K247 (fun i hi => by have := ob242 i hi; omega)
        have Kb248 := Kb244.t1 K247 fun _ => by have := xb215; omega
        refine ⟨(SH.nil Kb248), ?_⟩
        refine DrS.keep (R := [(0, .func (Fn.yield ln) #[] #[]), (1, ptr b2), (2, ptr b3), (5, ptr b16), (10, ptr b215), (12, .slice LA l.length lc), (13, i64 ↑l.length), (14, i64 ↑i)]) (by kernel_rfl) ?_
        refine DrS.done (by kernel_rfl) ?_
        replace K31 := K31.tn Kb248
        replace H32 := H32.kn Kb248
        replace H33 := H33.kn Kb248
        replace H34 := H34.kn Kb248
        replace H35 := H35.kn Kb248
        replace H36 := H36.kn Kb248
        replace H37 := H37.kn Kb248
        replace H77 := H77.kn Kb248
        replace Hm94 := Hm94.kn Kb248
        replace Hk95 := Hk95.kn Kb248
        replace hcx := hcx.trans Kb248 (fun _ _ h => h) (fun _ _ h => h)
        have hgo := one_go (t := (⟨o, d, lf, (S, K)⟩ : Sr LS_)) hal hx hna hbit (fun j z hz => hwt j z (by have := (List.getElem?_eq_some_iff.1 hz).1; omega) hz) hst
        have hq1 : (b72 ≠ mb73 ∧ b72 ≠ kb74 ∧ mb73 ≠ kb74) ∧ b72 ≠ b215 ∧ mb73 ≠ b215 ∧ kb74 ≠ b215 := by omega
        have hyA : ∀ z, StC.At w245 110 (fun i => w1.heap.size ≤ i ∧ i < w245.heap.size ∧ i ≠ b215) (⟨o ++ [na], A240, c241, d ||| 1 <<< i, z, b72, ((doS S K x.c.op), (doK S K x.c.op))⟩ : StC) := fun z => ⟨OwnT.rd hO236, fun i hi => ⟨(World.ownsRow.lt hO236 i hi).1, (World.ownsRow.lt hO236 i hi).2, by have := ob242 i hi; omega⟩, mb73, kb74, m89, H77, Hm94, Hk95, hq1.1, hB96, ⟨ox86, H77.lt, hq1.2.1⟩, ⟨ox87, Hm94.lt, hq1.2.2.1⟩, ⟨ox88, Hk95.lt, hq1.2.2.2⟩⟩
        refine next_tail w245 ln m0 b2 b3 b16 b215 i l.length LA lc x A240 (o ++ [na]).length c241 (d ||| 1 <<< i) b72 lf T (J ((probH (XS l a)).nth (⟨o, d, lf, (S, K)⟩ : Sr LS_) (i + 1))) H37 H246 (by omega) (by omega) (fun W1 k1 => ?_) (fun w9 hj9 k9 => ?_)
        ·rw [Prob.nth_some hgo]
         refine hY _ _ _ W1 hj (hcx.trans k1 (U := none_) (fun _ _ h => h) (fun i hi h => by have h : i = b215 := h; exfalso; omega)) hWw (Prob.nth_lt (by show i < (XS l a).length; rw [xs_len hal]; omega) hgo) ⟨(⟨o ++ [na], A240, c241, d ||| 1 <<< i, (if x.c.told then lf - 1 else lf), b72, ((doS S K x.c.op), (doK S K x.c.op))⟩ : StC), rfl, Prob.nth_at (by show i < (XS l a).length; rw [xs_len hal]; omega) hgo, ?_⟩
         exact ((hyA _).keep k1 (fun i hi h => hi.2.2 h)).mono (fun i hi => ⟨hi.1, Nat.lt_of_lt_of_le hi.2.1 k1.size⟩)
        clear H37 H77 Hm94 Hk95 H119 H246 H227
        replace K31 := K31.trans k9 (U := (fun i => T i)) (fun i h1 h2 => h2) (fun i h1 h2 => by have h2 : T i ∨ i = b215 := h2; rcases h2 with h2 | h2; (exact h2); (exfalso; omega))
        replace H35 := H35.keep k9 (by intro h; change T b2 ∨ b2 = b215 at h; rcases h with h | h; (have := hTb2 b2 h; omega); (omega))
        replace H36 := H36.keep k9 (by intro h; change T b3 ∨ b3 = b215 at h; rcases h with h | h; (have := hTb3 b3 h; omega); (omega))
        replace H32 := H32.keep k9 (by intro h; change T b ∨ b = b215 at h; rcases h with h | h; (have := hTb b h; omega); (omega))
        replace H33 := H33.keep k9 (by intro h; change T mb ∨ mb = b215 at h; rcases h with h | h; (have := hTmb mb h; omega); (omega))
        replace H34 := H34.keep k9 (by intro h; change T kb ∨ kb = b215 at h; rcases h with h | h; (have := hTkb kb h; omega); (omega))
        refine rgQ Open.wide ?_
        refine oid 2 (fun z => [(0, .func (Fn.yield ln) #[] #[]), (1, ptr b2), (2, ptr b3), (12, .slice LA l.length lc), (13, i64 ↑l.length), (14, i64 z)]) i ?_
        exact ⟨i + 1, ⟨rfl, rfl, hj9, (by omega), K31, H32, H33, H34, H35, H36⟩, (show l.length - (i + 1) < l.length - i from by omega)⟩
      ·skip
       refine Dr1.new (o := rowL [(i64 ((na : Nat) : Int))] 3) (V := fun b => (Value.slice (some ⟨b, 0, none⟩) 1 1)) (by kernel_rfl) (d := (some 74)) (by kernel_rfl) (fun b => rfl) (fun b250 w251 hb252 H253 K254 hs255 => ?_)
       have xb250 : w139.heap.size ≤ b250 := by have := Kb141.size; omega
       have nb250 : w.heap.size ≤ b250 := by have := K31.size; omega
       have ox256 : w1.heap.size ≤ b250 := by have := hcx.size; omega
       have Kb257 := Kb141.tn K254
       refine ⟨(SH.nil Kb257), ?_⟩
       clear K254 hs255
       refine DrS.two (i := 2) (j := 19) (by kernel_rfl) ?_ ?_
       ·skip
        refine Dr1.call (by kernel_rfl) (d := (some 68)) (by kernel_rfl) (CloneI_calls _ OA oc o (Rd.keep0 (by decide) hR40 Kb257) (by omega)) ?_
        rintro _ w260 ⟨A258, c259, rfl, K261, hO262⟩
        have ob264 : ∀ i, Ow (.slice A258 o.length c259) i → i ≠ b250 := fun i hi => by have := (World.ownsRow.lt hO262 i hi).1; have := H253.lt; omega
        have oy265 : ∀ i, Ow (.slice A258 o.length c259) i → w139.heap.size ≤ i := fun i hi => by have := (World.ownsRow.lt hO262 i hi).1; have := Kb257.size; omega
        have O263 := own_base hO262 (Nat.le_trans hcx.size Kb257.size)
        replace H253 := H253.kn K261
        have Kb267 := Kb257.tn K261
        refine ⟨_, _, rfl, rfl, (SH.nil Kb267), ?_⟩
        refine DrS.two (i := 9) (j := 19) (by kernel_rfl) ?_ ?_
        ·skip
         obtain ⟨v268, w269, hr270, hO271, hK272, hg273⟩ := OwnT.app (ty := 35) iN_one iN_cells tyI O263 (show RdT _ 1 iN _ [na] from Rd.lit H253 (n := 1) rfl (by decide)) (by simp only [List.length_cons, List.length_nil]; omega) (by simp only [List.length_cons, List.length_nil]; omega) (Nat.le_trans hcx.size Kb267.size)
         obtain ⟨A275, c276, rfl⟩ := RdT.form iN_one (by decide) (OwnT.rd hO271)
         have K274 := hK272
         replace H253 := H253.keep K274 (by intro h; change Ow (.slice A258 o.length c259) b250 at h; have := ob264 b250 h; omega)
         have Kb278 := Kb267.trans K274 (U := none_) (fun _ _ h => h) (fun i h1 h2 => by have h2 : Ow (.slice A258 o.length c259) i := h2; exfalso; have := oy265 i h2; omega)
         refine Dr1.go (v := (Value.slice A275 ((o ++ [na]).length) c276)) (by kernel_rfl) (Runs.append (ts := #[35, 35]) (ty := 35) (vs := [(Value.slice A258 o.length c259), (Value.slice (some ⟨b250, 0, none⟩) 1 1)]) (by kernel_rfl) hr270) (d := (some 75)) (by kernel_rfl) rfl (SH.nil Kb278) ?_
         clear K274 hr270 hK272 hg273
         refine skQ 2 [18] [(0, .func (Fn.yield ln) #[] #[]), (1, ptr b2), (2, ptr b3), (5, ptr b16), (12, .slice LA l.length lc), (13, i64 ↑l.length), (14, i64 ↑i), (28, i64 ↑kk), (84, (agg [(Value.slice A275 ((o ++ [na]).length) c276), (Value.int IntKind.u64 ((d ||| 1 <<< i : Nat) : Int)), (i64 lf), (ptr b72)]))] ?_
         refine soQ 19 ?_
         refine Dr1.new (o := rowL [(Value.slice none 0 0), (Value.int IntKind.u64 0), (i64 0), (Value.pointer none)] 73) (V := fun b => (ptr b)) (by kernel_rfl) (d := (some 10)) (by kernel_rfl) (fun b => rfl) (fun b279 w280 hb281 H282 K283 hs284 => ?_)
         have xb279 : w139.heap.size ≤ b279 := by have := Kb278.size; omega
         have lb279b250 : b250 < b279 := by have := H253.lt; omega
         have nb279 : w.heap.size ≤ b279 := by have := K31.size; omega
         have ox285 : w1.heap.size ≤ b279 := by have := hcx.size; omega
         have ob286 : ∀ i, Ow (.slice A275 ((o ++ [na]).length) c276) i → i < b279 := fun i hi => by have := (World.ownsRow.lt hO271 i hi).2; omega
         replace hO271 := own_keep0 hO271 K283
         have Kb287 := Kb278.tn K283
         refine ⟨(SH.nil Kb287), ?_⟩
         clear K283 hs284
         refine soQ 20 ?_
         refine Dr1.put (t := 73) (b := b279) (off := 0) (v := (agg [(Value.slice A275 ((o ++ [na]).length) c276), (Value.int IntKind.u64 ((d ||| 1 <<< i : Nat) : Int)), (i64 lf), (ptr b72)])) (ys := [(Value.slice A275 ((o ++ [na]).length) c276), (Value.int IntKind.u64 ((d ||| 1 <<< i : Nat) : Int)), (i64 lf), (ptr b72)]) (by kernel_rfl) (by kernel_rfl) H282 (by kernel_rfl) (d := none) (by kernel_rfl) rfl (fun w288 H289 K290 => ?_)
         replace hO271 := own_keep hO271 K290 (fun i hi => by have := ob286 i hi; omega)
         have Kb291 := Kb287.t1 K290 fun _ => by have := xb279; omega
         refine ⟨(SH.nil Kb291), ?_⟩
         refine DrS.keep (R := [(0, .func (Fn.yield ln) #[] #[]), (1, ptr b2), (2, ptr b3), (5, ptr b16), (10, ptr b279), (12, .slice LA l.length lc), (13, i64 ↑l.length), (14, i64 ↑i)]) (by kernel_rfl) ?_
         refine DrS.done (by kernel_rfl) ?_
         replace K31 := K31.tn Kb291
         replace H32 := H32.kn Kb291
         replace H33 := H33.kn Kb291
         replace H34 := H34.kn Kb291
         replace H35 := H35.kn Kb291
         replace H36 := H36.kn Kb291
         replace H37 := H37.kn Kb291
         replace H77 := H77.kn Kb291
         replace Hm94 := Hm94.kn Kb291
         replace Hk95 := Hk95.kn Kb291
         replace hcx := hcx.trans Kb291 (fun _ _ h => h) (fun _ _ h => h)
         have hgo := one_go (t := (⟨o, d, lf, (S, K)⟩ : Sr LS_)) hal hx hna hbit (fun j z hz => hwt j z (by have := (List.getElem?_eq_some_iff.1 hz).1; omega) hz) hst
         have hq1 : (b72 ≠ mb73 ∧ b72 ≠ kb74 ∧ mb73 ≠ kb74) ∧ b72 ≠ b279 ∧ mb73 ≠ b279 ∧ kb74 ≠ b279 := by omega
         have hyA : ∀ z, StC.At w288 110 (fun i => w1.heap.size ≤ i ∧ i < w288.heap.size ∧ i ≠ b279) (⟨o ++ [na], A275, c276, d ||| 1 <<< i, z, b72, ((doS S K x.c.op), (doK S K x.c.op))⟩ : StC) := fun z => ⟨OwnT.rd hO271, fun i hi => ⟨(World.ownsRow.lt hO271 i hi).1, (World.ownsRow.lt hO271 i hi).2, by have := ob286 i hi; omega⟩, mb73, kb74, m89, H77, Hm94, Hk95, hq1.1, hB96, ⟨ox86, H77.lt, hq1.2.1⟩, ⟨ox87, Hm94.lt, hq1.2.2.1⟩, ⟨ox88, Hk95.lt, hq1.2.2.2⟩⟩
         refine next_tail w288 ln m0 b2 b3 b16 b279 i l.length LA lc x A275 (o ++ [na]).length c276 (d ||| 1 <<< i) b72 lf T (J ((probH (XS l a)).nth (⟨o, d, lf, (S, K)⟩ : Sr LS_) (i + 1))) H37 H289 (by omega) (by omega) (fun W1 k1 => ?_) (fun w9 hj9 k9 => ?_)
         ·rw [Prob.nth_some hgo]
          refine hY _ _ _ W1 hj (hcx.trans k1 (U := none_) (fun _ _ h => h) (fun i hi h => by have h : i = b279 := h; exfalso; omega)) hWw (Prob.nth_lt (by show i < (XS l a).length; rw [xs_len hal]; omega) hgo) ⟨(⟨o ++ [na], A275, c276, d ||| 1 <<< i, (if x.c.told then lf - 1 else lf), b72, ((doS S K x.c.op), (doK S K x.c.op))⟩ : StC), rfl, Prob.nth_at (by show i < (XS l a).length; rw [xs_len hal]; omega) hgo, ?_⟩
          exact ((hyA _).keep k1 (fun i hi h => hi.2.2 h)).mono (fun i hi => ⟨hi.1, Nat.lt_of_lt_of_le hi.2.1 k1.size⟩)
         clear H37 H77 Hm94 Hk95 H119 H253 H289
         replace K31 := K31.trans k9 (U := (fun i => T i)) (fun i h1 h2 => h2) (fun i h1 h2 => by have h2 : T i ∨ i = b279 := h2; rcases h2 with h2 | h2; (exact h2); (exfalso; omega))
         replace H35 := H35.keep k9 (by intro h; change T b2 ∨ b2 = b279 at h; rcases h with h | h; (have := hTb2 b2 h; omega); (omega))
         replace H36 := H36.keep k9 (by intro h; change T b3 ∨ b3 = b279 at h; rcases h with h | h; (have := hTb3 b3 h; omega); (omega))
         replace H32 := H32.keep k9 (by intro h; change T b ∨ b = b279 at h; rcases h with h | h; (have := hTb b h; omega); (omega))
         replace H33 := H33.keep k9 (by intro h; change T mb ∨ mb = b279 at h; rcases h with h | h; (have := hTmb mb h; omega); (omega))
         replace H34 := H34.keep k9 (by intro h; change T kb ∨ kb = b279 at h; rcases h with h | h; (have := hTkb kb h; omega); (omega))
         refine rgQ Open.wide ?_
         refine oid 2 (fun z => [(0, .func (Fn.yield ln) #[] #[]), (1, ptr b2), (2, ptr b3), (12, .slice LA l.length lc), (13, i64 ↑l.length), (14, i64 z)]) i ?_
         exact ⟨i + 1, ⟨rfl, rfl, hj9, (by omega), K31, H32, H33, H34, H35, H36⟩, (show l.length - (i + 1) < l.length - i from by omega)⟩
        ·skip
         refine Dr1.new (o := rowL [(Value.slice none 0 0), (Value.int IntKind.u64 0), (i64 0), (Value.pointer none)] 73) (V := fun b => (ptr b)) (by kernel_rfl) (d := (some 10)) (by kernel_rfl) (fun b => rfl) (fun b293 w294 hb295 H296 K297 hs298 => ?_)
         have xb293 : w139.heap.size ≤ b293 := by have := Kb267.size; omega
         have lb293b250 : b250 < b293 := by have := H253.lt; omega
         have nb293 : w.heap.size ≤ b293 := by have := K31.size; omega
         have ox299 : w1.heap.size ≤ b293 := by have := hcx.size; omega
         have ob300 : ∀ i, Ow (.slice A258 o.length c259) i → i < b293 := fun i hi => by have := (World.ownsRow.lt O263 i hi).2; omega
         replace H253 := H253.kn K297
         replace O263 := own_keep0 O263 K297
         have Kb301 := Kb267.tn K297
         refine ⟨(SH.nil Kb301), ?_⟩
         clear K297 hs298
         refine soQ 9 ?_
         obtain ⟨v302, w303, hr304, hO305, hK306, hg307⟩ := OwnT.app (ty := 35) iN_one iN_cells tyI O263 (show RdT _ 1 iN _ [na] from Rd.lit H253 (n := 1) rfl (by decide)) (by simp only [List.length_cons, List.length_nil]; omega) (by simp only [List.length_cons, List.length_nil]; omega) (Nat.le_trans hcx.size Kb301.size)
         obtain ⟨A309, c310, rfl⟩ := RdT.form iN_one (by decide) (OwnT.rd hO305)
         have ob312 : ∀ i, Ow (.slice A309 ((o ++ [na]).length) c310) i → i ≠ b293 := fun i hi => by rcases hg307 i hi with h | h; (have := ob300 i h; omega); (have := H296.lt; omega)
         have K308 := hK306
         replace H296 := H296.keep K308 (by intro h; change Ow (.slice A258 o.length c259) b293 at h; have := ob300 b293 h; omega)
         have Kb313 := Kb301.trans K308 (U := none_) (fun _ _ h => h) (fun i h1 h2 => by have h2 : Ow (.slice A258 o.length c259) i := h2; exfalso; have := oy265 i h2; omega)
         refine Dr1.go (v := (Value.slice A309 ((o ++ [na]).length) c310)) (by kernel_rfl) (Runs.append (ts := #[35, 35]) (ty := 35) (vs := [(Value.slice A258 o.length c259), (Value.slice (some ⟨b250, 0, none⟩) 1 1)]) (by kernel_rfl) hr304) (d := (some 75)) (by kernel_rfl) rfl (SH.nil Kb313) ?_
         clear K308 hr304 hK306 hg307
         refine skQ 1 [18] [(0, .func (Fn.yield ln) #[] #[]), (1, ptr b2), (2, ptr b3), (5, ptr b16), (10, ptr b293), (12, .slice LA l.length lc), (13, i64 ↑l.length), (14, i64 ↑i), (28, i64 ↑kk), (84, (agg [(Value.slice A309 ((o ++ [na]).length) c310), (Value.int IntKind.u64 ((d ||| 1 <<< i : Nat) : Int)), (i64 lf), (ptr b72)]))] ?_
         refine soQ 20 ?_
         refine Dr1.put (t := 73) (b := b293) (off := 0) (v := (agg [(Value.slice A309 ((o ++ [na]).length) c310), (Value.int IntKind.u64 ((d ||| 1 <<< i : Nat) : Int)), (i64 lf), (ptr b72)])) (ys := [(Value.slice A309 ((o ++ [na]).length) c310), (Value.int IntKind.u64 ((d ||| 1 <<< i : Nat) : Int)), (i64 lf), (ptr b72)]) (by kernel_rfl) (by kernel_rfl) H296 (by kernel_rfl) (d := none) (by kernel_rfl) rfl (fun w314 H315 K316 => ?_)
         replace hO305 := own_keep hO305 K316 (fun i hi => by have := ob312 i hi; omega)
         have Kb317 := Kb313.t1 K316 fun _ => by have := xb293; omega
         refine ⟨(SH.nil Kb317), ?_⟩
         refine DrS.keep (R := [(0, .func (Fn.yield ln) #[] #[]), (1, ptr b2), (2, ptr b3), (5, ptr b16), (10, ptr b293), (12, .slice LA l.length lc), (13, i64 ↑l.length), (14, i64 ↑i)]) (by kernel_rfl) ?_
         refine DrS.done (by kernel_rfl) ?_
         replace K31 := K31.tn Kb317
         replace H32 := H32.kn Kb317
         replace H33 := H33.kn Kb317
         replace H34 := H34.kn Kb317
         replace H35 := H35.kn Kb317
         replace H36 := H36.kn Kb317
         replace H37 := H37.kn Kb317
         replace H77 := H77.kn Kb317
         replace Hm94 := Hm94.kn Kb317
         replace Hk95 := Hk95.kn Kb317
         replace hcx := hcx.trans Kb317 (fun _ _ h => h) (fun _ _ h => h)
         have hgo := one_go (t := (⟨o, d, lf, (S, K)⟩ : Sr LS_)) hal hx hna hbit (fun j z hz => hwt j z (by have := (List.getElem?_eq_some_iff.1 hz).1; omega) hz) hst
         have hq1 : (b72 ≠ mb73 ∧ b72 ≠ kb74 ∧ mb73 ≠ kb74) ∧ b72 ≠ b293 ∧ mb73 ≠ b293 ∧ kb74 ≠ b293 := by omega
         have hyA : ∀ z, StC.At w314 110 (fun i => w1.heap.size ≤ i ∧ i < w314.heap.size ∧ i ≠ b293) (⟨o ++ [na], A309, c310, d ||| 1 <<< i, z, b72, ((doS S K x.c.op), (doK S K x.c.op))⟩ : StC) := fun z => ⟨OwnT.rd hO305, fun i hi => ⟨(World.ownsRow.lt hO305 i hi).1, (World.ownsRow.lt hO305 i hi).2, by have := ob312 i hi; omega⟩, mb73, kb74, m89, H77, Hm94, Hk95, hq1.1, hB96, ⟨ox86, H77.lt, hq1.2.1⟩, ⟨ox87, Hm94.lt, hq1.2.2.1⟩, ⟨ox88, Hk95.lt, hq1.2.2.2⟩⟩
         refine next_tail w314 ln m0 b2 b3 b16 b293 i l.length LA lc x A309 (o ++ [na]).length c310 (d ||| 1 <<< i) b72 lf T (J ((probH (XS l a)).nth (⟨o, d, lf, (S, K)⟩ : Sr LS_) (i + 1))) H37 H315 (by omega) (by omega) (fun W1 k1 => ?_) (fun w9 hj9 k9 => ?_)
         ·rw [Prob.nth_some hgo]
          refine hY _ _ _ W1 hj (hcx.trans k1 (U := none_) (fun _ _ h => h) (fun i hi h => by have h : i = b293 := h; exfalso; omega)) hWw (Prob.nth_lt (by show i < (XS l a).length; rw [xs_len hal]; omega) hgo) ⟨(⟨o ++ [na], A309, c310, d ||| 1 <<< i, (if x.c.told then lf - 1 else lf), b72, ((doS S K x.c.op), (doK S K x.c.op))⟩ : StC), rfl, Prob.nth_at (by show i < (XS l a).length; rw [xs_len hal]; omega) hgo, ?_⟩
          exact ((hyA _).keep k1 (fun i hi h => hi.2.2 h)).mono (fun i hi => ⟨hi.1, Nat.lt_of_lt_of_le hi.2.1 k1.size⟩)
         clear H37 H77 Hm94 Hk95 H119 H253 H315
         replace K31 := K31.trans k9 (U := (fun i => T i)) (fun i h1 h2 => h2) (fun i h1 h2 => by have h2 : T i ∨ i = b293 := h2; rcases h2 with h2 | h2; (exact h2); (exfalso; omega))
         replace H35 := H35.keep k9 (by intro h; change T b2 ∨ b2 = b293 at h; rcases h with h | h; (have := hTb2 b2 h; omega); (omega))
         replace H36 := H36.keep k9 (by intro h; change T b3 ∨ b3 = b293 at h; rcases h with h | h; (have := hTb3 b3 h; omega); (omega))
         replace H32 := H32.keep k9 (by intro h; change T b ∨ b = b293 at h; rcases h with h | h; (have := hTb b h; omega); (omega))
         replace H33 := H33.keep k9 (by intro h; change T mb ∨ mb = b293 at h; rcases h with h | h; (have := hTmb mb h; omega); (omega))
         replace H34 := H34.keep k9 (by intro h; change T kb ∨ kb = b293 at h; rcases h with h | h; (have := hTkb kb h; omega); (omega))
         refine rgQ Open.wide ?_
         refine oid 2 (fun z => [(0, .func (Fn.yield ln) #[] #[]), (1, ptr b2), (2, ptr b3), (12, .slice LA l.length lc), (13, i64 ↑l.length), (14, i64 z)]) i ?_
         exact ⟨i + 1, ⟨rfl, rfl, hj9, (by omega), K31, H32, H33, H34, H35, H36⟩, (show l.length - (i + 1) < l.length - i from by omega)⟩
       ·skip
        refine Dr1.new (o := rowL [(Value.slice none 0 0), (Value.int IntKind.u64 0), (i64 0), (Value.pointer none)] 73) (V := fun b => (ptr b)) (by kernel_rfl) (d := (some 10)) (by kernel_rfl) (fun b => rfl) (fun b319 w320 hb321 H322 K323 hs324 => ?_)
        have xb319 : w139.heap.size ≤ b319 := by have := Kb257.size; omega
        have lb319b250 : b250 < b319 := by have := H253.lt; omega
        have nb319 : w.heap.size ≤ b319 := by have := K31.size; omega
        have ox325 : w1.heap.size ≤ b319 := by have := hcx.size; omega
        replace H253 := H253.kn K323
        have Kb326 := Kb257.tn K323
        refine ⟨(SH.nil Kb326), ?_⟩
        clear K323 hs324
        refine soQ 2 ?_
        refine Dr1.call (by kernel_rfl) (d := (some 68)) (by kernel_rfl) (CloneI_calls _ OA oc o (Rd.keep0 (by decide) hR40 Kb326) (by omega)) ?_
        rintro _ w329 ⟨A327, c328, rfl, K330, hO331⟩
        have ob334 : ∀ i, Ow (.slice A327 o.length c328) i → i ≠ b319 := fun i hi => by have := (World.ownsRow.lt hO331 i hi).1; have := H322.lt; omega
        have oy335 : ∀ i, Ow (.slice A327 o.length c328) i → w139.heap.size ≤ i := fun i hi => by have := (World.ownsRow.lt hO331 i hi).1; have := Kb326.size; omega
        have O332 := own_base hO331 (Nat.le_trans hcx.size Kb326.size)
        replace H253 := H253.kn K330
        replace H322 := H322.kn K330
        have Kb337 := Kb326.tn K330
        refine ⟨_, _, rfl, rfl, (SH.nil Kb337), ?_⟩
        refine soQ 9 ?_
        obtain ⟨v338, w339, hr340, hO341, hK342, hg343⟩ := OwnT.app (ty := 35) iN_one iN_cells tyI O332 (show RdT _ 1 iN _ [na] from Rd.lit H253 (n := 1) rfl (by decide)) (by simp only [List.length_cons, List.length_nil]; omega) (by simp only [List.length_cons, List.length_nil]; omega) (Nat.le_trans hcx.size Kb337.size)
        obtain ⟨A345, c346, rfl⟩ := RdT.form iN_one (by decide) (OwnT.rd hO341)
        have ob348 : ∀ i, Ow (.slice A345 ((o ++ [na]).length) c346) i → i ≠ b319 := fun i hi => by rcases hg343 i hi with h | h; (have := ob334 i h; omega); (have := H322.lt; omega)
        have K344 := hK342
        replace H322 := H322.keep K344 (by intro h; change Ow (.slice A327 o.length c328) b319 at h; have := ob334 b319 h; omega)
        have Kb349 := Kb337.trans K344 (U := none_) (fun _ _ h => h) (fun i h1 h2 => by have h2 : Ow (.slice A327 o.length c328) i := h2; exfalso; have := oy335 i h2; omega)
        refine Dr1.go (v := (Value.slice A345 ((o ++ [na]).length) c346)) (by kernel_rfl) (Runs.append (ts := #[35, 35]) (ty := 35) (vs := [(Value.slice A327 o.length c328), (Value.slice (some ⟨b250, 0, none⟩) 1 1)]) (by kernel_rfl) hr340) (d := (some 75)) (by kernel_rfl) rfl (SH.nil Kb349) ?_
        clear K344 hr340 hK342 hg343
        refine skQ 1 [18] [(0, .func (Fn.yield ln) #[] #[]), (1, ptr b2), (2, ptr b3), (5, ptr b16), (10, ptr b319), (12, .slice LA l.length lc), (13, i64 ↑l.length), (14, i64 ↑i), (28, i64 ↑kk), (84, (agg [(Value.slice A345 ((o ++ [na]).length) c346), (Value.int IntKind.u64 ((d ||| 1 <<< i : Nat) : Int)), (i64 lf), (ptr b72)]))] ?_
        refine soQ 20 ?_
        refine Dr1.put (t := 73) (b := b319) (off := 0) (v := (agg [(Value.slice A345 ((o ++ [na]).length) c346), (Value.int IntKind.u64 ((d ||| 1 <<< i : Nat) : Int)), (i64 lf), (ptr b72)])) (ys := [(Value.slice A345 ((o ++ [na]).length) c346), (Value.int IntKind.u64 ((d ||| 1 <<< i : Nat) : Int)), (i64 lf), (ptr b72)]) (by kernel_rfl) (by kernel_rfl) H322 (by kernel_rfl) (d := none) (by kernel_rfl) rfl (fun w350 H351 K352 => ?_)
        replace hO341 := own_keep hO341 K352 (fun i hi => by have := ob348 i hi; omega)
        have Kb353 := Kb349.t1 K352 fun _ => by have := xb319; omega
        refine ⟨(SH.nil Kb353), ?_⟩
        refine DrS.keep (R := [(0, .func (Fn.yield ln) #[] #[]), (1, ptr b2), (2, ptr b3), (5, ptr b16), (10, ptr b319), (12, .slice LA l.length lc), (13, i64 ↑l.length), (14, i64 ↑i)]) (by kernel_rfl) ?_
        refine DrS.done (by kernel_rfl) ?_
        replace K31 := K31.tn Kb353
        replace H32 := H32.kn Kb353
        replace H33 := H33.kn Kb353
        replace H34 := H34.kn Kb353
        replace H35 := H35.kn Kb353
        replace H36 := H36.kn Kb353
        replace H37 := H37.kn Kb353
        replace H77 := H77.kn Kb353
        replace Hm94 := Hm94.kn Kb353
        replace Hk95 := Hk95.kn Kb353
        replace hcx := hcx.trans Kb353 (fun _ _ h => h) (fun _ _ h => h)
        have hgo := one_go (t := (⟨o, d, lf, (S, K)⟩ : Sr LS_)) hal hx hna hbit (fun j z hz => hwt j z (by have := (List.getElem?_eq_some_iff.1 hz).1; omega) hz) hst
        have hq1 : (b72 ≠ mb73 ∧ b72 ≠ kb74 ∧ mb73 ≠ kb74) ∧ b72 ≠ b319 ∧ mb73 ≠ b319 ∧ kb74 ≠ b319 := by omega
        have hyA : ∀ z, StC.At w350 110 (fun i => w1.heap.size ≤ i ∧ i < w350.heap.size ∧ i ≠ b319) (⟨o ++ [na], A345, c346, d ||| 1 <<< i, z, b72, ((doS S K x.c.op), (doK S K x.c.op))⟩ : StC) := fun z => ⟨OwnT.rd hO341, fun i hi => ⟨(World.ownsRow.lt hO341 i hi).1, (World.ownsRow.lt hO341 i hi).2, by have := ob348 i hi; omega⟩, mb73, kb74, m89, H77, Hm94, Hk95, hq1.1, hB96, ⟨ox86, H77.lt, hq1.2.1⟩, ⟨ox87, Hm94.lt, hq1.2.2.1⟩, ⟨ox88, Hk95.lt, hq1.2.2.2⟩⟩
        refine next_tail w350 ln m0 b2 b3 b16 b319 i l.length LA lc x A345 (o ++ [na]).length c346 (d ||| 1 <<< i) b72 lf T (J ((probH (XS l a)).nth (⟨o, d, lf, (S, K)⟩ : Sr LS_) (i + 1))) H37 H351 (by omega) (by omega) (fun W1 k1 => ?_) (fun w9 hj9 k9 => ?_)
        ·rw [Prob.nth_some hgo]
         refine hY _ _ _ W1 hj (hcx.trans k1 (U := none_) (fun _ _ h => h) (fun i hi h => by have h : i = b319 := h; exfalso; omega)) hWw (Prob.nth_lt (by show i < (XS l a).length; rw [xs_len hal]; omega) hgo) ⟨(⟨o ++ [na], A345, c346, d ||| 1 <<< i, (if x.c.told then lf - 1 else lf), b72, ((doS S K x.c.op), (doK S K x.c.op))⟩ : StC), rfl, Prob.nth_at (by show i < (XS l a).length; rw [xs_len hal]; omega) hgo, ?_⟩
         exact ((hyA _).keep k1 (fun i hi h => hi.2.2 h)).mono (fun i hi => ⟨hi.1, Nat.lt_of_lt_of_le hi.2.1 k1.size⟩)
        clear H37 H77 Hm94 Hk95 H119 H253 H351
        replace K31 := K31.trans k9 (U := (fun i => T i)) (fun i h1 h2 => h2) (fun i h1 h2 => by have h2 : T i ∨ i = b319 := h2; rcases h2 with h2 | h2; (exact h2); (exfalso; omega))
        replace H35 := H35.keep k9 (by intro h; change T b2 ∨ b2 = b319 at h; rcases h with h | h; (have := hTb2 b2 h; omega); (omega))
        replace H36 := H36.keep k9 (by intro h; change T b3 ∨ b3 = b319 at h; rcases h with h | h; (have := hTb3 b3 h; omega); (omega))
        replace H32 := H32.keep k9 (by intro h; change T b ∨ b = b319 at h; rcases h with h | h; (have := hTb b h; omega); (omega))
        replace H33 := H33.keep k9 (by intro h; change T mb ∨ mb = b319 at h; rcases h with h | h; (have := hTmb mb h; omega); (omega))
        replace H34 := H34.keep k9 (by intro h; change T kb ∨ kb = b319 at h; rcases h with h | h; (have := hTkb kb h; omega); (omega))
        refine rgQ Open.wide ?_
        refine oid 2 (fun z => [(0, .func (Fn.yield ln) #[] #[]), (1, ptr b2), (2, ptr b3), (12, .slice LA l.length lc), (13, i64 ↑l.length), (14, i64 z)]) i ?_
        exact ⟨i + 1, ⟨rfl, rfl, hj9, (by omega), K31, H32, H33, H34, H35, H36⟩, (show l.length - (i + 1) < l.length - i from by omega)⟩
      ·skip
       refine Dr1.new (o := rowL [(Value.slice none 0 0), (Value.int IntKind.u64 0), (i64 0), (Value.pointer none)] 73) (V := fun b => (ptr b)) (by kernel_rfl) (d := (some 10)) (by kernel_rfl) (fun b => rfl) (fun b355 w356 hb357 H358 K359 hs360 => ?_)
       have xb355 : w139.heap.size ≤ b355 := by have := Kb141.size; omega
       have nb355 : w.heap.size ≤ b355 := by have := K31.size; omega
       have ox361 : w1.heap.size ≤ b355 := by have := hcx.size; omega
       have Kb362 := Kb141.tn K359
       refine ⟨(SH.nil Kb362), ?_⟩
       clear K359 hs360
       refine DrS.two (i := 2) (j := 8) (by kernel_rfl) ?_ ?_
       ·skip
        refine Dr1.call (by kernel_rfl) (d := (some 68)) (by kernel_rfl) (CloneI_calls _ OA oc o (Rd.keep0 (by decide) hR40 Kb362) (by omega)) ?_
        rintro _ w365 ⟨A363, c364, rfl, K366, hO367⟩
        have ob369 : ∀ i, Ow (.slice A363 o.length c364) i → i ≠ b355 := fun i hi => by have := (World.ownsRow.lt hO367 i hi).1; have := H358.lt; omega
        have oy370 : ∀ i, Ow (.slice A363 o.length c364) i → w139.heap.size ≤ i := fun i hi => by have := (World.ownsRow.lt hO367 i hi).1; have := Kb362.size; omega
        have O368 := own_base hO367 (Nat.le_trans hcx.size Kb362.size)
        replace H358 := H358.kn K366
        have Kb372 := Kb362.tn K366
        refine ⟨_, _, rfl, rfl, (SH.nil Kb372), ?_⟩
        refine soQ 8 ?_
        refine Dr1.new (o := rowL [(i64 ((na : Nat) : Int))] 3) (V := fun b => (Value.slice (some ⟨b, 0, none⟩) 1 1)) (by kernel_rfl) (d := (some 74)) (by kernel_rfl) (fun b => rfl) (fun b373 w374 hb375 H376 K377 hs378 => ?_)
        have xb373 : w139.heap.size ≤ b373 := by have := Kb372.size; omega
        have lb373b355 : b355 < b373 := by have := H358.lt; omega
        have nb373 : w.heap.size ≤ b373 := by have := K31.size; omega
        have ox379 : w1.heap.size ≤ b373 := by have := hcx.size; omega
        replace H358 := H358.kn K377
        replace O368 := own_keep0 O368 K377
        have Kb381 := Kb372.tn K377
        refine ⟨(SH.nil Kb381), ?_⟩
        clear K377 hs378
        refine soQ 9 ?_
        obtain ⟨v382, w383, hr384, hO385, hK386, hg387⟩ := OwnT.app (ty := 35) iN_one iN_cells tyI O368 (show RdT _ 1 iN _ [na] from Rd.lit H376 (n := 1) rfl (by decide)) (by simp only [List.length_cons, List.length_nil]; omega) (by simp only [List.length_cons, List.length_nil]; omega) (Nat.le_trans hcx.size Kb381.size)
        obtain ⟨A389, c390, rfl⟩ := RdT.form iN_one (by decide) (OwnT.rd hO385)
        have ob391 : ∀ i, Ow (.slice A389 ((o ++ [na]).length) c390) i → i ≠ b355 := fun i hi => by rcases hg387 i hi with h | h; (have := ob369 i h; omega); (have := H358.lt; omega)
        have K388 := hK386
        replace H358 := H358.keep K388 (by intro h; change Ow (.slice A363 o.length c364) b355 at h; have := ob369 b355 h; omega)
        have Kb393 := Kb381.trans K388 (U := none_) (fun _ _ h => h) (fun i h1 h2 => by have h2 : Ow (.slice A363 o.length c364) i := h2; exfalso; have := oy370 i h2; omega)
        refine Dr1.go (v := (Value.slice A389 ((o ++ [na]).length) c390)) (by kernel_rfl) (Runs.append (ts := #[35, 35]) (ty := 35) (vs := [(Value.slice A363 o.length c364), (Value.slice (some ⟨b373, 0, none⟩) 1 1)]) (by kernel_rfl) hr384) (d := (some 75)) (by kernel_rfl) rfl (SH.nil Kb393) ?_
        clear K388 hr384 hK386 hg387
        refine skQ 1 [18] [(0, .func (Fn.yield ln) #[] #[]), (1, ptr b2), (2, ptr b3), (5, ptr b16), (10, ptr b355), (12, .slice LA l.length lc), (13, i64 ↑l.length), (14, i64 ↑i), (28, i64 ↑kk), (84, (agg [(Value.slice A389 ((o ++ [na]).length) c390), (Value.int IntKind.u64 ((d ||| 1 <<< i : Nat) : Int)), (i64 lf), (ptr b72)]))] ?_
        refine soQ 20 ?_
        refine Dr1.put (t := 73) (b := b355) (off := 0) (v := (agg [(Value.slice A389 ((o ++ [na]).length) c390), (Value.int IntKind.u64 ((d ||| 1 <<< i : Nat) : Int)), (i64 lf), (ptr b72)])) (ys := [(Value.slice A389 ((o ++ [na]).length) c390), (Value.int IntKind.u64 ((d ||| 1 <<< i : Nat) : Int)), (i64 lf), (ptr b72)]) (by kernel_rfl) (by kernel_rfl) H358 (by kernel_rfl) (d := none) (by kernel_rfl) rfl (fun w394 H395 K396 => ?_)
        replace hO385 := own_keep hO385 K396 (fun i hi => by have := ob391 i hi; omega)
        have Kb397 := Kb393.t1 K396 fun _ => by have := xb355; omega
        refine ⟨(SH.nil Kb397), ?_⟩
        refine DrS.keep (R := [(0, .func (Fn.yield ln) #[] #[]), (1, ptr b2), (2, ptr b3), (5, ptr b16), (10, ptr b355), (12, .slice LA l.length lc), (13, i64 ↑l.length), (14, i64 ↑i)]) (by kernel_rfl) ?_
        refine DrS.done (by kernel_rfl) ?_
        replace K31 := K31.tn Kb397
        replace H32 := H32.kn Kb397
        replace H33 := H33.kn Kb397
        replace H34 := H34.kn Kb397
        replace H35 := H35.kn Kb397
        replace H36 := H36.kn Kb397
        replace H37 := H37.kn Kb397
        replace H77 := H77.kn Kb397
        replace Hm94 := Hm94.kn Kb397
        replace Hk95 := Hk95.kn Kb397
        replace hcx := hcx.trans Kb397 (fun _ _ h => h) (fun _ _ h => h)
        have hgo := one_go (t := (⟨o, d, lf, (S, K)⟩ : Sr LS_)) hal hx hna hbit (fun j z hz => hwt j z (by have := (List.getElem?_eq_some_iff.1 hz).1; omega) hz) hst
        have hq1 : (b72 ≠ mb73 ∧ b72 ≠ kb74 ∧ mb73 ≠ kb74) ∧ b72 ≠ b355 ∧ mb73 ≠ b355 ∧ kb74 ≠ b355 := by omega
        have hyA : ∀ z, StC.At w394 110 (fun i => w1.heap.size ≤ i ∧ i < w394.heap.size ∧ i ≠ b355) (⟨o ++ [na], A389, c390, d ||| 1 <<< i, z, b72, ((doS S K x.c.op), (doK S K x.c.op))⟩ : StC) := fun z => ⟨OwnT.rd hO385, fun i hi => ⟨(World.ownsRow.lt hO385 i hi).1, (World.ownsRow.lt hO385 i hi).2, by have := ob391 i hi; omega⟩, mb73, kb74, m89, H77, Hm94, Hk95, hq1.1, hB96, ⟨ox86, H77.lt, hq1.2.1⟩, ⟨ox87, Hm94.lt, hq1.2.2.1⟩, ⟨ox88, Hk95.lt, hq1.2.2.2⟩⟩
        refine next_tail w394 ln m0 b2 b3 b16 b355 i l.length LA lc x A389 (o ++ [na]).length c390 (d ||| 1 <<< i) b72 lf T (J ((probH (XS l a)).nth (⟨o, d, lf, (S, K)⟩ : Sr LS_) (i + 1))) H37 H395 (by omega) (by omega) (fun W1 k1 => ?_) (fun w9 hj9 k9 => ?_)
        ·rw [Prob.nth_some hgo]
         refine hY _ _ _ W1 hj (hcx.trans k1 (U := none_) (fun _ _ h => h) (fun i hi h => by have h : i = b355 := h; exfalso; omega)) hWw (Prob.nth_lt (by show i < (XS l a).length; rw [xs_len hal]; omega) hgo) ⟨(⟨o ++ [na], A389, c390, d ||| 1 <<< i, (if x.c.told then lf - 1 else lf), b72, ((doS S K x.c.op), (doK S K x.c.op))⟩ : StC), rfl, Prob.nth_at (by show i < (XS l a).length; rw [xs_len hal]; omega) hgo, ?_⟩
         exact ((hyA _).keep k1 (fun i hi h => hi.2.2 h)).mono (fun i hi => ⟨hi.1, Nat.lt_of_lt_of_le hi.2.1 k1.size⟩)
        clear H37 H77 Hm94 Hk95 H119 H395 H376
        replace K31 := K31.trans k9 (U := (fun i => T i)) (fun i h1 h2 => h2) (fun i h1 h2 => by have h2 : T i ∨ i = b355 := h2; rcases h2 with h2 | h2; (exact h2); (exfalso; omega))
        replace H35 := H35.keep k9 (by intro h; change T b2 ∨ b2 = b355 at h; rcases h with h | h; (have := hTb2 b2 h; omega); (omega))
        replace H36 := H36.keep k9 (by intro h; change T b3 ∨ b3 = b355 at h; rcases h with h | h; (have := hTb3 b3 h; omega); (omega))
        replace H32 := H32.keep k9 (by intro h; change T b ∨ b = b355 at h; rcases h with h | h; (have := hTb b h; omega); (omega))
        replace H33 := H33.keep k9 (by intro h; change T mb ∨ mb = b355 at h; rcases h with h | h; (have := hTmb mb h; omega); (omega))
        replace H34 := H34.keep k9 (by intro h; change T kb ∨ kb = b355 at h; rcases h with h | h; (have := hTkb kb h; omega); (omega))
        refine rgQ Open.wide ?_
        refine oid 2 (fun z => [(0, .func (Fn.yield ln) #[] #[]), (1, ptr b2), (2, ptr b3), (12, .slice LA l.length lc), (13, i64 ↑l.length), (14, i64 z)]) i ?_
        exact ⟨i + 1, ⟨rfl, rfl, hj9, (by omega), K31, H32, H33, H34, H35, H36⟩, (show l.length - (i + 1) < l.length - i from by omega)⟩
       ·skip
        refine Dr1.new (o := rowL [(i64 ((na : Nat) : Int))] 3) (V := fun b => (Value.slice (some ⟨b, 0, none⟩) 1 1)) (by kernel_rfl) (d := (some 74)) (by kernel_rfl) (fun b => rfl) (fun b399 w400 hb401 H402 K403 hs404 => ?_)
        have xb399 : w139.heap.size ≤ b399 := by have := Kb362.size; omega
        have lb399b355 : b355 < b399 := by have := H358.lt; omega
        have nb399 : w.heap.size ≤ b399 := by have := K31.size; omega
        have ox405 : w1.heap.size ≤ b399 := by have := hcx.size; omega
        replace H358 := H358.kn K403
        have Kb406 := Kb362.tn K403
        refine ⟨(SH.nil Kb406), ?_⟩
        clear K403 hs404
        refine soQ 2 ?_
        refine Dr1.call (by kernel_rfl) (d := (some 68)) (by kernel_rfl) (CloneI_calls _ OA oc o (Rd.keep0 (by decide) hR40 Kb406) (by omega)) ?_
        rintro _ w409 ⟨A407, c408, rfl, K410, hO411⟩
        have ob413 : ∀ i, Ow (.slice A407 o.length c408) i → i ≠ b355 := fun i hi => by have := (World.ownsRow.lt hO411 i hi).1; have := H358.lt; omega
        have oy415 : ∀ i, Ow (.slice A407 o.length c408) i → w139.heap.size ≤ i := fun i hi => by have := (World.ownsRow.lt hO411 i hi).1; have := Kb406.size; omega
        have O412 := own_base hO411 (Nat.le_trans hcx.size Kb406.size)
        replace H358 := H358.kn K410
        replace H402 := H402.kn K410
        have Kb417 := Kb406.tn K410
        refine ⟨_, _, rfl, rfl, (SH.nil Kb417), ?_⟩
        refine soQ 9 ?_
        obtain ⟨v418, w419, hr420, hO421, hK422, hg423⟩ := OwnT.app (ty := 35) iN_one iN_cells tyI O412 (show RdT _ 1 iN _ [na] from Rd.lit H402 (n := 1) rfl (by decide)) (by simp only [List.length_cons, List.length_nil]; omega) (by simp only [List.length_cons, List.length_nil]; omega) (Nat.le_trans hcx.size Kb417.size)
        obtain ⟨A425, c426, rfl⟩ := RdT.form iN_one (by decide) (OwnT.rd hO421)
        have ob427 : ∀ i, Ow (.slice A425 ((o ++ [na]).length) c426) i → i ≠ b355 := fun i hi => by rcases hg423 i hi with h | h; (have := ob413 i h; omega); (have := H358.lt; omega)
        have K424 := hK422
        replace H358 := H358.keep K424 (by intro h; change Ow (.slice A407 o.length c408) b355 at h; have := ob413 b355 h; omega)
        have Kb429 := Kb417.trans K424 (U := none_) (fun _ _ h => h) (fun i h1 h2 => by have h2 : Ow (.slice A407 o.length c408) i := h2; exfalso; have := oy415 i h2; omega)
        refine Dr1.go (v := (Value.slice A425 ((o ++ [na]).length) c426)) (by kernel_rfl) (Runs.append (ts := #[35, 35]) (ty := 35) (vs := [(Value.slice A407 o.length c408), (Value.slice (some ⟨b399, 0, none⟩) 1 1)]) (by kernel_rfl) hr420) (d := (some 75)) (by kernel_rfl) rfl (SH.nil Kb429) ?_
        clear K424 hr420 hK422 hg423
        refine skQ 1 [18] [(0, .func (Fn.yield ln) #[] #[]), (1, ptr b2), (2, ptr b3), (5, ptr b16), (10, ptr b355), (12, .slice LA l.length lc), (13, i64 ↑l.length), (14, i64 ↑i), (28, i64 ↑kk), (84, (agg [(Value.slice A425 ((o ++ [na]).length) c426), (Value.int IntKind.u64 ((d ||| 1 <<< i : Nat) : Int)), (i64 lf), (ptr b72)]))] ?_
        refine soQ 20 ?_
        refine Dr1.put (t := 73) (b := b355) (off := 0) (v := (agg [(Value.slice A425 ((o ++ [na]).length) c426), (Value.int IntKind.u64 ((d ||| 1 <<< i : Nat) : Int)), (i64 lf), (ptr b72)])) (ys := [(Value.slice A425 ((o ++ [na]).length) c426), (Value.int IntKind.u64 ((d ||| 1 <<< i : Nat) : Int)), (i64 lf), (ptr b72)]) (by kernel_rfl) (by kernel_rfl) H358 (by kernel_rfl) (d := none) (by kernel_rfl) rfl (fun w430 H431 K432 => ?_)
        replace hO421 := own_keep hO421 K432 (fun i hi => by have := ob427 i hi; omega)
        have Kb433 := Kb429.t1 K432 fun _ => by have := xb355; omega
        refine ⟨(SH.nil Kb433), ?_⟩
        refine DrS.keep (R := [(0, .func (Fn.yield ln) #[] #[]), (1, ptr b2), (2, ptr b3), (5, ptr b16), (10, ptr b355), (12, .slice LA l.length lc), (13, i64 ↑l.length), (14, i64 ↑i)]) (by kernel_rfl) ?_
        refine DrS.done (by kernel_rfl) ?_
        replace K31 := K31.tn Kb433
        replace H32 := H32.kn Kb433
        replace H33 := H33.kn Kb433
        replace H34 := H34.kn Kb433
        replace H35 := H35.kn Kb433
        replace H36 := H36.kn Kb433
        replace H37 := H37.kn Kb433
        replace H77 := H77.kn Kb433
        replace Hm94 := Hm94.kn Kb433
        replace Hk95 := Hk95.kn Kb433
        replace hcx := hcx.trans Kb433 (fun _ _ h => h) (fun _ _ h => h)
        have hgo := one_go (t := (⟨o, d, lf, (S, K)⟩ : Sr LS_)) hal hx hna hbit (fun j z hz => hwt j z (by have := (List.getElem?_eq_some_iff.1 hz).1; omega) hz) hst
        have hq1 : (b72 ≠ mb73 ∧ b72 ≠ kb74 ∧ mb73 ≠ kb74) ∧ b72 ≠ b355 ∧ mb73 ≠ b355 ∧ kb74 ≠ b355 := by omega
        have hyA : ∀ z, StC.At w430 110 (fun i => w1.heap.size ≤ i ∧ i < w430.heap.size ∧ i ≠ b355) (⟨o ++ [na], A425, c426, d ||| 1 <<< i, z, b72, ((doS S K x.c.op), (doK S K x.c.op))⟩ : StC) := fun z => ⟨OwnT.rd hO421, fun i hi => ⟨(World.ownsRow.lt hO421 i hi).1, (World.ownsRow.lt hO421 i hi).2, by have := ob427 i hi; omega⟩, mb73, kb74, m89, H77, Hm94, Hk95, hq1.1, hB96, ⟨ox86, H77.lt, hq1.2.1⟩, ⟨ox87, Hm94.lt, hq1.2.2.1⟩, ⟨ox88, Hk95.lt, hq1.2.2.2⟩⟩
        refine next_tail w430 ln m0 b2 b3 b16 b355 i l.length LA lc x A425 (o ++ [na]).length c426 (d ||| 1 <<< i) b72 lf T (J ((probH (XS l a)).nth (⟨o, d, lf, (S, K)⟩ : Sr LS_) (i + 1))) H37 H431 (by omega) (by omega) (fun W1 k1 => ?_) (fun w9 hj9 k9 => ?_)
        ·rw [Prob.nth_some hgo]
         refine hY _ _ _ W1 hj (hcx.trans k1 (U := none_) (fun _ _ h => h) (fun i hi h => by have h : i = b355 := h; exfalso; omega)) hWw (Prob.nth_lt (by show i < (XS l a).length; rw [xs_len hal]; omega) hgo) ⟨(⟨o ++ [na], A425, c426, d ||| 1 <<< i, (if x.c.told then lf - 1 else lf), b72, ((doS S K x.c.op), (doK S K x.c.op))⟩ : StC), rfl, Prob.nth_at (by show i < (XS l a).length; rw [xs_len hal]; omega) hgo, ?_⟩
         exact ((hyA _).keep k1 (fun i hi h => hi.2.2 h)).mono (fun i hi => ⟨hi.1, Nat.lt_of_lt_of_le hi.2.1 k1.size⟩)
        clear H37 H77 Hm94 Hk95 H119 H431 H402
        replace K31 := K31.trans k9 (U := (fun i => T i)) (fun i h1 h2 => h2) (fun i h1 h2 => by have h2 : T i ∨ i = b355 := h2; rcases h2 with h2 | h2; (exact h2); (exfalso; omega))
        replace H35 := H35.keep k9 (by intro h; change T b2 ∨ b2 = b355 at h; rcases h with h | h; (have := hTb2 b2 h; omega); (omega))
        replace H36 := H36.keep k9 (by intro h; change T b3 ∨ b3 = b355 at h; rcases h with h | h; (have := hTb3 b3 h; omega); (omega))
        replace H32 := H32.keep k9 (by intro h; change T b ∨ b = b355 at h; rcases h with h | h; (have := hTb b h; omega); (omega))
        replace H33 := H33.keep k9 (by intro h; change T mb ∨ mb = b355 at h; rcases h with h | h; (have := hTmb mb h; omega); (omega))
        replace H34 := H34.keep k9 (by intro h; change T kb ∨ kb = b355 at h; rcases h with h | h; (have := hTkb kb h; omega); (omega))
        refine rgQ Open.wide ?_
        refine oid 2 (fun z => [(0, .func (Fn.yield ln) #[] #[]), (1, ptr b2), (2, ptr b3), (12, .slice LA l.length lc), (13, i64 ↑l.length), (14, i64 z)]) i ?_
        exact ⟨i + 1, ⟨rfl, rfl, hj9, (by omega), K31, H32, H33, H34, H35, H36⟩, (show l.length - (i + 1) < l.length - i from by omega)⟩
 ·rw [h11]
  have p435 := of_decide_eq_false h11
  refine qr_exit (id := 0) (by kernel_rfl) ?_
  refine retR_norm (v := (Value.tuple #[])) (retv_none rfl) ?_
  exact ⟨⟨_, rfl⟩, by rw [← Prob.nth_end (P := (probH (XS l a))) (t := (⟨o, d, lf, (S, K)⟩ : Sr LS_)) (i := i) (by show i = (XS l a).length; rw [xs_len hal]; omega)]; exact hJ _ _ _ hj hcx⟩
end Go.Proofs.YtnbcghbgeiocbaaDoor
namespace Go.Q
open Go.RowKit
section
variable {α : Type} {f : α → List Value} {sz : Nat}
theorem OwnT.flat (hf : ∀ x, (f x).length = sz) {w : World} {base e n c : Nat} {A : Option Addr} {l : List α} (h : OwnT w base e sz f (.slice A n c) l) (h0 : l ≠ []) :
  ∃ g rest, A = some ⟨g, 0, none⟩ ∧ base ≤ g ∧ Has w g (rowL (l.flatMap f ++ rest) e) ∧ ∀ (m : List α) w', m.length = l.length → Has w' g (rowL (m.flatMap f ++ rest) e) → OwnT w' base e sz f (.slice A n c) m := by
 obtain ⟨hl, h⟩ := h
 rcases h with ⟨_, hn⟩ | ⟨g, cap, cur, hv, hb, hg, h1, h2, h3, h4⟩
 ·exact absurd (List.eq_nil_of_length_eq_zero hn) h0
 ·injection hv with e1 e2 e3
  subst e1; subst e2; subst e3
  refine ⟨g, cur.toList.drop (l.length * sz), rfl, hb, ?_, fun m w' hm H => ?_⟩
  ·rw [← h4, List.take_append_drop]; exact hg
  ·refine ⟨by rw [flat_len hf, hm], .inr ⟨g, c, ⟨m.flatMap f ++ cur.toList.drop (l.length * sz)⟩, by rw [hm], hb, H, by rw [hm]; exact h1, h2, ?_, ?_⟩⟩
   ·have : (l.flatMap f).length = l.length * sz := flat_len hf l
    have h5 : cur.toList.length = c * sz := by simpa using h3
    have h6 : l.length * sz ≤ c * sz := Nat.mul_le_mul_right _ h1
    show (m.flatMap f ++ cur.toList.drop (l.length * sz)).length = _
    rw [List.length_append, flat_len hf, List.length_drop, hm, h5]; omega
   ·show List.take (m.length * sz) (m.flatMap f ++ _) = _
    rw [← flat_len hf m, List.take_left]
theorem flat_len_at (hf : ∀ x, (f x).length = sz) {l : List α} {k : Nat} {x : α} {rest : List Value} (h : l[k]? = some x) : k * sz + (f x).length ≤ (l.flatMap f ++ rest).length := by
 have hk := (List.getElem?_eq_some_iff.1 h).1
 have : (k + 1) * sz ≤ l.length * sz := Nat.mul_le_mul_right _ hk
 rw [List.length_append, flat_len hf, hf]
 rw [Nat.add_mul] at this
 omega
theorem flat_len_set (hf : ∀ x, (f x).length = sz) {l : List α} {k : Nat} {x : α} {rest : List Value} (y : α) (h : l[k]? = some x) : k * sz + (f y).length ≤ (l.flatMap f ++ rest).length := by
 have := flat_len_at hf (rest := rest) h
 rw [hf] at this ⊢; exact this
theorem flat_load (hf : ∀ x, (f x).length = sz) {l : List α} {k : Nat} {x : α} {rest : List Value} (h : l[k]? = some x) : ((l.flatMap f ++ rest).drop (k * sz)).take (f x).length = f x := by
 have hk := (List.getElem?_eq_some_iff.1 h).1
 rw [flat_split h]
 have e : k * sz = ((l.take k).flatMap f).length := by rw [flat_len hf, List.length_take]; congr 1; omega
 rw [e, List.append_assoc, List.append_assoc, List.drop_left, List.take_left]
theorem flat_store (hf : ∀ x, (f x).length = sz) {l : List α} {k : Nat} {x : α} {rest : List Value} (y : α) (h : l[k]? = some x) : (l.flatMap f ++ rest).take (k * sz) ++ f y ++ (l.flatMap f ++ rest).drop (k * sz + (f y).length) = (l.set k y).flatMap f ++ rest := by
 have hk := (List.getElem?_eq_some_iff.1 h).1
 rw [flat_setx h, flat_split h]
 have e : k * sz = ((l.take k).flatMap f).length := by rw [flat_len hf, List.length_take]; congr 1; omega
 have e2 : k * sz + (f y).length = ((l.take k).flatMap f ++ f x).length := by rw [List.length_append, e, hf, hf]
 rw [e2, e]
 simp only [List.append_assoc]
 rw [List.take_left, ← List.append_assoc (List.flatMap f (List.take k l)) (f x), List.drop_left]
end
section
variable {α : Type}
def RevI (l m : List α) (i : Nat) : Prop := m.length = l.length ∧ ∀ k, k < l.length → m[k]? = if k < i ∨ l.length ≤ k + i then l[l.length - 1 - k]? else l[k]?
theorem RevI.zero (l : List α) : RevI l l 0 := ⟨rfl, fun k hk => by rw [if_neg (by omega)]⟩
theorem RevI.step {l m : List α} {i j : Nat} {x y : α} (h : RevI l m i) (hj : i + j + 1 = l.length) (hij : i < j) (hx : m[i]? = some x) (hy : m[j]? = some y) : RevI l ((m.set i y).set j x) (i + 1) := by
 refine ⟨by rw [List.length_set, List.length_set]; exact h.1, fun k hk => ?_⟩
 have hml := h.1
 have hxi := h.2 i (by omega)
 have hyj := h.2 j (by omega)
 rw [hx, if_neg (by omega)] at hxi
 rw [hy, if_neg (by omega)] at hyj
 by_cases h1 : k = j
 ·subst h1
  rw [List.getElem?_set_self (by rw [List.length_set]; omega), if_pos (by omega), hxi]
  congr 1; omega
 ·rw [List.getElem?_set_ne (fun q => h1 q.symm)]
  by_cases h2 : k = i
  ·subst h2
   rw [List.getElem?_set_self (by omega), if_pos (by omega), hyj]
   congr 1; omega
  ·rw [List.getElem?_set_ne (fun q => h2 q.symm), h.2 k hk]
   by_cases h3 : k < i ∨ l.length ≤ k + i
   ·rw [if_pos h3, if_pos (by omega)]
   ·rw [if_neg h3, if_neg (by omega)]
theorem RevI.done {l m : List α} {i : Nat} (h : RevI l m i) (hi : l.length ≤ 2 * i + 1) : m = l.reverse := by
 apply List.ext_getElem?
 intro k
 by_cases hk : k < l.length
 ·rw [h.2 k hk, List.getElem?_reverse hk]
  by_cases h3 : k < i ∨ l.length ≤ k + i
  ·rw [if_pos h3]
  ·rw [if_neg h3]; congr 1; omega
 ·rw [List.getElem?_eq_none (by rw [h.1]; omega), List.getElem?_eq_none (by rw [List.length_reverse]; omega)]
end
def StC.led (x : StC) : List Value := [.pointer (some ⟨x.b, 0, none⟩)]
theorem StC.led1 (x : StC) : x.led.length = 1 := rfl
theorem StC.led1c (x : StC) : oneCells x.led = true := rfl
noncomputable def sameB (a b : LS_) : Bool := @decide (sameL a b) (Classical.propDecidable _)
theorem sameB_iff (a b : LS_) : sameB a b = true ↔ sameL a b := by unfold sameB; exact @decide_eq_true_iff _ (Classical.propDecidable _)
section
variable {σ : Type} {P : Prob σ} {same : σ → σ → Bool} {f : Nat} {t : Sr σ} {st : List (Sr σ)} {D : List (Nat × σ)} {R : List Nat × Bool}
theorem run_end (h : P.run same f [] D = some R) : R = ([], false) := by
 cases f with
 | zero => cases h
 | succ f => exact (Option.some.inj h).symm
theorem run_left0 (h : P.run same f (t :: st) D = some R) (h0 : t.left = 0) : R = (t.order, true) := by
 cases f with
 | zero => cases h
 | succ f =>
  have h : (if t.left = 0 then some (t.order, true) else if dullS same D t then P.run same f st D else P.run same f (P.nexts t ++ st) ((t.done, t.s) :: D)) = some R := h
  rw [if_pos h0] at h
  exact (Option.some.inj h).symm
theorem run_dull (h : P.run same f (t :: st) D = some R) (h0 : t.left ≠ 0) (hd : dullS same D t = true) : ∃ f', f' < f ∧ P.run same f' st D = some R := by
 cases f with
 | zero => cases h
 | succ f =>
  have h : (if t.left = 0 then some (t.order, true) else if dullS same D t then P.run same f st D else P.run same f (P.nexts t ++ st) ((t.done, t.s) :: D)) = some R := h
  rw [if_neg h0, if_pos hd] at h
  exact ⟨f, Nat.lt_succ_self _, h⟩
theorem run_go (h : P.run same f (t :: st) D = some R) (h0 : t.left ≠ 0) (hd : ¬ dullS same D t = true) : ∃ f', f' < f ∧ P.run same f' (P.nexts t ++ st) ((t.done, t.s) :: D) = some R := by
 cases f with
 | zero => cases h
 | succ f =>
  have h : (if t.left = 0 then some (t.order, true) else if dullS same D t then P.run same f st D else P.run same f (P.nexts t ++ st) ((t.done, t.s) :: D)) = some R := h
  rw [if_neg h0, if_neg hd] at h
  exact ⟨f, Nat.lt_succ_self _, h⟩
end
theorem eq_nil_or_snoc {α : Type} : ∀ l : List α, l = [] ∨ ∃ m x, l = m ++ [x]
 | [] => .inl rfl
 | a :: l => .inr ⟨(a :: l).dropLast, (a :: l).getLast (by simp), (List.dropLast_concat_getLast (by simp)).symm⟩
theorem ownN {A : Option Addr} {n m c d : Nat} : (Value.slice A n c).ownBlock = (Value.slice A m d).ownBlock := by cases A <;> rfl
end Go.Q
namespace Go.Proofs.YtnbcghbgeiocbaaDoor
open Go.Q Go.RowKit
theorem pop_nil (w : World) (s : Nat) (A : Option Addr) (c : Nat) (Hs : Has w s (rowL [.slice A 0 c] 77)) : Calls Tryd.prog 30 ⟨[(ptr s)]⟩ w (fun e w' => e = .returned (.tuple #[agg [(Value.slice none 0 0), (Value.int IntKind.u64 0), (i64 0), (Value.pointer none)], .bool false]) ∧ Keeps none_ w w') := by
 have Hsl := Hs.lt
 have K0 : Keeps none_ w w := Keeps.refl w
 refine q_calls Tryd.func30 (by kernel_rfl) (by kernel_rfl) ?_
 refine qsg ?_
 refine onew (rowL [(Value.slice none 0 0), (Value.int IntKind.u64 0), (i64 0), (Value.pointer none)] 73) (fun b => (ptr b)) 2 (fun b => rfl) (fun b1 w2 hb3 H4 K5 hs6 => ?_)
 have lb1s : s < b1 := by have := Hs.lt; omega
 have nb1 : w.heap.size ≤ b1 := by have := K0.size; omega
 replace K0 := K0.t0 K5
 replace Hs := Hs.kn K5
 clear K5 hs6
 refine ogd 1 [(0, ptr s), (2, ptr b1), (3, .bool false)] ?_
 refine qsg ?_
 refine onew (rowL [(Value.slice none 0 0), (Value.int IntKind.u64 0), (i64 0), (Value.pointer none)] 73) (fun b => (ptr b)) 4 (fun b => rfl) (fun b7 w8 hb9 H10 K11 hs12 => ?_)
 have lb7s : s < b7 := by have := Hs.lt; omega
 have lb7b1 : b1 < b7 := by have := H4.lt; omega
 have nb7 : w.heap.size ≤ b7 := by have := K0.size; omega
 replace K0 := K0.t0 K11
 replace Hs := Hs.kn K11
 replace H4 := H4.kn K11
 clear K11 hs12
 refine od ?_
 refine qs ?_
 refine qsg ?_
 refine og 3 [(0, ptr s), (2, ptr b1), (3, .bool false), (4, ptr b7), (8, ptr s)] 3 ?_
 refine ogo (Value.slice A 0 c) 9 (rld 75 s 0 Hs) rfl ?_
 refine ogd 2 [(0, ptr s), (2, ptr b1), (3, .bool false), (4, ptr b7), (11, .bool true)] ?_
 refine q_then (o := .tmp 11) (by kernel_rfl) rfl ?_
 refine qsg ?_
 refine ogo (agg [(Value.slice none 0 0), (Value.int IntKind.u64 0), (i64 0), (Value.pointer none)]) 12 (rld 73 b7 0 H10) rfl ?_
 refine oput 73 b1 [(Value.slice none 0 0), (Value.int IntKind.u64 0), (i64 0), (Value.pointer none)] H4 rfl (fun w13 H14 K15 => ?_)
 clear H4
 replace K0 := K0.t1 K15 fun _ => by omega
 refine ogd 1 [(0, ptr s), (2, ptr b1), (3, .bool false)] ?_
 refine qtQ ?_
 refine ⟨(Value.tuple #[(agg [(Value.slice none 0 0), (Value.int IntKind.u64 0), (i64 0), (Value.pointer none)]), (Value.bool false)]), retv_cell_tmp rfl rfl (H14.loads (by kernel_rfl)) rfl, ?_⟩
 exact ⟨rfl, K0⟩
theorem pop_some (w : World) (s base : Nat) (A : Option Addr) (c n : Nat) (l : List StC) (x : StC) (Hs : Has w s (rowL [(Value.slice A n c)] 77)) (hO : OwnT w base 73 4 StC.cells (Value.slice A n c) (l ++ [x])) (hn : n = l.length + 1) (hVs : ∀ i, ((Value.slice A n c)).ownBlock = some i → i ≠ s) (hl : l.length ≤ 1000000000) : Calls Tryd.prog 30 ⟨[(ptr s)]⟩ w (fun e w' => e = .returned (.tuple #[agg [(Value.slice x.A x.order.length x.k), (Value.int IntKind.u64 ((x.done : Nat) : Int)), (i64 x.left), (ptr x.b)], .bool true]) ∧ Keeps (fun i => i = s) w w' ∧ Has w' s (rowL [(Value.slice A l.length c)] 77) ∧ OwnT w' base 73 4 StC.cells (Value.slice A l.length c) l) := by
 have Hsl := Hs.lt
 have hcap := RdT.len StC.two (by decide) (OwnT.rd hO)
 have K0 : Keeps (fun i => i = s) w w := (Keeps.refl w).mono (fun _ _ h => h.elim)
 refine q_calls Tryd.func30 (by kernel_rfl) (by kernel_rfl) ?_
 refine qsg ?_
 refine onew (rowL [(Value.slice none 0 0), (Value.int IntKind.u64 0), (i64 0), (Value.pointer none)] 73) (fun b => (ptr b)) 2 (fun b => rfl) (fun b1 w2 hb3 H4 K5 hs6 => ?_)
 have lb1s : s < b1 := by have := Hs.lt; omega
 have nb1 : w.heap.size ≤ b1 := by have := K0.size; omega
 have ob7 : ∀ i, Ow (.slice A n c) i → i < b1 := fun i hi => by have := (World.ownsRow.lt hO i hi).2; omega
 replace K0 := K0.tn K5
 replace Hs := Hs.kn K5
 replace hO := own_keep0 hO K5
 clear K5 hs6
 refine ogd 1 [(0, ptr s), (2, ptr b1), (3, .bool false)] ?_
 refine qsg ?_
 refine onew (rowL [(Value.slice none 0 0), (Value.int IntKind.u64 0), (i64 0), (Value.pointer none)] 73) (fun b => (ptr b)) 4 (fun b => rfl) (fun b8 w9 hb10 H11 K12 hs13 => ?_)
 have lb8s : s < b8 := by have := Hs.lt; omega
 have lb8b1 : b1 < b8 := by have := H4.lt; omega
 have nb8 : w.heap.size ≤ b8 := by have := K0.size; omega
 replace K0 := K0.tn K12
 replace Hs := Hs.kn K12
 replace H4 := H4.kn K12
 replace hO := own_keep0 hO K12
 clear K12 hs13
 refine od ?_
 refine qs ?_
 refine qsg ?_
 refine og 3 [(0, ptr s), (2, ptr b1), (3, .bool false), (4, ptr b8), (8, ptr s)] 3 ?_
 refine ogo (Value.slice A n c) 9 (rld 75 s 0 Hs) rfl ?_
 refine ogd 2 [(0, ptr s), (2, ptr b1), (3, .bool false), (4, ptr b8), (11, (Value.bool (((n : Nat) : Int) == 0)))] ?_
 have h15 : (((n : Nat) : Int) == 0) = false := beq_f (by omega)
 rw [h15]
 refine q_else (o := .tmp 11) (by kernel_rfl) rfl ?_
 refine qkQ ?_
 refine qs ?_
 refine q_drawS 14 (by kernel_rfl) (by kernel_rfl) (by kernel_rfl) (fun w16 K17 _ _ => ?_)
 replace K0 := K0.tn K17
 replace Hs := Hs.kn K17
 replace H4 := H4.kn K17
 replace H11 := H11.kn K17
 replace hO := own_keep0 hO K17
 have Kb18 : Keeps none_ w16 w16 := Keeps.refl w16
 refine ⟨fun wz => Keeps none_ w16 wz, [], (SH.nil Kb18), ?_⟩
 refine skQ 11 [0, 1, 2] [(0, ptr s), (2, ptr b1), (3, .bool false), (15, ptr s)] ?_
 refine stQ 3 (Value.slice A n c) 16 (fun wz hS => rld 75 s 0 (Hs.keep hS (fun h => h))) rfl ?_
 refine skQ 7 [4, 5, 6] [(0, ptr s), (2, ptr b1), (3, .bool false), (16, .slice A n c), (19, ptr s)] ?_
 refine stQ 7 (Value.slice A n c) 20 (fun wz hS => rld 75 s 0 (Hs.keep hS (fun h => h))) rfl ?_
 refine skQ 4 [8, 9] [(0, ptr s), (2, ptr b1), (3, .bool false), (16, .slice A n c), (22, (i64 (IntKind.i64.wrap (((n : Nat) : Int) - 1))))] ?_
 have e19 : IntKind.i64.wrap (((n : Nat) : Int) - 1) = ((l.length : Nat) : Int) := by rw [wrap_i64 (by omega) (by omega)]; omega
 rw [e19]
 obtain ⟨rb20, ro21, hA22⟩ := Rd.addr (OwnT.rd hO) (by omega)
 refine stQ 10 (Value.pointer (some ⟨rb20, ro21 + l.length * 4, none⟩)) 23 (fun wz hS => Runs.ixSliceE (k := IntKind.i64) (t := 75) (len := n) (cap := c) (s := 4) (off' := ro21 + l.length * 4) (i := ((l.length : Nat) : Int)) hA22 (by kernel_rfl) (by kernel_rfl) (by omega) (by omega) (by omega)) rfl ?_
 refine stQ 11 (agg [(Value.slice x.A x.order.length x.k), (Value.int IntKind.u64 ((x.done : Nat) : Int)), (i64 x.left), (ptr x.b)]) 24 (fun wz hS => Runs.load (t := 73) (a := ⟨rb20, ro21 + l.length * 4, none⟩) (by kernel_rfl) (RdT.ld (f := StC.cells) (x := x) StC.two (Rd.keep0 (by decide) (OwnT.rd hO) hS) (by kernel_rfl) (by kernel_rfl) hA22 (List.getElem?_concat_length ..))) rfl ?_
 refine soQ 12 ?_
 refine Dr1.new (o := rowL [(Value.slice none 0 0), (Value.int IntKind.u64 0), (i64 0), (Value.pointer none)] 73) (V := fun b => (ptr b)) (by kernel_rfl) (d := (some 5)) (by kernel_rfl) (fun b => rfl) (fun b23 w24 hb25 H26 K27 hs28 => ?_)
 have lb23s : s < b23 := by have := Hs.lt; omega
 have lb23b1 : b1 < b23 := by have := H4.lt; omega
 have lb23b8 : b8 < b23 := by have := H11.lt; omega
 have nb23 : w.heap.size ≤ b23 := by have := K0.size; omega
 have ob29 : ∀ i, Ow (.slice A n c) i → i < b23 := fun i hi => by have := (World.ownsRow.lt hO i hi).2; omega
 have xb23 : w16.heap.size ≤ b23 := by have := Kb18.size; omega
 replace K0 := K0.tn K27
 replace Hs := Hs.kn K27
 replace H4 := H4.kn K27
 replace hO := own_keep0 hO K27
 have Kb30 := Kb18.tn K27
 refine ⟨(SH.nil Kb30), ?_⟩
 clear K27 hs28
 refine soQ 13 ?_
 refine Dr1.put (t := 73) (b := b23) (off := 0) (v := (agg [(Value.slice x.A x.order.length x.k), (Value.int IntKind.u64 ((x.done : Nat) : Int)), (i64 x.left), (ptr x.b)])) (ys := [(Value.slice x.A x.order.length x.k), (Value.int IntKind.u64 ((x.done : Nat) : Int)), (i64 x.left), (ptr x.b)]) (by kernel_rfl) (by kernel_rfl) H26 (by kernel_rfl) (d := none) (by kernel_rfl) rfl (fun w31 H32 K33 => ?_)
 replace K0 := K0.t1 K33 fun _ => by show b23 = s; omega
 replace Hs := Hs.k1 K33 (by omega)
 replace H4 := H4.k1 K33 (by omega)
 replace hO := own_keep hO K33 (fun i hi => by have := ob29 i hi; omega)
 have Kb34 := Kb30.t1 K33 fun _ => by have := xb23; omega
 refine ⟨(SH.nil Kb34), ?_⟩
 refine DrS.done (by kernel_rfl) ?_
 refine qs ?_
 refine q_drawS 15 (by kernel_rfl) (by kernel_rfl) (by kernel_rfl) (fun w35 K36 _ _ => ?_)
 replace K0 := K0.tn K36
 replace Hs := Hs.kn K36
 replace H4 := H4.kn K36
 replace H32 := H32.kn K36
 replace hO := own_keep0 hO K36
 have Kb37 : Keeps (fun i => i = s) w35 w35 := (Keeps.refl w35).mono (fun _ _ h => h.elim)
 refine ⟨fun wz => Keeps (fun i => i = s) w35 wz, [(14, fun wz => Loads Tryd.prog wz 75 ⟨s, 0, none⟩ (Value.slice A n c))], (SH.cons (SH.nil Kb37) (.inr (Hs.loads (by kernel_rfl)))), ?_⟩
 refine skQ 11 [0, 1, 2, 3] [(0, ptr s), (2, ptr b1), (3, .bool false), (5, ptr b23), (25, ptr s), (28, ptr s)] ?_
 refine DrS.takeH (s := 14) (.head _) (i := 4) (v := (Value.slice A n c)) (by kernel_rfl) (by kernel_rfl) (by kernel_rfl) (fun wz hB hp => Runs.load (t := 75) (a := ⟨s, 0, none⟩) (by kernel_rfl) hp) (d := (some 29)) (by kernel_rfl) rfl ?_
 refine skQ 7 [5, 6, 7] [(2, ptr b1), (3, .bool false), (5, ptr b23), (25, ptr s), (29, .slice A n c), (32, ptr s)] ?_
 refine DrS.takeH (s := 14) (.head _) (i := 8) (v := (Value.slice A n c)) (by kernel_rfl) (by kernel_rfl) (by kernel_rfl) (fun wz hB hp => Runs.load (t := 75) (a := ⟨s, 0, none⟩) (by kernel_rfl) hp) (d := (some 33)) (by kernel_rfl) rfl ?_
 refine skQ 4 [9, 10] [(2, ptr b1), (3, .bool false), (5, ptr b23), (25, ptr s), (29, .slice A n c), (35, (i64 (IntKind.i64.wrap (((n : Nat) : Int) - 1))))] ?_
 have e38 : IntKind.i64.wrap (((n : Nat) : Int) - 1) = ((l.length : Nat) : Int) := by rw [wrap_i64 (by omega) (by omega)]; omega
 rw [e38]
 have hc39 := fun wz => run_cut (sz := 4) (P := Tryd.prog) (w := wz) (t := 75) (A := A) (n := n) (c := c) 0 l.length c (lo := none) (hi := some (i64 ((l.length : Nat) : Int))) (mx := none) tySt.slice (by kernel_rfl) (.inl ⟨rfl, rfl⟩) (.inr ⟨_, rfl⟩) (.inl ⟨rfl, rfl⟩) (by omega) (by omega) (by omega)
 have hA0 : (if c = 0 then A else Option.map (fun q => Addr.add q (0 * 4)) A) = A := by cases A <;> simp [Addr.add]
 simp only [hA0, Nat.sub_zero] at hc39
 refine stQ 11 (Value.slice A l.length c) 36 (fun wz hS => Runs.slice (by kernel_rfl) (hc39 _)) rfl ?_
 refine skQ 1 [12, 13] [(2, ptr b1), (3, .bool false), (5, ptr b23), (36, .slice A l.length c), (38, ptr s)] ?_
 refine soQ 14 ?_
 refine Dr1.put (t := 75) (b := s) (off := 0) (v := (Value.slice A l.length c)) (ys := [(Value.slice A l.length c)]) (by kernel_rfl) (by kernel_rfl) Hs (by kernel_rfl) (d := none) (by kernel_rfl) rfl (fun w40 H41 K42 => ?_)
 clear Hs
 replace K0 := K0.t1 K42 (fun _ => rfl)
 replace H4 := H4.k1 K42 (by omega)
 replace H32 := H32.k1 K42 (by omega)
 replace hO := own_keep hO K42 (fun i hi => by have := hVs i hi; omega)
 have Kb43 := Kb37.t1 K42 fun _ => rfl
 refine ⟨(SH.cons (SH.nil Kb43) (.inl (by kernel_rfl))), ?_⟩
 refine DrS.done (by kernel_rfl) ?_
 refine qsg ?_
 refine ogo (agg [(Value.slice x.A x.order.length x.k), (Value.int IntKind.u64 ((x.done : Nat) : Int)), (i64 x.left), (ptr x.b)]) 39 (rld 73 b23 0 H32) rfl ?_
 refine oput 73 b1 [(Value.slice x.A x.order.length x.k), (Value.int IntKind.u64 ((x.done : Nat) : Int)), (i64 x.left), (ptr x.b)] H4 rfl (fun w44 H45 K46 => ?_)
 clear H4
 replace K0 := K0.t1 K46 fun _ => by show b1 = s; omega
 replace H41 := H41.k1 K46 (by omega)
 replace hO := own_keep hO K46 (fun i hi => by have := ob7 i hi; omega)
 refine ogd 1 [(2, ptr b1), (3, .bool true)] ?_
 refine qtQ ?_
 refine ⟨(Value.tuple #[(agg [(Value.slice x.A x.order.length x.k), (Value.int IntKind.u64 ((x.done : Nat) : Int)), (i64 x.left), (ptr x.b)]), (Value.bool true)]), retv_cell_tmp rfl rfl (H45.loads (by kernel_rfl)) rfl, ?_⟩
 exact ⟨rfl, K0, H41, OwnT.init StC.two hO Nat.one_pos⟩
theorem Rev_walk (w : World) (gb : Nat) (A : Option Addr) (c : Nat) (l : List StC) (rest : List Value) (hA : A = some ⟨gb, 0, none⟩) (Hg : Has w gb (rowL (l.flatMap StC.cells ++ rest) 73)) (hcap : l.length ≤ c ∧ c ≤ maxLen) : Calls Tryd.prog 34 ⟨[(Value.slice A l.length c)]⟩ w (fun e w' => e = .returned (.tuple #[]) ∧ Keeps (fun i => i = gb) w w' ∧ Has w' gb (rowL (l.reverse.flatMap StC.cells ++ rest) 73)) := by
 have Hgl := Hg.lt
 have hcap1 := hcap.2
 unfold maxLen at hcap1
 have K0 : Keeps (fun i => i = gb) w w := (Keeps.refl w).mono (fun _ _ h => h.elim)
 refine q_calls Tryd.func34 (by kernel_rfl) (by kernel_rfl) ?_
 refine qsg ?_
 refine og 3 [(0, .slice A l.length c), (6, (i64 (IntKind.i64.wrap (((l.length : Nat) : Int) - 1))))] 3 ?_
 have e1 : IntKind.i64.wrap (((l.length : Nat) : Int) - 1) = ((l.length : Nat) : Int) - 1 := wrap_i64 (by omega) (by omega)
 rw [e1]
 refine ogd 2 [(0, .slice A l.length c), (2, i64 0), (3, (i64 (((l.length : Nat) : Int) - 1)))] ?_
 refine q_block (id := 0) (by kernel_rfl) ?_
 refine q_keep (R := [(0, .slice A l.length c), (2, i64 0), (3, (i64 (((l.length : Nat) : Int) - 1)))]) (by kernel_rfl) ?_
 refine q_loop (fun (gs : Nat × (List StC)) L (wx : World) => match gs with | (i, m) => L = [(0, (Value.slice A l.length c)), (2, (i64 ((i : Nat) : Int))), (3, (i64 (((l.length : Nat) : Int) - ((i + 1 : Nat) : Int))))] ∧ RevI l m i ∧ 2 * i ≤ l.length + 1 ∧ Keeps (fun i => i = gb) w wx ∧ Has wx gb (rowL (m.flatMap StC.cells ++ rest) 73)) (fun (gs : Nat × (List StC)) => match gs with | (i, m) => l.length - 2 * i) (0, l) (by kernel_rfl) ⟨rfl, (RevI.zero l), Nat.zero_le _, K0, Hg⟩ ?_
 clear Hg K0
 rintro ⟨i, m⟩ _ w2 ⟨rfl, hm, hi, K3, H4⟩
 have hml := hm.1
 refine qs ?_
 refine qsg ?_
 refine ogd 3 [(0, .slice A l.length c), (2, i64 ↑i), (3, (i64 (((l.length : Nat) : Int) - ((i + 1 : Nat) : Int)))), (9, (Value.bool (decide (((i : Nat) : Int) < ((l.length : Nat) : Int) - ((i + 1 : Nat) : Int)))))] ?_
 refine qcQ 9 (decide (((i : Nat) : Int) < ((l.length : Nat) : Int) - ((i + 1 : Nat) : Int))) rfl (fun h5 => ?_) (fun h5 => ?_)
 ·rw [h5]
  have p6 := of_decide_eq_true h5
  obtain ⟨j, hj⟩ : ∃ j : Nat, i + j + 1 = l.length := ⟨l.length - 1 - i, by omega⟩
  have hje : (((l.length : Nat) : Int) - ((i + 1 : Nat) : Int)) = ((j : Nat) : Int) := by omega
  rw [hje]
  obtain ⟨x, hx⟩ : ∃ x, m[i]? = some x := ⟨_, List.getElem?_eq_getElem (by omega)⟩
  obtain ⟨y, hy⟩ : ∃ y, m[j]? = some y := ⟨_, List.getElem?_eq_getElem (by omega)⟩
  have hij : i < j := by omega
  refine qkQ ?_
  refine qs ?_
  refine q_block (id := 1) (by kernel_rfl) ?_
  refine q_drawS 16 (by kernel_rfl) (by kernel_rfl) (by kernel_rfl) (fun w7 K8 _ _ => ?_)
  replace K3 := K3.tn K8
  replace H4 := H4.kn K8
  clear K8
  have Kb9 : Keeps (fun i => i = gb) w7 w7 := (Keeps.refl w7).mono (fun _ _ h => h.elim)
  refine ⟨fun wz => Keeps (fun i => i = gb) w7 wz, [(13, fun wz => Loads Tryd.prog wz 73 ⟨gb, j * 4, none⟩ (agg [(Value.slice y.A y.order.length y.k), (Value.int IntKind.u64 ((y.done : Nat) : Int)), (i64 y.left), (ptr y.b)])), (13, fun wz => Loads Tryd.prog wz 73 ⟨gb, i * 4, none⟩ (agg [(Value.slice x.A x.order.length x.k), (Value.int IntKind.u64 ((x.done : Nat) : Int)), (i64 x.left), (ptr x.b)]))], (SH.cons (SH.cons (SH.nil Kb9) (.inr (H4.loads (loadCN (vs := x.cells) (by kernel_rfl) (by kernel_rfl) (flat_load StC.two hx) (flat_len_at StC.two hx))))) (.inr (H4.loads (loadCN (vs := y.cells) (by kernel_rfl) (by kernel_rfl) (flat_load StC.two hy) (flat_len_at StC.two hy))))), ?_⟩
  refine skQ 10 [0, 1, 2, 3, 4, 5] [(0, .slice A l.length c), (2, i64 ↑i), (3, i64 ↑j), (14, .slice A l.length c), (15, i64 ↑i), (16, .slice A l.length c), (17, i64 ↑j), (18, .slice A l.length c), (19, i64 ↑j)] ?_
  refine stQ 6 (Value.pointer (some ⟨gb, j * 4, none⟩)) 20 (fun wz hS => Runs.ixSliceE (k := IntKind.i64) (t := 75) (len := l.length) (cap := c) (s := 4) (off' := j * 4) (i := ((j : Nat) : Int)) hA (by kernel_rfl) (by kernel_rfl) (by omega) (by omega) (by omega)) rfl ?_
  refine DrS.takeH (s := 13) (.head _) (i := 7) (v := (agg [(Value.slice y.A y.order.length y.k), (Value.int IntKind.u64 ((y.done : Nat) : Int)), (i64 y.left), (ptr y.b)])) (by kernel_rfl) (by kernel_rfl) (by kernel_rfl) (fun wz hB hp => Runs.load (t := 73) (a := ⟨gb, j * 4, none⟩) (by kernel_rfl) hp) (d := (some 21)) (by kernel_rfl) rfl ?_
  refine skQ 6 [8, 9] [(0, .slice A l.length c), (2, i64 ↑i), (3, i64 ↑j), (14, .slice A l.length c), (15, i64 ↑i), (16, .slice A l.length c), (17, i64 ↑j), (21, (agg [(Value.slice y.A y.order.length y.k), (Value.int IntKind.u64 ((y.done : Nat) : Int)), (i64 y.left), (ptr y.b)])), (22, .slice A l.length c), (23, i64 ↑i)] ?_
  refine stQ 10 (Value.pointer (some ⟨gb, i * 4, none⟩)) 24 (fun wz hS => Runs.ixSliceE (k := IntKind.i64) (t := 75) (len := l.length) (cap := c) (s := 4) (off' := i * 4) (i := ((i : Nat) : Int)) hA (by kernel_rfl) (by kernel_rfl) (by omega) (by omega) (by omega)) rfl ?_
  refine DrS.takeH (s := 13) (.tail _ (.head _)) (i := 11) (v := (agg [(Value.slice x.A x.order.length x.k), (Value.int IntKind.u64 ((x.done : Nat) : Int)), (i64 x.left), (ptr x.b)])) (by kernel_rfl) (by kernel_rfl) (by kernel_rfl) (fun wz hB hp => Runs.load (t := 73) (a := ⟨gb, i * 4, none⟩) (by kernel_rfl) hp) (d := (some 25)) (by kernel_rfl) rfl ?_
  refine stQ 12 (Value.pointer (some ⟨gb, i * 4, none⟩)) 26 (fun wz hS => Runs.ixSliceE (k := IntKind.i64) (t := 75) (len := l.length) (cap := c) (s := 4) (off' := i * 4) (i := ((i : Nat) : Int)) hA (by kernel_rfl) (by kernel_rfl) (by omega) (by omega) (by omega)) rfl ?_
  refine soQ 13 ?_
  refine Dr1.put (t := 73) (b := gb) (off := i * 4) (v := (agg [(Value.slice y.A y.order.length y.k), (Value.int IntKind.u64 ((y.done : Nat) : Int)), (i64 y.left), (ptr y.b)])) (ys := ((m.set i y).flatMap StC.cells ++ rest)) (by kernel_rfl) (by kernel_rfl) H4 (storeCN (vs := y.cells) (by kernel_rfl) (by kernel_rfl) (flat_len_set StC.two y hx) (flat_store StC.two y hx)) (d := none) (by kernel_rfl) rfl (fun w10 H11 K12 => ?_)
  clear H4
  replace K3 := K3.t1 K12 (fun _ => rfl)
  have Kb13 := Kb9.t1 K12 fun _ => rfl
  clear Kb9
  refine ⟨(SH.cons (SH.cons (SH.nil Kb13) (.inl (by kernel_rfl))) (.inl (by kernel_rfl))), ?_⟩
  refine stQ 14 (Value.pointer (some ⟨gb, j * 4, none⟩)) 27 (fun wz hS => Runs.ixSliceE (k := IntKind.i64) (t := 75) (len := l.length) (cap := c) (s := 4) (off' := j * 4) (i := ((j : Nat) : Int)) hA (by kernel_rfl) (by kernel_rfl) (by omega) (by omega) (by omega)) rfl ?_
  refine soQ 15 ?_
  refine Dr1.put (t := 73) (b := gb) (off := j * 4) (v := (agg [(Value.slice x.A x.order.length x.k), (Value.int IntKind.u64 ((x.done : Nat) : Int)), (i64 x.left), (ptr x.b)])) (ys := (((m.set i y).set j x).flatMap StC.cells ++ rest)) (by kernel_rfl) (by kernel_rfl) H11 (storeCN (vs := x.cells) (by kernel_rfl) (by kernel_rfl) (flat_len_set StC.two x ((List.getElem?_set_ne (by omega)).trans hy)) (flat_store StC.two x ((List.getElem?_set_ne (by omega)).trans hy))) (d := none) (by kernel_rfl) rfl (fun w14 H15 K16 => ?_)
  replace K3 := K3.t1 K16 (fun _ => rfl)
  have Kb17 := Kb13.t1 K16 fun _ => rfl
  refine ⟨(SH.cons (SH.cons (SH.nil Kb17) (.inl (by kernel_rfl))) (.inl (by kernel_rfl))), ?_⟩
  refine DrS.done (by kernel_rfl) ?_
  refine qg ?_
  refine og 2 [(0, .slice A l.length c), (2, i64 ↑i), (3, i64 ↑j), (11, (i64 (IntKind.i64.wrap (((i : Nat) : Int) + 1))))] 2 ?_
  rw [show IntKind.i64.wrap (((i : Nat) : Int) + 1) = ((i + 1 : Nat) : Int) from by rw [wrap_i64 (by omega) (by omega)]; omega]
  refine og 2 [(0, .slice A l.length c), (2, i64 ↑i), (3, i64 ↑j), (11, i64 ↑(i + 1)), (13, (i64 (IntKind.i64.wrap (((j : Nat) : Int) - 1))))] 4 ?_
  have e19 : IntKind.i64.wrap (((j : Nat) : Int) - 1) = ((j : Nat) : Int) - 1 := wrap_i64 (by omega) (by omega)
  rw [e19]
  refine og 2 [(0, .slice A l.length c), (2, i64 ↑(i + 1)), (3, (i64 (((j : Nat) : Int) - 1)))] 6 ?_
  rw [show (((j : Nat) : Int) - 1) = (((l.length : Nat) : Int) - ((i + 1 + 1 : Nat) : Int)) from by omega]
  refine ok_ [(0, .slice A l.length c), (2, i64 ↑(i + 1)), (3, (i64 (((l.length : Nat) : Int) - ((i + 1 + 1 : Nat) : Int))))] ?_
  refine od ?_
  exact ⟨(i + 1, (m.set i y).set j x), ⟨rfl, (hm.step hj hij hx hy), (by omega), K3, H15⟩, (show l.length - 2 * (i + 1) < l.length - 2 * i from by omega)⟩
 ·rw [h5]
  have p20 := of_decide_eq_false h5
  refine q_exit (id := 0) (by kernel_rfl) ?_
  refine ⟨(Value.tuple #[]), retv_none rfl, ?_⟩
  have hrev := hm.done (by omega)
  have H9 := H4
  rw [hrev] at H9
  exact ⟨rfl, K3, H9⟩
end Go.Proofs.YtnbcghbgeiocbaaDoor
namespace Go.Proofs.YtnbcghbgeiocbaaDoor
open Go.Q Go.RowKit
theorem Rev_nil (w : World) (A : Option Addr) (c : Nat)  : Calls Tryd.prog 34 ⟨[(Value.slice A 0 c)]⟩ w (fun e w' => e = .returned (.tuple #[]) ∧ Keeps none_ w w') := by
 have K0 : Keeps none_ w w := Keeps.refl w
 refine q_calls Tryd.func34 (by kernel_rfl) (by kernel_rfl) ?_
 refine qsg ?_
 refine ogd 5 [(0, .slice A 0 c), (2, i64 0), (3, (i64 (-1)))] ?_
 refine q_block (id := 0) (by kernel_rfl) ?_
 refine q_roll 1 (by kernel_rfl) ?_
 refine Go.Q.roll_step ?_
 refine qs ?_
 refine qsg ?_
 refine ogd 3 [(0, .slice A 0 c), (2, i64 0), (3, (i64 (-1))), (9, .bool false)] ?_
 refine q_else (o := .tmp 9) (by kernel_rfl) rfl ?_
 refine q_exit (id := 0) (by kernel_rfl) ?_
 refine ⟨(Value.tuple #[]), retv_none rfl, ?_⟩
 exact ⟨rfl, K0⟩
theorem Rev_calls (w : World) (base : Nat) (A : Option Addr) (c : Nat) (l : List StC) (hO : OwnT w base 73 4 StC.cells (.slice A l.length c) l) : Calls Tryd.prog 34 ⟨[.slice A l.length c]⟩ w (fun e w' => e = .returned (.tuple #[]) ∧ Keeps (fun i => (Value.slice A l.length c).ownBlock = some i) w w' ∧ OwnT w' base 73 4 StC.cells (.slice A l.length c) l.reverse) := by
 by_cases h0 : l = []
 ·subst h0
  refine (Rev_nil w A c).mono ?_
  rintro e w' ⟨he, hk⟩
  exact ⟨he, hk.mono (fun _ _ h => h.elim), own_keep0 hO hk⟩
 ·have hcap := RdT.len StC.two (by decide) (OwnT.rd hO)
  obtain ⟨gb, rest, hA, hg, H, hput⟩ := OwnT.flat StC.two hO h0
  refine (Rev_walk w gb A c l rest hA H hcap.2).mono ?_
  rintro e w' ⟨he, hk, H2⟩
  exact ⟨he, hk.mono (fun i _ h => by have h : i = gb := h; subst h; subst hA; rfl), hput _ _ (List.length_reverse ..) H2⟩
theorem next_tells (w0 : World) (m0 b2 b3 : Nat) (LA : Option Addr) (lc : Nat) (l : List HC) (AA : Option Addr) (ac : Nat) (a : List Nat) (x : StC) (F T G : Nat → Prop) (H2 : Has w0 b2 (rowL [(Value.slice LA l.length lc), (Value.slice AA a.length ac)] 68)) (H3 : Has w0 b3 (rowL x.cells 73)) (hx : x.At w0 110 F)
  (hL : RdT w0 13 HC.cells (Value.slice LA l.length lc) l) (hA : RdT w0 1 iN (Value.slice AA a.length ac) a) (hal : a.length = l.length) (hG : RowsE w0 HC.rv HC.rows G l) (ho : ∀ x ∈ l, -9223372036854775808 ≤ x.c.op.amount ∧ x.c.op.amount ≤ 9223372036854775807)
  (hF : ∀ i, (Ow (.slice LA l.length lc) i ∨ Ow (.slice AA a.length ac) i ∨ F i ∨ G i) → i < w0.heap.size ∧ i ≠ b2 ∧ i ≠ b3 ∧ ¬ T i) (hTb : ¬ T b2 ∧ ¬ T b3) (hb23 : b2 ≠ b3) (h8 : l.length ≤ 8) (hok : SrOk (XS l a) x.m) :
  TellsW Tryd.prog m0 47 [ptr b2, ptr b3] (nextA 110 (XS l a) x.m) T ((probH (XS l a)).nexts x.m).length w0 := by
 intro ln J W hW hJ hY h0
 obtain ⟨o, OA, oc, d, lf, b, S, K⟩ := x
 obtain ⟨mb, kb, m, h1, h2, h3, hne, hB, f1, f2, f3⟩ := hx.led
 have q1 := hF b (.inr (.inr (.inl f1)))
 have q2 := hF mb (.inr (.inr (.inl f2)))
 have q3 := hF kb (.inr (.inr (.inl f3)))
 have hsz := hW.size
 refine (next_walk W ln m0 b2 b3 LA lc l AA ac a OA oc o d lf b mb kb m S K T G J (H2.keep hW hTb.1) (H3.keep hW hTb.2) (h1.keep hW q1.2.2.2) (h2.keep hW q2.2.2.2) (h3.keep hW q3.2.2.2) hne hB ⟨hb23, q1.2.1, q1.2.2.1⟩
  (Rd.keep (by decide) hL hW fun i hi => (hF i (.inl hi)).2.2.2) (Rd.keep (by decide) hA hW fun i hi => (hF i (.inr (.inl hi))).2.2.2) hal (Rd.keep (by decide) hx.row hW fun i hi => (hF i (.inr (.inr (.inl (hx.inF i hi))))).2.2.2) (hG.keep hW fun i hi => (hF i (.inr (.inr (.inr hi)))).2.2.2) ho
  (fun i hi => ⟨fun e => hTb.1 (e ▸ hi), fun e => hTb.2 (e ▸ hi), fun e => q1.2.2.2 (e ▸ hi), fun e => q2.2.2.2 (e ▸ hi), fun e => q3.2.2.2 (e ▸ hi)⟩)
  (fun i hi => ?_) h8 hok hJ hY h0)
 rcases hi with hi | hi | hi | hi
 ·have := hF i (.inl hi); exact ⟨by omega, this.2.2.2⟩
 ·have := hF i (.inr (.inl hi)); exact ⟨by omega, this.2.2.2⟩
 ·have := hF i (.inr (.inr (.inl (hx.inF i hi)))); exact ⟨by omega, this.2.2.2⟩
 ·have := hF i (.inr (.inr (.inr hi))); exact ⟨by omega, this.2.2.2⟩
end Go.Proofs.YtnbcghbgeiocbaaDoor
namespace Go.Proofs.YtnbcghbgeiocbaaDoor
open Go.Q Go.RowKit
theorem keptNest : ∃ f1 f2, NestTy Tryd.prog 118 f1 f2 7 ∧ f1.type = 24 ∧ f2.type = 25 := ⟨_, _, { und := Tryd.underlying118, n1 := by decide, n2 := by decide, o1 := rfl, o2 := rfl, a1 := by kernel_rfl, z1 := Tryd.sizeOf24, held := by kernel_rfl, guard := by kernel_rfl }, rfl, rfl⟩
theorem EqualM_calls (w : World) (m1 m2 : Nat) (M1 M2 : List (List UInt8 × Int)) (S1 S2 : List RowM) (H1 : HasMap w m1 kstr ki64 (M1)) (H2 : HasMap w m2 kstr ki64 (M2)) (hL1 : LMap M1 S1) (hL2 : LMap M2 S2) : Calls Tryd.prog 45 ⟨[(Value.map (some m1)), (Value.map (some m2))]⟩ w (fun e w' => ∃ t, e = .returned (.bool t) ∧ (t = true ↔ S1 = S2) ∧ Keeps none_ w w') := by
 have H1l := H1.lt
 have H2l := H2.lt
 have hl1 := hL1.len
 have hl2 := hL2.len
 have K0 : Keeps none_ w w := Keeps.refl w
 refine q_calls Tryd.func45 (by kernel_rfl) (by kernel_rfl) ?_
 refine qsg ?_
 refine odz 1 ?_
 refine qs ?_
 refine qsg ?_
 refine og 1 [(0, .map (some m1)), (1, .map (some m2)), (4, .bool false), (9, .map (some m1))] 1 ?_
 refine ogo (i64 ((M1.length : Nat) : Int)) 10 (Runs.maplen (ts := #[107]) (t0 := 107) (ty := 3) rfl Tryd.underlying107 H1 (by kernel_rfl)) rfl ?_
 refine og 1 [(0, .map (some m1)), (1, .map (some m2)), (4, .bool false), (10, i64 ↑M1.length), (11, .map (some m2))] 3 ?_
 refine ogo (i64 ((M2.length : Nat) : Int)) 12 (Runs.maplen (ts := #[107]) (t0 := 107) (ty := 3) rfl Tryd.underlying107 H2 (by kernel_rfl)) rfl ?_
 refine ogd 1 [(0, .map (some m1)), (1, .map (some m2)), (4, .bool false), (13, (Value.bool (((M1.length : Nat) : Int) != ((M2.length : Nat) : Int))))] ?_
 refine qcQ 13 (((M1.length : Nat) : Int) != ((M2.length : Nat) : Int)) rfl (fun h1 => ?_) (fun h1 => ?_)
 ·rw [h1]
  have p2 := of_bne_t h1
  refine qsg ?_
  refine ogd 1 [(0, .map (some m1)), (1, .map (some m2)), (4, .bool false)] ?_
  refine qtQ ?_
  refine ⟨(Value.bool false), retv_tmp rfl rfl, ?_⟩
  exact ⟨false, rfl, ⟨fun h => (by cases h), fun h => absurd h fun h => (by subst h; have := hL1.len; have := hL2.len; omega)⟩, K0⟩
 ·rw [h1]
  have p3 := of_bne_f h1
  refine qkQ ?_
  refine qs ?_
  refine qsg ?_
  refine og 1 [(1, .map (some m2)), (4, .bool false), (14, .map (some m1))] 1 ?_
  obtain ⟨it4, w5, hr6, K7, hq8, H9⟩ := HasMap.range (P := Tryd.prog) (t := 107) Tryd.underlying107 H1
  refine ogo (ptr it4) 15 (Runs.of_range (by kernel_rfl) hr6) rfl ?_
  have lit4m1 : m1 < it4 := by have := H1.lt; omega
  have lit4m2 : m2 < it4 := by have := H2.lt; omega
  have nit4 : w.heap.size ≤ it4 := by have := K0.size; omega
  replace K0 := K0.t0 K7
  replace H1 := H1.kn K7
  replace H2 := H2.kn K7
  clear K7 hr6
  refine od ?_
  refine q_block (id := 0) (by kernel_rfl) ?_
  refine q_keep (R := [(1, .map (some m2)), (15, ptr it4)]) (by kernel_rfl) ?_
  refine q_loop (fun (gs : (List (List UInt8 × Int)) × (List (List UInt8 × Int)) × (Option (List UInt8 × Int))) L (wx : World) => match gs with | (came, rest, last) => L = [(1, (Value.map (some m2))), (15, (ptr it4))] ∧ (came ++ rest).Perm (M1) ∧ (∀ y ∈ came, getM (M2) y.1 = some y.2) ∧ Keeps none_ w wx ∧ HasMap wx m1 kstr ki64 M1 ∧ HasMap wx m2 kstr ki64 M2 ∧ IterM wx it4 m1 kstr ki64 M1 rest last) (fun (gs : (List (List UInt8 × Int)) × (List (List UInt8 × Int)) × (Option (List UInt8 × Int))) => match gs with | (came, rest, last) => rest.length) ([], M1, none) (by kernel_rfl) ⟨rfl, (List.Perm.refl _), (fun y hy => by cases hy), K0, H1, H2, H9⟩ ?_
  clear H1 H2 H9 K0
  rintro ⟨came, rest, last⟩ _ w10 ⟨rfl, hp, hall, K11, H12, H13, H14⟩
  refine qsg ?_
  rcases IterM.next (P := Tryd.prog) H14 0 with ⟨hn24, hr21⟩ | ⟨x15, a16, p17, q18, w19, hs20, hr21, K22, H23⟩
  ·skip
   refine ogo (Value.tuple #[(Value.bool false)]) 16 (Runs.of_next (by kernel_rfl) hr21) rfl ?_
   clear hr21
   refine ogd 1 [(1, .map (some m2)), (15, ptr it4), (17, .bool false)] ?_
   refine qs ?_
   refine q_else (o := .tmp 17) (by kernel_rfl) rfl ?_
   refine q_exit (id := 0) (by kernel_rfl) ?_
   refine qsg ?_
   refine ogd 1 [(4, .bool true)] ?_
   refine qtQ ?_
   refine ⟨(Value.bool true), retv_tmp rfl rfl, ?_⟩
   exact ⟨true, rfl, ⟨fun _ => hL1.eq hL2 (by omega) (by rw [hn24, List.append_nil] at hp; exact hp) hall, fun _ => rfl⟩, K11⟩
  ·skip
   refine ogo (Value.tuple #[(Value.bool true), (Value.string (str x15)), (i64 a16)]) 16 (Runs.of_next (by kernel_rfl) hr21) rfl ?_
   replace H23 := H23 (by omega)
   replace K11 := K11.t1 K22 fun _ => by omega
   replace H12 := H12.k1 K22 (by omega)
   replace H13 := H13.k1 K22 (by omega)
   clear K22 hr21
   have hmem : (x15, a16) ∈ M1 := hp.mem_iff.1 (by rw [hs20]; simp)
   have hsm : S1 = S2 → getM (M2) x15 = some a16 := fun h => hL1.same (h ▸ hL2) hmem
   have hln := congrArg List.length hs20
   rw [List.length_append, List.length_cons] at hln
   rcases hg25 : getM (M2) x15 with _ | v26
   ·skip
    refine ogd 1 [(1, .map (some m2)), (15, ptr it4), (17, .bool true)] ?_
    refine qs ?_
    refine q_then (o := .tmp 17) (by kernel_rfl) rfl ?_
    refine qkQ ?_
    refine q_block (id := 1) (by kernel_rfl) ?_
    refine qsg ?_
    refine ogo (Value.tuple #[(Value.string (str x15)), (i64 a16)]) 18 (Runs.of_entry (by kernel_rfl) (IterM.entry (kf := kstr) (vf := ki64) (x := x15) (a := a16) H23)) rfl ?_
    refine odz 4 ?_
    refine qsg ?_
    refine og 2 [(1, .map (some m2)), (6, i64 a16), (15, ptr it4), (22, .map (some m2)), (23, .string (str x15))] 2 ?_
    refine ogo (Value.tuple #[(i64 0), (Value.bool false)]) 24 (Runs.lookup_none (ok := true) (z := (i64 0)) KT Tryd.underlying107 (by kernel_rfl) H13 hg25 (by kernel_rfl)) rfl ?_
    refine odz 5 ?_
    refine qsg ?_
    refine ogd 7 [(1, .map (some m2)), (15, ptr it4), (33, .bool true)] ?_
    refine q_then (o := .tmp 33) (by kernel_rfl) rfl ?_
    refine qsg ?_
    refine ogd 1 [(1, .map (some m2)), (4, .bool false), (15, ptr it4)] ?_
    refine qtQ ?_
    refine ⟨(Value.bool false), retv_tmp rfl rfl, ?_⟩
    exact ⟨false, rfl, ⟨fun h => (by cases h), fun h => absurd h fun h => (by have q := hsm h; rw [hg25] at q; cases q)⟩, K11⟩
   ·skip
    refine ogd 1 [(1, .map (some m2)), (15, ptr it4), (17, .bool true)] ?_
    refine qs ?_
    refine q_then (o := .tmp 17) (by kernel_rfl) rfl ?_
    refine qkQ ?_
    refine q_block (id := 1) (by kernel_rfl) ?_
    refine qsg ?_
    refine ogo (Value.tuple #[(Value.string (str x15)), (i64 a16)]) 18 (Runs.of_entry (by kernel_rfl) (IterM.entry (kf := kstr) (vf := ki64) (x := x15) (a := a16) H23)) rfl ?_
    refine odz 4 ?_
    refine qsg ?_
    refine og 2 [(1, .map (some m2)), (6, i64 a16), (15, ptr it4), (22, .map (some m2)), (23, .string (str x15))] 2 ?_
    refine ogo (Value.tuple #[(i64 v26), (Value.bool true)]) 24 (Runs.lookup_some (ok := true) (vf := ki64) (a := v26) KT Tryd.underlying107 H13 hg25 (by kernel_rfl)) rfl ?_
    refine odz 5 ?_
    refine qsg ?_
    refine ogd 7 [(1, .map (some m2)), (15, ptr it4), (33, .bool (a16 != v26))] ?_
    refine qcQ 33 (a16 != v26) rfl (fun h27 => ?_) (fun h27 => ?_)
    ·rw [h27]
     have p28 := of_bne_t h27
     have hav : a16 ≠ v26 := by omega
     refine qsg ?_
     refine ogd 1 [(1, .map (some m2)), (4, .bool false), (15, ptr it4)] ?_
     refine qtQ ?_
     refine ⟨(Value.bool false), retv_tmp rfl rfl, ?_⟩
     exact ⟨false, rfl, ⟨fun h => (by cases h), fun h => absurd h fun h => (by have q := hsm h; rw [hg25] at q; exact hav (Option.some.inj q).symm)⟩, K11⟩
    ·rw [h27]
     have p29 := of_bne_f h27
     have hav : a16 = v26 := by omega
     refine q_keep (R := [(1, .map (some m2)), (15, ptr it4)]) (by kernel_rfl) ?_
     refine qkQ ?_
     exact ⟨(came ++ [(x15, a16)], p17 ++ q18, some (x15, a16)), ⟨rfl, (came_perm (by rw [← hs20]; exact hp)), (fun y hy => by rcases List.mem_append.1 hy with hy | hy; (exact hall y hy); (rw [List.mem_singleton.1 hy, hav]; exact hg25)), K11, H12, H13, H23⟩, (show (p17 ++ q18).length < rest.length from by rw [List.length_append]; omega)⟩
theorem EqualK_calls (w : World) (m1 m2 : Nat)  (K1 K2 : List KeptM) (H1 : HasMap w m1 kpair keptv (K1.map KeptM.kv)) (H2 : HasMap w m2 kpair keptv (K2.map KeptM.kv)) (hN1 : (K1.map KeptM.id).Nodup) (hN2 : (K2.map KeptM.id).Nodup) : Calls Tryd.prog 46 ⟨[(Value.map (some m1)), (Value.map (some m2))]⟩ w (fun e w' => ∃ t, e = .returned (.bool t) ∧ (t = true ↔ K1.Perm K2) ∧ Keeps none_ w w') := by
 have H1l := H1.lt
 have H2l := H2.lt
 have K0 : Keeps none_ w w := Keeps.refl w
 refine q_calls Tryd.func46 (by kernel_rfl) (by kernel_rfl) ?_
 refine qsg ?_
 refine odz 1 ?_
 refine qs ?_
 refine qsg ?_
 refine og 1 [(0, .map (some m1)), (1, .map (some m2)), (4, .bool false), (9, .map (some m1))] 1 ?_
 refine ogo (i64 (((K1.map KeptM.kv).length : Nat) : Int)) 10 (Runs.maplen (ts := #[108]) (t0 := 108) (ty := 3) rfl Tryd.underlying108 H1 (by kernel_rfl)) rfl ?_
 refine og 1 [(0, .map (some m1)), (1, .map (some m2)), (4, .bool false), (10, i64 ↑((K1.map KeptM.kv).length)), (11, .map (some m2))] 3 ?_
 refine ogo (i64 (((K2.map KeptM.kv).length : Nat) : Int)) 12 (Runs.maplen (ts := #[108]) (t0 := 108) (ty := 3) rfl Tryd.underlying108 H2 (by kernel_rfl)) rfl ?_
 refine ogd 1 [(0, .map (some m1)), (1, .map (some m2)), (4, .bool false), (13, (Value.bool ((((K1.map KeptM.kv).length : Nat) : Int) != (((K2.map KeptM.kv).length : Nat) : Int))))] ?_
 refine qcQ 13 ((((K1.map KeptM.kv).length : Nat) : Int) != (((K2.map KeptM.kv).length : Nat) : Int)) rfl (fun h1 => ?_) (fun h1 => ?_)
 ·rw [h1]
  have p2 := of_bne_t h1
  refine qsg ?_
  refine ogd 1 [(0, .map (some m1)), (1, .map (some m2)), (4, .bool false)] ?_
  refine qtQ ?_
  refine ⟨(Value.bool false), retv_tmp rfl rfl, ?_⟩
  exact ⟨false, rfl, ⟨fun h => (by cases h), fun h => absurd h fun h => (by have hq := h.length_eq; simp only [List.length_map] at *; omega)⟩, K0⟩
 ·rw [h1]
  have p3 := of_bne_f h1
  refine qkQ ?_
  refine qs ?_
  refine qsg ?_
  refine og 1 [(1, .map (some m2)), (4, .bool false), (14, .map (some m1))] 1 ?_
  obtain ⟨it4, w5, hr6, K7, hq8, H9⟩ := HasMap.range (P := Tryd.prog) (t := 108) Tryd.underlying108 H1
  refine ogo (ptr it4) 15 (Runs.of_range (by kernel_rfl) hr6) rfl ?_
  have lit4m1 : m1 < it4 := by have := H1.lt; omega
  have lit4m2 : m2 < it4 := by have := H2.lt; omega
  have nit4 : w.heap.size ≤ it4 := by have := K0.size; omega
  replace K0 := K0.t0 K7
  replace H1 := H1.kn K7
  replace H2 := H2.kn K7
  clear K7 hr6
  refine od ?_
  refine q_block (id := 0) (by kernel_rfl) ?_
  refine q_keep (R := [(1, .map (some m2)), (15, ptr it4)]) (by kernel_rfl) ?_
  refine q_loop (fun (gs : (List ((List UInt8 × List UInt8) × KeptM)) × (List ((List UInt8 × List UInt8) × KeptM)) × (Option ((List UInt8 × List UInt8) × KeptM))) L (wx : World) => match gs with | (came, rest, last) => L = [(1, (Value.map (some m2))), (15, (ptr it4))] ∧ (came ++ rest).Perm (K1.map KeptM.kv) ∧ (∀ y ∈ came, getM (K2.map KeptM.kv) y.1 = some y.2) ∧ Keeps none_ w wx ∧ HasMap wx m1 kpair keptv (K1.map KeptM.kv) ∧ HasMap wx m2 kpair keptv (K2.map KeptM.kv) ∧ IterM wx it4 m1 kpair keptv (K1.map KeptM.kv) rest last) (fun (gs : (List ((List UInt8 × List UInt8) × KeptM)) × (List ((List UInt8 × List UInt8) × KeptM)) × (Option ((List UInt8 × List UInt8) × KeptM))) => match gs with | (came, rest, last) => rest.length) ([], K1.map KeptM.kv, none) (by kernel_rfl) ⟨rfl, (List.Perm.refl _), (fun y hy => by cases hy), K0, H1, H2, H9⟩ ?_
  clear H1 H2 H9 K0
  rintro ⟨came, rest, last⟩ _ w10 ⟨rfl, hp, hall, K11, H12, H13, H14⟩
  refine qsg ?_
  rcases IterM.next (P := Tryd.prog) H14 0 with ⟨hn24, hr21⟩ | ⟨x15, a16, p17, q18, w19, hs20, hr21, K22, H23⟩
  ·skip
   refine ogo (Value.tuple #[(Value.bool false)]) 16 (Runs.of_next (by kernel_rfl) hr21) rfl ?_
   clear hr21
   refine ogd 1 [(1, .map (some m2)), (15, ptr it4), (17, .bool false)] ?_
   refine qs ?_
   refine q_else (o := .tmp 17) (by kernel_rfl) rfl ?_
   refine q_exit (id := 0) (by kernel_rfl) ?_
   refine qsg ?_
   refine ogd 1 [(4, .bool true)] ?_
   refine qtQ ?_
   refine ⟨(Value.bool true), retv_tmp rfl rfl, ?_⟩
   exact ⟨true, rfl, ⟨fun _ => kept_eq hN1 (by simp only [List.length_map] at *; omega) (by rw [hn24, List.append_nil] at hp; exact hp) hall, fun _ => rfl⟩, K11⟩
  ·skip
   refine ogo (Value.tuple #[(Value.bool true), (agg [(Value.string (str x15.1)), (Value.string (str x15.2))]), (agg [(i64 a16.op.kind), (Value.string (str a16.op.frm)), (Value.string (str a16.op.to)), (i64 a16.op.amount), (Value.string (str a16.op.key)), (i64 a16.op.slot), (i64 a16.op.shard), (i64 a16.why)])]) 16 (Runs.of_next (by kernel_rfl) hr21) rfl ?_
   replace H23 := H23 (by omega)
   replace K11 := K11.t1 K22 fun _ => by omega
   replace H12 := H12.k1 K22 (by omega)
   replace H13 := H13.k1 K22 (by omega)
   clear K22 hr21
   have hmem : (x15, a16) ∈ K1.map KeptM.kv := hp.mem_iff.1 (by rw [hs20]; simp)
   have hsm : K1.Perm K2 → getM (K2.map KeptM.kv) x15 = some a16 := fun h => kept_same hN2 h hmem
   have hln := congrArg List.length hs20
   rw [List.length_append, List.length_cons] at hln
   rcases hg25 : getM (K2.map KeptM.kv) x15 with _ | v26
   ·skip
    refine ogd 1 [(1, .map (some m2)), (15, ptr it4), (17, .bool true)] ?_
    refine qs ?_
    refine q_then (o := .tmp 17) (by kernel_rfl) rfl ?_
    refine qkQ ?_
    refine q_block (id := 1) (by kernel_rfl) ?_
    refine qsg ?_
    refine ogo (Value.tuple #[(agg [(Value.string (str x15.1)), (Value.string (str x15.2))]), (agg [(i64 a16.op.kind), (Value.string (str a16.op.frm)), (Value.string (str a16.op.to)), (i64 a16.op.amount), (Value.string (str a16.op.key)), (i64 a16.op.slot), (i64 a16.op.shard), (i64 a16.why)])]) 18 (Runs.of_entry (by kernel_rfl) (IterM.entry (kf := kpair) (vf := keptv) (x := x15) (a := a16) H23)) rfl ?_
    refine og 2 [(1, .map (some m2)), (15, ptr it4), (19, (agg [(Value.string (str x15.1)), (Value.string (str x15.2))])), (20, (agg [(i64 a16.op.kind), (Value.string (str a16.op.frm)), (Value.string (str a16.op.to)), (i64 a16.op.amount), (Value.string (str a16.op.key)), (i64 a16.op.slot), (i64 a16.op.shard), (i64 a16.why)]))] 3 ?_
    refine onew (rowL [(Value.string ByteArray.empty), (Value.string ByteArray.empty)] 116) (fun b => (ptr b)) 5 (fun b => rfl) (fun b27 w28 hb29 H30 K31 hs32 => ?_)
    have lb27m1 : m1 < b27 := by have := H12.lt; omega
    have lb27m2 : m2 < b27 := by have := H13.lt; omega
    have lb27it4 : it4 < b27 := by have := H23.lt; omega
    have nb27 : w.heap.size ≤ b27 := by have := K11.size; omega
    replace K11 := K11.tn K31
    replace H12 := H12.kn K31
    replace H13 := H13.kn K31
    replace H23 := H23.keep K31 (fun h => h) (fun h => h)
    clear K31 hs32
    refine onew (rowL [(i64 0), (Value.string ByteArray.empty), (Value.string ByteArray.empty), (i64 0), (Value.string ByteArray.empty), (i64 0), (i64 0), (i64 0)] 118) (fun b => (ptr b)) 6 (fun b => rfl) (fun b33 w34 hb35 H36 K37 hs38 => ?_)
    have lb33m1 : m1 < b33 := by have := H12.lt; omega
    have lb33m2 : m2 < b33 := by have := H13.lt; omega
    have lb33it4 : it4 < b33 := by have := H23.lt; omega
    have lb33b27 : b27 < b33 := by have := H30.lt; omega
    have nb33 : w.heap.size ≤ b33 := by have := K11.size; omega
    replace K11 := K11.tn K37
    replace H12 := H12.kn K37
    replace H13 := H13.kn K37
    replace H23 := H23.keep K37 (fun h => h) (fun h => h)
    replace H30 := H30.kn K37
    clear K37 hs38
    refine oput 116 b27 [(Value.string (str x15.1)), (Value.string (str x15.2))] H30 rfl (fun w39 H40 K41 => ?_)
    replace K11 := K11.t1 K41 fun _ => by omega
    replace H12 := H12.k1 K41 (by omega)
    replace H13 := H13.k1 K41 (by omega)
    replace H23 := H23.keep K41 (by intro h; change it4 = b27 at h; omega) (by intro h; change m1 = b27 at h; omega)
    replace H36 := H36.k1 K41 (by omega)
    refine oput 118 b33 [(i64 a16.op.kind), (Value.string (str a16.op.frm)), (Value.string (str a16.op.to)), (i64 a16.op.amount), (Value.string (str a16.op.key)), (i64 a16.op.slot), (i64 a16.op.shard), (i64 a16.why)] H36 rfl (fun w42 H43 K44 => ?_)
    replace K11 := K11.t1 K44 fun _ => by omega
    replace H12 := H12.k1 K44 (by omega)
    replace H13 := H13.k1 K44 (by omega)
    replace H23 := H23.keep K44 (by intro h; change it4 = b33 at h; omega) (by intro h; change m1 = b33 at h; omega)
    replace H40 := H40.k1 K44 (by omega)
    refine od ?_
    refine qsg ?_
    refine og 1 [(1, .map (some m2)), (5, ptr b27), (6, ptr b33), (15, ptr it4), (22, .map (some m2))] 1 ?_
    refine ogo (agg [(Value.string (str x15.1)), (Value.string (str x15.2))]) 23 (rld 116 b27 0 H40) rfl ?_
    refine ogo (Value.tuple #[(agg [(i64 0), (Value.string ByteArray.empty), (Value.string ByteArray.empty), (i64 0), (Value.string ByteArray.empty), (i64 0), (i64 0), (i64 0)]), (Value.bool false)]) 24 (Runs.lookup_none (ok := true) (z := (agg [(i64 0), (Value.string ByteArray.empty), (Value.string ByteArray.empty), (i64 0), (Value.string ByteArray.empty), (i64 0), (i64 0), (i64 0)])) KT2 Tryd.underlying108 (by kernel_rfl) H13 hg25 (by kernel_rfl)) rfl ?_
    refine og 3 [(1, .map (some m2)), (6, ptr b33), (15, ptr it4), (25, (agg [(i64 0), (Value.string ByteArray.empty), (Value.string ByteArray.empty), (i64 0), (Value.string ByteArray.empty), (i64 0), (i64 0), (i64 0)])), (26, .bool false)] 6 ?_
    refine onew (rowL [(i64 0), (Value.string ByteArray.empty), (Value.string ByteArray.empty), (i64 0), (Value.string ByteArray.empty), (i64 0), (i64 0), (i64 0)] 118) (fun b => (ptr b)) 7 (fun b => rfl) (fun b45 w46 hb47 H48 K49 hs50 => ?_)
    have lb45m1 : m1 < b45 := by have := H12.lt; omega
    have lb45m2 : m2 < b45 := by have := H13.lt; omega
    have lb45it4 : it4 < b45 := by have := H23.lt; omega
    have lb45b27 : b27 < b45 := by have := H40.lt; omega
    have lb45b33 : b33 < b45 := by have := H43.lt; omega
    have nb45 : w.heap.size ≤ b45 := by have := K11.size; omega
    replace K11 := K11.tn K49
    clear K49 hs50
    refine oput 118 b45 [(i64 0), (Value.string ByteArray.empty), (Value.string ByteArray.empty), (i64 0), (Value.string ByteArray.empty), (i64 0), (i64 0), (i64 0)] H48 rfl (fun w51 H52 K53 => ?_)
    replace K11 := K11.t1 K53 fun _ => by omega
    refine odz 1 ?_
    refine qsg ?_
    refine ogd 7 [(1, .map (some m2)), (15, ptr it4), (33, .bool true)] ?_
    refine q_then (o := .tmp 33) (by kernel_rfl) rfl ?_
    refine qsg ?_
    refine ogd 1 [(1, .map (some m2)), (4, .bool false), (15, ptr it4)] ?_
    refine qtQ ?_
    refine ⟨(Value.bool false), retv_tmp rfl rfl, ?_⟩
    exact ⟨false, rfl, ⟨fun h => (by cases h), fun h => absurd h fun h => (by have q := hsm h; rw [hg25] at q; cases q)⟩, K11⟩
   ·skip
    refine ogd 1 [(1, .map (some m2)), (15, ptr it4), (17, .bool true)] ?_
    refine qs ?_
    refine q_then (o := .tmp 17) (by kernel_rfl) rfl ?_
    refine qkQ ?_
    refine q_block (id := 1) (by kernel_rfl) ?_
    refine qsg ?_
    refine ogo (Value.tuple #[(agg [(Value.string (str x15.1)), (Value.string (str x15.2))]), (agg [(i64 a16.op.kind), (Value.string (str a16.op.frm)), (Value.string (str a16.op.to)), (i64 a16.op.amount), (Value.string (str a16.op.key)), (i64 a16.op.slot), (i64 a16.op.shard), (i64 a16.why)])]) 18 (Runs.of_entry (by kernel_rfl) (IterM.entry (kf := kpair) (vf := keptv) (x := x15) (a := a16) H23)) rfl ?_
    refine og 2 [(1, .map (some m2)), (15, ptr it4), (19, (agg [(Value.string (str x15.1)), (Value.string (str x15.2))])), (20, (agg [(i64 a16.op.kind), (Value.string (str a16.op.frm)), (Value.string (str a16.op.to)), (i64 a16.op.amount), (Value.string (str a16.op.key)), (i64 a16.op.slot), (i64 a16.op.shard), (i64 a16.why)]))] 3 ?_
    refine onew (rowL [(Value.string ByteArray.empty), (Value.string ByteArray.empty)] 116) (fun b => (ptr b)) 5 (fun b => rfl) (fun b54 w55 hb56 H57 K58 hs59 => ?_)
    have lb54m1 : m1 < b54 := by have := H12.lt; omega
    have lb54m2 : m2 < b54 := by have := H13.lt; omega
    have lb54it4 : it4 < b54 := by have := H23.lt; omega
    have nb54 : w.heap.size ≤ b54 := by have := K11.size; omega
    replace K11 := K11.tn K58
    replace H12 := H12.kn K58
    replace H13 := H13.kn K58
    replace H23 := H23.keep K58 (fun h => h) (fun h => h)
    clear K58 hs59
    refine onew (rowL [(i64 0), (Value.string ByteArray.empty), (Value.string ByteArray.empty), (i64 0), (Value.string ByteArray.empty), (i64 0), (i64 0), (i64 0)] 118) (fun b => (ptr b)) 6 (fun b => rfl) (fun b60 w61 hb62 H63 K64 hs65 => ?_)
    have lb60m1 : m1 < b60 := by have := H12.lt; omega
    have lb60m2 : m2 < b60 := by have := H13.lt; omega
    have lb60it4 : it4 < b60 := by have := H23.lt; omega
    have lb60b54 : b54 < b60 := by have := H57.lt; omega
    have nb60 : w.heap.size ≤ b60 := by have := K11.size; omega
    replace K11 := K11.tn K64
    replace H12 := H12.kn K64
    replace H13 := H13.kn K64
    replace H23 := H23.keep K64 (fun h => h) (fun h => h)
    replace H57 := H57.kn K64
    clear K64 hs65
    refine oput 116 b54 [(Value.string (str x15.1)), (Value.string (str x15.2))] H57 rfl (fun w66 H67 K68 => ?_)
    replace K11 := K11.t1 K68 fun _ => by omega
    replace H12 := H12.k1 K68 (by omega)
    replace H13 := H13.k1 K68 (by omega)
    replace H23 := H23.keep K68 (by intro h; change it4 = b54 at h; omega) (by intro h; change m1 = b54 at h; omega)
    replace H63 := H63.k1 K68 (by omega)
    refine oput 118 b60 [(i64 a16.op.kind), (Value.string (str a16.op.frm)), (Value.string (str a16.op.to)), (i64 a16.op.amount), (Value.string (str a16.op.key)), (i64 a16.op.slot), (i64 a16.op.shard), (i64 a16.why)] H63 rfl (fun w69 H70 K71 => ?_)
    replace K11 := K11.t1 K71 fun _ => by omega
    replace H12 := H12.k1 K71 (by omega)
    replace H13 := H13.k1 K71 (by omega)
    replace H23 := H23.keep K71 (by intro h; change it4 = b60 at h; omega) (by intro h; change m1 = b60 at h; omega)
    replace H67 := H67.k1 K71 (by omega)
    refine od ?_
    refine qsg ?_
    refine og 1 [(1, .map (some m2)), (5, ptr b54), (6, ptr b60), (15, ptr it4), (22, .map (some m2))] 1 ?_
    refine ogo (agg [(Value.string (str x15.1)), (Value.string (str x15.2))]) 23 (rld 116 b54 0 H67) rfl ?_
    refine ogo (Value.tuple #[(agg [(i64 v26.op.kind), (Value.string (str v26.op.frm)), (Value.string (str v26.op.to)), (i64 v26.op.amount), (Value.string (str v26.op.key)), (i64 v26.op.slot), (i64 v26.op.shard), (i64 v26.why)]), (Value.bool true)]) 24 (Runs.lookup_some (ok := true) (vf := keptv) (a := (⟨v26.op, v26.why⟩ : KeptM)) KT2 Tryd.underlying108 H13 hg25 (by kernel_rfl)) rfl ?_
    refine og 3 [(1, .map (some m2)), (6, ptr b60), (15, ptr it4), (25, (agg [(i64 v26.op.kind), (Value.string (str v26.op.frm)), (Value.string (str v26.op.to)), (i64 v26.op.amount), (Value.string (str v26.op.key)), (i64 v26.op.slot), (i64 v26.op.shard), (i64 v26.why)])), (26, .bool true)] 6 ?_
    refine onew (rowL [(i64 0), (Value.string ByteArray.empty), (Value.string ByteArray.empty), (i64 0), (Value.string ByteArray.empty), (i64 0), (i64 0), (i64 0)] 118) (fun b => (ptr b)) 7 (fun b => rfl) (fun b72 w73 hb74 H75 K76 hs77 => ?_)
    have lb72m1 : m1 < b72 := by have := H12.lt; omega
    have lb72m2 : m2 < b72 := by have := H13.lt; omega
    have lb72it4 : it4 < b72 := by have := H23.lt; omega
    have lb72b54 : b54 < b72 := by have := H67.lt; omega
    have lb72b60 : b60 < b72 := by have := H70.lt; omega
    have nb72 : w.heap.size ≤ b72 := by have := K11.size; omega
    replace K11 := K11.tn K76
    replace H12 := H12.kn K76
    replace H13 := H13.kn K76
    replace H23 := H23.keep K76 (fun h => h) (fun h => h)
    replace H70 := H70.kn K76
    clear K76 hs77
    refine oput 118 b72 [(i64 v26.op.kind), (Value.string (str v26.op.frm)), (Value.string (str v26.op.to)), (i64 v26.op.amount), (Value.string (str v26.op.key)), (i64 v26.op.slot), (i64 v26.op.shard), (i64 v26.why)] H75 rfl (fun w78 H79 K80 => ?_)
    replace K11 := K11.t1 K80 fun _ => by omega
    replace H12 := H12.k1 K80 (by omega)
    replace H13 := H13.k1 K80 (by omega)
    replace H23 := H23.keep K80 (by intro h; change it4 = b72 at h; omega) (by intro h; change m1 = b72 at h; omega)
    replace H70 := H70.k1 K80 (by omega)
    refine odz 1 ?_
    refine qsg ?_
    refine og 3 [(1, .map (some m2)), (6, ptr b60), (7, ptr b72), (15, ptr it4), (29, .bool false)] 3 ?_
    refine ogo (agg [(i64 a16.op.kind), (Value.string (str a16.op.frm)), (Value.string (str a16.op.to)), (i64 a16.op.amount), (Value.string (str a16.op.key)), (i64 a16.op.slot), (i64 a16.op.shard), (i64 a16.why)]) 30 (rld 118 b60 0 H70) rfl ?_
    refine ogo (agg [(i64 v26.op.kind), (Value.string (str v26.op.frm)), (Value.string (str v26.op.to)), (i64 v26.op.amount), (Value.string (str v26.op.key)), (i64 v26.op.slot), (i64 v26.op.shard), (i64 v26.why)]) 31 (rld 118 b72 0 H79) rfl ?_
    refine ogo (Value.bool (!(aggB [(i64 a16.op.kind), (Value.string (str a16.op.frm)), (Value.string (str a16.op.to)), (i64 a16.op.amount), (Value.string (str a16.op.key)), (i64 a16.op.slot), (i64 a16.op.shard)] [(i64 v26.op.kind), (Value.string (str v26.op.frm)), (Value.string (str v26.op.to)), (i64 v26.op.amount), (Value.string (str v26.op.key)), (i64 v26.op.slot), (i64 v26.op.shard)] && cellB (i64 a16.why) (i64 v26.why)))) 32 (Runs.nestneE (t := 118) (xs := [(i64 a16.op.kind), (Value.string (str a16.op.frm)), (Value.string (str a16.op.to)), (i64 a16.op.amount), (Value.string (str a16.op.key)), (i64 a16.op.slot), (i64 a16.op.shard)]) (ys := [(i64 v26.op.kind), (Value.string (str v26.op.frm)), (Value.string (str v26.op.to)), (i64 v26.op.amount), (Value.string (str v26.op.key)), (i64 v26.op.slot), (i64 v26.op.shard)]) (x := (i64 a16.why)) (y := (i64 v26.why)) keptNest rfl rfl (by kernel_rfl) (by kernel_rfl) (by kernel_rfl)) rfl ?_
    refine ogd 1 [(1, .map (some m2)), (15, ptr it4), (33, (Value.bool (!(aggB [(i64 a16.op.kind), (Value.string (str a16.op.frm)), (Value.string (str a16.op.to)), (i64 a16.op.amount), (Value.string (str a16.op.key)), (i64 a16.op.slot), (i64 a16.op.shard)] [(i64 v26.op.kind), (Value.string (str v26.op.frm)), (Value.string (str v26.op.to)), (i64 v26.op.amount), (Value.string (str v26.op.key)), (i64 v26.op.slot), (i64 v26.op.shard)] && cellB (i64 a16.why) (i64 v26.why)))))] ?_
    refine qcQ 33 (!(aggB [(i64 a16.op.kind), (Value.string (str a16.op.frm)), (Value.string (str a16.op.to)), (i64 a16.op.amount), (Value.string (str a16.op.key)), (i64 a16.op.slot), (i64 a16.op.shard)] [(i64 v26.op.kind), (Value.string (str v26.op.frm)), (Value.string (str v26.op.to)), (i64 v26.op.amount), (Value.string (str v26.op.key)), (i64 v26.op.slot), (i64 v26.op.shard)] && cellB (i64 a16.why) (i64 v26.why))) rfl (fun h81 => ?_) (fun h81 => ?_)
    ·rw [h81]
     have p82 := bnot_true h81
     have hav : a16 ≠ v26 := fun h => by have hq := ((kept_beq a16 v26).2 h).symm.trans (bnot_true h81); cases hq
     refine qsg ?_
     refine ogd 1 [(1, .map (some m2)), (4, .bool false), (15, ptr it4)] ?_
     refine qtQ ?_
     refine ⟨(Value.bool false), retv_tmp rfl rfl, ?_⟩
     exact ⟨false, rfl, ⟨fun h => (by cases h), fun h => absurd h fun h => (by have q := hsm h; rw [hg25] at q; exact hav (Option.some.inj q).symm)⟩, K11⟩
    ·rw [h81]
     have p83 := bnot_false h81
     have hav := (kept_beq a16 v26).1 (bnot_false h81)
     refine q_keep (R := [(1, .map (some m2)), (15, ptr it4)]) (by kernel_rfl) ?_
     refine qkQ ?_
     exact ⟨(came ++ [(x15, a16)], p17 ++ q18, some (x15, a16)), ⟨rfl, (came_perm (by rw [← hs20]; exact hp)), (fun y hy => by rcases List.mem_append.1 hy with hy | hy; (exact hall y hy); (rw [List.mem_singleton.1 hy, hav]; exact hg25)), K11, H12, H13, H23⟩, (show (p17 ++ q18).length < rest.length from by rw [List.length_append]; omega)⟩
theorem Same_calls (w : World) (b mb kb : Nat) (m : List (List UInt8 × Int)) (S : List RowM) (K : List KeptM) (b2 mb2 kb2 : Nat) (m2 : List (List UInt8 × Int)) (S2 : List RowM) (K2 : List KeptM) (Hb : Has w b (rowL [.map (some mb), .map (some kb)] 110)) (Hm : HasMap w mb kstr ki64 m) (Hk : HasMap w kb kpair keptv (K.map KeptM.kv)) (hne : b ≠ mb ∧ b ≠ kb ∧ mb ≠ kb) (hB : LBook m S K) (Hb2 : Has w b2 (rowL [.map (some mb2), .map (some kb2)] 110)) (Hm2 : HasMap w mb2 kstr ki64 m2) (Hk2 : HasMap w kb2 kpair keptv (K2.map KeptM.kv)) (hne2 : b2 ≠ mb2 ∧ b2 ≠ kb2 ∧ mb2 ≠ kb2) (hB2 : LBook m2 S2 K2) : Calls Tryd.prog 32 ⟨[(ptr b), (ptr b2)]⟩ w (fun e w' => ∃ t, e = .returned (.bool t) ∧ (t = true ↔ (S = S2 ∧ K.Perm K2)) ∧ Keeps none_ w w') := by
 have Hbl := Hb.lt
 have Hml := Hm.lt
 have Hkl := Hk.lt
 have hL := hB.lmap
 have Hb2l := Hb2.lt
 have Hm2l := Hm2.lt
 have Hk2l := Hk2.lt
 have K0 : Keeps none_ w w := Keeps.refl w
 refine q_calls Tryd.func32 (by kernel_rfl) (by kernel_rfl) ?_
 refine qsg ?_
 refine odz 1 ?_
 refine qs ?_
 refine qsg ?_
 refine ogd 6 [(0, ptr b), (1, ptr b2), (4, .bool false), (10, .bool false)] ?_
 refine q_else (o := .tmp 10) (by kernel_rfl) rfl ?_
 refine qkQ ?_
 refine qs ?_
 refine q_draw (fun wz => Keeps none_ w wz) 21 (by kernel_rfl) (by kernel_rfl) (by kernel_rfl) (fun w1 K2 _ _ => ⟨K2, ?_⟩)
 replace K0 := K0.t0 K2
 replace Hb := Hb.kn K2
 replace Hm := Hm.kn K2
 replace Hk := Hk.kn K2
 replace Hb2 := Hb2.kn K2
 replace Hm2 := Hm2.kn K2
 replace Hk2 := Hk2.kn K2
 refine Dr.strong (S' := (fun wz => Keeps none_ w1 wz)) (Keeps.refl w1) (fun wz hx => K2.trans hx (fun i _ h => h) (fun _ _ h => h)) ?_
 clear K2
 refine dkQ 18 [0, 1, 2] [(0, ptr b), (1, ptr b2), (4, .bool false), (16, ptr b)] ?_
 refine dtQ 3 (Value.map (some mb)) 17 (fun wz hS => rld 107 b 0 (Hb.keep hS (fun h => h))) rfl ?_
 refine dkQ 14 [4, 5, 6] [(0, ptr b), (1, ptr b2), (4, .bool false), (17, .map (some mb)), (20, ptr b2)] ?_
 refine dtQ 7 (Value.map (some mb2)) 21 (fun wz hS => rld 107 b2 0 (Hb2.keep hS (fun h => h))) rfl ?_
 refine Dr.call (i := 8) (by kernel_rfl) (by kernel_rfl) (d := (some 22)) (by kernel_rfl) (fun _ => EqualM_calls _ mb mb2 m m2 S S2 Hm Hm2 hB.lmap hB2.lmap) ?_
 rintro _ w6 ⟨t3, rfl, ht4, K5⟩
 replace K0 := K0.t0 K5
 replace Hb := Hb.kn K5
 replace Hk := Hk.kn K5
 replace Hb2 := Hb2.kn K5
 replace Hk2 := Hk2.kn K5
 refine ⟨_, _, rfl, rfl, K5, ?_⟩
 refine Dr.strong (S' := (fun wz => Keeps none_ w6 wz)) (Keeps.refl w6) (fun wz hx => K5.trans hx (fun i _ h => h) (fun _ _ h => h)) ?_
 clear K5
 refine dkQ 11 [9] [(0, ptr b), (1, ptr b2), (4, .bool false), (23, .bool t3)] ?_
 refine Dr.split t3 (fun h7 => ?_) (fun h7 => ?_)
 ·rw [h7]
  have p8 : t3 = true := h7
  refine dkQ 8 [10, 11, 12] [(1, ptr b2), (4, .bool false), (23, .bool true), (26, .pointer (some ⟨b, 1, none⟩))] ?_
  refine dtQ 13 (Value.map (some kb)) 27 (fun wz hS => rld 108 b 1 (Hb.keep hS (fun h => h))) rfl ?_
  refine dkQ 4 [14, 15, 16] [(4, .bool false), (23, .bool true), (27, .map (some kb)), (30, .pointer (some ⟨b2, 1, none⟩))] ?_
  refine dtQ 17 (Value.map (some kb2)) 31 (fun wz hS => rld 108 b2 1 (Hb2.keep hS (fun h => h))) rfl ?_
  refine Dr.call (i := 18) (by kernel_rfl) (by kernel_rfl) (d := (some 32)) (by kernel_rfl) (fun _ => EqualK_calls _ kb kb2 K K2 Hk Hk2 hB.ledg.ids hB2.ledg.ids) ?_
  rintro _ w12 ⟨t9, rfl, ht10, K11⟩
  replace K0 := K0.t0 K11
  refine ⟨_, _, rfl, rfl, K11, ?_⟩
  refine Dr.strong (S' := (fun wz => Keeps none_ w12 wz)) (Keeps.refl w12) (fun wz hx => K11.trans hx (fun i _ h => h) (fun _ _ h => h)) ?_
  refine dkQ 0 [19, 20] [(4, .bool t9)] ?_
  refine Dr.done (by kernel_rfl) ?_
  refine qtQ ?_
  refine ⟨(Value.bool t9), retv_tmp rfl rfl, ?_⟩
  exact ⟨_, rfl, ⟨fun h => ⟨ht4.1 h7, ht10.1 h⟩, fun h => ht10.2 h.2⟩, K0⟩
 ·rw [h7]
  have p13 : t3 = false := h7
  refine dkQ 0 [10, 11, 12, 13, 14, 15, 16, 17, 18, 19, 20] [(4, .bool false)] ?_
  refine Dr.done (by kernel_rfl) ?_
  refine qtQ ?_
  refine ⟨(Value.bool false), retv_tmp rfl rfl, ?_⟩
  exact ⟨false, rfl, ⟨fun h => (by cases h), fun h => absurd (ht4.2 h.1) (by rw [h7]; decide)⟩, K0⟩
end Go.Proofs.YtnbcghbgeiocbaaDoor
namespace Go.Proofs.YtnbcghbgeiocbaaDoor
open Go.Q Go.RowKit
theorem IndexF_calls (w : World) (b mb kb : Nat) (m : List (List UInt8 × Int)) (S : List RowM) (K : List KeptM) (F : Nat → Prop) (A : Option Addr) (c : Nat) (l : List StC) (Hb : Has w b (rowL [.map (some mb), .map (some kb)] 110)) (Hm : HasMap w mb kstr ki64 m) (Hk : HasMap w kb kpair keptv (K.map KeptM.kv)) (hne : b ≠ mb ∧ b ≠ kb ∧ mb ≠ kb) (hB : LBook m S K) (hV : RdT w 1 StC.led ((Value.slice A l.length c)) l) (hP : Pool w 110 F l) : Calls Tryd.prog 44 ⟨[(Value.slice A l.length c), (Value.func (Fn.func 32) ⟨[(ptr b)]⟩ ⟨[]⟩)]⟩ w (fun e w' => ∃ n : Int, e = .returned (i64 n) ∧ (0 ≤ n ↔ ∃ x ∈ l, sameL (S, K) x.s) ∧ Keeps none_ w w') := by
 have Hbl := Hb.lt
 have Hml := Hm.lt
 have Hkl := Hk.lt
 have hL := hB.lmap
 have hcap := (RdT.len StC.led1 (by decide) hV).2
 unfold maxLen at hcap
 have K0 : Keeps none_ w w := Keeps.refl w
 refine q_calls Tryd.func44 (by kernel_rfl) (by kernel_rfl) ?_
 refine qsg ?_
 refine odz 1 ?_
 refine qs ?_
 refine qsg ?_
 refine ogd 3 [(0, .slice A l.length c), (1, .func (Fn.func 32) ⟨[(ptr b)]⟩ ⟨[]⟩), (4, i64 0), (7, i64 ↑l.length), (8, i64 0)] ?_
 refine q_block (id := 0) (by kernel_rfl) ?_
 refine q_keep (R := [(0, .slice A l.length c), (1, .func (Fn.func 32) ⟨[(ptr b)]⟩ ⟨[]⟩), (7, i64 ↑l.length), (8, i64 0)]) (by kernel_rfl) ?_
 refine q_loop (fun (i : Nat) L (wx : World) => L = [(0, (Value.slice A l.length c)), (1, (Value.func (Fn.func 32) ⟨[(ptr b)]⟩ ⟨[]⟩)), (7, (i64 ((l.length : Nat) : Int))), (8, (i64 ((i : Nat) : Int)))] ∧ (∀ x ∈ l.take i, ¬ sameL (S, K) x.s) ∧ i ≤ l.length ∧ Keeps none_ w wx ∧ Has wx b (rowL [(Value.map (some mb)), (Value.map (some kb))] 110) ∧ HasMap wx mb kstr ki64 m ∧ HasMap wx kb kpair keptv (K.map KeptM.kv)) (fun (i : Nat) => l.length - i) 0 (by kernel_rfl) ⟨rfl, (fun x hx => by simp at hx), Nat.zero_le _, K0, Hb, Hm, Hk⟩ ?_
 clear Hb Hm Hk K0
 rintro i _ w1 ⟨rfl, hn, hi, K2, H3, H4, H5⟩
 refine qsg ?_
 refine ogd 1 [(0, .slice A l.length c), (1, .func (Fn.func 32) ⟨[(ptr b)]⟩ ⟨[]⟩), (7, i64 ↑l.length), (8, i64 ↑i), (9, (Value.bool (decide (((i : Nat) : Int) < ((l.length : Nat) : Int)))))] ?_
 refine qs ?_
 refine qcQ 9 (decide (((i : Nat) : Int) < ((l.length : Nat) : Int))) rfl (fun h6 => ?_) (fun h6 => ?_)
 ·rw [h6]
  have p7 := of_decide_eq_true h6
  obtain ⟨rb8, ro9, x, hA10, hx11⟩ := RdT.open (Rd.keep0 (by omega) hV K2) rfl (k := i) (by omega)
  refine qkQ ?_
  refine qs ?_
  refine q_block (id := 1) (by kernel_rfl) ?_
  refine qsg ?_
  refine odz 2 ?_
  refine qsg ?_
  refine og 3 [(0, .slice A l.length c), (1, .func (Fn.func 32) ⟨[(ptr b)]⟩ ⟨[]⟩), (5, i64 ↑i), (7, i64 ↑l.length), (8, i64 ↑i), (11, .func (Fn.func 32) ⟨[(ptr b)]⟩ ⟨[]⟩), (12, .slice A l.length c), (13, i64 ↑i)] 3 ?_
  refine Ops.go (by kernel_rfl) (Runs.ixSliceE (k := IntKind.i64) (t := 83) (len := l.length) (cap := c) (s := 1) (off' := ro9 + i) (i := ((i : Nat) : Int)) hA10 (by kernel_rfl) (by kernel_rfl) (by omega) (by omega) (by omega)) (d := (some 14)) (by kernel_rfl) rfl ?_
  refine ogo (ptr x.b) 15 (Runs.load (t := 69) (a := ⟨rb8, ro9 + i, none⟩) (by kernel_rfl) (RdT.ldu (f := StC.led) (x := x) StC.led1 (Rd.keep0 (by omega) hV K2) (by kernel_rfl) hA10 hx11 rfl)) rfl ?_
  obtain ⟨xm16, xk17, xq18, Hx19, Hy20, Hz21, xn22, xB23, _, _, _⟩ := ((hP.at_ x (List.mem_of_getElem? hx11)).keep K2 (fun _ _ h => h)).led
  refine ocQ 16 (Same_calls _ b mb kb m S K x.b xm16 xk17 xq18 x.s.1 x.s.2 H3 H4 H5 hne hB Hx19 Hy20 Hz21 xn22 xB23) ?_
  rintro _ w15 ⟨t12, rfl, ht13, K14⟩
  refine ⟨_, _, rfl, rfl, ?_⟩
  replace K2 := K2.tn K14
  replace H3 := H3.kn K14
  replace H4 := H4.kn K14
  replace H5 := H5.kn K14
  refine od ?_
  refine qcQ 16 t12 rfl (fun h24 => ?_) (fun h24 => ?_)
  ·rw [h24]
   have p25 : t12 = true := h24
   refine qsg ?_
   refine ogd 2 [(0, .slice A l.length c), (1, .func (Fn.func 32) ⟨[(ptr b)]⟩ ⟨[]⟩), (4, i64 ↑i), (7, i64 ↑l.length), (8, i64 ↑i)] ?_
   refine qtQ ?_
   refine ⟨(i64 ((i : Nat) : Int)), retv_tmp rfl rfl, ?_⟩
   exact ⟨_, rfl, ⟨fun _ => ⟨x, List.mem_of_getElem? hx11, ht13.1 h24⟩, fun _ => by omega⟩, K2⟩
  ·rw [h24]
   have p26 : t12 = false := h24
   refine qkQ ?_
   refine qg ?_
   refine oid 2 (fun z => [(0, .slice A l.length c), (1, .func (Fn.func 32) ⟨[(ptr b)]⟩ ⟨[]⟩), (7, i64 ↑l.length), (8, i64 z)]) i ?_
   exact ⟨i + 1, ⟨rfl, (fun z hz => by rw [List.take_add_one, hx11] at hz; rcases List.mem_append.1 hz with hz | hz; (exact hn z hz); (obtain rfl : z = x := (by simpa using hz); exact fun q => by have q2 := ht13.2 q; rw [h24] at q2; cases q2)), (by omega), K2, H3, H4, H5⟩, (show l.length - (i + 1) < l.length - i from by omega)⟩
 ·rw [h6]
  have p28 := of_decide_eq_false h6
  refine q_exit (id := 0) (by kernel_rfl) ?_
  refine qsg ?_
  refine ogd 1 [(4, (i64 (-1)))] ?_
  refine qtQ ?_
  refine ⟨(i64 (-1)), retv_tmp rfl rfl, ?_⟩
  exact ⟨-1, rfl, ⟨fun h => absurd h (by decide), fun ⟨x, hx, hs⟩ => absurd hs (hn x (by rwa [List.take_of_length_le (by omega)]))⟩, K2⟩
theorem Contains_calls (w : World) (b mb kb : Nat) (m : List (List UInt8 × Int)) (S : List RowM) (K : List KeptM) (F : Nat → Prop) (A : Option Addr) (c : Nat) (l : List StC) (Hb : Has w b (rowL [.map (some mb), .map (some kb)] 110)) (Hm : HasMap w mb kstr ki64 m) (Hk : HasMap w kb kpair keptv (K.map KeptM.kv)) (hne : b ≠ mb ∧ b ≠ kb ∧ mb ≠ kb) (hB : LBook m S K) (hV : RdT w 1 StC.led ((Value.slice A l.length c)) l) (hP : Pool w 110 F l) : Calls Tryd.prog 31 ⟨[(Value.slice A l.length c), (Value.func (Fn.func 32) ⟨[(ptr b)]⟩ ⟨[]⟩)]⟩ w (fun e w' => ∃ t, e = .returned (.bool t) ∧ (t = true ↔ ∃ x ∈ l, sameL (S, K) x.s) ∧ Keeps none_ w w') := by
 have Hbl := Hb.lt
 have Hml := Hm.lt
 have Hkl := Hk.lt
 have hL := hB.lmap
 have K0 : Keeps none_ w w := Keeps.refl w
 refine q_calls Tryd.func31 (by kernel_rfl) (by kernel_rfl) ?_
 refine qsg ?_
 refine odz 1 ?_
 refine qsg ?_
 refine og 2 [(4, .bool false), (5, .slice A l.length c), (6, .func (Fn.func 32) ⟨[(ptr b)]⟩ ⟨[]⟩)] 2 ?_
 refine ocQ 7 (IndexF_calls _ b mb kb m S K F A c l Hb Hm Hk hne hB hV hP) ?_
 rintro _ w4 ⟨n1, rfl, hn2, K3⟩
 refine ⟨_, _, rfl, rfl, ?_⟩
 replace K0 := K0.t0 K3
 clear K3
 refine ogd 2 [(4, (Value.bool (decide (n1 ≥ 0))))] ?_
 refine qtQ ?_
 refine ⟨(Value.bool (decide (n1 ≥ 0))), retv_tmp rfl rfl, ?_⟩
 exact ⟨_, rfl, ⟨fun h => hn2.1 (of_decide_eq_true h), fun h => decide_eq_true (hn2.2 h)⟩, K0⟩
end Go.Proofs.YtnbcghbgeiocbaaDoor
