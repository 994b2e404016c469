/- What the claim stands on, part 11: rules of the walk, contracts of the functions, plain laws. -/
import Derived.Test.YtnfeemhpoaflfaaGreatDoorProg
import Derived.Test.YtnfeemhpoaflfaaGreatDoorKDoes10
import Derived.Test.YtnfeemhpoaflfaaGreatDoorKDoes6
import Derived.Test.YtnfeemhpoaflfaaGreatDoorKDoes4
import Derived.Lib.AppendStr
set_option linter.unusedVariables false
namespace Go.Proofs.YtnfeemhpoaflfaaGreatDoor
open Go.Q Go.RowKit

set_option maxHeartbeats 4000000 in
theorem Do_calls (w : World) (b mb kb : Nat) (m : List (List UInt8 × Int)) (S : List RowM) (K : List KeptM) (o : Opm) (Hb : Has w b (rowL [.map (some mb), .map (some kb)] 54)) (Hm : HasMap w mb kstr ki64 m) (Hk : HasMap w kb kpair keptv (K.map KeptM.kv)) (hne : b ≠ mb ∧ b ≠ kb ∧ mb ≠ kb) (hB : LBook m S K) (hr : -9223372036854775808 ≤ o.amount ∧ o.amount ≤ 9223372036854775807) (hSl : S.length ≤ 1000) : Calls Tryz.prog 10 ⟨[(ptr b), (agg [(i64 o.kind), (Value.string (str o.frm)), (Value.string (str o.to)), (i64 o.amount), (Value.string (str o.key)), (i64 o.slot), (i64 o.shard)])]⟩ w (fun e w' => ∃ m' A c, e = .returned (agg [i64 (doR S K o).why, i64 (doR S K o).amount, .slice A (doR S K o).rows.length c]) ∧ Keeps (fun i => i = mb ∨ i = kb) w w' ∧ HasMap w' mb kstr ki64 m' ∧ HasMap w' kb kpair keptv ((doK S K o).map KeptM.kv) ∧ LBook m' (doS S K o) (doK S K o) ∧ OwnR w' w.heap.size 47 (.slice A (doR S K o).rows.length c) (doR S K o).rows) := by
 have Hbl := Hb.lt
 have Hml := Hm.lt
 have Hkl := Hk.lt
 have hL := hB.lmap
 have K0 : Keeps (fun i => i = mb ∨ i = kb) w w := (Keeps.refl w).mono (fun _ _ h => h.elim)
 refine q_calls Tryz.func10 (by kernel_rfl) (by kernel_rfl) ?_
 refine qs ?_
 refine qg ?_
 refine Ops.new (o := rowL [(i64 o.kind), (Value.string (str o.frm)), (Value.string (str o.to)), (i64 o.amount), (Value.string (str o.key)), (i64 o.slot), (i64 o.shard)] 24) (V := fun b => (ptr b)) (by kernel_rfl) (d := (some 3)) (by kernel_rfl) (fun b => rfl) (fun b1 w2 hb3 H4 K5 hs6 => ?_)
 have lb1b : b < b1 := by have := Hb.lt; omega
 have lb1mb : mb < b1 := by have := Hm.lt; omega
 have lb1kb : kb < b1 := by have := Hk.lt; omega
 have nb1 : w.heap.size ≤ b1 := by have := K0.size; omega
 replace K0 := K0.trans K5 (U := (fun i => i = mb ∨ i = kb)) (fun i h1 h2 => h2) (fun i h1 h2 => by exact h2.elim)
 replace Hb := Hb.keep K5 (fun h => h)
 replace Hm := Hm.keep K5 (fun h => h)
 replace Hk := Hk.keep K5 (fun h => h)
 clear K5 hs6
 refine Ops.new (o := rowL [(i64 0), (i64 0), (Value.slice none 0 0)] 30) (V := fun b => (ptr b)) (by kernel_rfl) (d := (some 4)) (by kernel_rfl) (fun b => rfl) (fun b7 w8 hb9 H10 K11 hs12 => ?_)
 have lb7b : b < b7 := by have := Hb.lt; omega
 have lb7mb : mb < b7 := by have := Hm.lt; omega
 have lb7kb : kb < b7 := by have := Hk.lt; omega
 have lb7b1 : b1 < b7 := by have := H4.lt; omega
 have nb7 : w.heap.size ≤ b7 := by have := K0.size; omega
 replace K0 := K0.trans K11 (U := (fun i => i = mb ∨ i = kb)) (fun i h1 h2 => h2) (fun i h1 h2 => by exact h2.elim)
 replace Hb := Hb.keep K11 (fun h => h)
 replace Hm := Hm.keep K11 (fun h => h)
 replace Hk := Hk.keep K11 (fun h => h)
 replace H4 := H4.keep K11 (fun h => h)
 clear K11 hs12
 refine od ?_
 refine qs ?_
 refine qs ?_
 refine qg ?_
 refine og 2 [(0, (ptr b)), (3, (ptr b1)), (4, (ptr b7)), (13, (Value.bool false))] 2 ?_
 refine od ?_
 refine q_else (o := .tmp 13) (by kernel_rfl) rfl ?_
 refine q_skip (by kernel_rfl) ?_
 refine qs ?_
 refine qs ?_
 refine qg ?_
 refine Ops.go (v := (agg [(i64 o.kind), (Value.string (str o.frm)), (Value.string (str o.to)), (i64 o.amount), (Value.string (str o.key)), (i64 o.slot), (i64 o.shard)])) (by kernel_rfl) (Runs.load (t := 24) (a := ⟨b1, 0, none⟩) (by kernel_rfl) (H4.loads (by kernel_rfl))) (d := (some 15)) (by kernel_rfl) rfl ?_
 refine Ops.call (by kernel_rfl) (d := (some 16)) (by kernel_rfl) (Wrong_calls _ o) ?_
 rintro _ w14 ⟨rfl, K13⟩
 refine ⟨_, _, rfl, rfl, ?_⟩
 replace K0 := K0.trans K13 (U := (fun i => i = mb ∨ i = kb)) (fun i h1 h2 => h2) (fun i h1 h2 => by exact h2.elim)
 replace Hb := Hb.keep K13 (fun h => h)
 replace Hm := Hm.keep K13 (fun h => h)
 replace Hk := Hk.keep K13 (fun h => h)
 replace H4 := H4.keep K13 (fun h => h)
 replace H10 := H10.keep K13 (fun h => h)
 clear K13
 refine og 1 [(0, (ptr b)), (3, (ptr b1)), (4, (ptr b7)), (5, (i64 (wrongE o)))] 3 ?_
 refine od ?_
 refine qs ?_
 refine qg ?_
 refine og 2 [(0, (ptr b)), (3, (ptr b1)), (4, (ptr b7)), (5, (i64 (wrongE o))), (18, (Value.bool ((wrongE o) != 0)))] 2 ?_
 refine od ?_
 refine q_cond (o := .tmp 18) (b := ((wrongE o) != 0)) (by kernel_rfl) rfl (fun h15 => ?_) (fun h15 => ?_)
 ·rw [h15]
  have p16 : ¬ (wrongE o = 0) := of_bne_t h15
  refine qs ?_
  refine qg ?_
  refine og 2 [(0, (ptr b)), (3, (ptr b1)), (4, (ptr b7)), (20, (agg [(i64 (wrongE o)), (i64 0), (Value.slice none 0 0)]))] 2 ?_
  refine Ops.put (t := 30) (b := b7) (off := 0) (v := (agg [(i64 (wrongE o)), (i64 0), (Value.slice none 0 0)])) (ys := [(i64 (wrongE o)), (i64 0), (Value.slice none 0 0)]) (by kernel_rfl) (by kernel_rfl) H10 (by kernel_rfl) (d := none) (by kernel_rfl) rfl (fun w17 H18 K19 => ?_)
  clear H10
  replace K0 := K0.trans K19 (U := (fun i => i = mb ∨ i = kb)) (fun i h1 h2 => h2) (fun i h1 h2 => by have h2 : i = b7 := h2; show i = mb ∨ i = kb; omega)
  replace Hb := Hb.keep K19 (by intro h; change b = b7 at h; omega)
  replace Hm := Hm.keep K19 (by intro h; change mb = b7 at h; omega)
  replace Hk := Hk.keep K19 (by intro h; change kb = b7 at h; omega)
  replace H4 := H4.keep K19 (by intro h; change b1 = b7 at h; omega)
  clear K19
  refine od ?_
  refine q_ret (by kernel_rfl) ?_
  refine ⟨(agg [(i64 (wrongE o)), (i64 0), (Value.slice none 0 0)]), retv_cell rfl rfl (H18.loads (by kernel_rfl)), ?_⟩
  have e0 := do_wrong (S := S) (K := K) (o := o) (by omega)
  obtain ⟨e1, e2, e3⟩ := e0
  rw [e1, e2, e3]
  exact ⟨_, none, 0, rfl, K0, Hm, Hk, hB, (OwnT.nil _ _ _ _ _)⟩
 ·rw [h15]
  have p20 : wrongE o = 0 := of_bne_f h15
  have hw : wrongE o = 0 := by omega
  refine q_skip (by kernel_rfl) ?_
  refine qs ?_
  refine q_draw (fun wz => Keeps none_ w14 wz) 12 (by kernel_rfl) (by kernel_rfl) (by kernel_rfl) (fun w21 K22 _ _ => ⟨K22, ?_⟩)
  replace K0 := K0.trans K22 (U := (fun i => i = mb ∨ i = kb)) (fun i h1 h2 => h2) (fun i h1 h2 => by exact h2.elim)
  replace Hb := Hb.keep K22 (fun h => h)
  replace Hm := Hm.keep K22 (fun h => h)
  replace Hk := Hk.keep K22 (fun h => h)
  replace H4 := H4.keep K22 (fun h => h)
  replace H10 := H10.keep K22 (fun h => h)
  refine Dr.strong (S' := (fun wz => Keeps none_ w21 wz)) (Keeps.refl w21) (fun wz hx => K22.trans hx (fun i _ h => h) (fun _ _ h => h)) ?_
  clear K22
  refine Dr.takes (fuel' := 9) (is' := [2, 1, 0]) [0, 1, 2] [(0, (ptr b)), (3, (ptr b1)), (4, (ptr b7)), (24, (ptr b))] (by kernel_rfl) rfl (by kernel_rfl) ?_
  refine Dr.take (i := 3) (v := (Value.map (some mb))) (by kernel_rfl) (by kernel_rfl) (fun wz hS => Runs.load (t := 51) (a := ⟨b, 0, none⟩) (by kernel_rfl) ((Hb.keep hS (fun h => h)).loads (by kernel_rfl))) (d := (some 25)) (by kernel_rfl) rfl ?_
  refine Dr.takes (fuel' := 7) (is' := [4, 3, 2, 1, 0]) [4] [(0, (ptr b)), (3, (ptr b1)), (4, (ptr b7)), (25, (Value.map (some mb))), (26, (Value.pointer (some ⟨b1, 1, none⟩)))] (by kernel_rfl) rfl (by kernel_rfl) ?_
  refine Dr.take (i := 5) (v := (Value.string (str o.frm))) (by kernel_rfl) (by kernel_rfl) (fun wz hS => Runs.load (t := 9) (a := ⟨b1, 1, none⟩) (by kernel_rfl) ((H4.keep hS (fun h => h)).loads (by kernel_rfl))) (d := (some 27)) (by kernel_rfl) rfl ?_
  rcases hg23 : getM m o.frm with _ | y24
  ·skip
   have hw25 := hL.got_none hg23
   refine Dr.take (i := 6) (v := (Value.tuple #[(i64 0), (Value.bool false)])) (by kernel_rfl) (by kernel_rfl) (fun wz hS => Runs.lookup_none (ok := true) (z := (i64 0)) KT Tryz.underlying51 (by kernel_rfl) (Hm.keep hS (fun h => h)) hg23 (by kernel_rfl)) (d := (some 28)) (by kernel_rfl) rfl ?_
   refine Dr.takes (fuel' := 0) (is' := [11, 10, 9, 8, 7, 6, 5, 4, 3, 2, 1, 0]) [7, 8, 9, 10, 11] [(0, (ptr b)), (3, (ptr b1)), (4, (ptr b7)), (6, (i64 0)), (7, (Value.bool false))] (by kernel_rfl) rfl (by kernel_rfl) ?_
   refine Dr.done (by kernel_rfl) ?_
   refine qs ?_
   refine qs ?_
   refine qg ?_
   refine og 1 [(0, (ptr b)), (3, (ptr b1)), (4, (ptr b7)), (6, (i64 0)), (7, (Value.bool false)), (31, (ptr b1))] 1 ?_
   refine Ops.go (v := (i64 o.kind)) (by kernel_rfl) (Runs.load (t := 3) (a := ⟨b1, 0, none⟩) (by kernel_rfl) (H4.loads (by kernel_rfl))) (d := (some 32)) (by kernel_rfl) rfl ?_
   refine od ?_
   refine q_block (id := 0) (by kernel_rfl) ?_
   refine qs ?_
   refine qg ?_
   refine og 2 [(0, (ptr b)), (3, (ptr b1)), (4, (ptr b7)), (6, (i64 0)), (7, (Value.bool false)), (32, (i64 o.kind)), (33, (Value.bool (o.kind == 7)))] 2 ?_
   refine od ?_
   refine q_cond (o := .tmp 33) (b := (o.kind == 7)) (by kernel_rfl) rfl (fun h26 => ?_) (fun h26 => ?_)
   ·rw [h26]
    have p27 : o.kind = 7 := of_beq_t h26
    refine qs ?_
    refine qg ?_
    refine og 1 [(0, (ptr b)), (3, (ptr b1)), (4, (ptr b7)), (6, (i64 0)), (7, (Value.bool false)), (32, (i64 o.kind)), (35, (agg [(i64 0), (i64 0), (Value.slice none 0 0)]))] 1 ?_
    refine Ops.put (t := 30) (b := b7) (off := 0) (v := (agg [(i64 0), (i64 0), (Value.slice none 0 0)])) (ys := [(i64 0), (i64 0), (Value.slice none 0 0)]) (by kernel_rfl) (by kernel_rfl) H10 (by kernel_rfl) (d := none) (by kernel_rfl) rfl (fun w28 H29 K30 => ?_)
    clear H10
    replace K0 := K0.trans K30 (U := (fun i => i = mb ∨ i = kb)) (fun i h1 h2 => h2) (fun i h1 h2 => by have h2 : i = b7 := h2; show i = mb ∨ i = kb; omega)
    replace Hb := Hb.keep K30 (by intro h; change b = b7 at h; omega)
    replace Hm := Hm.keep K30 (by intro h; change mb = b7 at h; omega)
    replace Hk := Hk.keep K30 (by intro h; change kb = b7 at h; omega)
    replace H4 := H4.keep K30 (by intro h; change b1 = b7 at h; omega)
    clear K30
    refine od ?_
    refine q_ret (by kernel_rfl) ?_
    refine ⟨(agg [(i64 0), (i64 0), (Value.slice none 0 0)]), retv_cell rfl rfl (H29.loads (by kernel_rfl)), ?_⟩
    have e0 := do_move (S := S) (K := K) (o := o) hw (by omega)
    obtain ⟨e1, e2, e3⟩ := e0
    rw [e1, e2, e3]
    exact ⟨_, none, 0, rfl, K0, Hm, Hk, hB, (OwnT.nil _ _ _ _ _)⟩
   ·rw [h26]
    have p31 : ¬ (o.kind = 7) := of_beq_f h26
    refine qs ?_
    refine qg ?_
    refine og 2 [(0, (ptr b)), (3, (ptr b1)), (4, (ptr b7)), (6, (i64 0)), (7, (Value.bool false)), (32, (i64 o.kind)), (36, (Value.bool (o.kind == 6)))] 2 ?_
    refine od ?_
    refine q_cond (o := .tmp 36) (b := (o.kind == 6)) (by kernel_rfl) rfl (fun h32 => ?_) (fun h32 => ?_)
    ·rw [h32]
     have p33 : o.kind = 6 := of_beq_t h32
     refine qs ?_
     refine qg ?_
     refine og 1 [(0, (ptr b)), (3, (ptr b1)), (4, (ptr b7)), (6, (i64 0)), (7, (Value.bool false)), (32, (i64 o.kind)), (38, (ptr b))] 1 ?_
     refine Ops.call (by kernel_rfl) (d := (some 39)) (by kernel_rfl) (rows_calls _ b mb kb m S Hb Hm (by omega) hL (by omega)) ?_
     rintro _ w36 ⟨A34, c35, rfl, K37, hO38⟩
     have ob40 : ∀ i, ((Value.slice A34 S.length c35)).ownBlock = some i → i ≠ b := fun i hi => by have := (World.ownsRow.lt hO38 i hi).1; have := Hb.lt; omega
     have ob41 : ∀ i, ((Value.slice A34 S.length c35)).ownBlock = some i → i ≠ mb := fun i hi => by have := (World.ownsRow.lt hO38 i hi).1; have := Hm.lt; omega
     have ob42 : ∀ i, ((Value.slice A34 S.length c35)).ownBlock = some i → i ≠ kb := fun i hi => by have := (World.ownsRow.lt hO38 i hi).1; have := Hk.lt; omega
     have ob43 : ∀ i, ((Value.slice A34 S.length c35)).ownBlock = some i → i ≠ b1 := fun i hi => by have := (World.ownsRow.lt hO38 i hi).1; have := H4.lt; omega
     have ob44 : ∀ i, ((Value.slice A34 S.length c35)).ownBlock = some i → i ≠ b7 := fun i hi => by have := (World.ownsRow.lt hO38 i hi).1; have := H10.lt; omega
     have O39 := own_base hO38 K0.size
     clear hO38
     refine ⟨_, _, rfl, rfl, ?_⟩
     replace K0 := K0.trans K37 (U := (fun i => i = mb ∨ i = kb)) (fun i h1 h2 => h2) (fun i h1 h2 => by exact h2.elim)
     replace Hb := Hb.keep K37 (fun h => h)
     replace Hm := Hm.keep K37 (fun h => h)
     replace Hk := Hk.keep K37 (fun h => h)
     replace H4 := H4.keep K37 (fun h => h)
     replace H10 := H10.keep K37 (fun h => h)
     clear K37
     refine og 1 [(0, (ptr b)), (3, (ptr b1)), (4, (ptr b7)), (6, (i64 0)), (7, (Value.bool false)), (32, (i64 o.kind)), (40, (agg [(i64 0), (i64 0), (Value.slice A34 S.length c35)]))] 3 ?_
     refine Ops.put (t := 30) (b := b7) (off := 0) (v := (agg [(i64 0), (i64 0), (Value.slice A34 S.length c35)])) (ys := [(i64 0), (i64 0), (Value.slice A34 S.length c35)]) (by kernel_rfl) (by kernel_rfl) H10 (by kernel_rfl) (d := none) (by kernel_rfl) rfl (fun w45 H46 K47 => ?_)
     clear H10
     replace K0 := K0.trans K47 (U := (fun i => i = mb ∨ i = kb)) (fun i h1 h2 => h2) (fun i h1 h2 => by have h2 : i = b7 := h2; show i = mb ∨ i = kb; omega)
     replace Hb := Hb.keep K47 (by intro h; change b = b7 at h; omega)
     replace Hm := Hm.keep K47 (by intro h; change mb = b7 at h; omega)
     replace Hk := Hk.keep K47 (by intro h; change kb = b7 at h; omega)
     replace H4 := H4.keep K47 (by intro h; change b1 = b7 at h; omega)
     replace O39 := own_keep O39 K47 (fun i hi hs => by have hs : i = b7 := hs; have := ob44 i hi; omega)
     clear K47
     refine od ?_
     refine q_ret (by kernel_rfl) ?_
     refine ⟨(agg [(i64 0), (i64 0), (Value.slice A34 S.length c35)]), retv_cell rfl rfl (H46.loads (by kernel_rfl)), ?_⟩
     have e0 := do_audit (S := S) (K := K) (o := o) hw (by omega)
     obtain ⟨e1, e2, e3⟩ := e0
     rw [e1, e2, e3]
     exact ⟨_, A34, c35, rfl, K0, Hm, Hk, hB, O39⟩
    ·rw [h32]
     have p48 : ¬ (o.kind = 6) := of_beq_f h32
     refine qs ?_
     refine qg ?_
     refine og 2 [(0, (ptr b)), (3, (ptr b1)), (4, (ptr b7)), (6, (i64 0)), (7, (Value.bool false)), (41, (Value.bool (o.kind == 5)))] 2 ?_
     refine od ?_
     refine q_cond (o := .tmp 41) (b := (o.kind == 5)) (by kernel_rfl) rfl (fun h49 => ?_) (fun h49 => ?_)
     ·rw [h49]
      have p50 : o.kind = 5 := of_beq_t h49
      refine qs ?_
      refine qs ?_
      refine qg ?_
      refine og 2 [(0, (ptr b)), (3, (ptr b1)), (4, (ptr b7)), (6, (i64 0)), (7, (Value.bool false)), (44, (Value.bool true))] 2 ?_
      refine od ?_
      refine q_then (o := .tmp 44) (by kernel_rfl) rfl ?_
      refine qs ?_
      refine qg ?_
      refine og 1 [(0, (ptr b)), (3, (ptr b1)), (4, (ptr b7)), (6, (i64 0)), (7, (Value.bool false)), (45, (agg [(i64 40), (i64 0), (Value.slice none 0 0)]))] 1 ?_
      refine Ops.put (t := 30) (b := b7) (off := 0) (v := (agg [(i64 40), (i64 0), (Value.slice none 0 0)])) (ys := [(i64 40), (i64 0), (Value.slice none 0 0)]) (by kernel_rfl) (by kernel_rfl) H10 (by kernel_rfl) (d := none) (by kernel_rfl) rfl (fun w51 H52 K53 => ?_)
      clear H10
      replace K0 := K0.trans K53 (U := (fun i => i = mb ∨ i = kb)) (fun i h1 h2 => h2) (fun i h1 h2 => by have h2 : i = b7 := h2; show i = mb ∨ i = kb; omega)
      replace Hb := Hb.keep K53 (by intro h; change b = b7 at h; omega)
      replace Hm := Hm.keep K53 (by intro h; change mb = b7 at h; omega)
      replace Hk := Hk.keep K53 (by intro h; change kb = b7 at h; omega)
      replace H4 := H4.keep K53 (by intro h; change b1 = b7 at h; omega)
      clear K53
      refine od ?_
      refine q_ret (by kernel_rfl) ?_
      refine ⟨(agg [(i64 40), (i64 0), (Value.slice none 0 0)]), retv_cell rfl rfl (H52.loads (by kernel_rfl)), ?_⟩
      have e0 := do_bal_none (S := S) (K := K) (o := o) hw (by omega) hw25
      obtain ⟨e1, e2, e3⟩ := e0
      rw [e1, e2, e3]
      exact ⟨_, none, 0, rfl, K0, Hm, Hk, hB, (OwnT.nil _ _ _ _ _)⟩
     ·rw [h49]
      have p54 : ¬ (o.kind = 5) := of_beq_f h49
      have hwa := wrong_act hw (by omega) (by omega) (by omega)
      have hro : -9223372036854775808 ≤ (plainE o).amount ∧ (plainE o).amount ≤ 9223372036854775807 := by unfold plainE; simp only; split <;> omega
      refine q_skip (by kernel_rfl) ?_
      refine qs ?_
      refine qg ?_
      refine Ops.go (v := (agg [(i64 o.kind), (Value.string (str o.frm)), (Value.string (str o.to)), (i64 o.amount), (Value.string (str o.key)), (i64 o.slot), (i64 o.shard)])) (by kernel_rfl) (Runs.load (t := 24) (a := ⟨b1, 0, none⟩) (by kernel_rfl) (H4.loads (by kernel_rfl))) (d := (some 48)) (by kernel_rfl) rfl ?_
      refine Ops.call (by kernel_rfl) (d := (some 49)) (by kernel_rfl) (plain_calls _ o) ?_
      rintro _ w56 ⟨rfl, K55⟩
      refine ⟨_, _, rfl, rfl, ?_⟩
      replace K0 := K0.trans K55 (U := (fun i => i = mb ∨ i = kb)) (fun i h1 h2 => h2) (fun i h1 h2 => by exact h2.elim)
      replace Hb := Hb.keep K55 (fun h => h)
      replace Hm := Hm.keep K55 (fun h => h)
      replace Hk := Hk.keep K55 (fun h => h)
      replace H4 := H4.keep K55 (fun h => h)
      replace H10 := H10.keep K55 (fun h => h)
      clear K55
      refine Ops.put (t := 24) (b := b1) (off := 0) (v := (agg [(i64 o.kind), (Value.string (str o.frm)), (Value.string (str ((plainE o).to))), (i64 ((plainE o).amount)), (Value.string (str o.key)), (i64 0), (i64 0)])) (ys := [(i64 o.kind), (Value.string (str o.frm)), (Value.string (str ((plainE o).to))), (i64 ((plainE o).amount)), (Value.string (str o.key)), (i64 0), (i64 0)]) (by kernel_rfl) (by kernel_rfl) H4 (by kernel_rfl) (d := none) (by kernel_rfl) rfl (fun w57 H58 K59 => ?_)
      clear H4
      replace K0 := K0.trans K59 (U := (fun i => i = mb ∨ i = kb)) (fun i h1 h2 => h2) (fun i h1 h2 => by have h2 : i = b1 := h2; show i = mb ∨ i = kb; omega)
      replace Hb := Hb.keep K59 (by intro h; change b = b1 at h; omega)
      replace Hm := Hm.keep K59 (by intro h; change mb = b1 at h; omega)
      replace Hk := Hk.keep K59 (by intro h; change kb = b1 at h; omega)
      replace H10 := H10.keep K59 (by intro h; change b7 = b1 at h; omega)
      clear K59
      refine od ?_
      refine qs ?_
      refine qg ?_
      refine og 1 [(0, (ptr b)), (3, (ptr b1)), (4, (ptr b7)), (6, (i64 0)), (7, (Value.bool false)), (50, (Value.pointer (some ⟨b1, 1, none⟩)))] 1 ?_
      refine Ops.go (v := (Value.string (str o.frm))) (by kernel_rfl) (Runs.load (t := 9) (a := ⟨b1, 1, none⟩) (by kernel_rfl) (H58.loads (by kernel_rfl))) (d := (some 51)) (by kernel_rfl) rfl ?_
      refine og 1 [(0, (ptr b)), (3, (ptr b1)), (4, (ptr b7)), (6, (i64 0)), (7, (Value.bool false)), (51, (Value.string (str o.frm))), (52, (Value.pointer (some ⟨b1, 4, none⟩)))] 3 ?_
      refine Ops.go (v := (Value.string (str o.key))) (by kernel_rfl) (Runs.load (t := 9) (a := ⟨b1, 4, none⟩) (by kernel_rfl) (H58.loads (by kernel_rfl))) (d := (some 53)) (by kernel_rfl) rfl ?_
      refine og 1 [(0, (ptr b)), (3, (ptr b1)), (4, (ptr b7)), (6, (i64 0)), (7, (Value.bool false)), (54, (agg [(Value.string (str o.frm)), (Value.string (str o.key))]))] 5 ?_
      refine Ops.new (o := rowL [(Value.string ByteArray.empty), (Value.string ByteArray.empty)] 60) (V := fun b => (ptr b)) (by kernel_rfl) (d := (some 8)) (by kernel_rfl) (fun b => rfl) (fun b60 w61 hb62 H63 K64 hs65 => ?_)
      have lb60b : b < b60 := by have := Hb.lt; omega
      have lb60mb : mb < b60 := by have := Hm.lt; omega
      have lb60kb : kb < b60 := by have := Hk.lt; omega
      have lb60b1 : b1 < b60 := by have := H58.lt; omega
      have lb60b7 : b7 < b60 := by have := H10.lt; omega
      have nb60 : w.heap.size ≤ b60 := by have := K0.size; omega
      replace K0 := K0.trans K64 (U := (fun i => i = mb ∨ i = kb)) (fun i h1 h2 => h2) (fun i h1 h2 => by exact h2.elim)
      replace Hb := Hb.keep K64 (fun h => h)
      replace Hm := Hm.keep K64 (fun h => h)
      replace Hk := Hk.keep K64 (fun h => h)
      replace H58 := H58.keep K64 (fun h => h)
      replace H10 := H10.keep K64 (fun h => h)
      clear K64 hs65
      refine Ops.put (t := 60) (b := b60) (off := 0) (v := (agg [(Value.string (str o.frm)), (Value.string (str o.key))])) (ys := [(Value.string (str o.frm)), (Value.string (str o.key))]) (by kernel_rfl) (by kernel_rfl) H63 (by kernel_rfl) (d := none) (by kernel_rfl) rfl (fun w66 H67 K68 => ?_)
      clear H63
      replace K0 := K0.trans K68 (U := (fun i => i = mb ∨ i = kb)) (fun i h1 h2 => h2) (fun i h1 h2 => by have h2 : i = b60 := h2; show i = mb ∨ i = kb; omega)
      replace Hb := Hb.keep K68 (by intro h; change b = b60 at h; omega)
      replace Hm := Hm.keep K68 (by intro h; change mb = b60 at h; omega)
      replace Hk := Hk.keep K68 (by intro h; change kb = b60 at h; omega)
      replace H58 := H58.keep K68 (by intro h; change b1 = b60 at h; omega)
      replace H10 := H10.keep K68 (by intro h; change b7 = b60 at h; omega)
      clear K68
      refine od ?_
      refine qs ?_
      refine qs ?_
      refine q_draw (fun wz => Keeps none_ w66 wz) 12 (by kernel_rfl) (by kernel_rfl) (by kernel_rfl) (fun w69 K70 _ _ => ⟨K70, ?_⟩)
      replace K0 := K0.trans K70 (U := (fun i => i = mb ∨ i = kb)) (fun i h1 h2 => h2) (fun i h1 h2 => by exact h2.elim)
      replace Hb := Hb.keep K70 (fun h => h)
      replace Hm := Hm.keep K70 (fun h => h)
      replace Hk := Hk.keep K70 (fun h => h)
      replace H58 := H58.keep K70 (fun h => h)
      replace H10 := H10.keep K70 (fun h => h)
      replace H67 := H67.keep K70 (fun h => h)
      refine Dr.strong (S' := (fun wz => Keeps none_ w69 wz)) (Keeps.refl w69) (fun wz hx => K70.trans hx (fun i _ h => h) (fun _ _ h => h)) ?_
      clear K70
      refine Dr.takes (fuel' := 9) (is' := [2, 1, 0]) [0, 1, 2] [(0, (ptr b)), (3, (ptr b1)), (4, (ptr b7)), (6, (i64 0)), (7, (Value.bool false)), (8, (ptr b60)), (58, (Value.pointer (some ⟨b, 1, none⟩)))] (by kernel_rfl) rfl (by kernel_rfl) ?_
      refine Dr.take (i := 3) (v := (Value.map (some kb))) (by kernel_rfl) (by kernel_rfl) (fun wz hS => Runs.load (t := 52) (a := ⟨b, 1, none⟩) (by kernel_rfl) ((Hb.keep hS (fun h => h)).loads (by kernel_rfl))) (d := (some 59)) (by kernel_rfl) rfl ?_
      refine Dr.take (i := 4) (v := (agg [(Value.string (str o.frm)), (Value.string (str o.key))])) (by kernel_rfl) (by kernel_rfl) (fun wz hS => Runs.load (t := 60) (a := ⟨b60, 0, none⟩) (by kernel_rfl) ((H67.keep hS (fun h => h)).loads (by kernel_rfl))) (d := (some 60)) (by kernel_rfl) rfl ?_
      rcases hg71 : getM (K.map KeptM.kv) (o.frm, o.key) with _ | y72
      ·skip
       have hk73 : findK K o.frm o.key = none := hg71
       refine Dr.take (i := 5) (v := (Value.tuple #[(agg [(i64 0), (Value.string ByteArray.empty), (Value.string ByteArray.empty), (i64 0), (Value.string ByteArray.empty), (i64 0), (i64 0), (i64 0)]), (Value.bool false)])) (by kernel_rfl) (by kernel_rfl) (fun wz hS => Runs.lookup_none (ok := true) (z := (agg [(i64 0), (Value.string ByteArray.empty), (Value.string ByteArray.empty), (i64 0), (Value.string ByteArray.empty), (i64 0), (i64 0), (i64 0)])) KT2 Tryz.underlying52 (by kernel_rfl) (Hk.keep hS (fun h => h)) hg71 (by kernel_rfl)) (d := (some 61)) (by kernel_rfl) rfl ?_
       refine Dr.takes (fuel' := 3) (is' := [8, 7, 6, 5, 4, 3, 2, 1, 0]) [6, 7, 8] [(0, (ptr b)), (3, (ptr b1)), (4, (ptr b7)), (6, (i64 0)), (7, (Value.bool false)), (8, (ptr b60)), (62, (agg [(i64 0), (Value.string ByteArray.empty), (Value.string ByteArray.empty), (i64 0), (Value.string ByteArray.empty), (i64 0), (i64 0), (i64 0)])), (63, (Value.bool false))] (by kernel_rfl) rfl (by kernel_rfl) ?_
       refine Dr.new (i := 9) (o := rowL [(i64 0), (Value.string ByteArray.empty), (Value.string ByteArray.empty), (i64 0), (Value.string ByteArray.empty), (i64 0), (i64 0), (i64 0)] 62) (V := fun b => (ptr b)) (by kernel_rfl) (by kernel_rfl) (d := (some 9)) (by kernel_rfl) (fun b => rfl) (fun b74 w75 hb76 H77 K78 hs79 => ?_)
       have lb74b : b < b74 := by have := Hb.lt; omega
       have lb74mb : mb < b74 := by have := Hm.lt; omega
       have lb74kb : kb < b74 := by have := Hk.lt; omega
       have lb74b1 : b1 < b74 := by have := H58.lt; omega
       have lb74b7 : b7 < b74 := by have := H10.lt; omega
       have lb74b60 : b60 < b74 := by have := H67.lt; omega
       have nb74 : w.heap.size ≤ b74 := by have := K0.size; omega
       replace K0 := K0.trans K78 (U := (fun i => i = mb ∨ i = kb)) (fun i h1 h2 => h2) (fun i h1 h2 => by exact h2.elim)
       replace Hb := Hb.keep K78 (fun h => h)
       replace Hm := Hm.keep K78 (fun h => h)
       replace Hk := Hk.keep K78 (fun h => h)
       replace H58 := H58.keep K78 (fun h => h)
       replace H10 := H10.keep K78 (fun h => h)
       replace H67 := H67.keep K78 (fun h => h)
       refine ⟨K78, ?_⟩
       refine Dr.strong (S' := (fun wz => Keeps (fun i => i = b74) w75 wz)) ((Keeps.refl w75).mono (fun _ _ h => h.elim)) (fun wz hx => K78.trans hx (U := none_) (fun i _ h => h) (fun i hi h => by have h : i = b74 := h; exfalso; omega)) ?_
       clear K78 hs79
       refine Dr.put (i := 10) (t := 62) (b := b74) (off := 0) (v := (agg [(i64 0), (Value.string ByteArray.empty), (Value.string ByteArray.empty), (i64 0), (Value.string ByteArray.empty), (i64 0), (i64 0), (i64 0)])) (ys := [(i64 0), (Value.string ByteArray.empty), (Value.string ByteArray.empty), (i64 0), (Value.string ByteArray.empty), (i64 0), (i64 0), (i64 0)]) (by kernel_rfl) (by kernel_rfl) (by kernel_rfl) H77 (by kernel_rfl) (d := none) (by kernel_rfl) rfl (fun w80 H81 K82 => ?_)
       clear H77
       replace K0 := K0.trans K82 (U := (fun i => i = mb ∨ i = kb)) (fun i h1 h2 => h2) (fun i h1 h2 => by have h2 : i = b74 := h2; show i = mb ∨ i = kb; omega)
       replace Hb := Hb.keep K82 (by intro h; change b = b74 at h; omega)
       replace Hm := Hm.keep K82 (by intro h; change mb = b74 at h; omega)
       replace Hk := Hk.keep K82 (by intro h; change kb = b74 at h; omega)
       replace H58 := H58.keep K82 (by intro h; change b1 = b74 at h; omega)
       replace H10 := H10.keep K82 (by intro h; change b7 = b74 at h; omega)
       replace H67 := H67.keep K82 (by intro h; change b60 = b74 at h; omega)
       refine ⟨K82, ?_⟩
       refine Dr.strong (S' := (fun wz => Keeps (fun i => i = b74) w80 wz)) ((Keeps.refl w80).mono (fun _ _ h => h.elim)) (fun wz hx => K82.trans hx (fun i _ h => by have h : i = b74 := h; show i = b74; omega) (fun _ _ h => h)) ?_
       clear K82
       refine Dr.takes (fuel' := 0) (is' := [11, 10, 9, 8, 7, 6, 5, 4, 3, 2, 1, 0]) [11] [(0, (ptr b)), (3, (ptr b1)), (4, (ptr b7)), (6, (i64 0)), (7, (Value.bool false)), (8, (ptr b60)), (9, (ptr b74)), (10, (Value.bool false))] (by kernel_rfl) rfl (by kernel_rfl) ?_
       refine Dr.done (by kernel_rfl) ?_
       refine qs ?_
       refine qg ?_
       refine og 1 [(0, (ptr b)), (3, (ptr b1)), (4, (ptr b7)), (6, (i64 0)), (7, (Value.bool false)), (8, (ptr b60)), (9, (ptr b74)), (64, (Value.bool false))] 1 ?_
       refine od ?_
       refine q_else (o := .tmp 64) (by kernel_rfl) rfl ?_
       refine q_skip (by kernel_rfl) ?_
       refine qs ?_
       refine qg ?_
       refine og 1 [(0, (ptr b)), (3, (ptr b1)), (4, (ptr b7)), (6, (i64 0)), (7, (Value.bool false)), (8, (ptr b60)), (73, (ptr b))] 1 ?_
       refine Ops.go (v := (agg [(i64 o.kind), (Value.string (str o.frm)), (Value.string (str ((plainE o).to))), (i64 ((plainE o).amount)), (Value.string (str o.key)), (i64 0), (i64 0)])) (by kernel_rfl) (Runs.load (t := 24) (a := ⟨b1, 0, none⟩) (by kernel_rfl) (H58.loads (by kernel_rfl))) (d := (some 74)) (by kernel_rfl) rfl ?_
       refine og 2 [(0, (ptr b)), (3, (ptr b1)), (4, (ptr b7)), (8, (ptr b60)), (73, (ptr b)), (74, (agg [(i64 o.kind), (Value.string (str o.frm)), (Value.string (str ((plainE o).to))), (i64 ((plainE o).amount)), (Value.string (str o.key)), (i64 0), (i64 0)])), (75, (i64 0)), (76, (Value.bool false))] 4 ?_
       refine Ops.call (by kernel_rfl) (d := (some 77)) (by kernel_rfl) (act_none _ b mb kb m S (plainE o) Hb Hm (by omega) hL hwa.1 hwa.2.1 (fun q => by have h1 := hwa.2.2.2.1 q; have h2 := plainE_amount o q; omega) hro (fun q => by have h2 := plainE_to o q; rw [h2]; exact (hwa.2.2.2.2 q).2) hg23) ?_
       rintro _ w84 ⟨m83, rfl, K85, Hm86, hL87⟩
       refine ⟨_, _, rfl, rfl, ?_⟩
       replace K0 := K0.trans K85 (U := (fun i => i = mb ∨ i = kb)) (fun i h1 h2 => h2) (fun i h1 h2 => by have h2 : i = mb := h2; show i = mb ∨ i = kb; omega)
       replace Hb := Hb.keep K85 (by intro h; change b = mb at h; omega)
       replace Hk := Hk.keep K85 (by intro h; change kb = mb at h; omega)
       replace H58 := H58.keep K85 (by intro h; change b1 = mb at h; omega)
       replace H10 := H10.keep K85 (by intro h; change b7 = mb at h; omega)
       replace H67 := H67.keep K85 (by intro h; change b60 = mb at h; omega)
       replace H81 := H81.keep K85 (by intro h; change b74 = mb at h; omega)
       clear K85
       refine og 1 [(0, (ptr b)), (3, (ptr b1)), (4, (ptr b7)), (8, (ptr b60)), (11, (i64 (actE S (plainE o))))] 6 ?_
       refine od ?_
       refine qs ?_
       refine q_draw (fun wz => Keeps (fun i => i = kb) w84 wz) 9 (by kernel_rfl) (by kernel_rfl) (by kernel_rfl) (fun w88 K89 _ _ => ⟨(K89.mono (fun _ _ h => h.elim)), ?_⟩)
       replace K0 := K0.trans K89 (U := (fun i => i = mb ∨ i = kb)) (fun i h1 h2 => h2) (fun i h1 h2 => by exact h2.elim)
       replace Hb := Hb.keep K89 (fun h => h)
       replace Hm86 := Hm86.keep K89 (fun h => h)
       replace Hk := Hk.keep K89 (fun h => h)
       replace H58 := H58.keep K89 (fun h => h)
       replace H10 := H10.keep K89 (fun h => h)
       replace H67 := H67.keep K89 (fun h => h)
       replace H81 := H81.keep K89 (fun h => h)
       refine Dr.strong (S' := (fun wz => Keeps (fun i => i = kb) w88 wz)) ((Keeps.refl w88).mono (fun _ _ h => h.elim)) (fun wz hx => K89.trans hx (fun i _ h => h.elim) (fun _ _ h => h)) ?_
       clear K89
       refine Dr.takes (fuel' := 6) (is' := [2, 1, 0]) [0, 1, 2] [(3, (ptr b1)), (4, (ptr b7)), (8, (ptr b60)), (11, (i64 (actE S (plainE o)))), (80, (Value.pointer (some ⟨b, 1, none⟩)))] (by kernel_rfl) rfl (by kernel_rfl) ?_
       refine Dr.take (i := 3) (v := (Value.map (some kb))) (by kernel_rfl) (by kernel_rfl) (fun wz hS => Runs.load (t := 52) (a := ⟨b, 1, none⟩) (by kernel_rfl) ((Hb.keep hS (by intro h; change b = kb at h; omega)).loads (by kernel_rfl))) (d := (some 81)) (by kernel_rfl) rfl ?_
       refine Dr.take (i := 4) (v := (agg [(Value.string (str o.frm)), (Value.string (str o.key))])) (by kernel_rfl) (by kernel_rfl) (fun wz hS => Runs.load (t := 60) (a := ⟨b60, 0, none⟩) (by kernel_rfl) ((H67.keep hS (by intro h; change b60 = kb at h; omega)).loads (by kernel_rfl))) (d := (some 82)) (by kernel_rfl) rfl ?_
       refine Dr.take (i := 5) (v := (agg [(i64 o.kind), (Value.string (str o.frm)), (Value.string (str ((plainE o).to))), (i64 ((plainE o).amount)), (Value.string (str o.key)), (i64 0), (i64 0)])) (by kernel_rfl) (by kernel_rfl) (fun wz hS => Runs.load (t := 24) (a := ⟨b1, 0, none⟩) (by kernel_rfl) ((H58.keep hS (by intro h; change b1 = kb at h; omega)).loads (by kernel_rfl))) (d := (some 83)) (by kernel_rfl) rfl ?_
       refine Dr.takes (fuel' := 1) (is' := [7, 6, 5, 4, 3, 2, 1, 0]) [6, 7] [(4, (ptr b7)), (11, (i64 (actE S (plainE o)))), (81, (Value.map (some kb))), (82, (agg [(Value.string (str o.frm)), (Value.string (str o.key))])), (85, (agg [(i64 o.kind), (Value.string (str o.frm)), (Value.string (str ((plainE o).to))), (i64 ((plainE o).amount)), (Value.string (str o.key)), (i64 0), (i64 0), (i64 (actE S (plainE o)))]))] (by kernel_rfl) rfl (by kernel_rfl) ?_
       obtain ⟨w90, hr91, K92, H93⟩ := HasMap.update KT2 Tryz.underlying52 Hk (o.frm, o.key) (⟨(plainE o), actE S (plainE o)⟩ : KeptM)
       refine Dr.goU (i := 8) (by kernel_rfl) (by kernel_rfl) (RunsU.of_update (by kernel_rfl) hr91) (d := none) (by kernel_rfl) rfl K92 ?_
       clear Hk
       replace K0 := K0.trans K92 (U := (fun i => i = mb ∨ i = kb)) (fun i h1 h2 => h2) (fun i h1 h2 => by have h2 : i = kb := h2; show i = mb ∨ i = kb; omega)
       replace Hb := Hb.keep K92 (by intro h; change b = kb at h; omega)
       replace Hm86 := Hm86.keep K92 (by intro h; change mb = kb at h; omega)
       replace H58 := H58.keep K92 (by intro h; change b1 = kb at h; omega)
       replace H10 := H10.keep K92 (by intro h; change b7 = kb at h; omega)
       replace H67 := H67.keep K92 (by intro h; change b60 = kb at h; omega)
       replace H81 := H81.keep K92 (by intro h; change b74 = kb at h; omega)
       refine Dr.strong (S' := (fun wz => Keeps (fun i => i = kb) w90 wz)) ((Keeps.refl w90).mono (fun _ _ h => h.elim)) (fun wz hx => K92.trans hx (fun i _ h => by have h : i = kb := h; show i = kb; omega) (fun _ _ h => h)) ?_
       clear K92 hr91
       refine Dr.done (by kernel_rfl) ?_
       refine qs ?_
       refine qg ?_
       refine og 2 [(4, (ptr b7)), (87, (agg [(i64 (actE S (plainE o))), (i64 0), (Value.slice none 0 0)]))] 2 ?_
       refine Ops.put (t := 30) (b := b7) (off := 0) (v := (agg [(i64 (actE S (plainE o))), (i64 0), (Value.slice none 0 0)])) (ys := [(i64 (actE S (plainE o))), (i64 0), (Value.slice none 0 0)]) (by kernel_rfl) (by kernel_rfl) H10 (by kernel_rfl) (d := none) (by kernel_rfl) rfl (fun w94 H95 K96 => ?_)
       clear H10
       replace K0 := K0.trans K96 (U := (fun i => i = mb ∨ i = kb)) (fun i h1 h2 => h2) (fun i h1 h2 => by have h2 : i = b7 := h2; show i = mb ∨ i = kb; omega)
       replace Hb := Hb.keep K96 (by intro h; change b = b7 at h; omega)
       replace Hm86 := Hm86.keep K96 (by intro h; change mb = b7 at h; omega)
       replace H93 := H93.keep K96 (by intro h; change kb = b7 at h; omega)
       replace H58 := H58.keep K96 (by intro h; change b1 = b7 at h; omega)
       replace H67 := H67.keep K96 (by intro h; change b60 = b7 at h; omega)
       replace H81 := H81.keep K96 (by intro h; change b74 = b7 at h; omega)
       clear K96
       refine od ?_
       refine q_ret (by kernel_rfl) ?_
       refine ⟨(agg [(i64 (actE S (plainE o))), (i64 0), (Value.slice none 0 0)]), retv_cell rfl rfl (H95.loads (by kernel_rfl)), ?_⟩
       have e0 := do_fresh (S := S) (K := K) (o := o) hw (by omega) (by omega) (by omega) hk73
       obtain ⟨e1, e2, e3⟩ := e0
       rw [e1, e2, e3]
       exact ⟨_, none, 0, rfl, K0, Hm86, by have h := H93; rwa [show putM (K.map KeptM.kv) (o.frm, o.key) (⟨plainE o, actE S (plainE o)⟩ : KeptM) = _ from putM_kept (x := ⟨plainE o, actE S (plainE o)⟩) hk73] at h, hB.fresh hw (by omega) (by omega) (by omega) hk73 hr hL87, (OwnT.nil _ _ _ _ _)⟩
      ·skip
       have hk97 : findK K o.frm o.key = some y72 := hg71
       have hy98 := hB.ledg.ok _ (findK_some hk97).1
       have hy99 := hy98.why
       have hy100 := hy98.kind
       refine Dr.take (i := 5) (v := (Value.tuple #[(agg [(i64 y72.op.kind), (Value.string (str y72.op.frm)), (Value.string (str y72.op.to)), (i64 y72.op.amount), (Value.string (str y72.op.key)), (i64 y72.op.slot), (i64 y72.op.shard), (i64 y72.why)]), (Value.bool true)])) (by kernel_rfl) (by kernel_rfl) (fun wz hS => Runs.lookup_some (ok := true) (vf := keptv) (a := (⟨y72.op, y72.why⟩ : KeptM)) KT2 Tryz.underlying52 (Hk.keep hS (fun h => h)) hg71 (by kernel_rfl)) (d := (some 61)) (by kernel_rfl) rfl ?_
       refine Dr.takes (fuel' := 3) (is' := [8, 7, 6, 5, 4, 3, 2, 1, 0]) [6, 7, 8] [(0, (ptr b)), (3, (ptr b1)), (4, (ptr b7)), (6, (i64 0)), (7, (Value.bool false)), (8, (ptr b60)), (62, (agg [(i64 y72.op.kind), (Value.string (str y72.op.frm)), (Value.string (str y72.op.to)), (i64 y72.op.amount), (Value.string (str y72.op.key)), (i64 y72.op.slot), (i64 y72.op.shard), (i64 y72.why)])), (63, (Value.bool true))] (by kernel_rfl) rfl (by kernel_rfl) ?_
       refine Dr.new (i := 9) (o := rowL [(i64 0), (Value.string ByteArray.empty), (Value.string ByteArray.empty), (i64 0), (Value.string ByteArray.empty), (i64 0), (i64 0), (i64 0)] 62) (V := fun b => (ptr b)) (by kernel_rfl) (by kernel_rfl) (d := (some 9)) (by kernel_rfl) (fun b => rfl) (fun b101 w102 hb103 H104 K105 hs106 => ?_)
       have lb101b : b < b101 := by have := Hb.lt; omega
       have lb101mb : mb < b101 := by have := Hm.lt; omega
       have lb101kb : kb < b101 := by have := Hk.lt; omega
       have lb101b1 : b1 < b101 := by have := H58.lt; omega
       have lb101b7 : b7 < b101 := by have := H10.lt; omega
       have lb101b60 : b60 < b101 := by have := H67.lt; omega
       have nb101 : w.heap.size ≤ b101 := by have := K0.size; omega
       replace K0 := K0.trans K105 (U := (fun i => i = mb ∨ i = kb)) (fun i h1 h2 => h2) (fun i h1 h2 => by exact h2.elim)
       replace Hb := Hb.keep K105 (fun h => h)
       replace Hm := Hm.keep K105 (fun h => h)
       replace Hk := Hk.keep K105 (fun h => h)
       replace H58 := H58.keep K105 (fun h => h)
       replace H10 := H10.keep K105 (fun h => h)
       replace H67 := H67.keep K105 (fun h => h)
       refine ⟨K105, ?_⟩
       refine Dr.strong (S' := (fun wz => Keeps (fun i => i = b101) w102 wz)) ((Keeps.refl w102).mono (fun _ _ h => h.elim)) (fun wz hx => K105.trans hx (U := none_) (fun i _ h => h) (fun i hi h => by have h : i = b101 := h; exfalso; omega)) ?_
       clear K105 hs106
       refine Dr.put (i := 10) (t := 62) (b := b101) (off := 0) (v := (agg [(i64 y72.op.kind), (Value.string (str y72.op.frm)), (Value.string (str y72.op.to)), (i64 y72.op.amount), (Value.string (str y72.op.key)), (i64 y72.op.slot), (i64 y72.op.shard), (i64 y72.why)])) (ys := [(i64 y72.op.kind), (Value.string (str y72.op.frm)), (Value.string (str y72.op.to)), (i64 y72.op.amount), (Value.string (str y72.op.key)), (i64 y72.op.slot), (i64 y72.op.shard), (i64 y72.why)]) (by kernel_rfl) (by kernel_rfl) (by kernel_rfl) H104 (by kernel_rfl) (d := none) (by kernel_rfl) rfl (fun w107 H108 K109 => ?_)
       clear H104
       replace K0 := K0.trans K109 (U := (fun i => i = mb ∨ i = kb)) (fun i h1 h2 => h2) (fun i h1 h2 => by have h2 : i = b101 := h2; show i = mb ∨ i = kb; omega)
       replace Hb := Hb.keep K109 (by intro h; change b = b101 at h; omega)
       replace Hm := Hm.keep K109 (by intro h; change mb = b101 at h; omega)
       replace Hk := Hk.keep K109 (by intro h; change kb = b101 at h; omega)
       replace H58 := H58.keep K109 (by intro h; change b1 = b101 at h; omega)
       replace H10 := H10.keep K109 (by intro h; change b7 = b101 at h; omega)
       replace H67 := H67.keep K109 (by intro h; change b60 = b101 at h; omega)
       refine ⟨K109, ?_⟩
       refine Dr.strong (S' := (fun wz => Keeps (fun i => i = b101) w107 wz)) ((Keeps.refl w107).mono (fun _ _ h => h.elim)) (fun wz hx => K109.trans hx (fun i _ h => by have h : i = b101 := h; show i = b101; omega) (fun _ _ h => h)) ?_
       clear K109
       refine Dr.takes (fuel' := 0) (is' := [11, 10, 9, 8, 7, 6, 5, 4, 3, 2, 1, 0]) [11] [(0, (ptr b)), (3, (ptr b1)), (4, (ptr b7)), (6, (i64 0)), (7, (Value.bool false)), (8, (ptr b60)), (9, (ptr b101)), (10, (Value.bool true))] (by kernel_rfl) rfl (by kernel_rfl) ?_
       refine Dr.done (by kernel_rfl) ?_
       refine qs ?_
       refine qg ?_
       refine og 1 [(0, (ptr b)), (3, (ptr b1)), (4, (ptr b7)), (6, (i64 0)), (7, (Value.bool false)), (8, (ptr b60)), (9, (ptr b101)), (64, (Value.bool true))] 1 ?_
       refine od ?_
       refine q_then (o := .tmp 64) (by kernel_rfl) rfl ?_
       refine qs ?_
       refine qs ?_
       refine qg ?_
       refine og 1 [(0, (ptr b)), (3, (ptr b1)), (4, (ptr b7)), (6, (i64 0)), (7, (Value.bool false)), (8, (ptr b60)), (9, (ptr b101)), (65, (ptr b101))] 1 ?_
       refine Ops.go (v := (agg [(i64 y72.op.kind), (Value.string (str y72.op.frm)), (Value.string (str y72.op.to)), (i64 y72.op.amount), (Value.string (str y72.op.key)), (i64 y72.op.slot), (i64 y72.op.shard)])) (by kernel_rfl) (Runs.load (t := 24) (a := ⟨b101, 0, none⟩) (by kernel_rfl) (H108.loads (by kernel_rfl))) (d := (some 66)) (by kernel_rfl) rfl ?_
       refine Ops.go (v := (agg [(i64 o.kind), (Value.string (str o.frm)), (Value.string (str ((plainE o).to))), (i64 ((plainE o).amount)), (Value.string (str o.key)), (i64 0), (i64 0)])) (by kernel_rfl) (Runs.load (t := 24) (a := ⟨b1, 0, none⟩) (by kernel_rfl) (H58.loads (by kernel_rfl))) (d := (some 67)) (by kernel_rfl) rfl ?_
       refine Ops.go (v := (Value.bool (!(aggB [(i64 y72.op.kind), (Value.string (str y72.op.frm)), (Value.string (str y72.op.to)), (i64 y72.op.amount), (Value.string (str y72.op.key)), (i64 y72.op.slot), (i64 y72.op.shard)] [(i64 o.kind), (Value.string (str o.frm)), (Value.string (str ((plainE o).to))), (i64 ((plainE o).amount)), (Value.string (str o.key)), (i64 0), (i64 0)])))) (by kernel_rfl) (Runs.aggne (t := 24) (by kernel_rfl) (by kernel_rfl)) (d := (some 68)) (by kernel_rfl) rfl ?_
       refine od ?_
       refine q_cond (o := .tmp 68) (b := (!(aggB [(i64 y72.op.kind), (Value.string (str y72.op.frm)), (Value.string (str y72.op.to)), (i64 y72.op.amount), (Value.string (str y72.op.key)), (i64 y72.op.slot), (i64 y72.op.shard)] [(i64 o.kind), (Value.string (str o.frm)), (Value.string (str ((plainE o).to))), (i64 ((plainE o).amount)), (Value.string (str o.key)), (i64 0), (i64 0)]))) (by kernel_rfl) rfl (fun h110 => ?_) (fun h110 => ?_)
       ·rw [h110]
        have p111 : (aggB [(i64 y72.op.kind), (Value.string (str y72.op.frm)), (Value.string (str y72.op.to)), (i64 y72.op.amount), (Value.string (str y72.op.key)), (i64 y72.op.slot), (i64 y72.op.shard)] [(i64 o.kind), (Value.string (str o.frm)), (Value.string (str ((plainE o).to))), (i64 ((plainE o).amount)), (Value.string (str o.key)), (i64 0), (i64 0)]) = false := (bnot_true h110)
        refine qs ?_
        refine qg ?_
        refine og 1 [(0, (ptr b)), (3, (ptr b1)), (4, (ptr b7)), (6, (i64 0)), (7, (Value.bool false)), (8, (ptr b60)), (9, (ptr b101)), (69, (agg [(i64 45), (i64 0), (Value.slice none 0 0)]))] 1 ?_
        refine Ops.put (t := 30) (b := b7) (off := 0) (v := (agg [(i64 45), (i64 0), (Value.slice none 0 0)])) (ys := [(i64 45), (i64 0), (Value.slice none 0 0)]) (by kernel_rfl) (by kernel_rfl) H10 (by kernel_rfl) (d := none) (by kernel_rfl) rfl (fun w112 H113 K114 => ?_)
        clear H10
        replace K0 := K0.trans K114 (U := (fun i => i = mb ∨ i = kb)) (fun i h1 h2 => h2) (fun i h1 h2 => by have h2 : i = b7 := h2; show i = mb ∨ i = kb; omega)
        replace Hb := Hb.keep K114 (by intro h; change b = b7 at h; omega)
        replace Hm := Hm.keep K114 (by intro h; change mb = b7 at h; omega)
        replace Hk := Hk.keep K114 (by intro h; change kb = b7 at h; omega)
        replace H58 := H58.keep K114 (by intro h; change b1 = b7 at h; omega)
        replace H67 := H67.keep K114 (by intro h; change b60 = b7 at h; omega)
        replace H108 := H108.keep K114 (by intro h; change b101 = b7 at h; omega)
        clear K114
        refine od ?_
        refine q_ret (by kernel_rfl) ?_
        refine ⟨(agg [(i64 45), (i64 0), (Value.slice none 0 0)]), retv_cell rfl rfl (H113.loads (by kernel_rfl)), ?_⟩
        have e0 := do_other (S := S) (K := K) (o := o) hw (by omega) (by omega) (by omega) hk97 (bnot_true h110)
        obtain ⟨e1, e2, e3⟩ := e0
        rw [e1, e2, e3]
        exact ⟨_, none, 0, rfl, K0, Hm, Hk, hB, (OwnT.nil _ _ _ _ _)⟩
       ·rw [h110]
        have p115 : (aggB [(i64 y72.op.kind), (Value.string (str y72.op.frm)), (Value.string (str y72.op.to)), (i64 y72.op.amount), (Value.string (str y72.op.key)), (i64 y72.op.slot), (i64 y72.op.shard)] [(i64 o.kind), (Value.string (str o.frm)), (Value.string (str ((plainE o).to))), (i64 ((plainE o).amount)), (Value.string (str o.key)), (i64 0), (i64 0)]) = true := (bnot_false h110)
        refine q_skip (by kernel_rfl) ?_
        refine qs ?_
        refine qg ?_
        refine og 1 [(0, (ptr b)), (3, (ptr b1)), (4, (ptr b7)), (6, (i64 0)), (7, (Value.bool false)), (8, (ptr b60)), (70, (Value.pointer (some ⟨b101, 7, none⟩)))] 1 ?_
        refine Ops.go (v := (i64 y72.why)) (by kernel_rfl) (Runs.load (t := 27) (a := ⟨b101, 7, none⟩) (by kernel_rfl) (H108.loads (by kernel_rfl))) (d := (some 71)) (by kernel_rfl) rfl ?_
        refine og 1 [(0, (ptr b)), (3, (ptr b1)), (4, (ptr b7)), (6, (i64 0)), (7, (Value.bool false)), (8, (ptr b60)), (72, (agg [(i64 y72.why), (i64 0), (Value.slice none 0 0)]))] 3 ?_
        refine Ops.put (t := 30) (b := b7) (off := 0) (v := (agg [(i64 y72.why), (i64 0), (Value.slice none 0 0)])) (ys := [(i64 y72.why), (i64 0), (Value.slice none 0 0)]) (by kernel_rfl) (by kernel_rfl) H10 (by kernel_rfl) (d := none) (by kernel_rfl) rfl (fun w116 H117 K118 => ?_)
        clear H10
        replace K0 := K0.trans K118 (U := (fun i => i = mb ∨ i = kb)) (fun i h1 h2 => h2) (fun i h1 h2 => by have h2 : i = b7 := h2; show i = mb ∨ i = kb; omega)
        replace Hb := Hb.keep K118 (by intro h; change b = b7 at h; omega)
        replace Hm := Hm.keep K118 (by intro h; change mb = b7 at h; omega)
        replace Hk := Hk.keep K118 (by intro h; change kb = b7 at h; omega)
        replace H58 := H58.keep K118 (by intro h; change b1 = b7 at h; omega)
        replace H67 := H67.keep K118 (by intro h; change b60 = b7 at h; omega)
        replace H108 := H108.keep K118 (by intro h; change b101 = b7 at h; omega)
        clear K118
        refine od ?_
        refine q_ret (by kernel_rfl) ?_
        refine ⟨(agg [(i64 y72.why), (i64 0), (Value.slice none 0 0)]), retv_cell rfl rfl (H117.loads (by kernel_rfl)), ?_⟩
        have e0 := do_again (S := S) (K := K) (o := o) hw (by omega) (by omega) (by omega) hk97 (bnot_false h110)
        obtain ⟨e1, e2, e3⟩ := e0
        rw [e1, e2, e3]
        exact ⟨_, none, 0, rfl, K0, Hm, Hk, hB, (OwnT.nil _ _ _ _ _)⟩
  ·skip
   obtain ⟨hw119, hr120, hr121⟩ := hL.got_some hg23
   refine Dr.take (i := 6) (v := (Value.tuple #[(i64 y24), (Value.bool true)])) (by kernel_rfl) (by kernel_rfl) (fun wz hS => Runs.lookup_some (ok := true) (vf := ki64) (a := y24) KT Tryz.underlying51 (Hm.keep hS (fun h => h)) hg23 (by kernel_rfl)) (d := (some 28)) (by kernel_rfl) rfl ?_
   refine Dr.takes (fuel' := 0) (is' := [11, 10, 9, 8, 7, 6, 5, 4, 3, 2, 1, 0]) [7, 8, 9, 10, 11] [(0, (ptr b)), (3, (ptr b1)), (4, (ptr b7)), (6, (i64 y24)), (7, (Value.bool true))] (by kernel_rfl) rfl (by kernel_rfl) ?_
   refine Dr.done (by kernel_rfl) ?_
   refine qs ?_
   refine qs ?_
   refine qg ?_
   refine og 1 [(0, (ptr b)), (3, (ptr b1)), (4, (ptr b7)), (6, (i64 y24)), (7, (Value.bool true)), (31, (ptr b1))] 1 ?_
   refine Ops.go (v := (i64 o.kind)) (by kernel_rfl) (Runs.load (t := 3) (a := ⟨b1, 0, none⟩) (by kernel_rfl) (H4.loads (by kernel_rfl))) (d := (some 32)) (by kernel_rfl) rfl ?_
   refine od ?_
   refine q_block (id := 0) (by kernel_rfl) ?_
   refine qs ?_
   refine qg ?_
   refine og 2 [(0, (ptr b)), (3, (ptr b1)), (4, (ptr b7)), (6, (i64 y24)), (7, (Value.bool true)), (32, (i64 o.kind)), (33, (Value.bool (o.kind == 7)))] 2 ?_
   refine od ?_
   refine q_cond (o := .tmp 33) (b := (o.kind == 7)) (by kernel_rfl) rfl (fun h122 => ?_) (fun h122 => ?_)
   ·rw [h122]
    have p123 : o.kind = 7 := of_beq_t h122
    refine qs ?_
    refine qg ?_
    refine og 1 [(0, (ptr b)), (3, (ptr b1)), (4, (ptr b7)), (6, (i64 y24)), (7, (Value.bool true)), (32, (i64 o.kind)), (35, (agg [(i64 0), (i64 0), (Value.slice none 0 0)]))] 1 ?_
    refine Ops.put (t := 30) (b := b7) (off := 0) (v := (agg [(i64 0), (i64 0), (Value.slice none 0 0)])) (ys := [(i64 0), (i64 0), (Value.slice none 0 0)]) (by kernel_rfl) (by kernel_rfl) H10 (by kernel_rfl) (d := none) (by kernel_rfl) rfl (fun w124 H125 K126 => ?_)
    clear H10
    replace K0 := K0.trans K126 (U := (fun i => i = mb ∨ i = kb)) (fun i h1 h2 => h2) (fun i h1 h2 => by have h2 : i = b7 := h2; show i = mb ∨ i = kb; omega)
    replace Hb := Hb.keep K126 (by intro h; change b = b7 at h; omega)
    replace Hm := Hm.keep K126 (by intro h; change mb = b7 at h; omega)
    replace Hk := Hk.keep K126 (by intro h; change kb = b7 at h; omega)
    replace H4 := H4.keep K126 (by intro h; change b1 = b7 at h; omega)
    clear K126
    refine od ?_
    refine q_ret (by kernel_rfl) ?_
    refine ⟨(agg [(i64 0), (i64 0), (Value.slice none 0 0)]), retv_cell rfl rfl (H125.loads (by kernel_rfl)), ?_⟩
    have e0 := do_move (S := S) (K := K) (o := o) hw (by omega)
    obtain ⟨e1, e2, e3⟩ := e0
    rw [e1, e2, e3]
    exact ⟨_, none, 0, rfl, K0, Hm, Hk, hB, (OwnT.nil _ _ _ _ _)⟩
   ·rw [h122]
    have p127 : ¬ (o.kind = 7) := of_beq_f h122
    refine qs ?_
    refine qg ?_
    refine og 2 [(0, (ptr b)), (3, (ptr b1)), (4, (ptr b7)), (6, (i64 y24)), (7, (Value.bool true)), (32, (i64 o.kind)), (36, (Value.bool (o.kind == 6)))] 2 ?_
    refine od ?_
    refine q_cond (o := .tmp 36) (b := (o.kind == 6)) (by kernel_rfl) rfl (fun h128 => ?_) (fun h128 => ?_)
    ·rw [h128]
     have p129 : o.kind = 6 := of_beq_t h128
     refine qs ?_
     refine qg ?_
     refine og 1 [(0, (ptr b)), (3, (ptr b1)), (4, (ptr b7)), (6, (i64 y24)), (7, (Value.bool true)), (32, (i64 o.kind)), (38, (ptr b))] 1 ?_
     refine Ops.call (by kernel_rfl) (d := (some 39)) (by kernel_rfl) (rows_calls _ b mb kb m S Hb Hm (by omega) hL (by omega)) ?_
     rintro _ w132 ⟨A130, c131, rfl, K133, hO134⟩
     have ob136 : ∀ i, ((Value.slice A130 S.length c131)).ownBlock = some i → i ≠ b := fun i hi => by have := (World.ownsRow.lt hO134 i hi).1; have := Hb.lt; omega
     have ob137 : ∀ i, ((Value.slice A130 S.length c131)).ownBlock = some i → i ≠ mb := fun i hi => by have := (World.ownsRow.lt hO134 i hi).1; have := Hm.lt; omega
     have ob138 : ∀ i, ((Value.slice A130 S.length c131)).ownBlock = some i → i ≠ kb := fun i hi => by have := (World.ownsRow.lt hO134 i hi).1; have := Hk.lt; omega
     have ob139 : ∀ i, ((Value.slice A130 S.length c131)).ownBlock = some i → i ≠ b1 := fun i hi => by have := (World.ownsRow.lt hO134 i hi).1; have := H4.lt; omega
     have ob140 : ∀ i, ((Value.slice A130 S.length c131)).ownBlock = some i → i ≠ b7 := fun i hi => by have := (World.ownsRow.lt hO134 i hi).1; have := H10.lt; omega
     have O135 := own_base hO134 K0.size
     clear hO134
     refine ⟨_, _, rfl, rfl, ?_⟩
     replace K0 := K0.trans K133 (U := (fun i => i = mb ∨ i = kb)) (fun i h1 h2 => h2) (fun i h1 h2 => by exact h2.elim)
     replace Hb := Hb.keep K133 (fun h => h)
     replace Hm := Hm.keep K133 (fun h => h)
     replace Hk := Hk.keep K133 (fun h => h)
     replace H4 := H4.keep K133 (fun h => h)
     replace H10 := H10.keep K133 (fun h => h)
     clear K133
     refine og 1 [(0, (ptr b)), (3, (ptr b1)), (4, (ptr b7)), (6, (i64 y24)), (7, (Value.bool true)), (32, (i64 o.kind)), (40, (agg [(i64 0), (i64 0), (Value.slice A130 S.length c131)]))] 3 ?_
     refine Ops.put (t := 30) (b := b7) (off := 0) (v := (agg [(i64 0), (i64 0), (Value.slice A130 S.length c131)])) (ys := [(i64 0), (i64 0), (Value.slice A130 S.length c131)]) (by kernel_rfl) (by kernel_rfl) H10 (by kernel_rfl) (d := none) (by kernel_rfl) rfl (fun w141 H142 K143 => ?_)
     clear H10
     replace K0 := K0.trans K143 (U := (fun i => i = mb ∨ i = kb)) (fun i h1 h2 => h2) (fun i h1 h2 => by have h2 : i = b7 := h2; show i = mb ∨ i = kb; omega)
     replace Hb := Hb.keep K143 (by intro h; change b = b7 at h; omega)
     replace Hm := Hm.keep K143 (by intro h; change mb = b7 at h; omega)
     replace Hk := Hk.keep K143 (by intro h; change kb = b7 at h; omega)
     replace H4 := H4.keep K143 (by intro h; change b1 = b7 at h; omega)
     replace O135 := own_keep O135 K143 (fun i hi hs => by have hs : i = b7 := hs; have := ob140 i hi; omega)
     clear K143
     refine od ?_
     refine q_ret (by kernel_rfl) ?_
     refine ⟨(agg [(i64 0), (i64 0), (Value.slice A130 S.length c131)]), retv_cell rfl rfl (H142.loads (by kernel_rfl)), ?_⟩
     have e0 := do_audit (S := S) (K := K) (o := o) hw (by omega)
     obtain ⟨e1, e2, e3⟩ := e0
     rw [e1, e2, e3]
     exact ⟨_, A130, c131, rfl, K0, Hm, Hk, hB, O135⟩
    ·rw [h128]
     have p144 : ¬ (o.kind = 6) := of_beq_f h128
     refine qs ?_
     refine qg ?_
     refine og 2 [(0, (ptr b)), (3, (ptr b1)), (4, (ptr b7)), (6, (i64 y24)), (7, (Value.bool true)), (41, (Value.bool (o.kind == 5)))] 2 ?_
     refine od ?_
     refine q_cond (o := .tmp 41) (b := (o.kind == 5)) (by kernel_rfl) rfl (fun h145 => ?_) (fun h145 => ?_)
     ·rw [h145]
      have p146 : o.kind = 5 := of_beq_t h145
      refine qs ?_
      refine qs ?_
      refine qg ?_
      refine og 2 [(0, (ptr b)), (3, (ptr b1)), (4, (ptr b7)), (6, (i64 y24)), (7, (Value.bool true)), (44, (Value.bool false))] 2 ?_
      refine od ?_
      refine q_else (o := .tmp 44) (by kernel_rfl) rfl ?_
      refine q_skip (by kernel_rfl) ?_
      refine qs ?_
      refine qg ?_
      refine og 2 [(0, (ptr b)), (3, (ptr b1)), (4, (ptr b7)), (6, (i64 y24)), (7, (Value.bool true)), (47, (agg [(i64 0), (i64 y24), (Value.slice none 0 0)]))] 2 ?_
      refine Ops.put (t := 30) (b := b7) (off := 0) (v := (agg [(i64 0), (i64 y24), (Value.slice none 0 0)])) (ys := [(i64 0), (i64 y24), (Value.slice none 0 0)]) (by kernel_rfl) (by kernel_rfl) H10 (by kernel_rfl) (d := none) (by kernel_rfl) rfl (fun w147 H148 K149 => ?_)
      clear H10
      replace K0 := K0.trans K149 (U := (fun i => i = mb ∨ i = kb)) (fun i h1 h2 => h2) (fun i h1 h2 => by have h2 : i = b7 := h2; show i = mb ∨ i = kb; omega)
      replace Hb := Hb.keep K149 (by intro h; change b = b7 at h; omega)
      replace Hm := Hm.keep K149 (by intro h; change mb = b7 at h; omega)
      replace Hk := Hk.keep K149 (by intro h; change kb = b7 at h; omega)
      replace H4 := H4.keep K149 (by intro h; change b1 = b7 at h; omega)
      clear K149
      refine od ?_
      refine q_ret (by kernel_rfl) ?_
      refine ⟨(agg [(i64 0), (i64 y24), (Value.slice none 0 0)]), retv_cell rfl rfl (H148.loads (by kernel_rfl)), ?_⟩
      have e0 := do_bal_some (S := S) (K := K) (o := o) hw (by omega) hw119
      obtain ⟨e1, e2, e3⟩ := e0
      rw [e1, e2, e3]
      exact ⟨_, none, 0, rfl, K0, Hm, Hk, hB, (OwnT.nil _ _ _ _ _)⟩
     ·rw [h145]
      have p150 : ¬ (o.kind = 5) := of_beq_f h145
      have hwa := wrong_act hw (by omega) (by omega) (by omega)
      have hro : -9223372036854775808 ≤ (plainE o).amount ∧ (plainE o).amount ≤ 9223372036854775807 := by unfold plainE; simp only; split <;> omega
      refine q_skip (by kernel_rfl) ?_
      refine qs ?_
      refine qg ?_
      refine Ops.go (v := (agg [(i64 o.kind), (Value.string (str o.frm)), (Value.string (str o.to)), (i64 o.amount), (Value.string (str o.key)), (i64 o.slot), (i64 o.shard)])) (by kernel_rfl) (Runs.load (t := 24) (a := ⟨b1, 0, none⟩) (by kernel_rfl) (H4.loads (by kernel_rfl))) (d := (some 48)) (by kernel_rfl) rfl ?_
      refine Ops.call (by kernel_rfl) (d := (some 49)) (by kernel_rfl) (plain_calls _ o) ?_
      rintro _ w152 ⟨rfl, K151⟩
      refine ⟨_, _, rfl, rfl, ?_⟩
      replace K0 := K0.trans K151 (U := (fun i => i = mb ∨ i = kb)) (fun i h1 h2 => h2) (fun i h1 h2 => by exact h2.elim)
      replace Hb := Hb.keep K151 (fun h => h)
      replace Hm := Hm.keep K151 (fun h => h)
      replace Hk := Hk.keep K151 (fun h => h)
      replace H4 := H4.keep K151 (fun h => h)
      replace H10 := H10.keep K151 (fun h => h)
      clear K151
      refine Ops.put (t := 24) (b := b1) (off := 0) (v := (agg [(i64 o.kind), (Value.string (str o.frm)), (Value.string (str ((plainE o).to))), (i64 ((plainE o).amount)), (Value.string (str o.key)), (i64 0), (i64 0)])) (ys := [(i64 o.kind), (Value.string (str o.frm)), (Value.string (str ((plainE o).to))), (i64 ((plainE o).amount)), (Value.string (str o.key)), (i64 0), (i64 0)]) (by kernel_rfl) (by kernel_rfl) H4 (by kernel_rfl) (d := none) (by kernel_rfl) rfl (fun w153 H154 K155 => ?_)
      clear H4
      replace K0 := K0.trans K155 (U := (fun i => i = mb ∨ i = kb)) (fun i h1 h2 => h2) (fun i h1 h2 => by have h2 : i = b1 := h2; show i = mb ∨ i = kb; omega)
      replace Hb := Hb.keep K155 (by intro h; change b = b1 at h; omega)
      replace Hm := Hm.keep K155 (by intro h; change mb = b1 at h; omega)
      replace Hk := Hk.keep K155 (by intro h; change kb = b1 at h; omega)
      replace H10 := H10.keep K155 (by intro h; change b7 = b1 at h; omega)
      clear K155
      refine od ?_
      refine qs ?_
      refine qg ?_
      refine og 1 [(0, (ptr b)), (3, (ptr b1)), (4, (ptr b7)), (6, (i64 y24)), (7, (Value.bool true)), (50, (Value.pointer (some ⟨b1, 1, none⟩)))] 1 ?_
      refine Ops.go (v := (Value.string (str o.frm))) (by kernel_rfl) (Runs.load (t := 9) (a := ⟨b1, 1, none⟩) (by kernel_rfl) (H154.loads (by kernel_rfl))) (d := (some 51)) (by kernel_rfl) rfl ?_
      refine og 1 [(0, (ptr b)), (3, (ptr b1)), (4, (ptr b7)), (6, (i64 y24)), (7, (Value.bool true)), (51, (Value.string (str o.frm))), (52, (Value.pointer (some ⟨b1, 4, none⟩)))] 3 ?_
      refine Ops.go (v := (Value.string (str o.key))) (by kernel_rfl) (Runs.load (t := 9) (a := ⟨b1, 4, none⟩) (by kernel_rfl) (H154.loads (by kernel_rfl))) (d := (some 53)) (by kernel_rfl) rfl ?_
      refine og 1 [(0, (ptr b)), (3, (ptr b1)), (4, (ptr b7)), (6, (i64 y24)), (7, (Value.bool true)), (54, (agg [(Value.string (str o.frm)), (Value.string (str o.key))]))] 5 ?_
      refine Ops.new (o := rowL [(Value.string ByteArray.empty), (Value.string ByteArray.empty)] 60) (V := fun b => (ptr b)) (by kernel_rfl) (d := (some 8)) (by kernel_rfl) (fun b => rfl) (fun b156 w157 hb158 H159 K160 hs161 => ?_)
      have lb156b : b < b156 := by have := Hb.lt; omega
      have lb156mb : mb < b156 := by have := Hm.lt; omega
      have lb156kb : kb < b156 := by have := Hk.lt; omega
      have lb156b1 : b1 < b156 := by have := H154.lt; omega
      have lb156b7 : b7 < b156 := by have := H10.lt; omega
      have nb156 : w.heap.size ≤ b156 := by have := K0.size; omega
      replace K0 := K0.trans K160 (U := (fun i => i = mb ∨ i = kb)) (fun i h1 h2 => h2) (fun i h1 h2 => by exact h2.elim)
      replace Hb := Hb.keep K160 (fun h => h)
      replace Hm := Hm.keep K160 (fun h => h)
      replace Hk := Hk.keep K160 (fun h => h)
      replace H154 := H154.keep K160 (fun h => h)
      replace H10 := H10.keep K160 (fun h => h)
      clear K160 hs161
      refine Ops.put (t := 60) (b := b156) (off := 0) (v := (agg [(Value.string (str o.frm)), (Value.string (str o.key))])) (ys := [(Value.string (str o.frm)), (Value.string (str o.key))]) (by kernel_rfl) (by kernel_rfl) H159 (by kernel_rfl) (d := none) (by kernel_rfl) rfl (fun w162 H163 K164 => ?_)
      clear H159
      replace K0 := K0.trans K164 (U := (fun i => i = mb ∨ i = kb)) (fun i h1 h2 => h2) (fun i h1 h2 => by have h2 : i = b156 := h2; show i = mb ∨ i = kb; omega)
      replace Hb := Hb.keep K164 (by intro h; change b = b156 at h; omega)
      replace Hm := Hm.keep K164 (by intro h; change mb = b156 at h; omega)
      replace Hk := Hk.keep K164 (by intro h; change kb = b156 at h; omega)
      replace H154 := H154.keep K164 (by intro h; change b1 = b156 at h; omega)
      replace H10 := H10.keep K164 (by intro h; change b7 = b156 at h; omega)
      clear K164
      refine od ?_
      refine qs ?_
      refine qs ?_
      refine q_draw (fun wz => Keeps none_ w162 wz) 12 (by kernel_rfl) (by kernel_rfl) (by kernel_rfl) (fun w165 K166 _ _ => ⟨K166, ?_⟩)
      replace K0 := K0.trans K166 (U := (fun i => i = mb ∨ i = kb)) (fun i h1 h2 => h2) (fun i h1 h2 => by exact h2.elim)
      replace Hb := Hb.keep K166 (fun h => h)
      replace Hm := Hm.keep K166 (fun h => h)
      replace Hk := Hk.keep K166 (fun h => h)
      replace H154 := H154.keep K166 (fun h => h)
      replace H10 := H10.keep K166 (fun h => h)
      replace H163 := H163.keep K166 (fun h => h)
      refine Dr.strong (S' := (fun wz => Keeps none_ w165 wz)) (Keeps.refl w165) (fun wz hx => K166.trans hx (fun i _ h => h) (fun _ _ h => h)) ?_
      clear K166
      refine Dr.takes (fuel' := 9) (is' := [2, 1, 0]) [0, 1, 2] [(0, (ptr b)), (3, (ptr b1)), (4, (ptr b7)), (6, (i64 y24)), (7, (Value.bool true)), (8, (ptr b156)), (58, (Value.pointer (some ⟨b, 1, none⟩)))] (by kernel_rfl) rfl (by kernel_rfl) ?_
      refine Dr.take (i := 3) (v := (Value.map (some kb))) (by kernel_rfl) (by kernel_rfl) (fun wz hS => Runs.load (t := 52) (a := ⟨b, 1, none⟩) (by kernel_rfl) ((Hb.keep hS (fun h => h)).loads (by kernel_rfl))) (d := (some 59)) (by kernel_rfl) rfl ?_
      refine Dr.take (i := 4) (v := (agg [(Value.string (str o.frm)), (Value.string (str o.key))])) (by kernel_rfl) (by kernel_rfl) (fun wz hS => Runs.load (t := 60) (a := ⟨b156, 0, none⟩) (by kernel_rfl) ((H163.keep hS (fun h => h)).loads (by kernel_rfl))) (d := (some 60)) (by kernel_rfl) rfl ?_
      rcases hg167 : getM (K.map KeptM.kv) (o.frm, o.key) with _ | y168
      ·skip
       have hk169 : findK K o.frm o.key = none := hg167
       refine Dr.take (i := 5) (v := (Value.tuple #[(agg [(i64 0), (Value.string ByteArray.empty), (Value.string ByteArray.empty), (i64 0), (Value.string ByteArray.empty), (i64 0), (i64 0), (i64 0)]), (Value.bool false)])) (by kernel_rfl) (by kernel_rfl) (fun wz hS => Runs.lookup_none (ok := true) (z := (agg [(i64 0), (Value.string ByteArray.empty), (Value.string ByteArray.empty), (i64 0), (Value.string ByteArray.empty), (i64 0), (i64 0), (i64 0)])) KT2 Tryz.underlying52 (by kernel_rfl) (Hk.keep hS (fun h => h)) hg167 (by kernel_rfl)) (d := (some 61)) (by kernel_rfl) rfl ?_
       refine Dr.takes (fuel' := 3) (is' := [8, 7, 6, 5, 4, 3, 2, 1, 0]) [6, 7, 8] [(0, (ptr b)), (3, (ptr b1)), (4, (ptr b7)), (6, (i64 y24)), (7, (Value.bool true)), (8, (ptr b156)), (62, (agg [(i64 0), (Value.string ByteArray.empty), (Value.string ByteArray.empty), (i64 0), (Value.string ByteArray.empty), (i64 0), (i64 0), (i64 0)])), (63, (Value.bool false))] (by kernel_rfl) rfl (by kernel_rfl) ?_
       refine Dr.new (i := 9) (o := rowL [(i64 0), (Value.string ByteArray.empty), (Value.string ByteArray.empty), (i64 0), (Value.string ByteArray.empty), (i64 0), (i64 0), (i64 0)] 62) (V := fun b => (ptr b)) (by kernel_rfl) (by kernel_rfl) (d := (some 9)) (by kernel_rfl) (fun b => rfl) (fun b170 w171 hb172 H173 K174 hs175 => ?_)
       have lb170b : b < b170 := by have := Hb.lt; omega
       have lb170mb : mb < b170 := by have := Hm.lt; omega
       have lb170kb : kb < b170 := by have := Hk.lt; omega
       have lb170b1 : b1 < b170 := by have := H154.lt; omega
       have lb170b7 : b7 < b170 := by have := H10.lt; omega
       have lb170b156 : b156 < b170 := by have := H163.lt; omega
       have nb170 : w.heap.size ≤ b170 := by have := K0.size; omega
       replace K0 := K0.trans K174 (U := (fun i => i = mb ∨ i = kb)) (fun i h1 h2 => h2) (fun i h1 h2 => by exact h2.elim)
       replace Hb := Hb.keep K174 (fun h => h)
       replace Hm := Hm.keep K174 (fun h => h)
       replace Hk := Hk.keep K174 (fun h => h)
       replace H154 := H154.keep K174 (fun h => h)
       replace H10 := H10.keep K174 (fun h => h)
       replace H163 := H163.keep K174 (fun h => h)
       refine ⟨K174, ?_⟩
       refine Dr.strong (S' := (fun wz => Keeps (fun i => i = b170) w171 wz)) ((Keeps.refl w171).mono (fun _ _ h => h.elim)) (fun wz hx => K174.trans hx (U := none_) (fun i _ h => h) (fun i hi h => by have h : i = b170 := h; exfalso; omega)) ?_
       clear K174 hs175
       refine Dr.put (i := 10) (t := 62) (b := b170) (off := 0) (v := (agg [(i64 0), (Value.string ByteArray.empty), (Value.string ByteArray.empty), (i64 0), (Value.string ByteArray.empty), (i64 0), (i64 0), (i64 0)])) (ys := [(i64 0), (Value.string ByteArray.empty), (Value.string ByteArray.empty), (i64 0), (Value.string ByteArray.empty), (i64 0), (i64 0), (i64 0)]) (by kernel_rfl) (by kernel_rfl) (by kernel_rfl) H173 (by kernel_rfl) (d := none) (by kernel_rfl) rfl (fun w176 H177 K178 => ?_)
       clear H173
       replace K0 := K0.trans K178 (U := (fun i => i = mb ∨ i = kb)) (fun i h1 h2 => h2) (fun i h1 h2 => by have h2 : i = b170 := h2; show i = mb ∨ i = kb; omega)
       replace Hb := Hb.keep K178 (by intro h; change b = b170 at h; omega)
       replace Hm := Hm.keep K178 (by intro h; change mb = b170 at h; omega)
       replace Hk := Hk.keep K178 (by intro h; change kb = b170 at h; omega)
       replace H154 := H154.keep K178 (by intro h; change b1 = b170 at h; omega)
       replace H10 := H10.keep K178 (by intro h; change b7 = b170 at h; omega)
       replace H163 := H163.keep K178 (by intro h; change b156 = b170 at h; omega)
       refine ⟨K178, ?_⟩
       refine Dr.strong (S' := (fun wz => Keeps (fun i => i = b170) w176 wz)) ((Keeps.refl w176).mono (fun _ _ h => h.elim)) (fun wz hx => K178.trans hx (fun i _ h => by have h : i = b170 := h; show i = b170; omega) (fun _ _ h => h)) ?_
       clear K178
       refine Dr.takes (fuel' := 0) (is' := [11, 10, 9, 8, 7, 6, 5, 4, 3, 2, 1, 0]) [11] [(0, (ptr b)), (3, (ptr b1)), (4, (ptr b7)), (6, (i64 y24)), (7, (Value.bool true)), (8, (ptr b156)), (9, (ptr b170)), (10, (Value.bool false))] (by kernel_rfl) rfl (by kernel_rfl) ?_
       refine Dr.done (by kernel_rfl) ?_
       refine qs ?_
       refine qg ?_
       refine og 1 [(0, (ptr b)), (3, (ptr b1)), (4, (ptr b7)), (6, (i64 y24)), (7, (Value.bool true)), (8, (ptr b156)), (9, (ptr b170)), (64, (Value.bool false))] 1 ?_
       refine od ?_
       refine q_else (o := .tmp 64) (by kernel_rfl) rfl ?_
       refine q_skip (by kernel_rfl) ?_
       refine qs ?_
       refine qg ?_
       refine og 1 [(0, (ptr b)), (3, (ptr b1)), (4, (ptr b7)), (6, (i64 y24)), (7, (Value.bool true)), (8, (ptr b156)), (73, (ptr b))] 1 ?_
       refine Ops.go (v := (agg [(i64 o.kind), (Value.string (str o.frm)), (Value.string (str ((plainE o).to))), (i64 ((plainE o).amount)), (Value.string (str o.key)), (i64 0), (i64 0)])) (by kernel_rfl) (Runs.load (t := 24) (a := ⟨b1, 0, none⟩) (by kernel_rfl) (H154.loads (by kernel_rfl))) (d := (some 74)) (by kernel_rfl) rfl ?_
       refine og 2 [(0, (ptr b)), (3, (ptr b1)), (4, (ptr b7)), (8, (ptr b156)), (73, (ptr b)), (74, (agg [(i64 o.kind), (Value.string (str o.frm)), (Value.string (str ((plainE o).to))), (i64 ((plainE o).amount)), (Value.string (str o.key)), (i64 0), (i64 0)])), (75, (i64 y24)), (76, (Value.bool true))] 4 ?_
       refine Ops.call (by kernel_rfl) (d := (some 77)) (by kernel_rfl) (act_some _ b mb kb m S (plainE o) Hb Hm (by omega) hL hwa.1 hwa.2.1 (fun q => by have h1 := hwa.2.2.2.1 q; have h2 := plainE_amount o q; omega) hro (fun q => by have h2 := plainE_to o q; rw [h2]; exact (hwa.2.2.2.2 q).2) y24 hg23) ?_
       rintro _ w180 ⟨m179, rfl, K181, Hm182, hL183⟩
       refine ⟨_, _, rfl, rfl, ?_⟩
       replace K0 := K0.trans K181 (U := (fun i => i = mb ∨ i = kb)) (fun i h1 h2 => h2) (fun i h1 h2 => by have h2 : i = mb := h2; show i = mb ∨ i = kb; omega)
       replace Hb := Hb.keep K181 (by intro h; change b = mb at h; omega)
       replace Hk := Hk.keep K181 (by intro h; change kb = mb at h; omega)
       replace H154 := H154.keep K181 (by intro h; change b1 = mb at h; omega)
       replace H10 := H10.keep K181 (by intro h; change b7 = mb at h; omega)
       replace H163 := H163.keep K181 (by intro h; change b156 = mb at h; omega)
       replace H177 := H177.keep K181 (by intro h; change b170 = mb at h; omega)
       clear K181
       refine og 1 [(0, (ptr b)), (3, (ptr b1)), (4, (ptr b7)), (8, (ptr b156)), (11, (i64 (actE S (plainE o))))] 6 ?_
       refine od ?_
       refine qs ?_
       refine q_draw (fun wz => Keeps (fun i => i = kb) w180 wz) 9 (by kernel_rfl) (by kernel_rfl) (by kernel_rfl) (fun w184 K185 _ _ => ⟨(K185.mono (fun _ _ h => h.elim)), ?_⟩)
       replace K0 := K0.trans K185 (U := (fun i => i = mb ∨ i = kb)) (fun i h1 h2 => h2) (fun i h1 h2 => by exact h2.elim)
       replace Hb := Hb.keep K185 (fun h => h)
       replace Hm182 := Hm182.keep K185 (fun h => h)
       replace Hk := Hk.keep K185 (fun h => h)
       replace H154 := H154.keep K185 (fun h => h)
       replace H10 := H10.keep K185 (fun h => h)
       replace H163 := H163.keep K185 (fun h => h)
       replace H177 := H177.keep K185 (fun h => h)
       refine Dr.strong (S' := (fun wz => Keeps (fun i => i = kb) w184 wz)) ((Keeps.refl w184).mono (fun _ _ h => h.elim)) (fun wz hx => K185.trans hx (fun i _ h => h.elim) (fun _ _ h => h)) ?_
       clear K185
       refine Dr.takes (fuel' := 6) (is' := [2, 1, 0]) [0, 1, 2] [(3, (ptr b1)), (4, (ptr b7)), (8, (ptr b156)), (11, (i64 (actE S (plainE o)))), (80, (Value.pointer (some ⟨b, 1, none⟩)))] (by kernel_rfl) rfl (by kernel_rfl) ?_
       refine Dr.take (i := 3) (v := (Value.map (some kb))) (by kernel_rfl) (by kernel_rfl) (fun wz hS => Runs.load (t := 52) (a := ⟨b, 1, none⟩) (by kernel_rfl) ((Hb.keep hS (by intro h; change b = kb at h; omega)).loads (by kernel_rfl))) (d := (some 81)) (by kernel_rfl) rfl ?_
       refine Dr.take (i := 4) (v := (agg [(Value.string (str o.frm)), (Value.string (str o.key))])) (by kernel_rfl) (by kernel_rfl) (fun wz hS => Runs.load (t := 60) (a := ⟨b156, 0, none⟩) (by kernel_rfl) ((H163.keep hS (by intro h; change b156 = kb at h; omega)).loads (by kernel_rfl))) (d := (some 82)) (by kernel_rfl) rfl ?_
       refine Dr.take (i := 5) (v := (agg [(i64 o.kind), (Value.string (str o.frm)), (Value.string (str ((plainE o).to))), (i64 ((plainE o).amount)), (Value.string (str o.key)), (i64 0), (i64 0)])) (by kernel_rfl) (by kernel_rfl) (fun wz hS => Runs.load (t := 24) (a := ⟨b1, 0, none⟩) (by kernel_rfl) ((H154.keep hS (by intro h; change b1 = kb at h; omega)).loads (by kernel_rfl))) (d := (some 83)) (by kernel_rfl) rfl ?_
       refine Dr.takes (fuel' := 1) (is' := [7, 6, 5, 4, 3, 2, 1, 0]) [6, 7] [(4, (ptr b7)), (11, (i64 (actE S (plainE o)))), (81, (Value.map (some kb))), (82, (agg [(Value.string (str o.frm)), (Value.string (str o.key))])), (85, (agg [(i64 o.kind), (Value.string (str o.frm)), (Value.string (str ((plainE o).to))), (i64 ((plainE o).amount)), (Value.string (str o.key)), (i64 0), (i64 0), (i64 (actE S (plainE o)))]))] (by kernel_rfl) rfl (by kernel_rfl) ?_
       obtain ⟨w186, hr187, K188, H189⟩ := HasMap.update KT2 Tryz.underlying52 Hk (o.frm, o.key) (⟨(plainE o), actE S (plainE o)⟩ : KeptM)
       refine Dr.goU (i := 8) (by kernel_rfl) (by kernel_rfl) (RunsU.of_update (by kernel_rfl) hr187) (d := none) (by kernel_rfl) rfl K188 ?_
       clear Hk
       replace K0 := K0.trans K188 (U := (fun i => i = mb ∨ i = kb)) (fun i h1 h2 => h2) (fun i h1 h2 => by have h2 : i = kb := h2; show i = mb ∨ i = kb; omega)
       replace Hb := Hb.keep K188 (by intro h; change b = kb at h; omega)
       replace Hm182 := Hm182.keep K188 (by intro h; change mb = kb at h; omega)
       replace H154 := H154.keep K188 (by intro h; change b1 = kb at h; omega)
       replace H10 := H10.keep K188 (by intro h; change b7 = kb at h; omega)
       replace H163 := H163.keep K188 (by intro h; change b156 = kb at h; omega)
       replace H177 := H177.keep K188 (by intro h; change b170 = kb at h; omega)
       refine Dr.strong (S' := (fun wz => Keeps (fun i => i = kb) w186 wz)) ((Keeps.refl w186).mono (fun _ _ h => h.elim)) (fun wz hx => K188.trans hx (fun i _ h => by have h : i = kb := h; show i = kb; omega) (fun _ _ h => h)) ?_
       clear K188 hr187
       refine Dr.done (by kernel_rfl) ?_
       refine qs ?_
       refine qg ?_
       refine og 2 [(4, (ptr b7)), (87, (agg [(i64 (actE S (plainE o))), (i64 0), (Value.slice none 0 0)]))] 2 ?_
       refine Ops.put (t := 30) (b := b7) (off := 0) (v := (agg [(i64 (actE S (plainE o))), (i64 0), (Value.slice none 0 0)])) (ys := [(i64 (actE S (plainE o))), (i64 0), (Value.slice none 0 0)]) (by kernel_rfl) (by kernel_rfl) H10 (by kernel_rfl) (d := none) (by kernel_rfl) rfl (fun w190 H191 K192 => ?_)
       clear H10
       replace K0 := K0.trans K192 (U := (fun i => i = mb ∨ i = kb)) (fun i h1 h2 => h2) (fun i h1 h2 => by have h2 : i = b7 := h2; show i = mb ∨ i = kb; omega)
       replace Hb := Hb.keep K192 (by intro h; change b = b7 at h; omega)
       replace Hm182 := Hm182.keep K192 (by intro h; change mb = b7 at h; omega)
       replace H189 := H189.keep K192 (by intro h; change kb = b7 at h; omega)
       replace H154 := H154.keep K192 (by intro h; change b1 = b7 at h; omega)
       replace H163 := H163.keep K192 (by intro h; change b156 = b7 at h; omega)
       replace H177 := H177.keep K192 (by intro h; change b170 = b7 at h; omega)
       clear K192
       refine od ?_
       refine q_ret (by kernel_rfl) ?_
       refine ⟨(agg [(i64 (actE S (plainE o))), (i64 0), (Value.slice none 0 0)]), retv_cell rfl rfl (H191.loads (by kernel_rfl)), ?_⟩
       have e0 := do_fresh (S := S) (K := K) (o := o) hw (by omega) (by omega) (by omega) hk169
       obtain ⟨e1, e2, e3⟩ := e0
       rw [e1, e2, e3]
       exact ⟨_, none, 0, rfl, K0, Hm182, by have h := H189; rwa [show putM (K.map KeptM.kv) (o.frm, o.key) (⟨plainE o, actE S (plainE o)⟩ : KeptM) = _ from putM_kept (x := ⟨plainE o, actE S (plainE o)⟩) hk169] at h, hB.fresh hw (by omega) (by omega) (by omega) hk169 hr hL183, (OwnT.nil _ _ _ _ _)⟩
      ·skip
       have hk193 : findK K o.frm o.key = some y168 := hg167
       have hy194 := hB.ledg.ok _ (findK_some hk193).1
       have hy195 := hy194.why
       have hy196 := hy194.kind
       refine Dr.take (i := 5) (v := (Value.tuple #[(agg [(i64 y168.op.kind), (Value.string (str y168.op.frm)), (Value.string (str y168.op.to)), (i64 y168.op.amount), (Value.string (str y168.op.key)), (i64 y168.op.slot), (i64 y168.op.shard), (i64 y168.why)]), (Value.bool true)])) (by kernel_rfl) (by kernel_rfl) (fun wz hS => Runs.lookup_some (ok := true) (vf := keptv) (a := (⟨y168.op, y168.why⟩ : KeptM)) KT2 Tryz.underlying52 (Hk.keep hS (fun h => h)) hg167 (by kernel_rfl)) (d := (some 61)) (by kernel_rfl) rfl ?_
       refine Dr.takes (fuel' := 3) (is' := [8, 7, 6, 5, 4, 3, 2, 1, 0]) [6, 7, 8] [(0, (ptr b)), (3, (ptr b1)), (4, (ptr b7)), (6, (i64 y24)), (7, (Value.bool true)), (8, (ptr b156)), (62, (agg [(i64 y168.op.kind), (Value.string (str y168.op.frm)), (Value.string (str y168.op.to)), (i64 y168.op.amount), (Value.string (str y168.op.key)), (i64 y168.op.slot), (i64 y168.op.shard), (i64 y168.why)])), (63, (Value.bool true))] (by kernel_rfl) rfl (by kernel_rfl) ?_
       refine Dr.new (i := 9) (o := rowL [(i64 0), (Value.string ByteArray.empty), (Value.string ByteArray.empty), (i64 0), (Value.string ByteArray.empty), (i64 0), (i64 0), (i64 0)] 62) (V := fun b => (ptr b)) (by kernel_rfl) (by kernel_rfl) (d := (some 9)) (by kernel_rfl) (fun b => rfl) (fun b197 w198 hb199 H200 K201 hs202 => ?_)
       have lb197b : b < b197 := by have := Hb.lt; omega
       have lb197mb : mb < b197 := by have := Hm.lt; omega
       have lb197kb : kb < b197 := by have := Hk.lt; omega
       have lb197b1 : b1 < b197 := by have := H154.lt; omega
       have lb197b7 : b7 < b197 := by have := H10.lt; omega
       have lb197b156 : b156 < b197 := by have := H163.lt; omega
       have nb197 : w.heap.size ≤ b197 := by have := K0.size; omega
       replace K0 := K0.trans K201 (U := (fun i => i = mb ∨ i = kb)) (fun i h1 h2 => h2) (fun i h1 h2 => by exact h2.elim)
       replace Hb := Hb.keep K201 (fun h => h)
       replace Hm := Hm.keep K201 (fun h => h)
       replace Hk := Hk.keep K201 (fun h => h)
       replace H154 := H154.keep K201 (fun h => h)
       replace H10 := H10.keep K201 (fun h => h)
       replace H163 := H163.keep K201 (fun h => h)
       refine ⟨K201, ?_⟩
       refine Dr.strong (S' := (fun wz => Keeps (fun i => i = b197) w198 wz)) ((Keeps.refl w198).mono (fun _ _ h => h.elim)) (fun wz hx => K201.trans hx (U := none_) (fun i _ h => h) (fun i hi h => by have h : i = b197 := h; exfalso; omega)) ?_
       clear K201 hs202
       refine Dr.put (i := 10) (t := 62) (b := b197) (off := 0) (v := (agg [(i64 y168.op.kind), (Value.string (str y168.op.frm)), (Value.string (str y168.op.to)), (i64 y168.op.amount), (Value.string (str y168.op.key)), (i64 y168.op.slot), (i64 y168.op.shard), (i64 y168.why)])) (ys := [(i64 y168.op.kind), (Value.string (str y168.op.frm)), (Value.string (str y168.op.to)), (i64 y168.op.amount), (Value.string (str y168.op.key)), (i64 y168.op.slot), (i64 y168.op.shard), (i64 y168.why)]) (by kernel_rfl) (by kernel_rfl) (by kernel_rfl) H200 (by kernel_rfl) (d := none) (by kernel_rfl) rfl (fun w203 H204 K205 => ?_)
       clear H200
       replace K0 := K0.trans K205 (U := (fun i => i = mb ∨ i = kb)) (fun i h1 h2 => h2) (fun i h1 h2 => by have h2 : i = b197 := h2; show i = mb ∨ i = kb; omega)
       replace Hb := Hb.keep K205 (by intro h; change b = b197 at h; omega)
       replace Hm := Hm.keep K205 (by intro h; change mb = b197 at h; omega)
       replace Hk := Hk.keep K205 (by intro h; change kb = b197 at h; omega)
       replace H154 := H154.keep K205 (by intro h; change b1 = b197 at h; omega)
       replace H10 := H10.keep K205 (by intro h; change b7 = b197 at h; omega)
       replace H163 := H163.keep K205 (by intro h; change b156 = b197 at h; omega)
       refine ⟨K205, ?_⟩
       refine Dr.strong (S' := (fun wz => Keeps (fun i => i = b197) w203 wz)) ((Keeps.refl w203).mono (fun _ _ h => h.elim)) (fun wz hx => K205.trans hx (fun i _ h => by have h : i = b197 := h; show i = b197; omega) (fun _ _ h => h)) ?_
       clear K205
       refine Dr.takes (fuel' := 0) (is' := [11, 10, 9, 8, 7, 6, 5, 4, 3, 2, 1, 0]) [11] [(0, (ptr b)), (3, (ptr b1)), (4, (ptr b7)), (6, (i64 y24)), (7, (Value.bool true)), (8, (ptr b156)), (9, (ptr b197)), (10, (Value.bool true))] (by kernel_rfl) rfl (by kernel_rfl) ?_
       refine Dr.done (by kernel_rfl) ?_
       refine qs ?_
       refine qg ?_
       refine og 1 [(0, (ptr b)), (3, (ptr b1)), (4, (ptr b7)), (6, (i64 y24)), (7, (Value.bool true)), (8, (ptr b156)), (9, (ptr b197)), (64, (Value.bool true))] 1 ?_
       refine od ?_
       refine q_then (o := .tmp 64) (by kernel_rfl) rfl ?_
       refine qs ?_
       refine qs ?_
       refine qg ?_
       refine og 1 [(0, (ptr b)), (3, (ptr b1)), (4, (ptr b7)), (6, (i64 y24)), (7, (Value.bool true)), (8, (ptr b156)), (9, (ptr b197)), (65, (ptr b197))] 1 ?_
       refine Ops.go (v := (agg [(i64 y168.op.kind), (Value.string (str y168.op.frm)), (Value.string (str y168.op.to)), (i64 y168.op.amount), (Value.string (str y168.op.key)), (i64 y168.op.slot), (i64 y168.op.shard)])) (by kernel_rfl) (Runs.load (t := 24) (a := ⟨b197, 0, none⟩) (by kernel_rfl) (H204.loads (by kernel_rfl))) (d := (some 66)) (by kernel_rfl) rfl ?_
       refine Ops.go (v := (agg [(i64 o.kind), (Value.string (str o.frm)), (Value.string (str ((plainE o).to))), (i64 ((plainE o).amount)), (Value.string (str o.key)), (i64 0), (i64 0)])) (by kernel_rfl) (Runs.load (t := 24) (a := ⟨b1, 0, none⟩) (by kernel_rfl) (H154.loads (by kernel_rfl))) (d := (some 67)) (by kernel_rfl) rfl ?_
       refine Ops.go (v := (Value.bool (!(aggB [(i64 y168.op.kind), (Value.string (str y168.op.frm)), (Value.string (str y168.op.to)), (i64 y168.op.amount), (Value.string (str y168.op.key)), (i64 y168.op.slot), (i64 y168.op.shard)] [(i64 o.kind), (Value.string (str o.frm)), (Value.string (str ((plainE o).to))), (i64 ((plainE o).amount)), (Value.string (str o.key)), (i64 0), (i64 0)])))) (by kernel_rfl) (Runs.aggne (t := 24) (by kernel_rfl) (by kernel_rfl)) (d := (some 68)) (by kernel_rfl) rfl ?_
       refine od ?_
       refine q_cond (o := .tmp 68) (b := (!(aggB [(i64 y168.op.kind), (Value.string (str y168.op.frm)), (Value.string (str y168.op.to)), (i64 y168.op.amount), (Value.string (str y168.op.key)), (i64 y168.op.slot), (i64 y168.op.shard)] [(i64 o.kind), (Value.string (str o.frm)), (Value.string (str ((plainE o).to))), (i64 ((plainE o).amount)), (Value.string (str o.key)), (i64 0), (i64 0)]))) (by kernel_rfl) rfl (fun h206 => ?_) (fun h206 => ?_)
       ·rw [h206]
        have p207 : (aggB [(i64 y168.op.kind), (Value.string (str y168.op.frm)), (Value.string (str y168.op.to)), (i64 y168.op.amount), (Value.string (str y168.op.key)), (i64 y168.op.slot), (i64 y168.op.shard)] [(i64 o.kind), (Value.string (str o.frm)), (Value.string (str ((plainE o).to))), (i64 ((plainE o).amount)), (Value.string (str o.key)), (i64 0), (i64 0)]) = false := (bnot_true h206)
        refine qs ?_
        refine qg ?_
        refine og 1 [(0, (ptr b)), (3, (ptr b1)), (4, (ptr b7)), (6, (i64 y24)), (7, (Value.bool true)), (8, (ptr b156)), (9, (ptr b197)), (69, (agg [(i64 45), (i64 0), (Value.slice none 0 0)]))] 1 ?_
        refine Ops.put (t := 30) (b := b7) (off := 0) (v := (agg [(i64 45), (i64 0), (Value.slice none 0 0)])) (ys := [(i64 45), (i64 0), (Value.slice none 0 0)]) (by kernel_rfl) (by kernel_rfl) H10 (by kernel_rfl) (d := none) (by kernel_rfl) rfl (fun w208 H209 K210 => ?_)
        clear H10
        replace K0 := K0.trans K210 (U := (fun i => i = mb ∨ i = kb)) (fun i h1 h2 => h2) (fun i h1 h2 => by have h2 : i = b7 := h2; show i = mb ∨ i = kb; omega)
        replace Hb := Hb.keep K210 (by intro h; change b = b7 at h; omega)
        replace Hm := Hm.keep K210 (by intro h; change mb = b7 at h; omega)
        replace Hk := Hk.keep K210 (by intro h; change kb = b7 at h; omega)
        replace H154 := H154.keep K210 (by intro h; change b1 = b7 at h; omega)
        replace H163 := H163.keep K210 (by intro h; change b156 = b7 at h; omega)
        replace H204 := H204.keep K210 (by intro h; change b197 = b7 at h; omega)
        clear K210
        refine od ?_
        refine q_ret (by kernel_rfl) ?_
        refine ⟨(agg [(i64 45), (i64 0), (Value.slice none 0 0)]), retv_cell rfl rfl (H209.loads (by kernel_rfl)), ?_⟩
        have e0 := do_other (S := S) (K := K) (o := o) hw (by omega) (by omega) (by omega) hk193 (bnot_true h206)
        obtain ⟨e1, e2, e3⟩ := e0
        rw [e1, e2, e3]
        exact ⟨_, none, 0, rfl, K0, Hm, Hk, hB, (OwnT.nil _ _ _ _ _)⟩
       ·rw [h206]
        have p211 : (aggB [(i64 y168.op.kind), (Value.string (str y168.op.frm)), (Value.string (str y168.op.to)), (i64 y168.op.amount), (Value.string (str y168.op.key)), (i64 y168.op.slot), (i64 y168.op.shard)] [(i64 o.kind), (Value.string (str o.frm)), (Value.string (str ((plainE o).to))), (i64 ((plainE o).amount)), (Value.string (str o.key)), (i64 0), (i64 0)]) = true := (bnot_false h206)
        refine q_skip (by kernel_rfl) ?_
        refine qs ?_
        refine qg ?_
        refine og 1 [(0, (ptr b)), (3, (ptr b1)), (4, (ptr b7)), (6, (i64 y24)), (7, (Value.bool true)), (8, (ptr b156)), (70, (Value.pointer (some ⟨b197, 7, none⟩)))] 1 ?_
        refine Ops.go (v := (i64 y168.why)) (by kernel_rfl) (Runs.load (t := 27) (a := ⟨b197, 7, none⟩) (by kernel_rfl) (H204.loads (by kernel_rfl))) (d := (some 71)) (by kernel_rfl) rfl ?_
        refine og 1 [(0, (ptr b)), (3, (ptr b1)), (4, (ptr b7)), (6, (i64 y24)), (7, (Value.bool true)), (8, (ptr b156)), (72, (agg [(i64 y168.why), (i64 0), (Value.slice none 0 0)]))] 3 ?_
        refine Ops.put (t := 30) (b := b7) (off := 0) (v := (agg [(i64 y168.why), (i64 0), (Value.slice none 0 0)])) (ys := [(i64 y168.why), (i64 0), (Value.slice none 0 0)]) (by kernel_rfl) (by kernel_rfl) H10 (by kernel_rfl) (d := none) (by kernel_rfl) rfl (fun w212 H213 K214 => ?_)
        clear H10
        replace K0 := K0.trans K214 (U := (fun i => i = mb ∨ i = kb)) (fun i h1 h2 => h2) (fun i h1 h2 => by have h2 : i = b7 := h2; show i = mb ∨ i = kb; omega)
        replace Hb := Hb.keep K214 (by intro h; change b = b7 at h; omega)
        replace Hm := Hm.keep K214 (by intro h; change mb = b7 at h; omega)
        replace Hk := Hk.keep K214 (by intro h; change kb = b7 at h; omega)
        replace H154 := H154.keep K214 (by intro h; change b1 = b7 at h; omega)
        replace H163 := H163.keep K214 (by intro h; change b156 = b7 at h; omega)
        replace H204 := H204.keep K214 (by intro h; change b197 = b7 at h; omega)
        clear K214
        refine od ?_
        refine q_ret (by kernel_rfl) ?_
        refine ⟨(agg [(i64 y168.why), (i64 0), (Value.slice none 0 0)]), retv_cell rfl rfl (H213.loads (by kernel_rfl)), ?_⟩
        have e0 := do_again (S := S) (K := K) (o := o) hw (by omega) (by omega) (by omega) hk193 (bnot_false h206)
        obtain ⟨e1, e2, e3⟩ := e0
        rw [e1, e2, e3]
        exact ⟨_, none, 0, rfl, K0, Hm, Hk, hB, (OwnT.nil _ _ _ _ _)⟩
end Go.Proofs.YtnfeemhpoaflfaaGreatDoor
namespace Go.Q
open Go.RowKit Go.Lib
theorem OwnB.app2S {P : Program} {w : World} {t u ty e base : Nat} {v : Value} {xs ys : List UInt8} (T : u8Ty? P t u = some e) (h : OwnB w base e v xs) (hl : xs.length + ys.length ≤ 140737488355328) (hbase : base ≤ w.heap.size) :
    ∃ v' w', (Builtin.append_ #[t, u] ty #[v, .string (str ys)]).run P w = .ok v' w' ∧ OwnB w' base e v' (xs ++ ys) ∧ Keeps (fun i => v.ownBlock = some i) w w' ∧ ∀ i, v'.ownBlock = some i → v.ownBlock = some i ∨ w.heap.size ≤ i := by
  unfold u8Ty? at T
  split at T
  · rename_i e' ht hu
    split at T
    · rename_i i hi
      split at T
      · rename_i hz
        cases hb : (Nat.beq i.size 1 && Nat.beq i.bytes 1) with
        | false => rw [hb] at T; cases T
        | true =>
          rw [hb] at T
          simp only [cond_true, Option.some.injEq] at T
          subst T
          simp only [Bool.and_eq_true] at hb
          have hm : xs.length + ys.length ≤ maxLen := by simp only [maxLen]; omega
          have h1 := Nat.eq_of_beq_eq_true hb.1
          have h2 := Nat.eq_of_beq_eq_true hb.2
          obtain ⟨v', w', hr, ho, hg, _⟩ := run_append_own_string (P := P) w base t u ty e' i ht hu hi hz h1 h2 v xs.length (bv xs) h (str ys) (by rw [str_size]; exact hm) (by rw [str_size]; exact hl) hbase
          refine ⟨v', w', hr, ?_, (Keeps.of_grown hg).mono fun j hj hS => hS.symm, ?_⟩
          · rw [strCells_bv, str_size] at ho
            unfold OwnB
            rw [List.length_append, bv_append]
            exact ho
          · intro j hj
            have hown : w.ownsRow base e' 1 v xs.length (bv xs) := h
            rcases hown.2 with ⟨rfl, hn⟩ | ⟨g, cap, cur, rfl, hbg, hgc, hnc, hcm, hcs, htake⟩
            · obtain ⟨v2, w2, hr2, ho2, _, _⟩ := run_append_own_string (P := P) w w.heap.size t u ty e' i ht hu hi hz h1 h2 (.slice none 0 0) xs.length (bv xs) ⟨hown.1, .inl ⟨rfl, hn⟩⟩ (str ys) (by rw [str_size]; exact hm) (by rw [str_size]; exact hl) (Nat.le_refl _)
              rw [hr] at hr2
              simp only [Result.ok.injEq] at hr2
              obtain ⟨rfl, rfl⟩ := hr2
              exact .inr (World.ownsRow.lt ho2 j hj).1
            · by_cases hroom : xs.length + (str ys).size ≤ cap
              · have hcs' : cur.size = cap := by simpa using hcs
                have hr2 := run_append_room_string (P := P) w t u ty e' i ht hu hi h1 g xs.length cap cur hgc (str ys) hroom (by omega)
                rw [hr] at hr2
                simp only [Result.ok.injEq] at hr2
                rw [hr2.1] at hj
                exact .inl hj
              · have holds : ∀ j u, (bv xs)[j]? = some u → w.cell? ((⟨g, 0, none⟩ : Addr).add j) = some u := hown.cells (g := g) rfl
                have hr2 := run_append_grow_string (P := P) w t u ty e' i (.int .u8 0) ht hu hi hz ⟨g, 0, none⟩ xs.length cap (bv xs) (by rw [h1]; simp [bv_length]) holds (str ys) (by omega) (by rw [str_size]; omega) (by rw [h2]; exact growslice_fits (by omega) (by rw [str_size]; omega))
                rw [hr] at hr2
                simp only [Result.ok.injEq] at hr2
                rw [hr2.1] at hj
                simp only [Value.ownBlock, Option.some.injEq] at hj
                exact .inr (by omega)
      · cases T
    · cases T
  · cases T
/-- A cell of a block that one holds is set. -/
theorem Has.set0 {w : World} {b : Nat} {x y v : Value} {e : TypeId} (h : Has w b (rowL [x, y] e)) : Has (w.setCell ⟨b, 0, none⟩ v) b (rowL [v, y] e) ∧ Keeps (fun i => i = b) w (w.setCell ⟨b, 0, none⟩ v) := by
  have hl := h.lt
  refine ⟨?_, rfl, rfl, rfl, by show w.heap.size ≤ (w.heap.modify _ _).size; rw [Array.size_modify]; exact Nat.le_refl _, fun k _ hk => Below.heap_setCell _ _ _ k hk⟩
  unfold Has at h ⊢
  have hlt : b < w.heap.size := hl
  have h' : w.heap[b] = rowL [x, y] e := by simpa [Array.getElem?_eq_getElem hlt] using h
  show (w.heap.modify b _)[b]? = _
  rw [Array.getElem?_modify]
  simp [h, rowL]
end Go.Q
