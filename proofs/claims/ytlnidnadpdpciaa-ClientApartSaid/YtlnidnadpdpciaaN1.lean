/- chapter 18: ClientApart returns true -/
import Derived.Test.YtlnidnadpdpciaaProg
import Derived.Test.YtlnidnadpdpciaaKH
set_option linter.unusedVariables false
namespace Go.Proofs.Ytlnidnadpdpciaa
open Go.Q Go.RowKit

set_option maxHeartbeats 4000000 in
theorem Apart_calls (w : World) (x : LetP) (V : Option Addr) (c : Nat) (D : Option Addr) (dc : Nat) (y : LetP) (U : Option Addr) (uc : Nat) (E : Option Addr) (ec : Nat) (hok : x.Ok) (hoky : y.Ok) (hV : RdR w (.slice V x.rep.rows.length c) x.rep.rows) (hD : RdB w (.slice D x.body.length dc) x.body) (hU : RdR w (.slice U y.rep.rows.length uc) y.rep.rows) (hE : RdB w (.slice E y.body.length ec) y.body) (hrx : x.rep.rows.length * 24 ≤ 140737488351232) (hbx : x.body.length ≤ 140737488351232) (hry : y.rep.rows.length * 24 ≤ 140737488351232) (hby : y.body.length ≤ 140737488351232) : Calls Try.prog 3 ⟨[(agg [(i64 x.kind), (i64 x.n), (i64 x.group), (i64 x.op.kind), (Value.string (str x.op.frm)), (Value.string (str x.op.to)), (i64 x.op.amount), (Value.string (str x.op.key)), (i64 x.op.slot), (i64 x.op.shard), (i64 x.rep.why), (i64 x.rep.amount), (Value.slice V x.rep.rows.length c), (Value.slice D x.body.length dc)]), (agg [(i64 y.kind), (i64 y.n), (i64 y.group), (i64 y.op.kind), (Value.string (str y.op.frm)), (Value.string (str y.op.to)), (i64 y.op.amount), (Value.string (str y.op.key)), (i64 y.op.slot), (i64 y.op.shard), (i64 y.rep.why), (i64 y.rep.amount), (Value.slice U y.rep.rows.length uc), (Value.slice E y.body.length ec)])]⟩ w (fun e w' => e = .returned (.bool true) ∧ Keeps none_ w w') := by
  have K0 : Keeps none_ w w := Keeps.refl w
  refine q_calls Try.func3 (by kernel_rfl) (by kernel_rfl) ?_
  refine q_seq (by kernel_rfl) ?_
  refine q_region (by kernel_rfl) ?_
  refine Ops.new (o := rowL [(i64 x.kind), (i64 x.n), (i64 x.group), (i64 x.op.kind), (Value.string (str x.op.frm)), (Value.string (str x.op.to)), (i64 x.op.amount), (Value.string (str x.op.key)), (i64 x.op.slot), (i64 x.op.shard), (i64 x.rep.why), (i64 x.rep.amount), (Value.slice V x.rep.rows.length c), (Value.slice D x.body.length dc)] 30) (V := fun b => (ptr b)) (by kernel_rfl) (d := (some 2)) (by kernel_rfl) (fun b => rfl) (fun b1 w2 hb3 H4 K5 hs6 => ?_)
  have nb1 : w.heap.size ≤ b1 := by have := K0.size; omega
  replace K0 := K0.trans K5 (U := none_) (fun i h1 h2 => h2) (fun i h1 h2 => by exact h2)
  clear K5 hs6
  refine Ops.new (o := rowL [(i64 y.kind), (i64 y.n), (i64 y.group), (i64 y.op.kind), (Value.string (str y.op.frm)), (Value.string (str y.op.to)), (i64 y.op.amount), (Value.string (str y.op.key)), (i64 y.op.slot), (i64 y.op.shard), (i64 y.rep.why), (i64 y.rep.amount), (Value.slice U y.rep.rows.length uc), (Value.slice E y.body.length ec)] 30) (V := fun b => (ptr b)) (by kernel_rfl) (d := (some 3)) (by kernel_rfl) (fun b => rfl) (fun b7 w8 hb9 H10 K11 hs12 => ?_)
  have lb7b1 : b1 < b7 := by have := H4.lt; omega
  have nb7 : w.heap.size ≤ b7 := by have := K0.size; omega
  replace K0 := K0.trans K11 (U := none_) (fun i h1 h2 => h2) (fun i h1 h2 => by exact h2)
  replace H4 := H4.keep K11 (fun h => h)
  clear K11 hs12
  refine Ops.regs 1 [(2, (ptr b1)), (3, (ptr b7)), (4, (Value.bool false))] (j := 3) (by kernel_rfl) (by kernel_rfl) ?_
  refine Ops.done (by kernel_rfl) ?_
  refine q_seq (by kernel_rfl) ?_
  refine q_region (by kernel_rfl) ?_
  refine Ops.go (v := (agg [(i64 x.kind), (i64 x.n), (i64 x.group), (i64 x.op.kind), (Value.string (str x.op.frm)), (Value.string (str x.op.to)), (i64 x.op.amount), (Value.string (str x.op.key)), (i64 x.op.slot), (i64 x.op.shard), (i64 x.rep.why), (i64 x.rep.amount), (Value.slice V x.rep.rows.length c), (Value.slice D x.body.length dc)])) (by kernel_rfl) (Runs.load (t := 30) (a := ⟨b1, 0, none⟩) (by kernel_rfl) (H4.loads (by kernel_rfl))) (d := (some 10)) (by kernel_rfl) rfl ?_
  refine Ops.call (by kernel_rfl) (d := (some 11)) (by kernel_rfl) (given_calls _ x V c D dc (Rd.keep0 (by omega) hV K0) (hD.keep0 (by omega) K0) hrx hbx) ?_
  rintro _ w17 ⟨V13, c14, D15, dc16, rfl, K18, hR19, hB20⟩
  have ob23 : ∀ i, ((Value.slice V13 x.rep.rows.length c14)).ownBlock = some i → i ≠ b1 := fun i hi => by have := (World.ownsRow.lt hR19 i hi).1; have := H4.lt; omega
  have ob24 : ∀ i, ((Value.slice V13 x.rep.rows.length c14)).ownBlock = some i → i ≠ b7 := fun i hi => by have := (World.ownsRow.lt hR19 i hi).1; have := H10.lt; omega
  have ob25 : ∀ i, ((Value.slice D15 x.body.length dc16)).ownBlock = some i → i ≠ b1 := fun i hi => by have := (World.ownsRow.lt hB20 i hi).1; have := H4.lt; omega
  have ob26 : ∀ i, ((Value.slice D15 x.body.length dc16)).ownBlock = some i → i ≠ b7 := fun i hi => by have := (World.ownsRow.lt hB20 i hi).1; have := H10.lt; omega
  have O21 := own_base hR19 K0.size
  have O22 := own_base hB20 K0.size
  refine ⟨_, _, rfl, rfl, ?_⟩
  replace K0 := K0.trans K18 (U := none_) (fun i h1 h2 => h2) (fun i h1 h2 => by exact h2)
  replace H4 := H4.keep K18 (fun h => h)
  replace H10 := H10.keep K18 (fun h => h)
  clear K18
  refine Ops.call (by kernel_rfl) (d := (some 12)) (by kernel_rfl) (Pack_calls _ x V13 c14 D15 dc16 hok (OwnT.rd O21) (OwnB.rd O22)) ?_
  rintro _ w28 ⟨v27, rfl, K29, hO30⟩
  have ob32 : ∀ i, (v27).ownBlock = some i → i ≠ b1 := fun i hi => by have := (World.ownsRow.lt hO30 i hi).1; have := H4.lt; omega
  have ob33 : ∀ i, (v27).ownBlock = some i → i ≠ b7 := fun i hi => by have := (World.ownsRow.lt hO30 i hi).1; have := H10.lt; omega
  have oo34 : ∀ i, ((Value.slice V13 x.rep.rows.length c14)).ownBlock = some i → (v27).ownBlock = some i → False := fun i hi hs => by have := (World.ownsRow.lt hO30 i hs).1; have := (World.ownsRow.lt O21 i hi).2; omega
  have oo35 : ∀ i, (v27).ownBlock = some i → ((Value.slice V13 x.rep.rows.length c14)).ownBlock = some i → False := fun i hi hs => oo34 i hs hi
  have oo36 : ∀ i, ((Value.slice D15 x.body.length dc16)).ownBlock = some i → (v27).ownBlock = some i → False := fun i hi hs => by have := (World.ownsRow.lt hO30 i hs).1; have := (World.ownsRow.lt O22 i hi).2; omega
  have oo37 : ∀ i, (v27).ownBlock = some i → ((Value.slice D15 x.body.length dc16)).ownBlock = some i → False := fun i hi hs => oo36 i hs hi
  have O31 := own_base hO30 K0.size
  refine ⟨_, _, rfl, rfl, ?_⟩
  replace K0 := K0.trans K29 (U := none_) (fun i h1 h2 => h2) (fun i h1 h2 => by exact h2)
  replace H4 := H4.keep K29 (fun h => h)
  replace H10 := H10.keep K29 (fun h => h)
  replace O21 := own_keep0 O21 K29
  replace O22 := own_keep0 O22 K29
  clear K29
  refine Ops.regs 5 [(2, (ptr b1)), (3, (ptr b7)), (4, (Value.bool false)), (5, v27), (6, (i64 ((packB x).2)))] (j := 8) (by kernel_rfl) (by kernel_rfl) ?_
  refine Ops.done (by kernel_rfl) ?_
  refine q_seq (by kernel_rfl) ?_
  refine q_region (by kernel_rfl) ?_
  refine Ops.go (v := (agg [(i64 y.kind), (i64 y.n), (i64 y.group), (i64 y.op.kind), (Value.string (str y.op.frm)), (Value.string (str y.op.to)), (i64 y.op.amount), (Value.string (str y.op.key)), (i64 y.op.slot), (i64 y.op.shard), (i64 y.rep.why), (i64 y.rep.amount), (Value.slice U y.rep.rows.length uc), (Value.slice E y.body.length ec)])) (by kernel_rfl) (Runs.load (t := 30) (a := ⟨b7, 0, none⟩) (by kernel_rfl) (H10.loads (by kernel_rfl))) (d := (some 16)) (by kernel_rfl) rfl ?_
  refine Ops.call (by kernel_rfl) (d := (some 17)) (by kernel_rfl) (given_calls _ y U uc E ec (Rd.keep0 (by omega) hU K0) (hE.keep0 (by omega) K0) hry hby) ?_
  rintro _ w42 ⟨V38, c39, D40, dc41, rfl, K43, hR44, hB45⟩
  have ob48 : ∀ i, ((Value.slice V38 y.rep.rows.length c39)).ownBlock = some i → i ≠ b1 := fun i hi => by have := (World.ownsRow.lt hR44 i hi).1; have := H4.lt; omega
  have ob49 : ∀ i, ((Value.slice V38 y.rep.rows.length c39)).ownBlock = some i → i ≠ b7 := fun i hi => by have := (World.ownsRow.lt hR44 i hi).1; have := H10.lt; omega
  have oo50 : ∀ i, ((Value.slice V13 x.rep.rows.length c14)).ownBlock = some i → ((Value.slice V38 y.rep.rows.length c39)).ownBlock = some i → False := fun i hi hs => by have := (World.ownsRow.lt hR44 i hs).1; have := (World.ownsRow.lt O21 i hi).2; omega
  have oo51 : ∀ i, ((Value.slice V38 y.rep.rows.length c39)).ownBlock = some i → ((Value.slice V13 x.rep.rows.length c14)).ownBlock = some i → False := fun i hi hs => oo50 i hs hi
  have oo52 : ∀ i, ((Value.slice D15 x.body.length dc16)).ownBlock = some i → ((Value.slice V38 y.rep.rows.length c39)).ownBlock = some i → False := fun i hi hs => by have := (World.ownsRow.lt hR44 i hs).1; have := (World.ownsRow.lt O22 i hi).2; omega
  have oo53 : ∀ i, ((Value.slice V38 y.rep.rows.length c39)).ownBlock = some i → ((Value.slice D15 x.body.length dc16)).ownBlock = some i → False := fun i hi hs => oo52 i hs hi
  have oo54 : ∀ i, (v27).ownBlock = some i → ((Value.slice V38 y.rep.rows.length c39)).ownBlock = some i → False := fun i hi hs => by have := (World.ownsRow.lt hR44 i hs).1; have := (World.ownsRow.lt O31 i hi).2; omega
  have oo55 : ∀ i, ((Value.slice V38 y.rep.rows.length c39)).ownBlock = some i → (v27).ownBlock = some i → False := fun i hi hs => oo54 i hs hi
  have ob56 : ∀ i, ((Value.slice D40 y.body.length dc41)).ownBlock = some i → i ≠ b1 := fun i hi => by have := (World.ownsRow.lt hB45 i hi).1; have := H4.lt; omega
  have ob57 : ∀ i, ((Value.slice D40 y.body.length dc41)).ownBlock = some i → i ≠ b7 := fun i hi => by have := (World.ownsRow.lt hB45 i hi).1; have := H10.lt; omega
  have oo58 : ∀ i, ((Value.slice V13 x.rep.rows.length c14)).ownBlock = some i → ((Value.slice D40 y.body.length dc41)).ownBlock = some i → False := fun i hi hs => by have := (World.ownsRow.lt hB45 i hs).1; have := (World.ownsRow.lt O21 i hi).2; omega
  have oo59 : ∀ i, ((Value.slice D40 y.body.length dc41)).ownBlock = some i → ((Value.slice V13 x.rep.rows.length c14)).ownBlock = some i → False := fun i hi hs => oo58 i hs hi
  have oo60 : ∀ i, ((Value.slice D15 x.body.length dc16)).ownBlock = some i → ((Value.slice D40 y.body.length dc41)).ownBlock = some i → False := fun i hi hs => by have := (World.ownsRow.lt hB45 i hs).1; have := (World.ownsRow.lt O22 i hi).2; omega
  have oo61 : ∀ i, ((Value.slice D40 y.body.length dc41)).ownBlock = some i → ((Value.slice D15 x.body.length dc16)).ownBlock = some i → False := fun i hi hs => oo60 i hs hi
  have oo62 : ∀ i, (v27).ownBlock = some i → ((Value.slice D40 y.body.length dc41)).ownBlock = some i → False := fun i hi hs => by have := (World.ownsRow.lt hB45 i hs).1; have := (World.ownsRow.lt O31 i hi).2; omega
  have oo63 : ∀ i, ((Value.slice D40 y.body.length dc41)).ownBlock = some i → (v27).ownBlock = some i → False := fun i hi hs => oo62 i hs hi
  have O46 := own_base hR44 K0.size
  have O47 := own_base hB45 K0.size
  refine ⟨_, _, rfl, rfl, ?_⟩
  replace K0 := K0.trans K43 (U := none_) (fun i h1 h2 => h2) (fun i h1 h2 => by exact h2)
  replace H4 := H4.keep K43 (fun h => h)
  replace H10 := H10.keep K43 (fun h => h)
  replace O21 := own_keep0 O21 K43
  replace O22 := own_keep0 O22 K43
  replace O31 := own_keep0 O31 K43
  clear K43
  refine Ops.call (by kernel_rfl) (d := (some 18)) (by kernel_rfl) (Pack_calls _ y V38 c39 D40 dc41 hoky (OwnT.rd O46) (OwnB.rd O47)) ?_
  rintro _ w65 ⟨v64, rfl, K66, hO67⟩
  have ob69 : ∀ i, (v64).ownBlock = some i → i ≠ b1 := fun i hi => by have := (World.ownsRow.lt hO67 i hi).1; have := H4.lt; omega
  have ob70 : ∀ i, (v64).ownBlock = some i → i ≠ b7 := fun i hi => by have := (World.ownsRow.lt hO67 i hi).1; have := H10.lt; omega
  have oo71 : ∀ i, ((Value.slice V13 x.rep.rows.length c14)).ownBlock = some i → (v64).ownBlock = some i → False := fun i hi hs => by have := (World.ownsRow.lt hO67 i hs).1; have := (World.ownsRow.lt O21 i hi).2; omega
  have oo72 : ∀ i, (v64).ownBlock = some i → ((Value.slice V13 x.rep.rows.length c14)).ownBlock = some i → False := fun i hi hs => oo71 i hs hi
  have oo73 : ∀ i, ((Value.slice D15 x.body.length dc16)).ownBlock = some i → (v64).ownBlock = some i → False := fun i hi hs => by have := (World.ownsRow.lt hO67 i hs).1; have := (World.ownsRow.lt O22 i hi).2; omega
  have oo74 : ∀ i, (v64).ownBlock = some i → ((Value.slice D15 x.body.length dc16)).ownBlock = some i → False := fun i hi hs => oo73 i hs hi
  have oo75 : ∀ i, (v27).ownBlock = some i → (v64).ownBlock = some i → False := fun i hi hs => by have := (World.ownsRow.lt hO67 i hs).1; have := (World.ownsRow.lt O31 i hi).2; omega
  have oo76 : ∀ i, (v64).ownBlock = some i → (v27).ownBlock = some i → False := fun i hi hs => oo75 i hs hi
  have oo77 : ∀ i, ((Value.slice V38 y.rep.rows.length c39)).ownBlock = some i → (v64).ownBlock = some i → False := fun i hi hs => by have := (World.ownsRow.lt hO67 i hs).1; have := (World.ownsRow.lt O46 i hi).2; omega
  have oo78 : ∀ i, (v64).ownBlock = some i → ((Value.slice V38 y.rep.rows.length c39)).ownBlock = some i → False := fun i hi hs => oo77 i hs hi
  have oo79 : ∀ i, ((Value.slice D40 y.body.length dc41)).ownBlock = some i → (v64).ownBlock = some i → False := fun i hi hs => by have := (World.ownsRow.lt hO67 i hs).1; have := (World.ownsRow.lt O47 i hi).2; omega
  have oo80 : ∀ i, (v64).ownBlock = some i → ((Value.slice D40 y.body.length dc41)).ownBlock = some i → False := fun i hi hs => oo79 i hs hi
  have O68 := own_base hO67 K0.size
  refine ⟨_, _, rfl, rfl, ?_⟩
  replace K0 := K0.trans K66 (U := none_) (fun i h1 h2 => h2) (fun i h1 h2 => by exact h2)
  replace H4 := H4.keep K66 (fun h => h)
  replace H10 := H10.keep K66 (fun h => h)
  replace O21 := own_keep0 O21 K66
  replace O22 := own_keep0 O22 K66
  replace O31 := own_keep0 O31 K66
  replace O46 := own_keep0 O46 K66
  replace O47 := own_keep0 O47 K66
  clear K66
  refine Ops.regs 5 [(2, (ptr b1)), (3, (ptr b7)), (4, (Value.bool false)), (5, v27), (6, (i64 ((packB x).2))), (7, v64), (8, (i64 ((packB y).2)))] (j := 8) (by kernel_rfl) (by kernel_rfl) ?_
  refine Ops.done (by kernel_rfl) ?_
  refine q_seq (by kernel_rfl) ?_
  refine q_seq (by kernel_rfl) ?_
  refine q_region (by kernel_rfl) ?_
  refine Ops.regs 3 [(2, (ptr b1)), (3, (ptr b7)), (4, (Value.bool false)), (5, v27), (7, v64), (8, (i64 ((packB y).2))), (23, (Value.bool (((packB x).2) != 0)))] (j := 3) (by kernel_rfl) (by kernel_rfl) ?_
  refine Ops.split (((packB x).2) != 0) (fun h81 => ?_) (fun h81 => ?_)
  · rw [h81]
    have p82 : ¬ ((packB x).2 = 0) := of_bne_t h81
    refine Ops.regs 3 [(2, (ptr b1)), (3, (ptr b7)), (4, (Value.bool false)), (5, v27), (7, v64), (26, (Value.bool true))] (j := 6) (by kernel_rfl) (by kernel_rfl) ?_
    refine Ops.done (by kernel_rfl) ?_
    refine q_then (o := .tmp 26) (by kernel_rfl) rfl ?_
    refine q_seq (by kernel_rfl) ?_
    refine q_region (by kernel_rfl) ?_
    refine Ops.call (by kernel_rfl) (d := (some 27)) (by kernel_rfl) (known_calls _) ?_
    rintro _ w84 ⟨rfl, K83⟩
    refine ⟨_, _, rfl, rfl, ?_⟩
    replace K0 := K0.trans K83 (U := none_) (fun i h1 h2 => h2) (fun i h1 h2 => by exact h2)
    replace H4 := H4.keep K83 (fun h => h)
    replace H10 := H10.keep K83 (fun h => h)
    replace O21 := own_keep0 O21 K83
    replace O22 := own_keep0 O22 K83
    replace O31 := own_keep0 O31 K83
    replace O46 := own_keep0 O46 K83
    replace O47 := own_keep0 O47 K83
    replace O68 := own_keep0 O68 K83
    clear K83
    refine Ops.regs 1 [(2, (ptr b1)), (3, (ptr b7)), (4, (Value.bool true)), (5, v27), (7, v64)] (j := 2) (by kernel_rfl) (by kernel_rfl) ?_
    refine Ops.done (by kernel_rfl) ?_
    refine q_ret (by kernel_rfl) ?_
    refine ⟨(Value.bool true), retv_tmp rfl rfl, ?_⟩
    exact ⟨rfl, K0⟩
  · rw [h81]
    have p85 : (packB x).2 = 0 := of_bne_f h81
    refine Ops.regs 3 [(2, (ptr b1)), (3, (ptr b7)), (4, (Value.bool false)), (5, v27), (7, v64), (26, (Value.bool (((packB y).2) != 0)))] (j := 6) (by kernel_rfl) (by kernel_rfl) ?_
    refine Ops.done (by kernel_rfl) ?_
    refine q_cond (o := .tmp 26) (b := (((packB y).2) != 0)) (by kernel_rfl) rfl (fun h86 => ?_) (fun h86 => ?_)
    · rw [h86]
      have p87 : ¬ ((packB y).2 = 0) := of_bne_t h86
      refine q_seq (by kernel_rfl) ?_
      refine q_region (by kernel_rfl) ?_
      refine Ops.call (by kernel_rfl) (d := (some 27)) (by kernel_rfl) (known_calls _) ?_
      rintro _ w89 ⟨rfl, K88⟩
      refine ⟨_, _, rfl, rfl, ?_⟩
      replace K0 := K0.trans K88 (U := none_) (fun i h1 h2 => h2) (fun i h1 h2 => by exact h2)
      replace H4 := H4.keep K88 (fun h => h)
      replace H10 := H10.keep K88 (fun h => h)
      replace O21 := own_keep0 O21 K88
      replace O22 := own_keep0 O22 K88
      replace O31 := own_keep0 O31 K88
      replace O46 := own_keep0 O46 K88
      replace O47 := own_keep0 O47 K88
      replace O68 := own_keep0 O68 K88
      clear K88
      refine Ops.regs 1 [(2, (ptr b1)), (3, (ptr b7)), (4, (Value.bool true)), (5, v27), (7, v64)] (j := 2) (by kernel_rfl) (by kernel_rfl) ?_
      refine Ops.done (by kernel_rfl) ?_
      refine q_ret (by kernel_rfl) ?_
      refine ⟨(Value.bool true), retv_tmp rfl rfl, ?_⟩
      exact ⟨rfl, K0⟩
    · rw [h86]
      have p90 : (packB y).2 = 0 := of_bne_f h86
      refine q_skip (by kernel_rfl) ?_
      refine q_seq (by kernel_rfl) ?_
      refine q_draw (fun wz => Keeps none_ w65 wz) 15 (by kernel_rfl) (by kernel_rfl) (by kernel_rfl) (fun w91 K92 _ _ => ⟨K92, ?_⟩)
      replace K0 := K0.trans K92 (U := none_) (fun i h1 h2 => h2) (fun i h1 h2 => by exact h2)
      replace H4 := H4.keep K92 (fun h => h)
      replace H10 := H10.keep K92 (fun h => h)
      replace O21 := own_keep0 O21 K92
      replace O22 := own_keep0 O22 K92
      replace O31 := own_keep0 O31 K92
      replace O46 := own_keep0 O46 K92
      replace O47 := own_keep0 O47 K92
      replace O68 := own_keep0 O68 K92
      refine Dr.strong (S' := (fun wz => Keeps none_ w91 wz)) (Keeps.refl w91) (fun wz hx => K92.trans hx (fun i _ h => h) (fun _ _ h => h)) ?_
      clear K92
      refine Dr.takes (fuel' := 14) (is' := [0]) [0] [(2, (ptr b1)), (3, (ptr b7)), (4, (Value.bool false)), (7, v64), (28, v27)] (by kernel_rfl) rfl (by kernel_rfl) ?_
      refine Dr.take (i := 1) (v := (Value.string (str ((packB x).1)))) (by kernel_rfl) (by kernel_rfl) (fun wz hS => Runs.b2s (s := 28) (d := 9) (e := 5) (by kernel_rfl) (by kernel_rfl) (by kernel_rfl) (Rd.keep0 (by omega) (OwnB.rd O31) hS)) (d := (some 29)) (by kernel_rfl) rfl ?_
      refine Dr.takes (fuel' := 12) (is' := [2, 1, 0]) [2] [(2, (ptr b1)), (3, (ptr b7)), (4, (Value.bool false)), (29, (Value.string (str ((packB x).1)))), (30, v64)] (by kernel_rfl) rfl (by kernel_rfl) ?_
      refine Dr.take (i := 3) (v := (Value.string (str ((packB y).1)))) (by kernel_rfl) (by kernel_rfl) (fun wz hS => Runs.b2s (s := 28) (d := 9) (e := 5) (by kernel_rfl) (by kernel_rfl) (by kernel_rfl) (Rd.keep0 (by omega) (OwnB.rd O68) hS)) (d := (some 31)) (by kernel_rfl) rfl ?_
      refine Dr.take (i := 4) (v := (Value.bool (((packB x).1) == ((packB y).1)))) (by kernel_rfl) (by kernel_rfl) (fun wz hS => Runs.streq (t := 9) (by kernel_rfl)) (d := (some 32)) (by kernel_rfl) rfl ?_
      refine Dr.take (i := 5) (v := (agg [(i64 x.kind), (i64 x.n), (i64 x.group), (i64 x.op.kind), (Value.string (str x.op.frm)), (Value.string (str x.op.to)), (i64 x.op.amount), (Value.string (str x.op.key)), (i64 x.op.slot), (i64 x.op.shard), (i64 x.rep.why), (i64 x.rep.amount), (Value.slice V x.rep.rows.length c), (Value.slice D x.body.length dc)])) (by kernel_rfl) (by kernel_rfl) (fun wz hS => Runs.load (t := 30) (a := ⟨b1, 0, none⟩) (by kernel_rfl) ((H4.keep hS (fun h => h)).loads (by kernel_rfl))) (d := (some 33)) (by kernel_rfl) rfl ?_
      refine Dr.take (i := 7) (v := (agg [(i64 y.kind), (i64 y.n), (i64 y.group), (i64 y.op.kind), (Value.string (str y.op.frm)), (Value.string (str y.op.to)), (i64 y.op.amount), (Value.string (str y.op.key)), (i64 y.op.slot), (i64 y.op.shard), (i64 y.rep.why), (i64 y.rep.amount), (Value.slice U y.rep.rows.length uc), (Value.slice E y.body.length ec)])) (by kernel_rfl) (by kernel_rfl) (fun wz hS => Runs.load (t := 30) (a := ⟨b7, 0, none⟩) (by kernel_rfl) ((H10.keep hS (fun h => h)).loads (by kernel_rfl))) (d := (some 35)) (by kernel_rfl) rfl ?_
      refine Dr.call (i := 6) (by kernel_rfl) (by kernel_rfl) (d := (some 34)) (by kernel_rfl) (fun _ => Just_calls _ x V c D dc (Rd.keep0 (by omega) hV K0) (hD.keep0 (by omega) K0)) ?_
      rintro _ w97 ⟨V93, c94, D95, dc96, rfl, K98, hR99, hB100⟩
      replace K0 := K0.trans K98 (U := none_) (fun i h1 h2 => h2) (fun i h1 h2 => by exact h2)
      replace H4 := H4.keep K98 (fun h => h)
      replace H10 := H10.keep K98 (fun h => h)
      replace O21 := own_keep0 O21 K98
      replace O22 := own_keep0 O22 K98
      replace O31 := own_keep0 O31 K98
      replace O46 := own_keep0 O46 K98
      replace O47 := own_keep0 O47 K98
      replace O68 := own_keep0 O68 K98
      refine ⟨_, _, rfl, rfl, K98, ?_⟩
      refine Dr.strong (S' := (fun wz => Keeps none_ w97 wz)) (Keeps.refl w97) (fun wz hx => K98.trans hx (fun i _ h => h) (fun _ _ h => h)) ?_
      clear K98
      refine Dr.call (i := 8) (by kernel_rfl) (by kernel_rfl) (d := (some 36)) (by kernel_rfl) (fun _ => Just_calls _ y U uc E ec (Rd.keep0 (by omega) hU K0) (hE.keep0 (by omega) K0)) ?_
      rintro _ w105 ⟨V101, c102, D103, dc104, rfl, K106, hR107, hB108⟩
      replace K0 := K0.trans K106 (U := none_) (fun i h1 h2 => h2) (fun i h1 h2 => by exact h2)
      replace H4 := H4.keep K106 (fun h => h)
      replace H10 := H10.keep K106 (fun h => h)
      replace O21 := own_keep0 O21 K106
      replace O22 := own_keep0 O22 K106
      replace O31 := own_keep0 O31 K106
      replace O46 := own_keep0 O46 K106
      replace O47 := own_keep0 O47 K106
      replace O68 := own_keep0 O68 K106
      replace hR99 := (Rd.keep0 (by omega) hR99 K106)
      replace hB100 := (Rd.keep0 (by omega) hB100 K106)
      refine ⟨_, _, rfl, rfl, K106, ?_⟩
      refine Dr.strong (S' := (fun wz => Keeps none_ w105 wz)) (Keeps.refl w105) (fun wz hx => K106.trans hx (fun i _ h => h) (fun _ _ h => h)) ?_
      clear K106
      refine Dr.call (i := 9) (by kernel_rfl) (by kernel_rfl) (d := (some 37)) (by kernel_rfl) (fun _ => Same_calls _ x.just V93 c94 D95 dc96 y.just V101 c102 D103 dc104 hR99 hB100 hR107 hB108) ?_
      rintro _ w112 ⟨t109, rfl, ht110, K111⟩
      replace K0 := K0.trans K111 (U := none_) (fun i h1 h2 => h2) (fun i h1 h2 => by exact h2)
      replace H4 := H4.keep K111 (fun h => h)
      replace H10 := H10.keep K111 (fun h => h)
      replace O21 := own_keep0 O21 K111
      replace O22 := own_keep0 O22 K111
      replace O31 := own_keep0 O31 K111
      replace O46 := own_keep0 O46 K111
      replace O47 := own_keep0 O47 K111
      replace O68 := own_keep0 O68 K111
      replace hR99 := (Rd.keep0 (by omega) hR99 K111)
      replace hB100 := (Rd.keep0 (by omega) hB100 K111)
      replace hR107 := (Rd.keep0 (by omega) hR107 K111)
      replace hB108 := (Rd.keep0 (by omega) hB108 K111)
      refine ⟨_, _, rfl, rfl, K111, ?_⟩
      refine Dr.strong (S' := (fun wz => Keeps none_ w112 wz)) (Keeps.refl w112) (fun wz hx => K111.trans hx (fun i _ h => h) (fun _ _ h => h)) ?_
      clear K111
      refine Dr.split (((packB x).1) == ((packB y).1)) (fun h113 => ?_) (fun h113 => ?_)
      · rw [h113]
        have p114 : (((packB x).1) == ((packB y).1)) = true := h113
        obtain ⟨kx1, kx2, kxf, kxe, kxl⟩ := packB_ok (x := x) (by omega)
        obtain ⟨ky1, ky2, kyf, kye, kyl⟩ := packB_ok (x := y) (by omega)
        have hj : x.just = y.just := letv_inj hok hoky kxf kyf ⟨kx1, kx2⟩ (by rw [← kxe, ← kye]; exact eq_of_beq h113)
        have h115 : t109 = true := ht110.2 hj
        rw [h115]
        refine Dr.takes (fuel' := 3) (is' := [11, 10, 9, 8, 6, 7, 5, 4, 3, 2, 1, 0]) [10, 11] [(4, (Value.bool false)), (39, (Value.bool true))] (by kernel_rfl) rfl (by kernel_rfl) ?_
        refine Dr.call (i := 12) (by kernel_rfl) (by kernel_rfl) (d := (some 40)) (by kernel_rfl) (fun _ => known_calls _) ?_
        rintro _ w117 ⟨rfl, K116⟩
        replace K0 := K0.trans K116 (U := none_) (fun i h1 h2 => h2) (fun i h1 h2 => by exact h2)
        replace H4 := H4.keep K116 (fun h => h)
        replace H10 := H10.keep K116 (fun h => h)
        replace O21 := own_keep0 O21 K116
        replace O22 := own_keep0 O22 K116
        replace O31 := own_keep0 O31 K116
        replace O46 := own_keep0 O46 K116
        replace O47 := own_keep0 O47 K116
        replace O68 := own_keep0 O68 K116
        replace hR99 := (Rd.keep0 (by omega) hR99 K116)
        replace hB100 := (Rd.keep0 (by omega) hB100 K116)
        replace hR107 := (Rd.keep0 (by omega) hR107 K116)
        replace hB108 := (Rd.keep0 (by omega) hB108 K116)
        refine ⟨_, _, rfl, rfl, K116, ?_⟩
        refine Dr.strong (S' := (fun wz => Keeps none_ w117 wz)) (Keeps.refl w117) (fun wz hx => K116.trans hx (fun i _ h => h) (fun _ _ h => h)) ?_
        clear K116
        refine Dr.takes (fuel' := 0) (is' := [14, 13, 12, 11, 10, 9, 8, 6, 7, 5, 4, 3, 2, 1, 0]) [13, 14] [(4, (Value.bool true))] (by kernel_rfl) rfl (by kernel_rfl) ?_
        refine Dr.done (by kernel_rfl) ?_
        refine q_ret (by kernel_rfl) ?_
        refine ⟨(Value.bool true), retv_tmp rfl rfl, ?_⟩
        exact ⟨rfl, K0⟩
      · rw [h113]
        have p118 : (((packB x).1) == ((packB y).1)) = false := h113
        obtain ⟨kx1, kx2, kxf, kxe, kxl⟩ := packB_ok (x := x) (by omega)
        obtain ⟨ky1, ky2, kyf, kye, kyl⟩ := packB_ok (x := y) (by omega)
        have hj : x.just ≠ y.just := fun q => by have := letv_just q ⟨kx1, kx2⟩; rw [← kxe, ← kye] at this; rw [this] at h113; simp at h113
        have h119 : t109 = false := Bool.eq_false_iff.2 (fun h => hj (ht110.1 h))
        rw [h119]
        refine Dr.takes (fuel' := 3) (is' := [11, 10, 9, 8, 6, 7, 5, 4, 3, 2, 1, 0]) [10, 11] [(4, (Value.bool false)), (39, (Value.bool true))] (by kernel_rfl) rfl (by kernel_rfl) ?_
        refine Dr.call (i := 12) (by kernel_rfl) (by kernel_rfl) (d := (some 40)) (by kernel_rfl) (fun _ => known_calls _) ?_
        rintro _ w121 ⟨rfl, K120⟩
        replace K0 := K0.trans K120 (U := none_) (fun i h1 h2 => h2) (fun i h1 h2 => by exact h2)
        replace H4 := H4.keep K120 (fun h => h)
        replace H10 := H10.keep K120 (fun h => h)
        replace O21 := own_keep0 O21 K120
        replace O22 := own_keep0 O22 K120
        replace O31 := own_keep0 O31 K120
        replace O46 := own_keep0 O46 K120
        replace O47 := own_keep0 O47 K120
        replace O68 := own_keep0 O68 K120
        replace hR99 := (Rd.keep0 (by omega) hR99 K120)
        replace hB100 := (Rd.keep0 (by omega) hB100 K120)
        replace hR107 := (Rd.keep0 (by omega) hR107 K120)
        replace hB108 := (Rd.keep0 (by omega) hB108 K120)
        refine ⟨_, _, rfl, rfl, K120, ?_⟩
        refine Dr.strong (S' := (fun wz => Keeps none_ w121 wz)) (Keeps.refl w121) (fun wz hx => K120.trans hx (fun i _ h => h) (fun _ _ h => h)) ?_
        clear K120
        refine Dr.takes (fuel' := 0) (is' := [14, 13, 12, 11, 10, 9, 8, 6, 7, 5, 4, 3, 2, 1, 0]) [13, 14] [(4, (Value.bool true))] (by kernel_rfl) rfl (by kernel_rfl) ?_
        refine Dr.done (by kernel_rfl) ?_
        refine q_ret (by kernel_rfl) ?_
        refine ⟨(Value.bool true), retv_tmp rfl rfl, ?_⟩
        exact ⟨rfl, K0⟩
end Go.Proofs.Ytlnidnadpdpciaa
