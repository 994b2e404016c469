/- What the claim stands on, part 16: rules of the walk, contracts of the functions, plain laws. -/
import Derived.Test.YtnbcghbgeiocbaaDoorProg
import Derived.Test.YtnbcghbgeiocbaaDoorKHTurns15
import Derived.Test.YtnbcghbgeiocbaaDoorKHTurns6
import Derived.Test.YtnbcghbgeiocbaaDoorKHTurns11
import Derived.Test.YtnbcghbgeiocbaaDoorKHTurns13
set_option linter.unusedVariables false
namespace Go.Proofs.YtnbcghbgeiocbaaDoor
open Go.Q Go.RowKit

set_option maxHeartbeats 4000000 in
theorem Order_calls (w : World) (LA : Option Addr) (lc : Nat) (l : List HC) (G : Nat → Prop) (hL : RdT w 13 HC.cells (Value.slice LA l.length lc) l) (hG : RowsE w HC.rv HC.rows G l) (ho : ∀ x ∈ l, -9223372036854775808 ≤ x.c.op.amount ∧ x.c.op.amount ≤ 9223372036854775807) (hl : l.length ≤ 2000) : Calls Tryd.prog 12 ⟨[(Value.slice LA l.length lc)]⟩ w (fun e w' => ∃ (o : List Nat) (A : Option Addr) (c : Nat) (ok : Bool) (why : Int), e = .returned (.tuple #[.slice A o.length c, .bool ok, i64 why]) ∧ Keeps none_ w w' ∧ RdT w' 1 iN (.slice A o.length c) o ∧ (o, ok, why) = orderH (l.map HC.c)) := by
 have K0 : Keeps none_ w w := Keeps.refl w
 refine qr_calls 11 Tryd.func12 (by kernel_rfl) (by kernel_rfl) ?_
 refine qr_seq (by kernel_rfl) ?_
 refine qr_region Open.wide (by kernel_rfl) (by kernel_rfl) ?_
 refine og 3 [(0, (Value.slice LA l.length lc)), (2, (Value.slice none 0 0)), (3, (Value.bool false)), (4, (i64 0))] 3 ?_
 refine od ?_
 refine qr_seq (by kernel_rfl) ?_
 refine qr_region Open.wide (by kernel_rfl) (by kernel_rfl) ?_
 refine Ops.new (o := rowL [(Value.slice none 0 0), (Value.slice none 0 0)] 68) (V := fun b => (ptr b)) (by kernel_rfl) (d := (some 5)) (by kernel_rfl) (fun b => rfl) (fun b1 w2 hb3 H4 K5 hs6 => ?_)
 have nb1 : w.heap.size ≤ b1 := by have := K0.size; omega
 replace K0 := K0.t0 K5
 clear K5 hs6
 refine od ?_
 refine qr_seq (by kernel_rfl) ?_
 refine qr_region Open.wide (by kernel_rfl) (by kernel_rfl) ?_
 refine Ops.call (by kernel_rfl) (d := (some 16)) (by kernel_rfl) (New_calls _) ?_
 rintro _ w10 ⟨b7, mb8, kb9, rfl, K11, H12, Hm13, Hk14, hb15, hb16, hb17, hb18, hb19, hb20⟩
 have lb7b1 : b1 < b7 := by have := H4.lt; omega
 have lmb8b1 : b1 < mb8 := by have := H4.lt; omega
 have lkb9b1 : b1 < kb9 := by have := H4.lt; omega
 have nb7 : w.heap.size ≤ b7 := by have := K0.size; omega
 have nmb8 : w.heap.size ≤ mb8 := by have := K0.size; omega
 have nkb9 : w.heap.size ≤ kb9 := by have := K0.size; omega
 refine ⟨_, _, rfl, rfl, ?_⟩
 replace K0 := K0.t0 K11
 replace H4 := H4.keep K11 (fun h => h)
 clear K11
 refine og 1 [(0, (Value.slice LA l.length lc)), (2, (Value.slice none 0 0)), (3, (Value.bool false)), (4, (i64 0)), (5, (ptr b1)), (17, (agg [(Value.slice none 0 0), (Value.int IntKind.u64 0), (i64 0), (ptr b7)]))] 2 ?_
 refine Ops.new (o := rowL [(Value.slice none 0 0), (Value.int IntKind.u64 0), (i64 0), (Value.pointer none)] 73) (V := fun b => (ptr b)) (by kernel_rfl) (d := (some 6)) (by kernel_rfl) (fun b => rfl) (fun b21 w22 hb23 H24 K25 hs26 => ?_)
 have lb21b1 : b1 < b21 := by have := H4.lt; omega
 have lb21b7 : b7 < b21 := by have := H12.lt; omega
 have lb21mb8 : mb8 < b21 := by have := Hm13.lt; omega
 have lb21kb9 : kb9 < b21 := by have := Hk14.lt; omega
 have nb21 : w.heap.size ≤ b21 := by have := K0.size; omega
 replace K0 := K0.t0 K25
 replace H4 := H4.keep K25 (fun h => h)
 replace H12 := H12.keep K25 (fun h => h)
 replace Hm13 := Hm13.keep K25 (fun h => h)
 replace Hk14 := Hk14.keep K25 (fun h => h)
 clear K25 hs26
 refine Ops.put (t := 73) (b := b21) (off := 0) (v := (agg [(Value.slice none 0 0), (Value.int IntKind.u64 0), (i64 0), (ptr b7)])) (ys := [(Value.slice none 0 0), (Value.int IntKind.u64 0), (i64 0), (ptr b7)]) (by kernel_rfl) (by kernel_rfl) H24 (by kernel_rfl) (d := none) (by kernel_rfl) rfl (fun w27 H28 K29 => ?_)
 clear H24
 replace K0 := K0.trans K29 (U := none_) (fun i h1 h2 => h2) (fun i h1 h2 => by have h2 : i = b21 := h2; exfalso; omega)
 replace H4 := H4.k1 K29 (by omega)
 replace H12 := H12.k1 K29 (by omega)
 replace Hm13 := Hm13.k1 K29 (by omega)
 replace Hk14 := Hk14.k1 K29 (by omega)
 clear K29
 refine od ?_
 refine qr_seq (by kernel_rfl) ?_
 refine qr_region Open.wide (by kernel_rfl) (by kernel_rfl) ?_
 refine og 1 [(0, (Value.slice LA l.length lc)), (2, (Value.slice none 0 0)), (3, (Value.bool false)), (4, (i64 0)), (5, (ptr b1)), (6, (ptr b21)), (7, (i64 0))] 1 ?_
 refine od ?_
 refine qr_seq (by kernel_rfl) ?_
 refine qr_seq (by kernel_rfl) ?_
 refine qr_region Open.wide (by kernel_rfl) (by kernel_rfl) ?_
 refine og 3 [(2, (Value.slice none 0 0)), (3, (Value.bool false)), (4, (i64 0)), (5, (ptr b1)), (6, (ptr b21)), (7, (i64 0)), (18, (Value.slice LA l.length lc)), (19, (i64 ((l.length : Nat) : Int))), (20, (i64 0))] 3 ?_
 refine od ?_
 refine qr_block (id := 0) (by kernel_rfl) ?_
 refine qr_keep (R := [(2, (Value.slice none 0 0)), (3, (Value.bool false)), (4, (i64 0)), (5, (ptr b1)), (6, (ptr b21)), (7, (i64 0)), (18, (Value.slice LA l.length lc)), (19, (i64 ((l.length : Nat) : Int))), (20, (i64 0))]) (by kernel_rfl) ?_
 refine qr_loop (fun (gs : Nat × (Option Addr) × Nat × (List HC) × (Option Addr) × Nat × (List Nat) × Nat × Int) (ds : List Deferred) L (wx : World) => match gs with | (ii, A1, c1, LX, A2, c2, nu, n, why) => ds = [] ∧ L = [(2, (Value.slice none 0 0)), (3, (Value.bool false)), (4, (i64 0)), (5, (ptr b1)), (6, (ptr b21)), (7, (i64 why)), (18, (Value.slice LA l.length lc)), (19, (i64 ((l.length : Nat) : Int))), (20, (i64 ((ii : Nat) : Int)))] ∧ OwnT wx w.heap.size 43 13 HC.cells ((Value.slice A1 LX.length c1)) LX ∧ (∀ i, ((Value.slice A1 LX.length c1)).ownBlock = some i → i ≠ b1) ∧ (∀ i, ((Value.slice A1 LX.length c1)).ownBlock = some i → i ≠ b7) ∧ (∀ i, ((Value.slice A1 LX.length c1)).ownBlock = some i → i ≠ mb8) ∧ (∀ i, ((Value.slice A1 LX.length c1)).ownBlock = some i → i ≠ kb9) ∧ (∀ i, ((Value.slice A1 LX.length c1)).ownBlock = some i → i ≠ b21) ∧ (∀ i, ((Value.slice A2 nu.length c2)).ownBlock = some i → ((Value.slice A1 LX.length c1)).ownBlock = some i → False) ∧ OwnT wx w.heap.size 3 1 iN ((Value.slice A2 nu.length c2)) nu ∧ (∀ i, ((Value.slice A2 nu.length c2)).ownBlock = some i → i ≠ b1) ∧ (∀ i, ((Value.slice A2 nu.length c2)).ownBlock = some i → i ≠ b7) ∧ (∀ i, ((Value.slice A2 nu.length c2)).ownBlock = some i → i ≠ mb8) ∧ (∀ i, ((Value.slice A2 nu.length c2)).ownBlock = some i → i ≠ kb9) ∧ (∀ i, ((Value.slice A2 nu.length c2)).ownBlock = some i → i ≠ b21) ∧ (∀ i, ((Value.slice A1 LX.length c1)).ownBlock = some i → ((Value.slice A2 nu.length c2)).ownBlock = some i → False) ∧ XS LX nu = lookedH ((l.map HC.c).take ii) ∧ nu.length = LX.length ∧ (∀ z ∈ LX, z ∈ l) ∧ n = (XS LX nu).countP (fun c => c.1.told) ∧ (why = if (XS LX nu).any (fun c => badH c.1) = true then 1 else 0) ∧ ii ≤ l.length ∧ LX.length ≤ ii ∧ Keeps none_ w wx ∧ Has wx b1 (rowL [(Value.slice A1 LX.length c1), (Value.slice A2 nu.length c2)] 68) ∧ Has wx b7 (rowL [(Value.map (some mb8)), (Value.map (some kb9))] 110) ∧ HasMap wx mb8 kstr ki64 [] ∧ HasMap wx kb9 kpair keptv (([] : List KeptM).map KeptM.kv) ∧ Has wx b21 (rowL [(Value.slice none 0 0), (Value.int IntKind.u64 0), (i64 ((n : Nat) : Int)), (ptr b7)] 73)) (fun (gs : Nat × (Option Addr) × Nat × (List HC) × (Option Addr) × Nat × (List Nat) × Nat × Int) => match gs with | (ii, A1, c1, LX, A2, c2, nu, n, why) => l.length - ii) (0, none, 0, [], none, 0, [], 0, 0) (by kernel_rfl) ⟨rfl, rfl, (OwnT.nil _ _ _ _ _), (fun i hi => by cases hi), (fun i hi => by cases hi), (fun i hi => by cases hi), (fun i hi => by cases hi), (fun i hi => by cases hi), (fun _ _ h => by cases h), (OwnT.nil _ _ _ _ _), (fun i hi => by cases hi), (fun i hi => by cases hi), (fun i hi => by cases hi), (fun i hi => by cases hi), (fun i hi => by cases hi), (fun _ _ h => by cases h), rfl, rfl, (fun z hz => by cases hz), rfl, rfl, Nat.zero_le _, Nat.zero_le _, K0, H4, H12, Hm13, Hk14, H28⟩ ?_
 clear H4 H12 Hm13 Hk14 H28 K0
 rintro ⟨ii, A1, c1, LX, A2, c2, nu, n, why⟩ _ _ w30 ⟨rfl, rfl, hOP, obPb1, obPb7, obPmb8, obPkb9, obPb21, ooPQ, hOQ, obQb1, obQb7, obQmb8, obQkb9, obQb21, ooQP, hX, hnl, hsub, hn, hw, hi, hLl, K31, H32, H33, H34, H35, H36⟩
 have hnle : n ≤ LX.length := by rw [hn]; exact Nat.le_trans List.countP_le_length (by rw [xs_len hnl]; exact Nat.le_refl _)
 refine qr_seq (by kernel_rfl) ?_
 refine qr_region Open.wide (by kernel_rfl) (by kernel_rfl) ?_
 refine og 1 [(2, (Value.slice none 0 0)), (3, (Value.bool false)), (4, (i64 0)), (5, (ptr b1)), (6, (ptr b21)), (7, (i64 why)), (18, (Value.slice LA l.length lc)), (19, (i64 ((l.length : Nat) : Int))), (20, (i64 ((ii : Nat) : Int))), (21, (Value.bool (decide (((ii : Nat) : Int) < ((l.length : Nat) : Int)))))] 1 ?_
 refine od ?_
 refine qr_seq (by kernel_rfl) ?_
 refine qr_cond (o := .tmp 21) (b := (decide (((ii : Nat) : Int) < ((l.length : Nat) : Int)))) (by kernel_rfl) rfl (fun h37 => ?_) (fun h37 => ?_)
 ·rw [h37]
  have p38 : ((ii : Nat) : Int) < ((l.length : Nat) : Int) := of_decide_eq_true h37
  refine qr_skip (by kernel_rfl) ?_
  refine qr_seq (by kernel_rfl) ?_
  refine qr_block (id := 1) (by kernel_rfl) ?_
  refine qr_seq (by kernel_rfl) ?_
  refine qr_region Open.wide (by kernel_rfl) (by kernel_rfl) ?_
  refine og 1 [(2, (Value.slice none 0 0)), (3, (Value.bool false)), (4, (i64 0)), (5, (ptr b1)), (6, (ptr b21)), (7, (i64 why)), (18, (Value.slice LA l.length lc)), (19, (i64 ((l.length : Nat) : Int))), (20, (i64 ((ii : Nat) : Int))), (22, (i64 ((ii : Nat) : Int)))] 1 ?_
  obtain ⟨x, hx⟩ : ∃ x, l[ii]? = some x := ⟨_, List.getElem?_eq_getElem (by omega)⟩
  obtain ⟨rb39, ro40, hA41⟩ := Rd.addr (Rd.keep0 (by decide) hL K31) (by omega)
  refine Ops.go (by kernel_rfl) (Runs.ixSliceE (k := IntKind.i64) (t := 33) (len := l.length) (cap := lc) (s := 13) (off' := ro40 + ii * 13) (i := ((ii : Nat) : Int)) hA41 (by kernel_rfl) (by kernel_rfl) (by omega) (by omega) (by omega)) (d := (some 23)) (by kernel_rfl) rfl ?_
  refine Ops.go (v := (agg [(i64 x.c.op.kind), (Value.string (str x.c.op.frm)), (Value.string (str x.c.op.to)), (i64 x.c.op.amount), (Value.string (str x.c.op.key)), (i64 x.c.op.slot), (i64 x.c.op.shard), (i64 x.c.bg), (i64 x.c.en), (Value.bool x.c.told), (i64 x.c.rep.why), (i64 x.c.rep.amount), (Value.slice x.A x.c.rep.rows.length x.k)])) (by kernel_rfl) (Runs.load (t := 43) (a := ⟨rb39, ro40 + ii * 13, none⟩) (by kernel_rfl) (RdT.ld (f := HC.cells) (x := x) HC.two (Rd.keep0 (by decide) hL K31) (by kernel_rfl) (by kernel_rfl) hA41 hx)) (d := (some 24)) (by kernel_rfl) rfl ?_
  refine Ops.new (o := rowL [(i64 0), (Value.string ByteArray.empty), (Value.string ByteArray.empty), (i64 0), (Value.string ByteArray.empty), (i64 0), (i64 0), (i64 0), (i64 0), (Value.bool false), (i64 0), (i64 0), (Value.slice none 0 0)] 43) (V := fun b => (ptr b)) (by kernel_rfl) (d := (some 9)) (by kernel_rfl) (fun b => rfl) (fun b42 w43 hb44 H45 K46 hs47 => ?_)
  have lb42b1 : b1 < b42 := by have := H32.lt; omega
  have lb42b7 : b7 < b42 := by have := H33.lt; omega
  have lb42mb8 : mb8 < b42 := by have := H34.lt; omega
  have lb42kb9 : kb9 < b42 := by have := H35.lt; omega
  have lb42b21 : b21 < b42 := by have := H36.lt; omega
  have nb42 : w.heap.size ≤ b42 := by have := K31.size; omega
  have ob48 : ∀ i, ((Value.slice A1 LX.length c1)).ownBlock = some i → i < b42 := fun i hi => by have := (World.ownsRow.lt hOP i hi).2; omega
  have ob49 : ∀ i, ((Value.slice A2 nu.length c2)).ownBlock = some i → i < b42 := fun i hi => by have := (World.ownsRow.lt hOQ i hi).2; omega
  replace K31 := K31.trans K46 (U := none_) (fun i h1 h2 => h2) (fun i h1 h2 => by exact h2)
  replace H32 := H32.keep K46 (fun h => h)
  replace H33 := H33.keep K46 (fun h => h)
  replace H34 := H34.keep K46 (fun h => h)
  replace H35 := H35.keep K46 (fun h => h)
  replace H36 := H36.keep K46 (fun h => h)
  replace hOP := own_keep0 hOP K46
  replace hOQ := own_keep0 hOQ K46
  clear K46 hs47
  refine og 1 [(2, (Value.slice none 0 0)), (3, (Value.bool false)), (4, (i64 0)), (5, (ptr b1)), (6, (ptr b21)), (7, (i64 why)), (8, (i64 ((ii : Nat) : Int))), (9, (ptr b42)), (18, (Value.slice LA l.length lc)), (19, (i64 ((l.length : Nat) : Int))), (20, (i64 ((ii : Nat) : Int))), (24, (agg [(i64 x.c.op.kind), (Value.string (str x.c.op.frm)), (Value.string (str x.c.op.to)), (i64 x.c.op.amount), (Value.string (str x.c.op.key)), (i64 x.c.op.slot), (i64 x.c.op.shard), (i64 x.c.bg), (i64 x.c.en), (Value.bool x.c.told), (i64 x.c.rep.why), (i64 x.c.rep.amount), (Value.slice x.A x.c.rep.rows.length x.k)]))] 5 ?_
  refine Ops.put (t := 43) (b := b42) (off := 0) (v := (agg [(i64 x.c.op.kind), (Value.string (str x.c.op.frm)), (Value.string (str x.c.op.to)), (i64 x.c.op.amount), (Value.string (str x.c.op.key)), (i64 x.c.op.slot), (i64 x.c.op.shard), (i64 x.c.bg), (i64 x.c.en), (Value.bool x.c.told), (i64 x.c.rep.why), (i64 x.c.rep.amount), (Value.slice x.A x.c.rep.rows.length x.k)])) (ys := [(i64 x.c.op.kind), (Value.string (str x.c.op.frm)), (Value.string (str x.c.op.to)), (i64 x.c.op.amount), (Value.string (str x.c.op.key)), (i64 x.c.op.slot), (i64 x.c.op.shard), (i64 x.c.bg), (i64 x.c.en), (Value.bool x.c.told), (i64 x.c.rep.why), (i64 x.c.rep.amount), (Value.slice x.A x.c.rep.rows.length x.k)]) (by kernel_rfl) (by kernel_rfl) H45 (by kernel_rfl) (d := none) (by kernel_rfl) rfl (fun w50 H51 K52 => ?_)
  clear H45
  replace K31 := K31.trans K52 (U := none_) (fun i h1 h2 => h2) (fun i h1 h2 => by have h2 : i = b42 := h2; exfalso; omega)
  replace H32 := H32.k1 K52 (by omega)
  replace H33 := H33.k1 K52 (by omega)
  replace H34 := H34.k1 K52 (by omega)
  replace H35 := H35.k1 K52 (by omega)
  replace H36 := H36.k1 K52 (by omega)
  replace hOP := own_keep hOP K52 (fun i hi => by have := ob48 i hi; omega)
  replace hOQ := own_keep hOQ K52 (fun i hi => by have := ob49 i hi; omega)
  clear K52
  refine od ?_
  refine qr_seq (by kernel_rfl) ?_
  refine qr_seq (by kernel_rfl) ?_
  refine qr_region Open.wide (by kernel_rfl) (by kernel_rfl) ?_
  refine Ops.go (v := (agg [(i64 x.c.op.kind), (Value.string (str x.c.op.frm)), (Value.string (str x.c.op.to)), (i64 x.c.op.amount), (Value.string (str x.c.op.key)), (i64 x.c.op.slot), (i64 x.c.op.shard), (i64 x.c.bg), (i64 x.c.en), (Value.bool x.c.told), (i64 x.c.rep.why), (i64 x.c.rep.amount), (Value.slice x.A x.c.rep.rows.length x.k)])) (by kernel_rfl) (Runs.load (t := 43) (a := ⟨b42, 0, none⟩) (by kernel_rfl) (H51.loads (by kernel_rfl))) (d := (some 25)) (by kernel_rfl) rfl ?_
  refine Ops.call (by kernel_rfl) (d := (some 26)) (by kernel_rfl) (countsP_calls _ x) ?_
  rintro _ w53 ⟨rfl, K54⟩
  refine ⟨_, _, rfl, rfl, ?_⟩
  replace K31 := K31.trans K54 (U := none_) (fun i h1 h2 => h2) (fun i h1 h2 => by exact h2)
  replace H32 := H32.keep K54 (fun h => h)
  replace H33 := H33.keep K54 (fun h => h)
  replace H34 := H34.keep K54 (fun h => h)
  replace H35 := H35.keep K54 (fun h => h)
  replace H36 := H36.keep K54 (fun h => h)
  replace H51 := H51.keep K54 (fun h => h)
  replace hOP := own_keep0 hOP K54
  replace hOQ := own_keep0 hOQ K54
  clear K54
  refine og 1 [(2, (Value.slice none 0 0)), (3, (Value.bool false)), (4, (i64 0)), (5, (ptr b1)), (6, (ptr b21)), (7, (i64 why)), (8, (i64 ((ii : Nat) : Int))), (9, (ptr b42)), (18, (Value.slice LA l.length lc)), (19, (i64 ((l.length : Nat) : Int))), (20, (i64 ((ii : Nat) : Int))), (27, (Value.bool (!(countsH x.c))))] 3 ?_
  refine od ?_
  refine qr_cond (o := .tmp 27) (b := (!(countsH x.c))) (by kernel_rfl) rfl (fun h55 => ?_) (fun h55 => ?_)
  ·rw [h55]
   have p56 : (countsH x.c) = false := (bnot_true h55)
   have hstep := looked_step (m := l.map HC.c) (i := ii) (c := x.c) (by rw [List.getElem?_map, hx]; rfl)
   have hcx : countsH x.c = false := (bnot_true h55)
   rw [hcx, if_neg (by decide), List.append_nil] at hstep
   refine qr_exit (id := 1) (by kernel_rfl) ?_
   refine qr_region Open.wide (by kernel_rfl) (by kernel_rfl) ?_
   refine og 1 [(2, (Value.slice none 0 0)), (3, (Value.bool false)), (4, (i64 0)), (5, (ptr b1)), (6, (ptr b21)), (7, (i64 why)), (18, (Value.slice LA l.length lc)), (19, (i64 ((l.length : Nat) : Int))), (20, (i64 ((ii : Nat) : Int))), (51, (i64 (IntKind.i64.wrap (((ii : Nat) : Int) + 1))))] 1 ?_
   have e57 : IntKind.i64.wrap (((ii : Nat) : Int) + 1) = ((ii + 1 : Nat) : Int) := by rw [wrap_i64 (by omega) (by omega)]; omega
   rw [e57]
   clear e57
   refine og 1 [(2, (Value.slice none 0 0)), (3, (Value.bool false)), (4, (i64 0)), (5, (ptr b1)), (6, (ptr b21)), (7, (i64 why)), (18, (Value.slice LA l.length lc)), (19, (i64 ((l.length : Nat) : Int))), (20, (i64 ((ii + 1 : Nat) : Int)))] 2 ?_
   refine Ops.keep (R := [(2, (Value.slice none 0 0)), (3, (Value.bool false)), (4, (i64 0)), (5, (ptr b1)), (6, (ptr b21)), (7, (i64 why)), (18, (Value.slice LA l.length lc)), (19, (i64 ((l.length : Nat) : Int))), (20, (i64 ((ii + 1 : Nat) : Int)))]) (by kernel_rfl) ?_
   refine od ?_
   exact ⟨(ii + 1, A1, c1, LX, A2, c2, nu, n, why), ⟨rfl, rfl, hOP, obPb1, obPb7, obPmb8, obPkb9, obPb21, ooPQ, hOQ, obQb1, obQb7, obQmb8, obQkb9, obQb21, ooQP, (by rw [hstep]; exact hX), hnl, hsub, hn, hw, (by omega), (by omega), K31, H32, H33, H34, H35, H36⟩, (show l.length - (ii + 1) < l.length - ii from by omega)⟩
  ·rw [h55]
   have p58 : (countsH x.c) = true := (bnot_false h55)
   have hstep := looked_step (m := l.map HC.c) (i := ii) (c := x.c) (by rw [List.getElem?_map, hx]; rfl)
   have hcx : countsH x.c = true := (bnot_false h55)
   rw [hcx, if_pos rfl] at hstep
   refine qr_skip (by kernel_rfl) ?_
   refine qr_seq (by kernel_rfl) ?_
   refine qr_drawS Open.wide 14 (by kernel_rfl) (by kernel_rfl) (by kernel_rfl) (by kernel_rfl) (fun w59 K60 _ _ => ?_)
   replace K31 := K31.trans K60 (U := none_) (fun i h1 h2 => h2) (fun i h1 h2 => by exact h2)
   replace H32 := H32.keep K60 (fun h => h)
   replace H33 := H33.keep K60 (fun h => h)
   replace H34 := H34.keep K60 (fun h => h)
   replace H35 := H35.keep K60 (fun h => h)
   replace H36 := H36.keep K60 (fun h => h)
   replace H51 := H51.keep K60 (fun h => h)
   replace hOP := own_keep0 hOP K60
   replace hOQ := own_keep0 hOQ K60
   clear K60
   have Kb61 : Keeps (fun i => i = b1 ∨ ((Value.slice A1 LX.length c1)).ownBlock = some i ∨ ((Value.slice A2 nu.length c2)).ownBlock = some i) w59 w59 := (Keeps.refl w59).mono (fun _ _ h => h.elim)
   refine ⟨fun wz => Keeps (fun i => i = b1 ∨ ((Value.slice A1 LX.length c1)).ownBlock = some i ∨ ((Value.slice A2 nu.length c2)).ownBlock = some i) w59 wz, [(11, fun wz => Loads Tryd.prog wz 33 ⟨b1, 0, none⟩ (Value.slice A1 LX.length c1)), (13, fun wz => Loads Tryd.prog wz 35 ⟨b1, 1, none⟩ (Value.slice A2 nu.length c2))], (SH.cons (SH.cons (SH.nil Kb61) (.inr (H32.loads (by kernel_rfl)))) (.inr (H32.loads (by kernel_rfl)))), ?_⟩
   refine DrS.takes (fuel' := 13) (is' := _) [0] [(2, (Value.slice none 0 0)), (3, (Value.bool false)), (4, (i64 0)), (5, (ptr b1)), (6, (ptr b21)), (7, (i64 why)), (8, (i64 ((ii : Nat) : Int))), (9, (ptr b42)), (18, (Value.slice LA l.length lc)), (19, (i64 ((l.length : Nat) : Int))), (20, (i64 ((ii : Nat) : Int))), (28, (ptr b1))] (by kernel_rfl) rfl (by kernel_rfl) ?_
   refine DrS.takeH (s := 11) (.head _) (i := 1) (v := (Value.slice A1 LX.length c1)) (by kernel_rfl) (by kernel_rfl) (by kernel_rfl) (fun wz hB hp => Runs.load (t := 33) (a := ⟨b1, 0, none⟩) (by kernel_rfl) hp) (d := (some 29)) (by kernel_rfl) rfl ?_
   refine DrS.take (i := 2) (v := (agg [(i64 x.c.op.kind), (Value.string (str x.c.op.frm)), (Value.string (str x.c.op.to)), (i64 x.c.op.amount), (Value.string (str x.c.op.key)), (i64 x.c.op.slot), (i64 x.c.op.shard), (i64 x.c.bg), (i64 x.c.en), (Value.bool x.c.told), (i64 x.c.rep.why), (i64 x.c.rep.amount), (Value.slice x.A x.c.rep.rows.length x.k)])) (by kernel_rfl) (by kernel_rfl) (fun wz hS => Runs.load (t := 43) (a := ⟨b42, 0, none⟩) (by kernel_rfl) ((H51.keep hS (by intro h; change b42 = b1 ∨ ((Value.slice A1 LX.length c1)).ownBlock = some b42 ∨ ((Value.slice A2 nu.length c2)).ownBlock = some b42 at h; rcases h with h | h | h; (omega); (have := ob48 b42 h; omega); (have := ob49 b42 h; omega))).loads (by kernel_rfl))) (d := (some 30)) (by kernel_rfl) rfl ?_
   refine DrS.takes (fuel' := 10) (is' := _) [5] [(2, (Value.slice none 0 0)), (3, (Value.bool false)), (4, (i64 0)), (5, (ptr b1)), (6, (ptr b21)), (7, (i64 why)), (8, (i64 ((ii : Nat) : Int))), (9, (ptr b42)), (18, (Value.slice LA l.length lc)), (19, (i64 ((l.length : Nat) : Int))), (20, (i64 ((ii : Nat) : Int))), (29, (Value.slice A1 LX.length c1)), (30, (agg [(i64 x.c.op.kind), (Value.string (str x.c.op.frm)), (Value.string (str x.c.op.to)), (i64 x.c.op.amount), (Value.string (str x.c.op.key)), (i64 x.c.op.slot), (i64 x.c.op.shard), (i64 x.c.bg), (i64 x.c.en), (Value.bool x.c.told), (i64 x.c.rep.why), (i64 x.c.rep.amount), (Value.slice x.A x.c.rep.rows.length x.k)])), (33, (Value.pointer (some ⟨b1, 1, none⟩)))] (by kernel_rfl) rfl (by kernel_rfl) ?_
   refine DrS.takeH (s := 13) (.tail _ (.head _)) (i := 6) (v := (Value.slice A2 nu.length c2)) (by kernel_rfl) (by kernel_rfl) (by kernel_rfl) (fun wz hB hp => Runs.load (t := 35) (a := ⟨b1, 1, none⟩) (by kernel_rfl) hp) (d := (some 34)) (by kernel_rfl) rfl ?_
   refine DrS.takes (fuel' := 8) (is' := _) [7] [(2, (Value.slice none 0 0)), (3, (Value.bool false)), (4, (i64 0)), (5, (ptr b1)), (6, (ptr b21)), (7, (i64 why)), (9, (ptr b42)), (18, (Value.slice LA l.length lc)), (19, (i64 ((l.length : Nat) : Int))), (20, (i64 ((ii : Nat) : Int))), (29, (Value.slice A1 LX.length c1)), (30, (agg [(i64 x.c.op.kind), (Value.string (str x.c.op.frm)), (Value.string (str x.c.op.to)), (i64 x.c.op.amount), (Value.string (str x.c.op.key)), (i64 x.c.op.slot), (i64 x.c.op.shard), (i64 x.c.bg), (i64 x.c.en), (Value.bool x.c.told), (i64 x.c.rep.why), (i64 x.c.rep.amount), (Value.slice x.A x.c.rep.rows.length x.k)])), (34, (Value.slice A2 nu.length c2)), (35, (i64 ((ii : Nat) : Int)))] (by kernel_rfl) rfl (by kernel_rfl) ?_
   refine DrS.two (i := 3) (j := 8) (by kernel_rfl) ?_ ?_
   ·skip
    refine Dr1.new (o := rowL [(i64 x.c.op.kind), (Value.string (str x.c.op.frm)), (Value.string (str x.c.op.to)), (i64 x.c.op.amount), (Value.string (str x.c.op.key)), (i64 x.c.op.slot), (i64 x.c.op.shard), (i64 x.c.bg), (i64 x.c.en), (Value.bool x.c.told), (i64 x.c.rep.why), (i64 x.c.rep.amount), (Value.slice x.A x.c.rep.rows.length x.k)] 43) (V := fun b => (Value.slice (some ⟨b, 0, none⟩) 1 1)) (by kernel_rfl) (d := (some 31)) (by kernel_rfl) (fun b => rfl) (fun b62 w63 hb64 H65 K66 hs67 => ?_)
    have lb62b1 : b1 < b62 := by have := H32.lt; omega
    have lb62b7 : b7 < b62 := by have := H33.lt; omega
    have lb62mb8 : mb8 < b62 := by have := H34.lt; omega
    have lb62kb9 : kb9 < b62 := by have := H35.lt; omega
    have lb62b21 : b21 < b62 := by have := H36.lt; omega
    have lb62b42 : b42 < b62 := by have := H51.lt; omega
    have nb62 : w.heap.size ≤ b62 := by have := K31.size; omega
    have ob68 : ∀ i, ((Value.slice A1 LX.length c1)).ownBlock = some i → i < b62 := fun i hi => by have := (World.ownsRow.lt hOP i hi).2; omega
    have ob69 : ∀ i, ((Value.slice A2 nu.length c2)).ownBlock = some i → i < b62 := fun i hi => by have := (World.ownsRow.lt hOQ i hi).2; omega
    have xb62 : w59.heap.size ≤ b62 := by have := Kb61.size; omega
    replace K31 := K31.trans K66 (U := none_) (fun i h1 h2 => h2) (fun i h1 h2 => by exact h2)
    replace H32 := H32.keep K66 (fun h => h)
    replace H33 := H33.keep K66 (fun h => h)
    replace H34 := H34.keep K66 (fun h => h)
    replace H35 := H35.keep K66 (fun h => h)
    replace H36 := H36.keep K66 (fun h => h)
    replace H51 := H51.keep K66 (fun h => h)
    replace hOP := own_keep0 hOP K66
    replace hOQ := own_keep0 hOQ K66
    have Kb70 := Kb61.trans K66 (U := (fun i => i = b1 ∨ ((Value.slice A1 LX.length c1)).ownBlock = some i ∨ ((Value.slice A2 nu.length c2)).ownBlock = some i)) (fun _ _ h => h) (fun i h1 h2 => by exact h2.elim)
    clear Kb61
    refine ⟨(SH.cons (SH.cons (SH.nil Kb70) (.inr (H32.loads (by kernel_rfl)))) (.inr (H32.loads (by kernel_rfl)))), ?_⟩
    clear K66 hs67
    refine DrS.two (i := 4) (j := 8) (by kernel_rfl) ?_ ?_
    ·skip
     obtain ⟨v71, w72, hr73, hO74, hK75, hg76⟩ := OwnT.app (ty := 33) HC.two HC.one tyH hOP (show RdT _ 13 HC.cells _ [x] from Rd.lit H65 (n := 1) rfl (by decide)) (by simp only [List.length_cons, List.length_nil]; omega) (by simp only [List.length_cons, List.length_nil]; omega) K31.size
     obtain ⟨A78, c79, rfl⟩ := RdT.form HC.two (by decide) (OwnT.rd hO74)
     have ob80 : ∀ i, ((Value.slice A78 ((LX ++ [x]).length) c79)).ownBlock = some i → i ≠ b1 := fun i hi => by rcases hg76 i hi with h | h; (have := obPb1 i h; omega); (have := H32.lt; omega)
     have ob81 : ∀ i, ((Value.slice A78 ((LX ++ [x]).length) c79)).ownBlock = some i → i ≠ b7 := fun i hi => by rcases hg76 i hi with h | h; (have := obPb7 i h; omega); (have := H33.lt; omega)
     have ob82 : ∀ i, ((Value.slice A78 ((LX ++ [x]).length) c79)).ownBlock = some i → i ≠ mb8 := fun i hi => by rcases hg76 i hi with h | h; (have := obPmb8 i h; omega); (have := H34.lt; omega)
     have ob83 : ∀ i, ((Value.slice A78 ((LX ++ [x]).length) c79)).ownBlock = some i → i ≠ kb9 := fun i hi => by rcases hg76 i hi with h | h; (have := obPkb9 i h; omega); (have := H35.lt; omega)
     have ob84 : ∀ i, ((Value.slice A78 ((LX ++ [x]).length) c79)).ownBlock = some i → i ≠ b21 := fun i hi => by rcases hg76 i hi with h | h; (have := obPb21 i h; omega); (have := H36.lt; omega)
     have ob85 : ∀ i, ((Value.slice A78 ((LX ++ [x]).length) c79)).ownBlock = some i → i ≠ b42 := fun i hi => by rcases hg76 i hi with h | h; (have := ob48 i h; omega); (have := H51.lt; omega)
     have ob86 : ∀ i, ((Value.slice A78 ((LX ++ [x]).length) c79)).ownBlock = some i → i ≠ b62 := fun i hi => by rcases hg76 i hi with h | h; (have := ob68 i h; omega); (have := H65.lt; omega)
     have oo87 : ∀ i, ((Value.slice A2 nu.length c2)).ownBlock = some i → ((Value.slice A78 ((LX ++ [x]).length) c79)).ownBlock = some i → False := fun i hi hs => by rcases hg76 i hs with h | h; (exact ooPQ i hi h); (have := (World.ownsRow.lt hOQ i hi).2; omega)
     have oo88 : ∀ i, ((Value.slice A78 ((LX ++ [x]).length) c79)).ownBlock = some i → ((Value.slice A2 nu.length c2)).ownBlock = some i → False := fun i hi hs => oo87 i hs hi
     have K77 := hK75
     replace K31 := K31.trans K77 (U := none_) (fun i h1 h2 => h2) (fun i h1 h2 => by have h2 : ((Value.slice A1 LX.length c1)).ownBlock = some i := h2; exfalso; have := (World.ownsRow.lt hOP i h2).1; omega)
     replace H32 := H32.keep K77 (by intro h; change ((Value.slice A1 LX.length c1)).ownBlock = some b1 at h; have := obPb1 b1 h; omega)
     replace H33 := H33.keep K77 (by intro h; change ((Value.slice A1 LX.length c1)).ownBlock = some b7 at h; have := obPb7 b7 h; omega)
     replace H34 := H34.keep K77 (by intro h; change ((Value.slice A1 LX.length c1)).ownBlock = some mb8 at h; have := obPmb8 mb8 h; omega)
     replace H35 := H35.keep K77 (by intro h; change ((Value.slice A1 LX.length c1)).ownBlock = some kb9 at h; have := obPkb9 kb9 h; omega)
     replace H36 := H36.keep K77 (by intro h; change ((Value.slice A1 LX.length c1)).ownBlock = some b21 at h; have := obPb21 b21 h; omega)
     replace H51 := H51.keep K77 (by intro h; change ((Value.slice A1 LX.length c1)).ownBlock = some b42 at h; have := ob48 b42 h; omega)
     replace H65 := H65.keep K77 (by intro h; change ((Value.slice A1 LX.length c1)).ownBlock = some b62 at h; have := ob68 b62 h; omega)
     clear hOP
     replace hOQ := own_keep hOQ K77 (fun i hi hs => by have hs : ((Value.slice A1 LX.length c1)).ownBlock = some i := hs; exact ooPQ i hi hs)
     have Kb89 := Kb70.trans K77 (U := (fun i => i = b1 ∨ ((Value.slice A1 LX.length c1)).ownBlock = some i ∨ ((Value.slice A2 nu.length c2)).ownBlock = some i)) (fun _ _ h => h) (fun i h1 h2 => by have h2 : ((Value.slice A1 LX.length c1)).ownBlock = some i := h2; exact .inr (.inl h2))
     clear Kb70
     refine Dr1.go (v := (Value.slice A78 ((LX ++ [x]).length) c79)) (by kernel_rfl) (Runs.append (ts := #[33, 33]) (ty := 33) (vs := [(Value.slice A1 LX.length c1), (Value.slice (some ⟨b62, 0, none⟩) 1 1)]) (by kernel_rfl) hr73) (d := (some 32)) (by kernel_rfl) rfl (SH.cons (SH.cons (SH.nil Kb89) (.inr (H32.loads (by kernel_rfl)))) (.inr (H32.loads (by kernel_rfl)))) ?_
     clear K77 hr73 hK75 hg76
     refine DrS.takes (fuel' := 5) (is' := _) [10] [(2, (Value.slice none 0 0)), (3, (Value.bool false)), (4, (i64 0)), (5, (ptr b1)), (6, (ptr b21)), (7, (i64 why)), (9, (ptr b42)), (18, (Value.slice LA l.length lc)), (19, (i64 ((l.length : Nat) : Int))), (20, (i64 ((ii : Nat) : Int))), (32, (Value.slice A78 ((LX ++ [x]).length) c79)), (34, (Value.slice A2 nu.length c2)), (35, (i64 ((ii : Nat) : Int))), (38, (ptr b1))] (by kernel_rfl) rfl (by kernel_rfl) ?_
     refine DrS.one (i := 8) (by kernel_rfl) ?_
     refine Dr1.new (o := rowL [(i64 ((ii : Nat) : Int))] 3) (V := fun b => (Value.slice (some ⟨b, 0, none⟩) 1 1)) (by kernel_rfl) (d := (some 36)) (by kernel_rfl) (fun b => rfl) (fun b90 w91 hb92 H93 K94 hs95 => ?_)
     have lb90b1 : b1 < b90 := by have := H32.lt; omega
     have lb90b7 : b7 < b90 := by have := H33.lt; omega
     have lb90mb8 : mb8 < b90 := by have := H34.lt; omega
     have lb90kb9 : kb9 < b90 := by have := H35.lt; omega
     have lb90b21 : b21 < b90 := by have := H36.lt; omega
     have lb90b42 : b42 < b90 := by have := H51.lt; omega
     have lb90b62 : b62 < b90 := by have := H65.lt; omega
     have nb90 : w.heap.size ≤ b90 := by have := K31.size; omega
     have ob96 : ∀ i, ((Value.slice A2 nu.length c2)).ownBlock = some i → i < b90 := fun i hi => by have := (World.ownsRow.lt hOQ i hi).2; omega
     have ob97 : ∀ i, ((Value.slice A78 ((LX ++ [x]).length) c79)).ownBlock = some i → i < b90 := fun i hi => by have := (World.ownsRow.lt hO74 i hi).2; omega
     have xb90 : w59.heap.size ≤ b90 := by have := Kb89.size; omega
     replace K31 := K31.trans K94 (U := none_) (fun i h1 h2 => h2) (fun i h1 h2 => by exact h2)
     replace H32 := H32.keep K94 (fun h => h)
     replace H33 := H33.keep K94 (fun h => h)
     replace H34 := H34.keep K94 (fun h => h)
     replace H35 := H35.keep K94 (fun h => h)
     replace H36 := H36.keep K94 (fun h => h)
     replace H51 := H51.keep K94 (fun h => h)
     replace H65 := H65.keep K94 (fun h => h)
     replace hOQ := own_keep0 hOQ K94
     replace hO74 := own_keep0 hO74 K94
     have Kb98 := Kb89.trans K94 (U := (fun i => i = b1 ∨ ((Value.slice A1 LX.length c1)).ownBlock = some i ∨ ((Value.slice A2 nu.length c2)).ownBlock = some i)) (fun _ _ h => h) (fun i h1 h2 => by exact h2.elim)
     clear Kb89
     refine ⟨(SH.cons (SH.cons (SH.nil Kb98) (.inr (H32.loads (by kernel_rfl)))) (.inr (H32.loads (by kernel_rfl)))), ?_⟩
     clear K94 hs95
     refine DrS.one (i := 9) (by kernel_rfl) ?_
     obtain ⟨v99, w100, hr101, hO102, hK103, hg104⟩ := OwnT.app (ty := 35) iN_one iN_cells tyI hOQ (show RdT _ 1 iN _ [ii] from Rd.lit H93 (n := 1) rfl (by decide)) (by simp only [List.length_cons, List.length_nil]; omega) (by simp only [List.length_cons, List.length_nil]; omega) K31.size
     obtain ⟨A106, c107, rfl⟩ := RdT.form iN_one (by decide) (OwnT.rd hO102)
     have ob108 : ∀ i, ((Value.slice A106 ((nu ++ [ii]).length) c107)).ownBlock = some i → i ≠ b1 := fun i hi => by rcases hg104 i hi with h | h; (have := obQb1 i h; omega); (have := H32.lt; omega)
     have ob109 : ∀ i, ((Value.slice A106 ((nu ++ [ii]).length) c107)).ownBlock = some i → i ≠ b7 := fun i hi => by rcases hg104 i hi with h | h; (have := obQb7 i h; omega); (have := H33.lt; omega)
     have ob110 : ∀ i, ((Value.slice A106 ((nu ++ [ii]).length) c107)).ownBlock = some i → i ≠ mb8 := fun i hi => by rcases hg104 i hi with h | h; (have := obQmb8 i h; omega); (have := H34.lt; omega)
     have ob111 : ∀ i, ((Value.slice A106 ((nu ++ [ii]).length) c107)).ownBlock = some i → i ≠ kb9 := fun i hi => by rcases hg104 i hi with h | h; (have := obQkb9 i h; omega); (have := H35.lt; omega)
     have ob112 : ∀ i, ((Value.slice A106 ((nu ++ [ii]).length) c107)).ownBlock = some i → i ≠ b21 := fun i hi => by rcases hg104 i hi with h | h; (have := obQb21 i h; omega); (have := H36.lt; omega)
     have ob113 : ∀ i, ((Value.slice A106 ((nu ++ [ii]).length) c107)).ownBlock = some i → i ≠ b42 := fun i hi => by rcases hg104 i hi with h | h; (have := ob49 i h; omega); (have := H51.lt; omega)
     have ob114 : ∀ i, ((Value.slice A106 ((nu ++ [ii]).length) c107)).ownBlock = some i → i ≠ b62 := fun i hi => by rcases hg104 i hi with h | h; (have := ob69 i h; omega); (have := H65.lt; omega)
     have ob115 : ∀ i, ((Value.slice A106 ((nu ++ [ii]).length) c107)).ownBlock = some i → i ≠ b90 := fun i hi => by rcases hg104 i hi with h | h; (have := ob96 i h; omega); (have := H93.lt; omega)
     have oo116 : ∀ i, ((Value.slice A78 ((LX ++ [x]).length) c79)).ownBlock = some i → ((Value.slice A106 ((nu ++ [ii]).length) c107)).ownBlock = some i → False := fun i hi hs => by rcases hg104 i hs with h | h; (exact oo88 i hi h); (have := (World.ownsRow.lt hO74 i hi).2; omega)
     have oo117 : ∀ i, ((Value.slice A106 ((nu ++ [ii]).length) c107)).ownBlock = some i → ((Value.slice A78 ((LX ++ [x]).length) c79)).ownBlock = some i → False := fun i hi hs => oo116 i hs hi
     have K105 := hK103
     replace K31 := K31.trans K105 (U := none_) (fun i h1 h2 => h2) (fun i h1 h2 => by have h2 : ((Value.slice A2 nu.length c2)).ownBlock = some i := h2; exfalso; have := (World.ownsRow.lt hOQ i h2).1; omega)
     replace H32 := H32.keep K105 (by intro h; change ((Value.slice A2 nu.length c2)).ownBlock = some b1 at h; have := obQb1 b1 h; omega)
     replace H33 := H33.keep K105 (by intro h; change ((Value.slice A2 nu.length c2)).ownBlock = some b7 at h; have := obQb7 b7 h; omega)
     replace H34 := H34.keep K105 (by intro h; change ((Value.slice A2 nu.length c2)).ownBlock = some mb8 at h; have := obQmb8 mb8 h; omega)
     replace H35 := H35.keep K105 (by intro h; change ((Value.slice A2 nu.length c2)).ownBlock = some kb9 at h; have := obQkb9 kb9 h; omega)
     replace H36 := H36.keep K105 (by intro h; change ((Value.slice A2 nu.length c2)).ownBlock = some b21 at h; have := obQb21 b21 h; omega)
     replace H51 := H51.keep K105 (by intro h; change ((Value.slice A2 nu.length c2)).ownBlock = some b42 at h; have := ob49 b42 h; omega)
     replace H65 := H65.keep K105 (by intro h; change ((Value.slice A2 nu.length c2)).ownBlock = some b62 at h; have := ob69 b62 h; omega)
     replace H93 := H93.keep K105 (by intro h; change ((Value.slice A2 nu.length c2)).ownBlock = some b90 at h; have := ob96 b90 h; omega)
     clear hOQ
     replace hO74 := own_keep hO74 K105 (fun i hi hs => by have hs : ((Value.slice A2 nu.length c2)).ownBlock = some i := hs; exact oo88 i hi hs)
     have Kb118 := Kb98.trans K105 (U := (fun i => i = b1 ∨ ((Value.slice A1 LX.length c1)).ownBlock = some i ∨ ((Value.slice A2 nu.length c2)).ownBlock = some i)) (fun _ _ h => h) (fun i h1 h2 => by have h2 : ((Value.slice A2 nu.length c2)).ownBlock = some i := h2; exact .inr (.inr (h2)))
     clear Kb98
     refine Dr1.go (v := (Value.slice A106 ((nu ++ [ii]).length) c107)) (by kernel_rfl) (Runs.append (ts := #[35, 35]) (ty := 35) (vs := [(Value.slice A2 nu.length c2), (Value.slice (some ⟨b90, 0, none⟩) 1 1)]) (by kernel_rfl) hr101) (d := (some 37)) (by kernel_rfl) rfl (SH.cons (SH.cons (SH.nil Kb118) (.inr (H32.loads (by kernel_rfl)))) (.inr (H32.loads (by kernel_rfl)))) ?_
     clear K105 hr101 hK103 hg104
     refine DrS.one (i := 11) (by kernel_rfl) ?_
     refine Dr1.put (t := 33) (b := b1) (off := 0) (v := (Value.slice A78 ((LX ++ [x]).length) c79)) (ys := [(Value.slice A78 ((LX ++ [x]).length) c79), (Value.slice A2 nu.length c2)]) (by kernel_rfl) (by kernel_rfl) H32 (by kernel_rfl) (d := none) (by kernel_rfl) rfl (fun w119 H120 K121 => ?_)
     clear H32
     replace K31 := K31.trans K121 (U := none_) (fun i h1 h2 => h2) (fun i h1 h2 => by have h2 : i = b1 := h2; exfalso; omega)
     replace H33 := H33.k1 K121 (by omega)
     replace H34 := H34.k1 K121 (by omega)
     replace H35 := H35.k1 K121 (by omega)
     replace H36 := H36.k1 K121 (by omega)
     replace H51 := H51.k1 K121 (by omega)
     replace H65 := H65.k1 K121 (by omega)
     replace H93 := H93.k1 K121 (by omega)
     replace hO74 := own_keep hO74 K121 (fun i hi => by have := ob80 i hi; omega)
     replace hO102 := own_keep hO102 K121 (fun i hi => by have := ob108 i hi; omega)
     have Kb122 := Kb118.trans K121 (U := (fun i => i = b1 ∨ ((Value.slice A1 LX.length c1)).ownBlock = some i ∨ ((Value.slice A2 nu.length c2)).ownBlock = some i)) (fun _ _ h => h) (fun i h1 h2 => by have h2 : i = b1 := h2; exact .inl h2)
     clear Kb118
     refine ⟨(SH.cons (SH.cons (SH.nil Kb122) (.inr (H120.loads (by kernel_rfl)))) (.inl (by kernel_rfl))), ?_⟩
     clear K121
     refine DrS.takes (fuel' := 1) (is' := _) [12] [(2, (Value.slice none 0 0)), (3, (Value.bool false)), (4, (i64 0)), (5, (ptr b1)), (6, (ptr b21)), (7, (i64 why)), (9, (ptr b42)), (18, (Value.slice LA l.length lc)), (19, (i64 ((l.length : Nat) : Int))), (20, (i64 ((ii : Nat) : Int))), (37, (Value.slice A106 ((nu ++ [ii]).length) c107)), (39, (Value.pointer (some ⟨b1, 1, none⟩)))] (by kernel_rfl) rfl (by kernel_rfl) ?_
     refine DrS.one (i := 13) (by kernel_rfl) ?_
     refine Dr1.put (t := 35) (b := b1) (off := 1) (v := (Value.slice A106 ((nu ++ [ii]).length) c107)) (ys := [(Value.slice A78 ((LX ++ [x]).length) c79), (Value.slice A106 ((nu ++ [ii]).length) c107)]) (by kernel_rfl) (by kernel_rfl) H120 (by kernel_rfl) (d := none) (by kernel_rfl) rfl (fun w123 H124 K125 => ?_)
     clear H120
     replace K31 := K31.trans K125 (U := none_) (fun i h1 h2 => h2) (fun i h1 h2 => by have h2 : i = b1 := h2; exfalso; omega)
     replace H33 := H33.k1 K125 (by omega)
     replace H34 := H34.k1 K125 (by omega)
     replace H35 := H35.k1 K125 (by omega)
     replace H36 := H36.k1 K125 (by omega)
     replace H51 := H51.k1 K125 (by omega)
     replace H65 := H65.k1 K125 (by omega)
     replace H93 := H93.k1 K125 (by omega)
     replace hO74 := own_keep hO74 K125 (fun i hi => by have := ob80 i hi; omega)
     replace hO102 := own_keep hO102 K125 (fun i hi => by have := ob108 i hi; omega)
     have Kb126 := Kb122.trans K125 (U := (fun i => i = b1 ∨ ((Value.slice A1 LX.length c1)).ownBlock = some i ∨ ((Value.slice A2 nu.length c2)).ownBlock = some i)) (fun _ _ h => h) (fun i h1 h2 => by have h2 : i = b1 := h2; exact .inl h2)
     clear Kb122
     refine ⟨(SH.cons (SH.cons (SH.nil Kb126) (.inl (by kernel_rfl))) (.inl (by kernel_rfl))), ?_⟩
     clear K125
     refine DrS.done (by kernel_rfl) ?_
     refine qr_seq (by kernel_rfl) ?_
     refine qr_region Open.wide (by kernel_rfl) (by kernel_rfl) ?_
     refine og 1 [(2, (Value.slice none 0 0)), (3, (Value.bool false)), (4, (i64 0)), (5, (ptr b1)), (6, (ptr b21)), (7, (i64 why)), (9, (ptr b42)), (18, (Value.slice LA l.length lc)), (19, (i64 ((l.length : Nat) : Int))), (20, (i64 ((ii : Nat) : Int))), (40, (Value.pointer (some ⟨b42, 9, none⟩)))] 1 ?_
     refine Ops.go (v := (Value.bool x.c.told)) (by kernel_rfl) (Runs.load (t := 4) (a := ⟨b42, 9, none⟩) (by kernel_rfl) (H51.loads (by kernel_rfl))) (d := (some 41)) (by kernel_rfl) rfl ?_
     refine od ?_
     refine qr_cond (o := .tmp 41) (b := x.c.told) (by kernel_rfl) rfl (fun h127 => ?_) (fun h127 => ?_)
     ·rw [h127]
      have p128 : x.c.told = true := h127
      refine qr_seq (by kernel_rfl) ?_
      refine qr_region Open.wide (by kernel_rfl) (by kernel_rfl) ?_
      refine og 1 [(2, (Value.slice none 0 0)), (3, (Value.bool false)), (4, (i64 0)), (5, (ptr b1)), (6, (ptr b21)), (7, (i64 why)), (9, (ptr b42)), (18, (Value.slice LA l.length lc)), (19, (i64 ((l.length : Nat) : Int))), (20, (i64 ((ii : Nat) : Int))), (42, (Value.pointer (some ⟨b21, 2, none⟩)))] 1 ?_
      refine Ops.go (v := (i64 ((n : Nat) : Int))) (by kernel_rfl) (Runs.load (t := 3) (a := ⟨b21, 2, none⟩) (by kernel_rfl) (H36.loads (by kernel_rfl))) (d := (some 43)) (by kernel_rfl) rfl ?_
      refine og 1 [(2, (Value.slice none 0 0)), (3, (Value.bool false)), (4, (i64 0)), (5, (ptr b1)), (6, (ptr b21)), (7, (i64 why)), (9, (ptr b42)), (18, (Value.slice LA l.length lc)), (19, (i64 ((l.length : Nat) : Int))), (20, (i64 ((ii : Nat) : Int))), (44, (i64 (IntKind.i64.wrap (((n : Nat) : Int) + 1))))] 3 ?_
      have e129 : IntKind.i64.wrap (((n : Nat) : Int) + 1) = ((n + 1 : Nat) : Int) := by rw [wrap_i64 (by omega) (by omega)]; omega
      rw [e129]
      clear e129
      refine og 1 [(2, (Value.slice none 0 0)), (3, (Value.bool false)), (4, (i64 0)), (5, (ptr b1)), (6, (ptr b21)), (7, (i64 why)), (9, (ptr b42)), (18, (Value.slice LA l.length lc)), (19, (i64 ((l.length : Nat) : Int))), (20, (i64 ((ii : Nat) : Int))), (44, (i64 ((n + 1 : Nat) : Int))), (45, (Value.pointer (some ⟨b21, 2, none⟩)))] 4 ?_
      refine Ops.put (t := 3) (b := b21) (off := 2) (v := (i64 ((n + 1 : Nat) : Int))) (ys := [(Value.slice none 0 0), (Value.int IntKind.u64 0), (i64 ((n + 1 : Nat) : Int)), (ptr b7)]) (by kernel_rfl) (by kernel_rfl) H36 (by kernel_rfl) (d := none) (by kernel_rfl) rfl (fun w130 H131 K132 => ?_)
      clear H36
      replace K31 := K31.trans K132 (U := none_) (fun i h1 h2 => h2) (fun i h1 h2 => by have h2 : i = b21 := h2; exfalso; omega)
      replace H124 := H124.k1 K132 (by omega)
      replace H33 := H33.k1 K132 (by omega)
      replace H34 := H34.k1 K132 (by omega)
      replace H35 := H35.k1 K132 (by omega)
      replace H51 := H51.k1 K132 (by omega)
      replace H65 := H65.k1 K132 (by omega)
      replace H93 := H93.k1 K132 (by omega)
      replace hO74 := own_keep hO74 K132 (fun i hi => by have := ob84 i hi; omega)
      replace hO102 := own_keep hO102 K132 (fun i hi => by have := ob112 i hi; omega)
      clear K132
      refine od ?_
      refine qr_seq (by kernel_rfl) ?_
      refine qr_region Open.wide (by kernel_rfl) (by kernel_rfl) ?_
      refine og 1 [(2, (Value.slice none 0 0)), (3, (Value.bool false)), (4, (i64 0)), (5, (ptr b1)), (6, (ptr b21)), (7, (i64 why)), (9, (ptr b42)), (18, (Value.slice LA l.length lc)), (19, (i64 ((l.length : Nat) : Int))), (20, (i64 ((ii : Nat) : Int))), (46, (Value.pointer (some ⟨b42, 8, none⟩)))] 1 ?_
      refine Ops.go (v := (i64 x.c.en)) (by kernel_rfl) (Runs.load (t := 3) (a := ⟨b42, 8, none⟩) (by kernel_rfl) (H51.loads (by kernel_rfl))) (d := (some 47)) (by kernel_rfl) rfl ?_
      refine og 1 [(2, (Value.slice none 0 0)), (3, (Value.bool false)), (4, (i64 0)), (5, (ptr b1)), (6, (ptr b21)), (7, (i64 why)), (18, (Value.slice LA l.length lc)), (19, (i64 ((l.length : Nat) : Int))), (20, (i64 ((ii : Nat) : Int))), (47, (i64 x.c.en)), (48, (Value.pointer (some ⟨b42, 7, none⟩)))] 3 ?_
      refine Ops.go (v := (i64 x.c.bg)) (by kernel_rfl) (Runs.load (t := 3) (a := ⟨b42, 7, none⟩) (by kernel_rfl) (H51.loads (by kernel_rfl))) (d := (some 49)) (by kernel_rfl) rfl ?_
      refine og 1 [(2, (Value.slice none 0 0)), (3, (Value.bool false)), (4, (i64 0)), (5, (ptr b1)), (6, (ptr b21)), (7, (i64 why)), (18, (Value.slice LA l.length lc)), (19, (i64 ((l.length : Nat) : Int))), (20, (i64 ((ii : Nat) : Int))), (50, (Value.bool (decide (x.c.en < x.c.bg))))] 5 ?_
      refine od ?_
      refine qr_cond (o := .tmp 50) (b := (decide (x.c.en < x.c.bg))) (by kernel_rfl) rfl (fun h133 => ?_) (fun h133 => ?_)
      ·rw [h133]
       have p134 : x.c.en < x.c.bg := of_decide_eq_true h133
       have hbx : badH x.c = true := by unfold badH; rw [h127, decide_eq_true (by omega)]; rfl
       refine qr_region Open.wide (by kernel_rfl) (by kernel_rfl) ?_
       refine og 1 [(2, (Value.slice none 0 0)), (3, (Value.bool false)), (4, (i64 0)), (5, (ptr b1)), (6, (ptr b21)), (7, (i64 1)), (18, (Value.slice LA l.length lc)), (19, (i64 ((l.length : Nat) : Int))), (20, (i64 ((ii : Nat) : Int)))] 1 ?_
       refine od ?_
       refine qr_region Open.wide (by kernel_rfl) (by kernel_rfl) ?_
       refine og 1 [(2, (Value.slice none 0 0)), (3, (Value.bool false)), (4, (i64 0)), (5, (ptr b1)), (6, (ptr b21)), (7, (i64 1)), (18, (Value.slice LA l.length lc)), (19, (i64 ((l.length : Nat) : Int))), (20, (i64 ((ii : Nat) : Int))), (51, (i64 (IntKind.i64.wrap (((ii : Nat) : Int) + 1))))] 1 ?_
       have e135 : IntKind.i64.wrap (((ii : Nat) : Int) + 1) = ((ii + 1 : Nat) : Int) := by rw [wrap_i64 (by omega) (by omega)]; omega
       rw [e135]
       clear e135
       refine og 1 [(2, (Value.slice none 0 0)), (3, (Value.bool false)), (4, (i64 0)), (5, (ptr b1)), (6, (ptr b21)), (7, (i64 1)), (18, (Value.slice LA l.length lc)), (19, (i64 ((l.length : Nat) : Int))), (20, (i64 ((ii + 1 : Nat) : Int)))] 2 ?_
       refine Ops.keep (R := [(2, (Value.slice none 0 0)), (3, (Value.bool false)), (4, (i64 0)), (5, (ptr b1)), (6, (ptr b21)), (7, (i64 1)), (18, (Value.slice LA l.length lc)), (19, (i64 ((l.length : Nat) : Int))), (20, (i64 ((ii + 1 : Nat) : Int)))]) (by kernel_rfl) ?_
       refine od ?_
       exact ⟨(ii + 1, A78, c79, (LX ++ [x]), A106, c107, (nu ++ [ii]), n + 1, 1), ⟨rfl, rfl, hO74, ob80, ob81, ob82, ob83, ob84, oo117, hO102, ob108, ob109, ob110, ob111, ob112, oo116, (by rw [xs_snoc hnl, hstep, hX]), (by rw [List.length_append, List.length_append, hnl]; rfl), (fun z hz => by rcases List.mem_append.1 hz with hz | hz; exact hsub z hz; rw [List.mem_singleton.1 hz]; exact List.mem_of_getElem? hx), (by rw [xs_snoc hnl, left_snoc, if_pos h127, ← hn]), (by rw [xs_snoc hnl, any_snoc, hbx, Bool.or_true]; rfl), (by omega), (by rw [List.length_append]; have : ([x] : List HC).length = 1 := rfl; omega), K31, H124, H33, H34, H35, H131⟩, (show l.length - (ii + 1) < l.length - ii from by omega)⟩
      ·rw [h133]
       have p136 : ¬ (x.c.en < x.c.bg) := of_decide_eq_false h133
       have hbx : badH x.c = false := by unfold badH; rw [h127, decide_eq_false (by omega)]; rfl
       refine qr_skip (by kernel_rfl) ?_
       refine qr_region Open.wide (by kernel_rfl) (by kernel_rfl) ?_
       refine og 1 [(2, (Value.slice none 0 0)), (3, (Value.bool false)), (4, (i64 0)), (5, (ptr b1)), (6, (ptr b21)), (7, (i64 why)), (18, (Value.slice LA l.length lc)), (19, (i64 ((l.length : Nat) : Int))), (20, (i64 ((ii : Nat) : Int))), (51, (i64 (IntKind.i64.wrap (((ii : Nat) : Int) + 1))))] 1 ?_
       have e137 : IntKind.i64.wrap (((ii : Nat) : Int) + 1) = ((ii + 1 : Nat) : Int) := by rw [wrap_i64 (by omega) (by omega)]; omega
       rw [e137]
       clear e137
       refine og 1 [(2, (Value.slice none 0 0)), (3, (Value.bool false)), (4, (i64 0)), (5, (ptr b1)), (6, (ptr b21)), (7, (i64 why)), (18, (Value.slice LA l.length lc)), (19, (i64 ((l.length : Nat) : Int))), (20, (i64 ((ii + 1 : Nat) : Int)))] 2 ?_
       refine Ops.keep (R := [(2, (Value.slice none 0 0)), (3, (Value.bool false)), (4, (i64 0)), (5, (ptr b1)), (6, (ptr b21)), (7, (i64 why)), (18, (Value.slice LA l.length lc)), (19, (i64 ((l.length : Nat) : Int))), (20, (i64 ((ii + 1 : Nat) : Int)))]) (by kernel_rfl) ?_
       refine od ?_
       exact ⟨(ii + 1, A78, c79, (LX ++ [x]), A106, c107, (nu ++ [ii]), n + 1, why), ⟨rfl, rfl, hO74, ob80, ob81, ob82, ob83, ob84, oo117, hO102, ob108, ob109, ob110, ob111, ob112, oo116, (by rw [xs_snoc hnl, hstep, hX]), (by rw [List.length_append, List.length_append, hnl]; rfl), (fun z hz => by rcases List.mem_append.1 hz with hz | hz; exact hsub z hz; rw [List.mem_singleton.1 hz]; exact List.mem_of_getElem? hx), (by rw [xs_snoc hnl, left_snoc, if_pos h127, ← hn]), (by rw [xs_snoc hnl, any_snoc, hbx, Bool.or_false]; exact hw), (by omega), (by rw [List.length_append]; have : ([x] : List HC).length = 1 := rfl; omega), K31, H124, H33, H34, H35, H131⟩, (show l.length - (ii + 1) < l.length - ii from by omega)⟩
     ·rw [h127]
      have p138 : x.c.told = false := h127
      have hbx : badH x.c = false := by unfold badH; rw [h127]; rfl
      refine qr_skip (by kernel_rfl) ?_
      refine qr_region Open.wide (by kernel_rfl) (by kernel_rfl) ?_
      refine og 1 [(2, (Value.slice none 0 0)), (3, (Value.bool false)), (4, (i64 0)), (5, (ptr b1)), (6, (ptr b21)), (7, (i64 why)), (18, (Value.slice LA l.length lc)), (19, (i64 ((l.length : Nat) : Int))), (20, (i64 ((ii : Nat) : Int))), (51, (i64 (IntKind.i64.wrap (((ii : Nat) : Int) + 1))))] 1 ?_
      have e139 : IntKind.i64.wrap (((ii : Nat) : Int) + 1) = ((ii + 1 : Nat) : Int) := by rw [wrap_i64 (by omega) (by omega)]; omega
      rw [e139]
      clear e139
      refine og 1 [(2, (Value.slice none 0 0)), (3, (Value.bool false)), (4, (i64 0)), (5, (ptr b1)), (6, (ptr b21)), (7, (i64 why)), (18, (Value.slice LA l.length lc)), (19, (i64 ((l.length : Nat) : Int))), (20, (i64 ((ii + 1 : Nat) : Int)))] 2 ?_
      refine Ops.keep (R := [(2, (Value.slice none 0 0)), (3, (Value.bool false)), (4, (i64 0)), (5, (ptr b1)), (6, (ptr b21)), (7, (i64 why)), (18, (Value.slice LA l.length lc)), (19, (i64 ((l.length : Nat) : Int))), (20, (i64 ((ii + 1 : Nat) : Int)))]) (by kernel_rfl) ?_
      refine od ?_
      exact ⟨(ii + 1, A78, c79, (LX ++ [x]), A106, c107, (nu ++ [ii]), n, why), ⟨rfl, rfl, hO74, ob80, ob81, ob82, ob83, ob84, oo117, hO102, ob108, ob109, ob110, ob111, ob112, oo116, (by rw [xs_snoc hnl, hstep, hX]), (by rw [List.length_append, List.length_append, hnl]; rfl), (fun z hz => by rcases List.mem_append.1 hz with hz | hz; exact hsub z hz; rw [List.mem_singleton.1 hz]; exact List.mem_of_getElem? hx), (by rw [xs_snoc hnl, left_snoc, if_neg (by rw [h127]; decide), ← hn]; exact (Nat.add_zero n).symm), (by rw [xs_snoc hnl, any_snoc, hbx, Bool.or_false]; exact hw), (by omega), (by rw [List.length_append]; have : ([x] : List HC).length = 1 := rfl; omega), K31, H124, H33, H34, H35, H36⟩, (show l.length - (ii + 1) < l.length - ii from by omega)⟩
    ·skip
     refine Dr1.new (o := rowL [(i64 ((ii : Nat) : Int))] 3) (V := fun b => (Value.slice (some ⟨b, 0, none⟩) 1 1)) (by kernel_rfl) (d := (some 36)) (by kernel_rfl) (fun b => rfl) (fun b140 w141 hb142 H143 K144 hs145 => ?_)
     have lb140b1 : b1 < b140 := by have := H32.lt; omega
     have lb140b7 : b7 < b140 := by have := H33.lt; omega
     have lb140mb8 : mb8 < b140 := by have := H34.lt; omega
     have lb140kb9 : kb9 < b140 := by have := H35.lt; omega
     have lb140b21 : b21 < b140 := by have := H36.lt; omega
     have lb140b42 : b42 < b140 := by have := H51.lt; omega
     have lb140b62 : b62 < b140 := by have := H65.lt; omega
     have nb140 : w.heap.size ≤ b140 := by have := K31.size; omega
     have ob146 : ∀ i, ((Value.slice A1 LX.length c1)).ownBlock = some i → i < b140 := fun i hi => by have := (World.ownsRow.lt hOP i hi).2; omega
     have ob147 : ∀ i, ((Value.slice A2 nu.length c2)).ownBlock = some i → i < b140 := fun i hi => by have := (World.ownsRow.lt hOQ i hi).2; omega
     have xb140 : w59.heap.size ≤ b140 := by have := Kb70.size; omega
     replace K31 := K31.trans K144 (U := none_) (fun i h1 h2 => h2) (fun i h1 h2 => by exact h2)
     replace H32 := H32.keep K144 (fun h => h)
     replace H33 := H33.keep K144 (fun h => h)
     replace H34 := H34.keep K144 (fun h => h)
     replace H35 := H35.keep K144 (fun h => h)
     replace H36 := H36.keep K144 (fun h => h)
     replace H51 := H51.keep K144 (fun h => h)
     replace H65 := H65.keep K144 (fun h => h)
     replace hOP := own_keep0 hOP K144
     replace hOQ := own_keep0 hOQ K144
     have Kb148 := Kb70.trans K144 (U := (fun i => i = b1 ∨ ((Value.slice A1 LX.length c1)).ownBlock = some i ∨ ((Value.slice A2 nu.length c2)).ownBlock = some i)) (fun _ _ h => h) (fun i h1 h2 => by exact h2.elim)
     clear Kb70
     refine ⟨(SH.cons (SH.cons (SH.nil Kb148) (.inr (H32.loads (by kernel_rfl)))) (.inr (H32.loads (by kernel_rfl)))), ?_⟩
     clear K144 hs145
     refine DrS.one (i := 4) (by kernel_rfl) ?_
     obtain ⟨v149, w150, hr151, hO152, hK153, hg154⟩ := OwnT.app (ty := 33) HC.two HC.one tyH hOP (show RdT _ 13 HC.cells _ [x] from Rd.lit H65 (n := 1) rfl (by decide)) (by simp only [List.length_cons, List.length_nil]; omega) (by simp only [List.length_cons, List.length_nil]; omega) K31.size
     obtain ⟨A156, c157, rfl⟩ := RdT.form HC.two (by decide) (OwnT.rd hO152)
     have ob158 : ∀ i, ((Value.slice A156 ((LX ++ [x]).length) c157)).ownBlock = some i → i ≠ b1 := fun i hi => by rcases hg154 i hi with h | h; (have := obPb1 i h; omega); (have := H32.lt; omega)
     have ob159 : ∀ i, ((Value.slice A156 ((LX ++ [x]).length) c157)).ownBlock = some i → i ≠ b7 := fun i hi => by rcases hg154 i hi with h | h; (have := obPb7 i h; omega); (have := H33.lt; omega)
     have ob160 : ∀ i, ((Value.slice A156 ((LX ++ [x]).length) c157)).ownBlock = some i → i ≠ mb8 := fun i hi => by rcases hg154 i hi with h | h; (have := obPmb8 i h; omega); (have := H34.lt; omega)
     have ob161 : ∀ i, ((Value.slice A156 ((LX ++ [x]).length) c157)).ownBlock = some i → i ≠ kb9 := fun i hi => by rcases hg154 i hi with h | h; (have := obPkb9 i h; omega); (have := H35.lt; omega)
     have ob162 : ∀ i, ((Value.slice A156 ((LX ++ [x]).length) c157)).ownBlock = some i → i ≠ b21 := fun i hi => by rcases hg154 i hi with h | h; (have := obPb21 i h; omega); (have := H36.lt; omega)
     have ob163 : ∀ i, ((Value.slice A156 ((LX ++ [x]).length) c157)).ownBlock = some i → i ≠ b42 := fun i hi => by rcases hg154 i hi with h | h; (have := ob48 i h; omega); (have := H51.lt; omega)
     have ob164 : ∀ i, ((Value.slice A156 ((LX ++ [x]).length) c157)).ownBlock = some i → i ≠ b62 := fun i hi => by rcases hg154 i hi with h | h; (have := ob68 i h; omega); (have := H65.lt; omega)
     have ob165 : ∀ i, ((Value.slice A156 ((LX ++ [x]).length) c157)).ownBlock = some i → i ≠ b140 := fun i hi => by rcases hg154 i hi with h | h; (have := ob146 i h; omega); (have := H143.lt; omega)
     have oo166 : ∀ i, ((Value.slice A2 nu.length c2)).ownBlock = some i → ((Value.slice A156 ((LX ++ [x]).length) c157)).ownBlock = some i → False := fun i hi hs => by rcases hg154 i hs with h | h; (exact ooPQ i hi h); (have := (World.ownsRow.lt hOQ i hi).2; omega)
     have oo167 : ∀ i, ((Value.slice A156 ((LX ++ [x]).length) c157)).ownBlock = some i → ((Value.slice A2 nu.length c2)).ownBlock = some i → False := fun i hi hs => oo166 i hs hi
     have K155 := hK153
     replace K31 := K31.trans K155 (U := none_) (fun i h1 h2 => h2) (fun i h1 h2 => by have h2 : ((Value.slice A1 LX.length c1)).ownBlock = some i := h2; exfalso; have := (World.ownsRow.lt hOP i h2).1; omega)
     replace H32 := H32.keep K155 (by intro h; change ((Value.slice A1 LX.length c1)).ownBlock = some b1 at h; have := obPb1 b1 h; omega)
     replace H33 := H33.keep K155 (by intro h; change ((Value.slice A1 LX.length c1)).ownBlock = some b7 at h; have := obPb7 b7 h; omega)
     replace H34 := H34.keep K155 (by intro h; change ((Value.slice A1 LX.length c1)).ownBlock = some mb8 at h; have := obPmb8 mb8 h; omega)
     replace H35 := H35.keep K155 (by intro h; change ((Value.slice A1 LX.length c1)).ownBlock = some kb9 at h; have := obPkb9 kb9 h; omega)
     replace H36 := H36.keep K155 (by intro h; change ((Value.slice A1 LX.length c1)).ownBlock = some b21 at h; have := obPb21 b21 h; omega)
     replace H51 := H51.keep K155 (by intro h; change ((Value.slice A1 LX.length c1)).ownBlock = some b42 at h; have := ob48 b42 h; omega)
     replace H65 := H65.keep K155 (by intro h; change ((Value.slice A1 LX.length c1)).ownBlock = some b62 at h; have := ob68 b62 h; omega)
     replace H143 := H143.keep K155 (by intro h; change ((Value.slice A1 LX.length c1)).ownBlock = some b140 at h; have := ob146 b140 h; omega)
     clear hOP
     replace hOQ := own_keep hOQ K155 (fun i hi hs => by have hs : ((Value.slice A1 LX.length c1)).ownBlock = some i := hs; exact ooPQ i hi hs)
     have Kb168 := Kb148.trans K155 (U := (fun i => i = b1 ∨ ((Value.slice A1 LX.length c1)).ownBlock = some i ∨ ((Value.slice A2 nu.length c2)).ownBlock = some i)) (fun _ _ h => h) (fun i h1 h2 => by have h2 : ((Value.slice A1 LX.length c1)).ownBlock = some i := h2; exact .inr (.inl h2))
     clear Kb148
     refine Dr1.go (v := (Value.slice A156 ((LX ++ [x]).length) c157)) (by kernel_rfl) (Runs.append (ts := #[33, 33]) (ty := 33) (vs := [(Value.slice A1 LX.length c1), (Value.slice (some ⟨b62, 0, none⟩) 1 1)]) (by kernel_rfl) hr151) (d := (some 32)) (by kernel_rfl) rfl (SH.cons (SH.cons (SH.nil Kb168) (.inr (H32.loads (by kernel_rfl)))) (.inr (H32.loads (by kernel_rfl)))) ?_
     clear K155 hr151 hK153 hg154
     refine DrS.takes (fuel' := 4) (is' := _) [10] [(2, (Value.slice none 0 0)), (3, (Value.bool false)), (4, (i64 0)), (5, (ptr b1)), (6, (ptr b21)), (7, (i64 why)), (9, (ptr b42)), (18, (Value.slice LA l.length lc)), (19, (i64 ((l.length : Nat) : Int))), (20, (i64 ((ii : Nat) : Int))), (32, (Value.slice A156 ((LX ++ [x]).length) c157)), (34, (Value.slice A2 nu.length c2)), (36, (Value.slice (some ⟨b140, 0, none⟩) 1 1)), (38, (ptr b1))] (by kernel_rfl) rfl (by kernel_rfl) ?_
     refine DrS.one (i := 9) (by kernel_rfl) ?_
     obtain ⟨v169, w170, hr171, hO172, hK173, hg174⟩ := OwnT.app (ty := 35) iN_one iN_cells tyI hOQ (show RdT _ 1 iN _ [ii] from Rd.lit H143 (n := 1) rfl (by decide)) (by simp only [List.length_cons, List.length_nil]; omega) (by simp only [List.length_cons, List.length_nil]; omega) K31.size
     obtain ⟨A176, c177, rfl⟩ := RdT.form iN_one (by decide) (OwnT.rd hO172)
     have ob178 : ∀ i, ((Value.slice A176 ((nu ++ [ii]).length) c177)).ownBlock = some i → i ≠ b1 := fun i hi => by rcases hg174 i hi with h | h; (have := obQb1 i h; omega); (have := H32.lt; omega)
     have ob179 : ∀ i, ((Value.slice A176 ((nu ++ [ii]).length) c177)).ownBlock = some i → i ≠ b7 := fun i hi => by rcases hg174 i hi with h | h; (have := obQb7 i h; omega); (have := H33.lt; omega)
     have ob180 : ∀ i, ((Value.slice A176 ((nu ++ [ii]).length) c177)).ownBlock = some i → i ≠ mb8 := fun i hi => by rcases hg174 i hi with h | h; (have := obQmb8 i h; omega); (have := H34.lt; omega)
     have ob181 : ∀ i, ((Value.slice A176 ((nu ++ [ii]).length) c177)).ownBlock = some i → i ≠ kb9 := fun i hi => by rcases hg174 i hi with h | h; (have := obQkb9 i h; omega); (have := H35.lt; omega)
     have ob182 : ∀ i, ((Value.slice A176 ((nu ++ [ii]).length) c177)).ownBlock = some i → i ≠ b21 := fun i hi => by rcases hg174 i hi with h | h; (have := obQb21 i h; omega); (have := H36.lt; omega)
     have ob183 : ∀ i, ((Value.slice A176 ((nu ++ [ii]).length) c177)).ownBlock = some i → i ≠ b42 := fun i hi => by rcases hg174 i hi with h | h; (have := ob49 i h; omega); (have := H51.lt; omega)
     have ob184 : ∀ i, ((Value.slice A176 ((nu ++ [ii]).length) c177)).ownBlock = some i → i ≠ b62 := fun i hi => by rcases hg174 i hi with h | h; (have := ob69 i h; omega); (have := H65.lt; omega)
     have ob185 : ∀ i, ((Value.slice A176 ((nu ++ [ii]).length) c177)).ownBlock = some i → i ≠ b140 := fun i hi => by rcases hg174 i hi with h | h; (have := ob147 i h; omega); (have := H143.lt; omega)
     have oo186 : ∀ i, ((Value.slice A156 ((LX ++ [x]).length) c157)).ownBlock = some i → ((Value.slice A176 ((nu ++ [ii]).length) c177)).ownBlock = some i → False := fun i hi hs => by rcases hg174 i hs with h | h; (exact oo167 i hi h); (have := (World.ownsRow.lt hO152 i hi).2; omega)
     have oo187 : ∀ i, ((Value.slice A176 ((nu ++ [ii]).length) c177)).ownBlock = some i → ((Value.slice A156 ((LX ++ [x]).length) c157)).ownBlock = some i → False := fun i hi hs => oo186 i hs hi
     have K175 := hK173
     replace K31 := K31.trans K175 (U := none_) (fun i h1 h2 => h2) (fun i h1 h2 => by have h2 : ((Value.slice A2 nu.length c2)).ownBlock = some i := h2; exfalso; have := (World.ownsRow.lt hOQ i h2).1; omega)
     replace H32 := H32.keep K175 (by intro h; change ((Value.slice A2 nu.length c2)).ownBlock = some b1 at h; have := obQb1 b1 h; omega)
     replace H33 := H33.keep K175 (by intro h; change ((Value.slice A2 nu.length c2)).ownBlock = some b7 at h; have := obQb7 b7 h; omega)
     replace H34 := H34.keep K175 (by intro h; change ((Value.slice A2 nu.length c2)).ownBlock = some mb8 at h; have := obQmb8 mb8 h; omega)
     replace H35 := H35.keep K175 (by intro h; change ((Value.slice A2 nu.length c2)).ownBlock = some kb9 at h; have := obQkb9 kb9 h; omega)
     replace H36 := H36.keep K175 (by intro h; change ((Value.slice A2 nu.length c2)).ownBlock = some b21 at h; have := obQb21 b21 h; omega)
     replace H51 := H51.keep K175 (by intro h; change ((Value.slice A2 nu.length c2)).ownBlock = some b42 at h; have := ob49 b42 h; omega)
     replace H65 := H65.keep K175 (by intro h; change ((Value.slice A2 nu.length c2)).ownBlock = some b62 at h; have := ob69 b62 h; omega)
     replace H143 := H143.keep K175 (by intro h; change ((Value.slice A2 nu.length c2)).ownBlock = some b140 at h; have := ob147 b140 h; omega)
     clear hOQ
     replace hO152 := own_keep hO152 K175 (fun i hi hs => by have hs : ((Value.slice A2 nu.length c2)).ownBlock = some i := hs; exact oo167 i hi hs)
     have Kb188 := Kb168.trans K175 (U := (fun i => i = b1 ∨ ((Value.slice A1 LX.length c1)).ownBlock = some i ∨ ((Value.slice A2 nu.length c2)).ownBlock = some i)) (fun _ _ h => h) (fun i h1 h2 => by have h2 : ((Value.slice A2 nu.length c2)).ownBlock = some i := h2; exact .inr (.inr (h2)))
     clear Kb168
     refine Dr1.go (v := (Value.slice A176 ((nu ++ [ii]).length) c177)) (by kernel_rfl) (Runs.append (ts := #[35, 35]) (ty := 35) (vs := [(Value.slice A2 nu.length c2), (Value.slice (some ⟨b140, 0, none⟩) 1 1)]) (by kernel_rfl) hr171) (d := (some 37)) (by kernel_rfl) rfl (SH.cons (SH.cons (SH.nil Kb188) (.inr (H32.loads (by kernel_rfl)))) (.inr (H32.loads (by kernel_rfl)))) ?_
     clear K175 hr171 hK173 hg174
     refine DrS.one (i := 11) (by kernel_rfl) ?_
     refine Dr1.put (t := 33) (b := b1) (off := 0) (v := (Value.slice A156 ((LX ++ [x]).length) c157)) (ys := [(Value.slice A156 ((LX ++ [x]).length) c157), (Value.slice A2 nu.length c2)]) (by kernel_rfl) (by kernel_rfl) H32 (by kernel_rfl) (d := none) (by kernel_rfl) rfl (fun w189 H190 K191 => ?_)
     clear H32
     replace K31 := K31.trans K191 (U := none_) (fun i h1 h2 => h2) (fun i h1 h2 => by have h2 : i = b1 := h2; exfalso; omega)
     replace H33 := H33.k1 K191 (by omega)
     replace H34 := H34.k1 K191 (by omega)
     replace H35 := H35.k1 K191 (by omega)
     replace H36 := H36.k1 K191 (by omega)
     replace H51 := H51.k1 K191 (by omega)
     replace H65 := H65.k1 K191 (by omega)
     replace H143 := H143.k1 K191 (by omega)
     replace hO152 := own_keep hO152 K191 (fun i hi => by have := ob158 i hi; omega)
     replace hO172 := own_keep hO172 K191 (fun i hi => by have := ob178 i hi; omega)
     have Kb192 := Kb188.trans K191 (U := (fun i => i = b1 ∨ ((Value.slice A1 LX.length c1)).ownBlock = some i ∨ ((Value.slice A2 nu.length c2)).ownBlock = some i)) (fun _ _ h => h) (fun i h1 h2 => by have h2 : i = b1 := h2; exact .inl h2)
     clear Kb188
     refine ⟨(SH.cons (SH.cons (SH.nil Kb192) (.inr (H190.loads (by kernel_rfl)))) (.inl (by kernel_rfl))), ?_⟩
     clear K191
     refine DrS.takes (fuel' := 1) (is' := _) [12] [(2, (Value.slice none 0 0)), (3, (Value.bool false)), (4, (i64 0)), (5, (ptr b1)), (6, (ptr b21)), (7, (i64 why)), (9, (ptr b42)), (18, (Value.slice LA l.length lc)), (19, (i64 ((l.length : Nat) : Int))), (20, (i64 ((ii : Nat) : Int))), (37, (Value.slice A176 ((nu ++ [ii]).length) c177)), (39, (Value.pointer (some ⟨b1, 1, none⟩)))] (by kernel_rfl) rfl (by kernel_rfl) ?_
     refine DrS.one (i := 13) (by kernel_rfl) ?_
     refine Dr1.put (t := 35) (b := b1) (off := 1) (v := (Value.slice A176 ((nu ++ [ii]).length) c177)) (ys := [(Value.slice A156 ((LX ++ [x]).length) c157), (Value.slice A176 ((nu ++ [ii]).length) c177)]) (by kernel_rfl) (by kernel_rfl) H190 (by kernel_rfl) (d := none) (by kernel_rfl) rfl (fun w193 H194 K195 => ?_)
     clear H190
     replace K31 := K31.trans K195 (U := none_) (fun i h1 h2 => h2) (fun i h1 h2 => by have h2 : i = b1 := h2; exfalso; omega)
     replace H33 := H33.k1 K195 (by omega)
     replace H34 := H34.k1 K195 (by omega)
     replace H35 := H35.k1 K195 (by omega)
     replace H36 := H36.k1 K195 (by omega)
     replace H51 := H51.k1 K195 (by omega)
     replace H65 := H65.k1 K195 (by omega)
     replace H143 := H143.k1 K195 (by omega)
     replace hO152 := own_keep hO152 K195 (fun i hi => by have := ob158 i hi; omega)
     replace hO172 := own_keep hO172 K195 (fun i hi => by have := ob178 i hi; omega)
     have Kb196 := Kb192.trans K195 (U := (fun i => i = b1 ∨ ((Value.slice A1 LX.length c1)).ownBlock = some i ∨ ((Value.slice A2 nu.length c2)).ownBlock = some i)) (fun _ _ h => h) (fun i h1 h2 => by have h2 : i = b1 := h2; exact .inl h2)
     clear Kb192
     refine ⟨(SH.cons (SH.cons (SH.nil Kb196) (.inl (by kernel_rfl))) (.inl (by kernel_rfl))), ?_⟩
     clear K195
     refine DrS.done (by kernel_rfl) ?_
     refine qr_seq (by kernel_rfl) ?_
     refine qr_region Open.wide (by kernel_rfl) (by kernel_rfl) ?_
     refine og 1 [(2, (Value.slice none 0 0)), (3, (Value.bool false)), (4, (i64 0)), (5, (ptr b1)), (6, (ptr b21)), (7, (i64 why)), (9, (ptr b42)), (18, (Value.slice LA l.length lc)), (19, (i64 ((l.length : Nat) : Int))), (20, (i64 ((ii : Nat) : Int))), (40, (Value.pointer (some ⟨b42, 9, none⟩)))] 1 ?_
     refine Ops.go (v := (Value.bool x.c.told)) (by kernel_rfl) (Runs.load (t := 4) (a := ⟨b42, 9, none⟩) (by kernel_rfl) (H51.loads (by kernel_rfl))) (d := (some 41)) (by kernel_rfl) rfl ?_
     refine od ?_
     refine qr_cond (o := .tmp 41) (b := x.c.told) (by kernel_rfl) rfl (fun h197 => ?_) (fun h197 => ?_)
     ·rw [h197]
      have p198 : x.c.told = true := h197
      refine qr_seq (by kernel_rfl) ?_
      refine qr_region Open.wide (by kernel_rfl) (by kernel_rfl) ?_
      refine og 1 [(2, (Value.slice none 0 0)), (3, (Value.bool false)), (4, (i64 0)), (5, (ptr b1)), (6, (ptr b21)), (7, (i64 why)), (9, (ptr b42)), (18, (Value.slice LA l.length lc)), (19, (i64 ((l.length : Nat) : Int))), (20, (i64 ((ii : Nat) : Int))), (42, (Value.pointer (some ⟨b21, 2, none⟩)))] 1 ?_
      refine Ops.go (v := (i64 ((n : Nat) : Int))) (by kernel_rfl) (Runs.load (t := 3) (a := ⟨b21, 2, none⟩) (by kernel_rfl) (H36.loads (by kernel_rfl))) (d := (some 43)) (by kernel_rfl) rfl ?_
      refine og 1 [(2, (Value.slice none 0 0)), (3, (Value.bool false)), (4, (i64 0)), (5, (ptr b1)), (6, (ptr b21)), (7, (i64 why)), (9, (ptr b42)), (18, (Value.slice LA l.length lc)), (19, (i64 ((l.length : Nat) : Int))), (20, (i64 ((ii : Nat) : Int))), (44, (i64 (IntKind.i64.wrap (((n : Nat) : Int) + 1))))] 3 ?_
      have e199 : IntKind.i64.wrap (((n : Nat) : Int) + 1) = ((n + 1 : Nat) : Int) := by rw [wrap_i64 (by omega) (by omega)]; omega
      rw [e199]
      clear e199
      refine og 1 [(2, (Value.slice none 0 0)), (3, (Value.bool false)), (4, (i64 0)), (5, (ptr b1)), (6, (ptr b21)), (7, (i64 why)), (9, (ptr b42)), (18, (Value.slice LA l.length lc)), (19, (i64 ((l.length : Nat) : Int))), (20, (i64 ((ii : Nat) : Int))), (44, (i64 ((n + 1 : Nat) : Int))), (45, (Value.pointer (some ⟨b21, 2, none⟩)))] 4 ?_
      refine Ops.put (t := 3) (b := b21) (off := 2) (v := (i64 ((n + 1 : Nat) : Int))) (ys := [(Value.slice none 0 0), (Value.int IntKind.u64 0), (i64 ((n + 1 : Nat) : Int)), (ptr b7)]) (by kernel_rfl) (by kernel_rfl) H36 (by kernel_rfl) (d := none) (by kernel_rfl) rfl (fun w200 H201 K202 => ?_)
      clear H36
      replace K31 := K31.trans K202 (U := none_) (fun i h1 h2 => h2) (fun i h1 h2 => by have h2 : i = b21 := h2; exfalso; omega)
      replace H194 := H194.k1 K202 (by omega)
      replace H33 := H33.k1 K202 (by omega)
      replace H34 := H34.k1 K202 (by omega)
      replace H35 := H35.k1 K202 (by omega)
      replace H51 := H51.k1 K202 (by omega)
      replace H65 := H65.k1 K202 (by omega)
      replace H143 := H143.k1 K202 (by omega)
      replace hO152 := own_keep hO152 K202 (fun i hi => by have := ob162 i hi; omega)
      replace hO172 := own_keep hO172 K202 (fun i hi => by have := ob182 i hi; omega)
      clear K202
      refine od ?_
      refine qr_seq (by kernel_rfl) ?_
      refine qr_region Open.wide (by kernel_rfl) (by kernel_rfl) ?_
      refine og 1 [(2, (Value.slice none 0 0)), (3, (Value.bool false)), (4, (i64 0)), (5, (ptr b1)), (6, (ptr b21)), (7, (i64 why)), (9, (ptr b42)), (18, (Value.slice LA l.length lc)), (19, (i64 ((l.length : Nat) : Int))), (20, (i64 ((ii : Nat) : Int))), (46, (Value.pointer (some ⟨b42, 8, none⟩)))] 1 ?_
      refine Ops.go (v := (i64 x.c.en)) (by kernel_rfl) (Runs.load (t := 3) (a := ⟨b42, 8, none⟩) (by kernel_rfl) (H51.loads (by kernel_rfl))) (d := (some 47)) (by kernel_rfl) rfl ?_
      refine og 1 [(2, (Value.slice none 0 0)), (3, (Value.bool false)), (4, (i64 0)), (5, (ptr b1)), (6, (ptr b21)), (7, (i64 why)), (18, (Value.slice LA l.length lc)), (19, (i64 ((l.length : Nat) : Int))), (20, (i64 ((ii : Nat) : Int))), (47, (i64 x.c.en)), (48, (Value.pointer (some ⟨b42, 7, none⟩)))] 3 ?_
      refine Ops.go (v := (i64 x.c.bg)) (by kernel_rfl) (Runs.load (t := 3) (a := ⟨b42, 7, none⟩) (by kernel_rfl) (H51.loads (by kernel_rfl))) (d := (some 49)) (by kernel_rfl) rfl ?_
      refine og 1 [(2, (Value.slice none 0 0)), (3, (Value.bool false)), (4, (i64 0)), (5, (ptr b1)), (6, (ptr b21)), (7, (i64 why)), (18, (Value.slice LA l.length lc)), (19, (i64 ((l.length : Nat) : Int))), (20, (i64 ((ii : Nat) : Int))), (50, (Value.bool (decide (x.c.en < x.c.bg))))] 5 ?_
      refine od ?_
      refine qr_cond (o := .tmp 50) (b := (decide (x.c.en < x.c.bg))) (by kernel_rfl) rfl (fun h203 => ?_) (fun h203 => ?_)
      ·rw [h203]
       have p204 : x.c.en < x.c.bg := of_decide_eq_true h203
       have hbx : badH x.c = true := by unfold badH; rw [h197, decide_eq_true (by omega)]; rfl
       refine qr_region Open.wide (by kernel_rfl) (by kernel_rfl) ?_
       refine og 1 [(2, (Value.slice none 0 0)), (3, (Value.bool false)), (4, (i64 0)), (5, (ptr b1)), (6, (ptr b21)), (7, (i64 1)), (18, (Value.slice LA l.length lc)), (19, (i64 ((l.length : Nat) : Int))), (20, (i64 ((ii : Nat) : Int)))] 1 ?_
       refine od ?_
       refine qr_region Open.wide (by kernel_rfl) (by kernel_rfl) ?_
       refine og 1 [(2, (Value.slice none 0 0)), (3, (Value.bool false)), (4, (i64 0)), (5, (ptr b1)), (6, (ptr b21)), (7, (i64 1)), (18, (Value.slice LA l.length lc)), (19, (i64 ((l.length : Nat) : Int))), (20, (i64 ((ii : Nat) : Int))), (51, (i64 (IntKind.i64.wrap (((ii : Nat) : Int) + 1))))] 1 ?_
       have e205 : IntKind.i64.wrap (((ii : Nat) : Int) + 1) = ((ii + 1 : Nat) : Int) := by rw [wrap_i64 (by omega) (by omega)]; omega
       rw [e205]
       clear e205
       refine og 1 [(2, (Value.slice none 0 0)), (3, (Value.bool false)), (4, (i64 0)), (5, (ptr b1)), (6, (ptr b21)), (7, (i64 1)), (18, (Value.slice LA l.length lc)), (19, (i64 ((l.length : Nat) : Int))), (20, (i64 ((ii + 1 : Nat) : Int)))] 2 ?_
       refine Ops.keep (R := [(2, (Value.slice none 0 0)), (3, (Value.bool false)), (4, (i64 0)), (5, (ptr b1)), (6, (ptr b21)), (7, (i64 1)), (18, (Value.slice LA l.length lc)), (19, (i64 ((l.length : Nat) : Int))), (20, (i64 ((ii + 1 : Nat) : Int)))]) (by kernel_rfl) ?_
       refine od ?_
       exact ⟨(ii + 1, A156, c157, (LX ++ [x]), A176, c177, (nu ++ [ii]), n + 1, 1), ⟨rfl, rfl, hO152, ob158, ob159, ob160, ob161, ob162, oo187, hO172, ob178, ob179, ob180, ob181, ob182, oo186, (by rw [xs_snoc hnl, hstep, hX]), (by rw [List.length_append, List.length_append, hnl]; rfl), (fun z hz => by rcases List.mem_append.1 hz with hz | hz; exact hsub z hz; rw [List.mem_singleton.1 hz]; exact List.mem_of_getElem? hx), (by rw [xs_snoc hnl, left_snoc, if_pos h197, ← hn]), (by rw [xs_snoc hnl, any_snoc, hbx, Bool.or_true]; rfl), (by omega), (by rw [List.length_append]; have : ([x] : List HC).length = 1 := rfl; omega), K31, H194, H33, H34, H35, H201⟩, (show l.length - (ii + 1) < l.length - ii from by omega)⟩
      ·rw [h203]
       have p206 : ¬ (x.c.en < x.c.bg) := of_decide_eq_false h203
       have hbx : badH x.c = false := by unfold badH; rw [h197, decide_eq_false (by omega)]; rfl
       refine qr_skip (by kernel_rfl) ?_
       refine qr_region Open.wide (by kernel_rfl) (by kernel_rfl) ?_
       refine og 1 [(2, (Value.slice none 0 0)), (3, (Value.bool false)), (4, (i64 0)), (5, (ptr b1)), (6, (ptr b21)), (7, (i64 why)), (18, (Value.slice LA l.length lc)), (19, (i64 ((l.length : Nat) : Int))), (20, (i64 ((ii : Nat) : Int))), (51, (i64 (IntKind.i64.wrap (((ii : Nat) : Int) + 1))))] 1 ?_
       have e207 : IntKind.i64.wrap (((ii : Nat) : Int) + 1) = ((ii + 1 : Nat) : Int) := by rw [wrap_i64 (by omega) (by omega)]; omega
       rw [e207]
       clear e207
       refine og 1 [(2, (Value.slice none 0 0)), (3, (Value.bool false)), (4, (i64 0)), (5, (ptr b1)), (6, (ptr b21)), (7, (i64 why)), (18, (Value.slice LA l.length lc)), (19, (i64 ((l.length : Nat) : Int))), (20, (i64 ((ii + 1 : Nat) : Int)))] 2 ?_
       refine Ops.keep (R := [(2, (Value.slice none 0 0)), (3, (Value.bool false)), (4, (i64 0)), (5, (ptr b1)), (6, (ptr b21)), (7, (i64 why)), (18, (Value.slice LA l.length lc)), (19, (i64 ((l.length : Nat) : Int))), (20, (i64 ((ii + 1 : Nat) : Int)))]) (by kernel_rfl) ?_
       refine od ?_
       exact ⟨(ii + 1, A156, c157, (LX ++ [x]), A176, c177, (nu ++ [ii]), n + 1, why), ⟨rfl, rfl, hO152, ob158, ob159, ob160, ob161, ob162, oo187, hO172, ob178, ob179, ob180, ob181, ob182, oo186, (by rw [xs_snoc hnl, hstep, hX]), (by rw [List.length_append, List.length_append, hnl]; rfl), (fun z hz => by rcases List.mem_append.1 hz with hz | hz; exact hsub z hz; rw [List.mem_singleton.1 hz]; exact List.mem_of_getElem? hx), (by rw [xs_snoc hnl, left_snoc, if_pos h197, ← hn]), (by rw [xs_snoc hnl, any_snoc, hbx, Bool.or_false]; exact hw), (by omega), (by rw [List.length_append]; have : ([x] : List HC).length = 1 := rfl; omega), K31, H194, H33, H34, H35, H201⟩, (show l.length - (ii + 1) < l.length - ii from by omega)⟩
     ·rw [h197]
      have p208 : x.c.told = false := h197
      have hbx : badH x.c = false := by unfold badH; rw [h197]; rfl
      refine qr_skip (by kernel_rfl) ?_
      refine qr_region Open.wide (by kernel_rfl) (by kernel_rfl) ?_
      refine og 1 [(2, (Value.slice none 0 0)), (3, (Value.bool false)), (4, (i64 0)), (5, (ptr b1)), (6, (ptr b21)), (7, (i64 why)), (18, (Value.slice LA l.length lc)), (19, (i64 ((l.length : Nat) : Int))), (20, (i64 ((ii : Nat) : Int))), (51, (i64 (IntKind.i64.wrap (((ii : Nat) : Int) + 1))))] 1 ?_
      have e209 : IntKind.i64.wrap (((ii : Nat) : Int) + 1) = ((ii + 1 : Nat) : Int) := by rw [wrap_i64 (by omega) (by omega)]; omega
      rw [e209]
      clear e209
      refine og 1 [(2, (Value.slice none 0 0)), (3, (Value.bool false)), (4, (i64 0)), (5, (ptr b1)), (6, (ptr b21)), (7, (i64 why)), (18, (Value.slice LA l.length lc)), (19, (i64 ((l.length : Nat) : Int))), (20, (i64 ((ii + 1 : Nat) : Int)))] 2 ?_
      refine Ops.keep (R := [(2, (Value.slice none 0 0)), (3, (Value.bool false)), (4, (i64 0)), (5, (ptr b1)), (6, (ptr b21)), (7, (i64 why)), (18, (Value.slice LA l.length lc)), (19, (i64 ((l.length : Nat) : Int))), (20, (i64 ((ii + 1 : Nat) : Int)))]) (by kernel_rfl) ?_
      refine od ?_
      exact ⟨(ii + 1, A156, c157, (LX ++ [x]), A176, c177, (nu ++ [ii]), n, why), ⟨rfl, rfl, hO152, ob158, ob159, ob160, ob161, ob162, oo187, hO172, ob178, ob179, ob180, ob181, ob182, oo186, (by rw [xs_snoc hnl, hstep, hX]), (by rw [List.length_append, List.length_append, hnl]; rfl), (fun z hz => by rcases List.mem_append.1 hz with hz | hz; exact hsub z hz; rw [List.mem_singleton.1 hz]; exact List.mem_of_getElem? hx), (by rw [xs_snoc hnl, left_snoc, if_neg (by rw [h197]; decide), ← hn]; exact (Nat.add_zero n).symm), (by rw [xs_snoc hnl, any_snoc, hbx, Bool.or_false]; exact hw), (by omega), (by rw [List.length_append]; have : ([x] : List HC).length = 1 := rfl; omega), K31, H194, H33, H34, H35, H36⟩, (show l.length - (ii + 1) < l.length - ii from by omega)⟩
   ·skip
    refine Dr1.new (o := rowL [(i64 ((ii : Nat) : Int))] 3) (V := fun b => (Value.slice (some ⟨b, 0, none⟩) 1 1)) (by kernel_rfl) (d := (some 36)) (by kernel_rfl) (fun b => rfl) (fun b210 w211 hb212 H213 K214 hs215 => ?_)
    have lb210b1 : b1 < b210 := by have := H32.lt; omega
    have lb210b7 : b7 < b210 := by have := H33.lt; omega
    have lb210mb8 : mb8 < b210 := by have := H34.lt; omega
    have lb210kb9 : kb9 < b210 := by have := H35.lt; omega
    have lb210b21 : b21 < b210 := by have := H36.lt; omega
    have lb210b42 : b42 < b210 := by have := H51.lt; omega
    have nb210 : w.heap.size ≤ b210 := by have := K31.size; omega
    have ob216 : ∀ i, ((Value.slice A1 LX.length c1)).ownBlock = some i → i < b210 := fun i hi => by have := (World.ownsRow.lt hOP i hi).2; omega
    have ob217 : ∀ i, ((Value.slice A2 nu.length c2)).ownBlock = some i → i < b210 := fun i hi => by have := (World.ownsRow.lt hOQ i hi).2; omega
    have xb210 : w59.heap.size ≤ b210 := by have := Kb61.size; omega
    replace K31 := K31.trans K214 (U := none_) (fun i h1 h2 => h2) (fun i h1 h2 => by exact h2)
    replace H32 := H32.keep K214 (fun h => h)
    replace H33 := H33.keep K214 (fun h => h)
    replace H34 := H34.keep K214 (fun h => h)
    replace H35 := H35.keep K214 (fun h => h)
    replace H36 := H36.keep K214 (fun h => h)
    replace H51 := H51.keep K214 (fun h => h)
    replace hOP := own_keep0 hOP K214
    replace hOQ := own_keep0 hOQ K214
    have Kb218 := Kb61.trans K214 (U := (fun i => i = b1 ∨ ((Value.slice A1 LX.length c1)).ownBlock = some i ∨ ((Value.slice A2 nu.length c2)).ownBlock = some i)) (fun _ _ h => h) (fun i h1 h2 => by exact h2.elim)
    clear Kb61
    refine ⟨(SH.cons (SH.cons (SH.nil Kb218) (.inr (H32.loads (by kernel_rfl)))) (.inr (H32.loads (by kernel_rfl)))), ?_⟩
    clear K214 hs215
    refine DrS.one (i := 3) (by kernel_rfl) ?_
    refine Dr1.new (o := rowL [(i64 x.c.op.kind), (Value.string (str x.c.op.frm)), (Value.string (str x.c.op.to)), (i64 x.c.op.amount), (Value.string (str x.c.op.key)), (i64 x.c.op.slot), (i64 x.c.op.shard), (i64 x.c.bg), (i64 x.c.en), (Value.bool x.c.told), (i64 x.c.rep.why), (i64 x.c.rep.amount), (Value.slice x.A x.c.rep.rows.length x.k)] 43) (V := fun b => (Value.slice (some ⟨b, 0, none⟩) 1 1)) (by kernel_rfl) (d := (some 31)) (by kernel_rfl) (fun b => rfl) (fun b219 w220 hb221 H222 K223 hs224 => ?_)
    have lb219b1 : b1 < b219 := by have := H32.lt; omega
    have lb219b7 : b7 < b219 := by have := H33.lt; omega
    have lb219mb8 : mb8 < b219 := by have := H34.lt; omega
    have lb219kb9 : kb9 < b219 := by have := H35.lt; omega
    have lb219b21 : b21 < b219 := by have := H36.lt; omega
    have lb219b42 : b42 < b219 := by have := H51.lt; omega
    have lb219b210 : b210 < b219 := by have := H213.lt; omega
    have nb219 : w.heap.size ≤ b219 := by have := K31.size; omega
    have ob225 : ∀ i, ((Value.slice A1 LX.length c1)).ownBlock = some i → i < b219 := fun i hi => by have := (World.ownsRow.lt hOP i hi).2; omega
    have ob226 : ∀ i, ((Value.slice A2 nu.length c2)).ownBlock = some i → i < b219 := fun i hi => by have := (World.ownsRow.lt hOQ i hi).2; omega
    have xb219 : w59.heap.size ≤ b219 := by have := Kb218.size; omega
    replace K31 := K31.trans K223 (U := none_) (fun i h1 h2 => h2) (fun i h1 h2 => by exact h2)
    replace H32 := H32.keep K223 (fun h => h)
    replace H33 := H33.keep K223 (fun h => h)
    replace H34 := H34.keep K223 (fun h => h)
    replace H35 := H35.keep K223 (fun h => h)
    replace H36 := H36.keep K223 (fun h => h)
    replace H51 := H51.keep K223 (fun h => h)
    replace H213 := H213.keep K223 (fun h => h)
    replace hOP := own_keep0 hOP K223
    replace hOQ := own_keep0 hOQ K223
    have Kb227 := Kb218.trans K223 (U := (fun i => i = b1 ∨ ((Value.slice A1 LX.length c1)).ownBlock = some i ∨ ((Value.slice A2 nu.length c2)).ownBlock = some i)) (fun _ _ h => h) (fun i h1 h2 => by exact h2.elim)
    clear Kb218
    refine ⟨(SH.cons (SH.cons (SH.nil Kb227) (.inr (H32.loads (by kernel_rfl)))) (.inr (H32.loads (by kernel_rfl)))), ?_⟩
    clear K223 hs224
    refine DrS.one (i := 4) (by kernel_rfl) ?_
    obtain ⟨v228, w229, hr230, hO231, hK232, hg233⟩ := OwnT.app (ty := 33) HC.two HC.one tyH hOP (show RdT _ 13 HC.cells _ [x] from Rd.lit H222 (n := 1) rfl (by decide)) (by simp only [List.length_cons, List.length_nil]; omega) (by simp only [List.length_cons, List.length_nil]; omega) K31.size
    obtain ⟨A235, c236, rfl⟩ := RdT.form HC.two (by decide) (OwnT.rd hO231)
    have ob237 : ∀ i, ((Value.slice A235 ((LX ++ [x]).length) c236)).ownBlock = some i → i ≠ b1 := fun i hi => by rcases hg233 i hi with h | h; (have := obPb1 i h; omega); (have := H32.lt; omega)
    have ob238 : ∀ i, ((Value.slice A235 ((LX ++ [x]).length) c236)).ownBlock = some i → i ≠ b7 := fun i hi => by rcases hg233 i hi with h | h; (have := obPb7 i h; omega); (have := H33.lt; omega)
    have ob239 : ∀ i, ((Value.slice A235 ((LX ++ [x]).length) c236)).ownBlock = some i → i ≠ mb8 := fun i hi => by rcases hg233 i hi with h | h; (have := obPmb8 i h; omega); (have := H34.lt; omega)
    have ob240 : ∀ i, ((Value.slice A235 ((LX ++ [x]).length) c236)).ownBlock = some i → i ≠ kb9 := fun i hi => by rcases hg233 i hi with h | h; (have := obPkb9 i h; omega); (have := H35.lt; omega)
    have ob241 : ∀ i, ((Value.slice A235 ((LX ++ [x]).length) c236)).ownBlock = some i → i ≠ b21 := fun i hi => by rcases hg233 i hi with h | h; (have := obPb21 i h; omega); (have := H36.lt; omega)
    have ob242 : ∀ i, ((Value.slice A235 ((LX ++ [x]).length) c236)).ownBlock = some i → i ≠ b42 := fun i hi => by rcases hg233 i hi with h | h; (have := ob48 i h; omega); (have := H51.lt; omega)
    have ob243 : ∀ i, ((Value.slice A235 ((LX ++ [x]).length) c236)).ownBlock = some i → i ≠ b210 := fun i hi => by rcases hg233 i hi with h | h; (have := ob216 i h; omega); (have := H213.lt; omega)
    have ob244 : ∀ i, ((Value.slice A235 ((LX ++ [x]).length) c236)).ownBlock = some i → i ≠ b219 := fun i hi => by rcases hg233 i hi with h | h; (have := ob225 i h; omega); (have := H222.lt; omega)
    have oo245 : ∀ i, ((Value.slice A2 nu.length c2)).ownBlock = some i → ((Value.slice A235 ((LX ++ [x]).length) c236)).ownBlock = some i → False := fun i hi hs => by rcases hg233 i hs with h | h; (exact ooPQ i hi h); (have := (World.ownsRow.lt hOQ i hi).2; omega)
    have oo246 : ∀ i, ((Value.slice A235 ((LX ++ [x]).length) c236)).ownBlock = some i → ((Value.slice A2 nu.length c2)).ownBlock = some i → False := fun i hi hs => oo245 i hs hi
    have K234 := hK232
    replace K31 := K31.trans K234 (U := none_) (fun i h1 h2 => h2) (fun i h1 h2 => by have h2 : ((Value.slice A1 LX.length c1)).ownBlock = some i := h2; exfalso; have := (World.ownsRow.lt hOP i h2).1; omega)
    replace H32 := H32.keep K234 (by intro h; change ((Value.slice A1 LX.length c1)).ownBlock = some b1 at h; have := obPb1 b1 h; omega)
    replace H33 := H33.keep K234 (by intro h; change ((Value.slice A1 LX.length c1)).ownBlock = some b7 at h; have := obPb7 b7 h; omega)
    replace H34 := H34.keep K234 (by intro h; change ((Value.slice A1 LX.length c1)).ownBlock = some mb8 at h; have := obPmb8 mb8 h; omega)
    replace H35 := H35.keep K234 (by intro h; change ((Value.slice A1 LX.length c1)).ownBlock = some kb9 at h; have := obPkb9 kb9 h; omega)
    replace H36 := H36.keep K234 (by intro h; change ((Value.slice A1 LX.length c1)).ownBlock = some b21 at h; have := obPb21 b21 h; omega)
    replace H51 := H51.keep K234 (by intro h; change ((Value.slice A1 LX.length c1)).ownBlock = some b42 at h; have := ob48 b42 h; omega)
    replace H213 := H213.keep K234 (by intro h; change ((Value.slice A1 LX.length c1)).ownBlock = some b210 at h; have := ob216 b210 h; omega)
    replace H222 := H222.keep K234 (by intro h; change ((Value.slice A1 LX.length c1)).ownBlock = some b219 at h; have := ob225 b219 h; omega)
    clear hOP
    replace hOQ := own_keep hOQ K234 (fun i hi hs => by have hs : ((Value.slice A1 LX.length c1)).ownBlock = some i := hs; exact ooPQ i hi hs)
    have Kb247 := Kb227.trans K234 (U := (fun i => i = b1 ∨ ((Value.slice A1 LX.length c1)).ownBlock = some i ∨ ((Value.slice A2 nu.length c2)).ownBlock = some i)) (fun _ _ h => h) (fun i h1 h2 => by have h2 : ((Value.slice A1 LX.length c1)).ownBlock = some i := h2; exact .inr (.inl h2))
    clear Kb227
    refine Dr1.go (v := (Value.slice A235 ((LX ++ [x]).length) c236)) (by kernel_rfl) (Runs.append (ts := #[33, 33]) (ty := 33) (vs := [(Value.slice A1 LX.length c1), (Value.slice (some ⟨b219, 0, none⟩) 1 1)]) (by kernel_rfl) hr230) (d := (some 32)) (by kernel_rfl) rfl (SH.cons (SH.cons (SH.nil Kb247) (.inr (H32.loads (by kernel_rfl)))) (.inr (H32.loads (by kernel_rfl)))) ?_
    clear K234 hr230 hK232 hg233
    refine DrS.takes (fuel' := 4) (is' := _) [10] [(2, (Value.slice none 0 0)), (3, (Value.bool false)), (4, (i64 0)), (5, (ptr b1)), (6, (ptr b21)), (7, (i64 why)), (9, (ptr b42)), (18, (Value.slice LA l.length lc)), (19, (i64 ((l.length : Nat) : Int))), (20, (i64 ((ii : Nat) : Int))), (32, (Value.slice A235 ((LX ++ [x]).length) c236)), (34, (Value.slice A2 nu.length c2)), (36, (Value.slice (some ⟨b210, 0, none⟩) 1 1)), (38, (ptr b1))] (by kernel_rfl) rfl (by kernel_rfl) ?_
    refine DrS.one (i := 9) (by kernel_rfl) ?_
    obtain ⟨v248, w249, hr250, hO251, hK252, hg253⟩ := OwnT.app (ty := 35) iN_one iN_cells tyI hOQ (show RdT _ 1 iN _ [ii] from Rd.lit H213 (n := 1) rfl (by decide)) (by simp only [List.length_cons, List.length_nil]; omega) (by simp only [List.length_cons, List.length_nil]; omega) K31.size
    obtain ⟨A255, c256, rfl⟩ := RdT.form iN_one (by decide) (OwnT.rd hO251)
    have ob257 : ∀ i, ((Value.slice A255 ((nu ++ [ii]).length) c256)).ownBlock = some i → i ≠ b1 := fun i hi => by rcases hg253 i hi with h | h; (have := obQb1 i h; omega); (have := H32.lt; omega)
    have ob258 : ∀ i, ((Value.slice A255 ((nu ++ [ii]).length) c256)).ownBlock = some i → i ≠ b7 := fun i hi => by rcases hg253 i hi with h | h; (have := obQb7 i h; omega); (have := H33.lt; omega)
    have ob259 : ∀ i, ((Value.slice A255 ((nu ++ [ii]).length) c256)).ownBlock = some i → i ≠ mb8 := fun i hi => by rcases hg253 i hi with h | h; (have := obQmb8 i h; omega); (have := H34.lt; omega)
    have ob260 : ∀ i, ((Value.slice A255 ((nu ++ [ii]).length) c256)).ownBlock = some i → i ≠ kb9 := fun i hi => by rcases hg253 i hi with h | h; (have := obQkb9 i h; omega); (have := H35.lt; omega)
    have ob261 : ∀ i, ((Value.slice A255 ((nu ++ [ii]).length) c256)).ownBlock = some i → i ≠ b21 := fun i hi => by rcases hg253 i hi with h | h; (have := obQb21 i h; omega); (have := H36.lt; omega)
    have ob262 : ∀ i, ((Value.slice A255 ((nu ++ [ii]).length) c256)).ownBlock = some i → i ≠ b42 := fun i hi => by rcases hg253 i hi with h | h; (have := ob49 i h; omega); (have := H51.lt; omega)
    have ob263 : ∀ i, ((Value.slice A255 ((nu ++ [ii]).length) c256)).ownBlock = some i → i ≠ b210 := fun i hi => by rcases hg253 i hi with h | h; (have := ob217 i h; omega); (have := H213.lt; omega)
    have ob264 : ∀ i, ((Value.slice A255 ((nu ++ [ii]).length) c256)).ownBlock = some i → i ≠ b219 := fun i hi => by rcases hg253 i hi with h | h; (have := ob226 i h; omega); (have := H222.lt; omega)
    have oo265 : ∀ i, ((Value.slice A235 ((LX ++ [x]).length) c236)).ownBlock = some i → ((Value.slice A255 ((nu ++ [ii]).length) c256)).ownBlock = some i → False := fun i hi hs => by rcases hg253 i hs with h | h; (exact oo246 i hi h); (have := (World.ownsRow.lt hO231 i hi).2; omega)
    have oo266 : ∀ i, ((Value.slice A255 ((nu ++ [ii]).length) c256)).ownBlock = some i → ((Value.slice A235 ((LX ++ [x]).length) c236)).ownBlock = some i → False := fun i hi hs => oo265 i hs hi
    have K254 := hK252
    replace K31 := K31.trans K254 (U := none_) (fun i h1 h2 => h2) (fun i h1 h2 => by have h2 : ((Value.slice A2 nu.length c2)).ownBlock = some i := h2; exfalso; have := (World.ownsRow.lt hOQ i h2).1; omega)
    replace H32 := H32.keep K254 (by intro h; change ((Value.slice A2 nu.length c2)).ownBlock = some b1 at h; have := obQb1 b1 h; omega)
    replace H33 := H33.keep K254 (by intro h; change ((Value.slice A2 nu.length c2)).ownBlock = some b7 at h; have := obQb7 b7 h; omega)
    replace H34 := H34.keep K254 (by intro h; change ((Value.slice A2 nu.length c2)).ownBlock = some mb8 at h; have := obQmb8 mb8 h; omega)
    replace H35 := H35.keep K254 (by intro h; change ((Value.slice A2 nu.length c2)).ownBlock = some kb9 at h; have := obQkb9 kb9 h; omega)
    replace H36 := H36.keep K254 (by intro h; change ((Value.slice A2 nu.length c2)).ownBlock = some b21 at h; have := obQb21 b21 h; omega)
    replace H51 := H51.keep K254 (by intro h; change ((Value.slice A2 nu.length c2)).ownBlock = some b42 at h; have := ob49 b42 h; omega)
    replace H213 := H213.keep K254 (by intro h; change ((Value.slice A2 nu.length c2)).ownBlock = some b210 at h; have := ob217 b210 h; omega)
    replace H222 := H222.keep K254 (by intro h; change ((Value.slice A2 nu.length c2)).ownBlock = some b219 at h; have := ob226 b219 h; omega)
    clear hOQ
    replace hO231 := own_keep hO231 K254 (fun i hi hs => by have hs : ((Value.slice A2 nu.length c2)).ownBlock = some i := hs; exact oo246 i hi hs)
    have Kb267 := Kb247.trans K254 (U := (fun i => i = b1 ∨ ((Value.slice A1 LX.length c1)).ownBlock = some i ∨ ((Value.slice A2 nu.length c2)).ownBlock = some i)) (fun _ _ h => h) (fun i h1 h2 => by have h2 : ((Value.slice A2 nu.length c2)).ownBlock = some i := h2; exact .inr (.inr (h2)))
    clear Kb247
    refine Dr1.go (v := (Value.slice A255 ((nu ++ [ii]).length) c256)) (by kernel_rfl) (Runs.append (ts := #[35, 35]) (ty := 35) (vs := [(Value.slice A2 nu.length c2), (Value.slice (some ⟨b210, 0, none⟩) 1 1)]) (by kernel_rfl) hr250) (d := (some 37)) (by kernel_rfl) rfl (SH.cons (SH.cons (SH.nil Kb267) (.inr (H32.loads (by kernel_rfl)))) (.inr (H32.loads (by kernel_rfl)))) ?_
    clear K254 hr250 hK252 hg253
    refine DrS.one (i := 11) (by kernel_rfl) ?_
    refine Dr1.put (t := 33) (b := b1) (off := 0) (v := (Value.slice A235 ((LX ++ [x]).length) c236)) (ys := [(Value.slice A235 ((LX ++ [x]).length) c236), (Value.slice A2 nu.length c2)]) (by kernel_rfl) (by kernel_rfl) H32 (by kernel_rfl) (d := none) (by kernel_rfl) rfl (fun w268 H269 K270 => ?_)
    clear H32
    replace K31 := K31.trans K270 (U := none_) (fun i h1 h2 => h2) (fun i h1 h2 => by have h2 : i = b1 := h2; exfalso; omega)
    replace H33 := H33.k1 K270 (by omega)
    replace H34 := H34.k1 K270 (by omega)
    replace H35 := H35.k1 K270 (by omega)
    replace H36 := H36.k1 K270 (by omega)
    replace H51 := H51.k1 K270 (by omega)
    replace H213 := H213.k1 K270 (by omega)
    replace H222 := H222.k1 K270 (by omega)
    replace hO231 := own_keep hO231 K270 (fun i hi => by have := ob237 i hi; omega)
    replace hO251 := own_keep hO251 K270 (fun i hi => by have := ob257 i hi; omega)
    have Kb271 := Kb267.trans K270 (U := (fun i => i = b1 ∨ ((Value.slice A1 LX.length c1)).ownBlock = some i ∨ ((Value.slice A2 nu.length c2)).ownBlock = some i)) (fun _ _ h => h) (fun i h1 h2 => by have h2 : i = b1 := h2; exact .inl h2)
    clear Kb267
    refine ⟨(SH.cons (SH.cons (SH.nil Kb271) (.inr (H269.loads (by kernel_rfl)))) (.inl (by kernel_rfl))), ?_⟩
    clear K270
    refine DrS.takes (fuel' := 1) (is' := _) [12] [(2, (Value.slice none 0 0)), (3, (Value.bool false)), (4, (i64 0)), (5, (ptr b1)), (6, (ptr b21)), (7, (i64 why)), (9, (ptr b42)), (18, (Value.slice LA l.length lc)), (19, (i64 ((l.length : Nat) : Int))), (20, (i64 ((ii : Nat) : Int))), (37, (Value.slice A255 ((nu ++ [ii]).length) c256)), (39, (Value.pointer (some ⟨b1, 1, none⟩)))] (by kernel_rfl) rfl (by kernel_rfl) ?_
    refine DrS.one (i := 13) (by kernel_rfl) ?_
    refine Dr1.put (t := 35) (b := b1) (off := 1) (v := (Value.slice A255 ((nu ++ [ii]).length) c256)) (ys := [(Value.slice A235 ((LX ++ [x]).length) c236), (Value.slice A255 ((nu ++ [ii]).length) c256)]) (by kernel_rfl) (by kernel_rfl) H269 (by kernel_rfl) (d := none) (by kernel_rfl) rfl (fun w272 H273 K274 => ?_)
    clear H269
    replace K31 := K31.trans K274 (U := none_) (fun i h1 h2 => h2) (fun i h1 h2 => by have h2 : i = b1 := h2; exfalso; omega)
    replace H33 := H33.k1 K274 (by omega)
    replace H34 := H34.k1 K274 (by omega)
    replace H35 := H35.k1 K274 (by omega)
    replace H36 := H36.k1 K274 (by omega)
    replace H51 := H51.k1 K274 (by omega)
    replace H213 := H213.k1 K274 (by omega)
    replace H222 := H222.k1 K274 (by omega)
    replace hO231 := own_keep hO231 K274 (fun i hi => by have := ob237 i hi; omega)
    replace hO251 := own_keep hO251 K274 (fun i hi => by have := ob257 i hi; omega)
    have Kb275 := Kb271.trans K274 (U := (fun i => i = b1 ∨ ((Value.slice A1 LX.length c1)).ownBlock = some i ∨ ((Value.slice A2 nu.length c2)).ownBlock = some i)) (fun _ _ h => h) (fun i h1 h2 => by have h2 : i = b1 := h2; exact .inl h2)
    clear Kb271
    refine ⟨(SH.cons (SH.cons (SH.nil Kb275) (.inl (by kernel_rfl))) (.inl (by kernel_rfl))), ?_⟩
    clear K274
    refine DrS.done (by kernel_rfl) ?_
    refine qr_seq (by kernel_rfl) ?_
    refine qr_region Open.wide (by kernel_rfl) (by kernel_rfl) ?_
    refine og 1 [(2, (Value.slice none 0 0)), (3, (Value.bool false)), (4, (i64 0)), (5, (ptr b1)), (6, (ptr b21)), (7, (i64 why)), (9, (ptr b42)), (18, (Value.slice LA l.length lc)), (19, (i64 ((l.length : Nat) : Int))), (20, (i64 ((ii : Nat) : Int))), (40, (Value.pointer (some ⟨b42, 9, none⟩)))] 1 ?_
    refine Ops.go (v := (Value.bool x.c.told)) (by kernel_rfl) (Runs.load (t := 4) (a := ⟨b42, 9, none⟩) (by kernel_rfl) (H51.loads (by kernel_rfl))) (d := (some 41)) (by kernel_rfl) rfl ?_
    refine od ?_
    refine qr_cond (o := .tmp 41) (b := x.c.told) (by kernel_rfl) rfl (fun h276 => ?_) (fun h276 => ?_)
    ·rw [h276]
     have p277 : x.c.told = true := h276
     refine qr_seq (by kernel_rfl) ?_
     refine qr_region Open.wide (by kernel_rfl) (by kernel_rfl) ?_
     refine og 1 [(2, (Value.slice none 0 0)), (3, (Value.bool false)), (4, (i64 0)), (5, (ptr b1)), (6, (ptr b21)), (7, (i64 why)), (9, (ptr b42)), (18, (Value.slice LA l.length lc)), (19, (i64 ((l.length : Nat) : Int))), (20, (i64 ((ii : Nat) : Int))), (42, (Value.pointer (some ⟨b21, 2, none⟩)))] 1 ?_
     refine Ops.go (v := (i64 ((n : Nat) : Int))) (by kernel_rfl) (Runs.load (t := 3) (a := ⟨b21, 2, none⟩) (by kernel_rfl) (H36.loads (by kernel_rfl))) (d := (some 43)) (by kernel_rfl) rfl ?_
     refine og 1 [(2, (Value.slice none 0 0)), (3, (Value.bool false)), (4, (i64 0)), (5, (ptr b1)), (6, (ptr b21)), (7, (i64 why)), (9, (ptr b42)), (18, (Value.slice LA l.length lc)), (19, (i64 ((l.length : Nat) : Int))), (20, (i64 ((ii : Nat) : Int))), (44, (i64 (IntKind.i64.wrap (((n : Nat) : Int) + 1))))] 3 ?_
     have e278 : IntKind.i64.wrap (((n : Nat) : Int) + 1) = ((n + 1 : Nat) : Int) := by rw [wrap_i64 (by omega) (by omega)]; omega
     rw [e278]
     clear e278
     refine og 1 [(2, (Value.slice none 0 0)), (3, (Value.bool false)), (4, (i64 0)), (5, (ptr b1)), (6, (ptr b21)), (7, (i64 why)), (9, (ptr b42)), (18, (Value.slice LA l.length lc)), (19, (i64 ((l.length : Nat) : Int))), (20, (i64 ((ii : Nat) : Int))), (44, (i64 ((n + 1 : Nat) : Int))), (45, (Value.pointer (some ⟨b21, 2, none⟩)))] 4 ?_
     refine Ops.put (t := 3) (b := b21) (off := 2) (v := (i64 ((n + 1 : Nat) : Int))) (ys := [(Value.slice none 0 0), (Value.int IntKind.u64 0), (i64 ((n + 1 : Nat) : Int)), (ptr b7)]) (by kernel_rfl) (by kernel_rfl) H36 (by kernel_rfl) (d := none) (by kernel_rfl) rfl (fun w279 H280 K281 => ?_)
     clear H36
     replace K31 := K31.trans K281 (U := none_) (fun i h1 h2 => h2) (fun i h1 h2 => by have h2 : i = b21 := h2; exfalso; omega)
     replace H273 := H273.k1 K281 (by omega)
     replace H33 := H33.k1 K281 (by omega)
     replace H34 := H34.k1 K281 (by omega)
     replace H35 := H35.k1 K281 (by omega)
     replace H51 := H51.k1 K281 (by omega)
     replace H213 := H213.k1 K281 (by omega)
     replace H222 := H222.k1 K281 (by omega)
     replace hO231 := own_keep hO231 K281 (fun i hi => by have := ob241 i hi; omega)
     replace hO251 := own_keep hO251 K281 (fun i hi => by have := ob261 i hi; omega)
     clear K281
     refine od ?_
     refine qr_seq (by kernel_rfl) ?_
     refine qr_region Open.wide (by kernel_rfl) (by kernel_rfl) ?_
     refine og 1 [(2, (Value.slice none 0 0)), (3, (Value.bool false)), (4, (i64 0)), (5, (ptr b1)), (6, (ptr b21)), (7, (i64 why)), (9, (ptr b42)), (18, (Value.slice LA l.length lc)), (19, (i64 ((l.length : Nat) : Int))), (20, (i64 ((ii : Nat) : Int))), (46, (Value.pointer (some ⟨b42, 8, none⟩)))] 1 ?_
     refine Ops.go (v := (i64 x.c.en)) (by kernel_rfl) (Runs.load (t := 3) (a := ⟨b42, 8, none⟩) (by kernel_rfl) (H51.loads (by kernel_rfl))) (d := (some 47)) (by kernel_rfl) rfl ?_
     refine og 1 [(2, (Value.slice none 0 0)), (3, (Value.bool false)), (4, (i64 0)), (5, (ptr b1)), (6, (ptr b21)), (7, (i64 why)), (18, (Value.slice LA l.length lc)), (19, (i64 ((l.length : Nat) : Int))), (20, (i64 ((ii : Nat) : Int))), (47, (i64 x.c.en)), (48, (Value.pointer (some ⟨b42, 7, none⟩)))] 3 ?_
     refine Ops.go (v := (i64 x.c.bg)) (by kernel_rfl) (Runs.load (t := 3) (a := ⟨b42, 7, none⟩) (by kernel_rfl) (H51.loads (by kernel_rfl))) (d := (some 49)) (by kernel_rfl) rfl ?_
     refine og 1 [(2, (Value.slice none 0 0)), (3, (Value.bool false)), (4, (i64 0)), (5, (ptr b1)), (6, (ptr b21)), (7, (i64 why)), (18, (Value.slice LA l.length lc)), (19, (i64 ((l.length : Nat) : Int))), (20, (i64 ((ii : Nat) : Int))), (50, (Value.bool (decide (x.c.en < x.c.bg))))] 5 ?_
     refine od ?_
     refine qr_cond (o := .tmp 50) (b := (decide (x.c.en < x.c.bg))) (by kernel_rfl) rfl (fun h282 => ?_) (fun h282 => ?_)
     ·rw [h282]
      have p283 : x.c.en < x.c.bg := of_decide_eq_true h282
      have hbx : badH x.c = true := by unfold badH; rw [h276, decide_eq_true (by omega)]; rfl
      refine qr_region Open.wide (by kernel_rfl) (by kernel_rfl) ?_
      refine og 1 [(2, (Value.slice none 0 0)), (3, (Value.bool false)), (4, (i64 0)), (5, (ptr b1)), (6, (ptr b21)), (7, (i64 1)), (18, (Value.slice LA l.length lc)), (19, (i64 ((l.length : Nat) : Int))), (20, (i64 ((ii : Nat) : Int)))] 1 ?_
      refine od ?_
      refine qr_region Open.wide (by kernel_rfl) (by kernel_rfl) ?_
      refine og 1 [(2, (Value.slice none 0 0)), (3, (Value.bool false)), (4, (i64 0)), (5, (ptr b1)), (6, (ptr b21)), (7, (i64 1)), (18, (Value.slice LA l.length lc)), (19, (i64 ((l.length : Nat) : Int))), (20, (i64 ((ii : Nat) : Int))), (51, (i64 (IntKind.i64.wrap (((ii : Nat) : Int) + 1))))] 1 ?_
      have e284 : IntKind.i64.wrap (((ii : Nat) : Int) + 1) = ((ii + 1 : Nat) : Int) := by rw [wrap_i64 (by omega) (by omega)]; omega
      rw [e284]
      clear e284
      refine og 1 [(2, (Value.slice none 0 0)), (3, (Value.bool false)), (4, (i64 0)), (5, (ptr b1)), (6, (ptr b21)), (7, (i64 1)), (18, (Value.slice LA l.length lc)), (19, (i64 ((l.length : Nat) : Int))), (20, (i64 ((ii + 1 : Nat) : Int)))] 2 ?_
      refine Ops.keep (R := [(2, (Value.slice none 0 0)), (3, (Value.bool false)), (4, (i64 0)), (5, (ptr b1)), (6, (ptr b21)), (7, (i64 1)), (18, (Value.slice LA l.length lc)), (19, (i64 ((l.length : Nat) : Int))), (20, (i64 ((ii + 1 : Nat) : Int)))]) (by kernel_rfl) ?_
      refine od ?_
      exact ⟨(ii + 1, A235, c236, (LX ++ [x]), A255, c256, (nu ++ [ii]), n + 1, 1), ⟨rfl, rfl, hO231, ob237, ob238, ob239, ob240, ob241, oo266, hO251, ob257, ob258, ob259, ob260, ob261, oo265, (by rw [xs_snoc hnl, hstep, hX]), (by rw [List.length_append, List.length_append, hnl]; rfl), (fun z hz => by rcases List.mem_append.1 hz with hz | hz; exact hsub z hz; rw [List.mem_singleton.1 hz]; exact List.mem_of_getElem? hx), (by rw [xs_snoc hnl, left_snoc, if_pos h276, ← hn]), (by rw [xs_snoc hnl, any_snoc, hbx, Bool.or_true]; rfl), (by omega), (by rw [List.length_append]; have : ([x] : List HC).length = 1 := rfl; omega), K31, H273, H33, H34, H35, H280⟩, (show l.length - (ii + 1) < l.length - ii from by omega)⟩
     ·rw [h282]
      have p285 : ¬ (x.c.en < x.c.bg) := of_decide_eq_false h282
      have hbx : badH x.c = false := by unfold badH; rw [h276, decide_eq_false (by omega)]; rfl
      refine qr_skip (by kernel_rfl) ?_
      refine qr_region Open.wide (by kernel_rfl) (by kernel_rfl) ?_
      refine og 1 [(2, (Value.slice none 0 0)), (3, (Value.bool false)), (4, (i64 0)), (5, (ptr b1)), (6, (ptr b21)), (7, (i64 why)), (18, (Value.slice LA l.length lc)), (19, (i64 ((l.length : Nat) : Int))), (20, (i64 ((ii : Nat) : Int))), (51, (i64 (IntKind.i64.wrap (((ii : Nat) : Int) + 1))))] 1 ?_
      have e286 : IntKind.i64.wrap (((ii : Nat) : Int) + 1) = ((ii + 1 : Nat) : Int) := by rw [wrap_i64 (by omega) (by omega)]; omega
      rw [e286]
      clear e286
      refine og 1 [(2, (Value.slice none 0 0)), (3, (Value.bool false)), (4, (i64 0)), (5, (ptr b1)), (6, (ptr b21)), (7, (i64 why)), (18, (Value.slice LA l.length lc)), (19, (i64 ((l.length : Nat) : Int))), (20, (i64 ((ii + 1 : Nat) : Int)))] 2 ?_
      refine Ops.keep (R := [(2, (Value.slice none 0 0)), (3, (Value.bool false)), (4, (i64 0)), (5, (ptr b1)), (6, (ptr b21)), (7, (i64 why)), (18, (Value.slice LA l.length lc)), (19, (i64 ((l.length : Nat) : Int))), (20, (i64 ((ii + 1 : Nat) : Int)))]) (by kernel_rfl) ?_
      refine od ?_
      exact ⟨(ii + 1, A235, c236, (LX ++ [x]), A255, c256, (nu ++ [ii]), n + 1, why), ⟨rfl, rfl, hO231, ob237, ob238, ob239, ob240, ob241, oo266, hO251, ob257, ob258, ob259, ob260, ob261, oo265, (by rw [xs_snoc hnl, hstep, hX]), (by rw [List.length_append, List.length_append, hnl]; rfl), (fun z hz => by rcases List.mem_append.1 hz with hz | hz; exact hsub z hz; rw [List.mem_singleton.1 hz]; exact List.mem_of_getElem? hx), (by rw [xs_snoc hnl, left_snoc, if_pos h276, ← hn]), (by rw [xs_snoc hnl, any_snoc, hbx, Bool.or_false]; exact hw), (by omega), (by rw [List.length_append]; have : ([x] : List HC).length = 1 := rfl; omega), K31, H273, H33, H34, H35, H280⟩, (show l.length - (ii + 1) < l.length - ii from by omega)⟩
    ·rw [h276]
     have p287 : x.c.told = false := h276
     have hbx : badH x.c = false := by unfold badH; rw [h276]; rfl
     refine qr_skip (by kernel_rfl) ?_
     refine qr_region Open.wide (by kernel_rfl) (by kernel_rfl) ?_
     refine og 1 [(2, (Value.slice none 0 0)), (3, (Value.bool false)), (4, (i64 0)), (5, (ptr b1)), (6, (ptr b21)), (7, (i64 why)), (18, (Value.slice LA l.length lc)), (19, (i64 ((l.length : Nat) : Int))), (20, (i64 ((ii : Nat) : Int))), (51, (i64 (IntKind.i64.wrap (((ii : Nat) : Int) + 1))))] 1 ?_
     have e288 : IntKind.i64.wrap (((ii : Nat) : Int) + 1) = ((ii + 1 : Nat) : Int) := by rw [wrap_i64 (by omega) (by omega)]; omega
     rw [e288]
     clear e288
     refine og 1 [(2, (Value.slice none 0 0)), (3, (Value.bool false)), (4, (i64 0)), (5, (ptr b1)), (6, (ptr b21)), (7, (i64 why)), (18, (Value.slice LA l.length lc)), (19, (i64 ((l.length : Nat) : Int))), (20, (i64 ((ii + 1 : Nat) : Int)))] 2 ?_
     refine Ops.keep (R := [(2, (Value.slice none 0 0)), (3, (Value.bool false)), (4, (i64 0)), (5, (ptr b1)), (6, (ptr b21)), (7, (i64 why)), (18, (Value.slice LA l.length lc)), (19, (i64 ((l.length : Nat) : Int))), (20, (i64 ((ii + 1 : Nat) : Int)))]) (by kernel_rfl) ?_
     refine od ?_
     exact ⟨(ii + 1, A235, c236, (LX ++ [x]), A255, c256, (nu ++ [ii]), n, why), ⟨rfl, rfl, hO231, ob237, ob238, ob239, ob240, ob241, oo266, hO251, ob257, ob258, ob259, ob260, ob261, oo265, (by rw [xs_snoc hnl, hstep, hX]), (by rw [List.length_append, List.length_append, hnl]; rfl), (fun z hz => by rcases List.mem_append.1 hz with hz | hz; exact hsub z hz; rw [List.mem_singleton.1 hz]; exact List.mem_of_getElem? hx), (by rw [xs_snoc hnl, left_snoc, if_neg (by rw [h276]; decide), ← hn]; exact (Nat.add_zero n).symm), (by rw [xs_snoc hnl, any_snoc, hbx, Bool.or_false]; exact hw), (by omega), (by rw [List.length_append]; have : ([x] : List HC).length = 1 := rfl; omega), K31, H273, H33, H34, H35, H36⟩, (show l.length - (ii + 1) < l.length - ii from by omega)⟩
 ·rw [h37]
  have p289 : ¬ (((ii : Nat) : Int) < ((l.length : Nat) : Int)) := of_decide_eq_false h37
  have hXm : XS LX nu = lookedH (l.map HC.c) := by rw [List.take_of_length_le (by rw [List.length_map]; omega)] at hX; exact hX
  refine qr_exit (id := 0) (by kernel_rfl) ?_
  refine qr_seq (by kernel_rfl) ?_
  refine qr_block (id := 2) (by kernel_rfl) ?_
  refine qr_seq (by kernel_rfl) ?_
  refine qr_region Open.wide (by kernel_rfl) (by kernel_rfl) ?_
  refine og 1 [(2, (Value.slice none 0 0)), (3, (Value.bool false)), (4, (i64 0)), (5, (ptr b1)), (6, (ptr b21)), (7, (i64 why)), (53, (ptr b1))] 1 ?_
  refine Ops.go (v := (Value.slice A1 LX.length c1)) (by kernel_rfl) (Runs.load (t := 33) (a := ⟨b1, 0, none⟩) (by kernel_rfl) (H32.loads (by kernel_rfl))) (d := (some 54)) (by kernel_rfl) rfl ?_
  refine og 3 [(2, (Value.slice none 0 0)), (3, (Value.bool false)), (4, (i64 0)), (5, (ptr b1)), (6, (ptr b21)), (7, (i64 why)), (52, (Value.bool (decide (((LX.length : Nat) : Int) > 8))))] 5 ?_
  refine od ?_
  refine qr_cond (o := .tmp 52) (b := (decide (((LX.length : Nat) : Int) > 8))) (by kernel_rfl) rfl (fun h290 => ?_) (fun h290 => ?_)
  ·rw [h290]
   have p291 : ((LX.length : Nat) : Int) > 8 := of_decide_eq_true h290
   refine qr_seq (by kernel_rfl) ?_
   refine qr_region Open.wide (by kernel_rfl) (by kernel_rfl) ?_
   refine og 3 [(2, (Value.slice none 0 0)), (3, (Value.bool false)), (4, (i64 3)), (5, (ptr b1)), (6, (ptr b21)), (7, (i64 why))] 3 ?_
   refine od ?_
   refine qr_ret (by kernel_rfl) ?_
   refine retR_none (v := (Value.tuple #[(Value.slice none 0 0), (Value.bool false), (i64 3)])) (retv_tmp3 rfl rfl rfl rfl) ?_
   exact ⟨[], none, 0, false, 3, rfl, K31, Rd.nil _ _, order_size (by rw [← hXm, xs_len hnl]; omega)⟩
  ·rw [h290]
   have p292 : ¬ (((LX.length : Nat) : Int) > 8) := of_decide_eq_false h290
   refine qr_seq (by kernel_rfl) ?_
   refine qr_region Open.wide (by kernel_rfl) (by kernel_rfl) ?_
   refine og 3 [(2, (Value.slice none 0 0)), (3, (Value.bool false)), (4, (i64 0)), (5, (ptr b1)), (6, (ptr b21)), (7, (i64 why)), (57, (Value.bool (why != 0)))] 3 ?_
   refine od ?_
   refine qr_cond (o := .tmp 57) (b := (why != 0)) (by kernel_rfl) rfl (fun h293 => ?_) (fun h293 => ?_)
   ·rw [h293]
    have p294 : ¬ (why = 0) := of_bne_t h293
    have hany : (XS LX nu).any (fun c => badH c.1) = true := by cases hq : (XS LX nu).any (fun c => badH c.1) with | true => rfl | false => rw [hq, if_neg (by decide)] at hw; omega
    refine qr_seq (by kernel_rfl) ?_
    refine qr_region Open.wide (by kernel_rfl) (by kernel_rfl) ?_
    refine og 4 [(2, (Value.slice none 0 0)), (3, (Value.bool false)), (4, (i64 why)), (5, (ptr b1)), (6, (ptr b21))] 4 ?_
    refine od ?_
    refine qr_ret (by kernel_rfl) ?_
    refine retR_none (v := (Value.tuple #[(Value.slice none 0 0), (Value.bool false), (i64 why)])) (retv_tmp3 rfl rfl rfl rfl) ?_
    have hw1 : why = 1 := by rw [hany, if_pos rfl] at hw; exact hw
    exact ⟨[], none, 0, false, why, rfl, K31, Rd.nil _ _, by rw [hw1]; exact order_bad (by rw [← hXm, xs_len hnl]; omega) (by rw [← hXm]; exact hany)⟩
   ·rw [h293]
    have p295 : why = 0 := of_bne_f h293
    have hany : (XS LX nu).any (fun c => badH c.1) = false := by cases hq : (XS LX nu).any (fun c => badH c.1) with | true => rw [hq, if_pos rfl] at hw; omega | false => rfl
    refine qr_skip (by kernel_rfl) ?_
    refine qr_keep (R := [(5, (ptr b1)), (6, (ptr b21))]) (by kernel_rfl) ?_
    obtain ⟨f0, R0, hf0, hrun0, hR0⟩ := order_end hXm hnl (fun c hc => by obtain ⟨z, hz, e⟩ := List.mem_map.1 hc; rw [← e]; exact ho z hz) (by omega) (by rw [← hXm]; exact hany)
    have hs0 : startH (XS LX nu) = StC.m (⟨[], none, 0, 0, ((n : Nat) : Int), b7, ([], [])⟩ : StC) := by unfold startH leftH StC.m; rw [← hn]
    have hnb : b7 ≠ mb8 ∧ b7 ≠ kb9 ∧ mb8 ≠ kb9 := by omega
    have hI0 : Imm w30 110 68 73 (fun i => i < w30.heap.size) b1 A1 c1 LX A2 c2 nu true (⟨[], none, 0, 0, ((n : Nat) : Int), b7, ([], [])⟩ : StC) b21 [(⟨[], none, 0, 0, ((n : Nat) : Int), b7, ([], [])⟩ : StC)] ([] : List Nat) := { pool := ⟨fun z hz => by rw [List.mem_singleton.1 hz]; exact ⟨Rd.nil _ _, fun i hi => (by cases hi), mb8, kb9, [], H33, H34, H35, hnb, LBook.nil, H33.lt, H34.lt, H35.lt⟩, fun i hi => hi⟩, h5 := H32, f5 := H32.lt, rl := OwnT.rd hOP, fl := fun i hi => (World.ownsRow.lt hOP i hi).2, ra := OwnT.rd hOQ, fa := fun i hi => (World.ownsRow.lt hOQ i hi).2, rows := ⟨G, ⟨fun z hz => (RowsE.keep hG K31 (fun _ _ h => h)).1 z (hsub z hz), fun z hz => hG.2.1 z (hsub z hz), (RowsE.keep hG K31 (fun _ _ h => h)).2.2⟩, (RowsE.keep hG K31 (fun _ _ h => h)).2.2⟩, tcell := fun _ => H36, ft := H36.lt, defs := DefsW.nil _, fd := fun D h => (by cases h) }
    exact Order_tail w w30 b1 b21 b7 f0 A1 c1 LX A2 c2 nu _ R0 _ K31 hI0 hnl (fun z hz => ho z (hsub z hz)) (by omega) (by rw [← hs0]; exact SrOk.start _) hf0 (by rw [← hs0]; exact hrun0) (fun e w' ⟨o, A, c, ok, he, hk, hr, hR⟩ => ⟨o, A, c, ok, 0, he, hk, hr, hR0 o ok hR⟩)
end Go.Proofs.YtnbcghbgeiocbaaDoor
namespace Go.Proofs.YtnbcghbgeiocbaaDoor
open Go.Q Go.RowKit

theorem Linear_calls (w : World) (LA : Option Addr) (lc : Nat) (l : List HC) (G : Nat → Prop) (hL : RdT w 13 HC.cells (Value.slice LA l.length lc) l) (hG : RowsE w HC.rv HC.rows G l) (ho : ∀ x ∈ l, -9223372036854775808 ≤ x.c.op.amount ∧ x.c.op.amount ≤ 9223372036854775807) (hl : l.length ≤ 2000) : Calls Tryd.prog 14 ⟨[(Value.slice LA l.length lc)]⟩ w (fun e w' => ∃ (ok : Bool) (why : Int), e = .returned (.tuple #[.bool ok, i64 why]) ∧ Keeps none_ w w' ∧ (ok, why) = (orderH (l.map HC.c)).2) := by
 have K0 : Keeps none_ w w := Keeps.refl w
 refine q_calls Tryd.func14 (by kernel_rfl) (by kernel_rfl) ?_
 refine qs ?_
 refine qg ?_
 refine og 2 [(0, (Value.slice LA l.length lc)), (2, (Value.bool false)), (3, (i64 0))] 2 ?_
 refine od ?_
 refine qs ?_
 refine qg ?_
 refine og 1 [(2, (Value.bool false)), (3, (i64 0)), (8, (Value.slice LA l.length lc))] 1 ?_
 refine Ops.call (by kernel_rfl) (d := (some 9)) (by kernel_rfl) (Order_calls _ LA lc l G (Rd.keep0 (by decide) hL K0) (RowsE.keep hG K0 (fun _ _ h => h)) ho hl) ?_
 rintro _ w7 ⟨o1, A2, c3, ok4, why5, rfl, K6, hR8, hE9⟩
 refine ⟨_, _, rfl, rfl, ?_⟩
 replace K0 := K0.t0 K6
 clear K6
 refine og 7 [(2, (Value.bool false)), (3, (i64 0)), (5, (Value.bool ok4)), (6, (i64 why5))] 9 ?_
 refine od ?_
 refine qs ?_
 refine qg ?_
 refine og 4 [(2, (Value.bool ok4)), (3, (i64 why5))] 4 ?_
 refine od ?_
 refine q_ret (by kernel_rfl) ?_
 refine ⟨(Value.tuple #[(Value.bool ok4), (i64 why5)]), retv_tmp2 rfl rfl rfl, ?_⟩
 exact ⟨ok4, why5, rfl, K0, by rw [← hE9]⟩
end Go.Proofs.YtnbcghbgeiocbaaDoor
namespace Go.Proofs.YtnbcghbgeiocbaaDoor
open Go.Q Go.RowKit

theorem known_calls (w : World)   : Calls Tryd.prog 10 ⟨[]⟩ w (fun e w' => e = .returned (.bool true) ∧ Keeps none_ w w') := by
 have K0 : Keeps none_ w w := Keeps.refl w
 refine q_calls Tryd.func10 (by kernel_rfl) (by kernel_rfl) ?_
 refine qs ?_
 refine qg ?_
 refine og 1 [(0, (Value.bool false))] 1 ?_
 refine od ?_
 refine qs ?_
 refine qg ?_
 refine og 1 [(0, (Value.bool false)), (12, (agg [(i64 1), (Value.string (str [97, 110, 110])), (Value.string ByteArray.empty), (i64 0), (Value.string (str [107])), (i64 0), (i64 0)]))] 1 ?_
 refine Ops.new (o := rowL [(i64 0), (Value.string ByteArray.empty), (Value.string ByteArray.empty), (i64 0), (Value.string ByteArray.empty), (i64 0), (i64 0)] 24) (V := fun b => (ptr b)) (by kernel_rfl) (d := (some 1)) (by kernel_rfl) (fun b => rfl) (fun b1 w2 hb3 H4 K5 hs6 => ?_)
 have nb1 : w.heap.size ≤ b1 := by have := K0.size; omega
 replace K0 := K0.t0 K5
 clear K5 hs6
 refine Ops.put (t := 24) (b := b1) (off := 0) (v := (agg [(i64 1), (Value.string (str [97, 110, 110])), (Value.string ByteArray.empty), (i64 0), (Value.string (str [107])), (i64 0), (i64 0)])) (ys := [(i64 1), (Value.string (str [97, 110, 110])), (Value.string ByteArray.empty), (i64 0), (Value.string (str [107])), (i64 0), (i64 0)]) (by kernel_rfl) (by kernel_rfl) H4 (by kernel_rfl) (d := none) (by kernel_rfl) rfl (fun w7 H8 K9 => ?_)
 clear H4
 replace K0 := K0.trans K9 (U := none_) (fun i h1 h2 => h2) (fun i h1 h2 => by have h2 : i = b1 := h2; exfalso; omega)
 clear K9
 refine od ?_
 refine qs ?_
 refine qg ?_
 refine og 1 [(0, (Value.bool false)), (1, (ptr b1)), (13, (agg [(i64 5), (Value.string (str [97, 110, 110])), (Value.string ByteArray.empty), (i64 0), (Value.string ByteArray.empty), (i64 0), (i64 0)]))] 1 ?_
 refine Ops.new (o := rowL [(i64 0), (Value.string ByteArray.empty), (Value.string ByteArray.empty), (i64 0), (Value.string ByteArray.empty), (i64 0), (i64 0)] 24) (V := fun b => (ptr b)) (by kernel_rfl) (d := (some 2)) (by kernel_rfl) (fun b => rfl) (fun b10 w11 hb12 H13 K14 hs15 => ?_)
 have lb10b1 : b1 < b10 := by have := H8.lt; omega
 have nb10 : w.heap.size ≤ b10 := by have := K0.size; omega
 replace K0 := K0.t0 K14
 replace H8 := H8.keep K14 (fun h => h)
 clear K14 hs15
 refine Ops.put (t := 24) (b := b10) (off := 0) (v := (agg [(i64 5), (Value.string (str [97, 110, 110])), (Value.string ByteArray.empty), (i64 0), (Value.string ByteArray.empty), (i64 0), (i64 0)])) (ys := [(i64 5), (Value.string (str [97, 110, 110])), (Value.string ByteArray.empty), (i64 0), (Value.string ByteArray.empty), (i64 0), (i64 0)]) (by kernel_rfl) (by kernel_rfl) H13 (by kernel_rfl) (d := none) (by kernel_rfl) rfl (fun w16 H17 K18 => ?_)
 clear H13
 replace K0 := K0.trans K18 (U := none_) (fun i h1 h2 => h2) (fun i h1 h2 => by have h2 : i = b10 := h2; exfalso; omega)
 replace H8 := H8.k1 K18 (by omega)
 clear K18
 refine od ?_
 refine qs ?_
 refine qg ?_
 refine og 1 [(0, (Value.bool false)), (1, (ptr b1)), (2, (ptr b10)), (14, (agg [(i64 40), (i64 0), (Value.slice none 0 0)]))] 1 ?_
 refine Ops.new (o := rowL [(i64 0), (i64 0), (Value.slice none 0 0)] 28) (V := fun b => (ptr b)) (by kernel_rfl) (d := (some 3)) (by kernel_rfl) (fun b => rfl) (fun b19 w20 hb21 H22 K23 hs24 => ?_)
 have lb19b1 : b1 < b19 := by have := H8.lt; omega
 have lb19b10 : b10 < b19 := by have := H17.lt; omega
 have nb19 : w.heap.size ≤ b19 := by have := K0.size; omega
 replace K0 := K0.t0 K23
 replace H8 := H8.keep K23 (fun h => h)
 replace H17 := H17.keep K23 (fun h => h)
 clear K23 hs24
 refine Ops.put (t := 28) (b := b19) (off := 0) (v := (agg [(i64 40), (i64 0), (Value.slice none 0 0)])) (ys := [(i64 40), (i64 0), (Value.slice none 0 0)]) (by kernel_rfl) (by kernel_rfl) H22 (by kernel_rfl) (d := none) (by kernel_rfl) rfl (fun w25 H26 K27 => ?_)
 clear H22
 replace K0 := K0.trans K27 (U := none_) (fun i h1 h2 => h2) (fun i h1 h2 => by have h2 : i = b19 := h2; exfalso; omega)
 replace H8 := H8.k1 K27 (by omega)
 replace H17 := H17.k1 K27 (by omega)
 clear K27
 refine od ?_
 refine qs ?_
 refine qg ?_
 refine Ops.go (v := (agg [(i64 1), (Value.string (str [97, 110, 110])), (Value.string ByteArray.empty), (i64 0), (Value.string (str [107])), (i64 0), (i64 0)])) (by kernel_rfl) (Runs.load (t := 24) (a := ⟨b1, 0, none⟩) (by kernel_rfl) (H8.loads (by kernel_rfl))) (d := (some 16)) (by kernel_rfl) rfl ?_
 refine og 1 [(0, (Value.bool false)), (1, (ptr b1)), (2, (ptr b10)), (3, (ptr b19)), (17, (agg [(i64 1), (Value.string (str [97, 110, 110])), (Value.string ByteArray.empty), (i64 0), (Value.string (str [107])), (i64 0), (i64 0), (i64 1), (i64 2), (Value.bool true), (i64 0), (i64 0), (Value.slice none 0 0)]))] 2 ?_
 refine Ops.go (v := (agg [(i64 5), (Value.string (str [97, 110, 110])), (Value.string ByteArray.empty), (i64 0), (Value.string ByteArray.empty), (i64 0), (i64 0)])) (by kernel_rfl) (Runs.load (t := 24) (a := ⟨b10, 0, none⟩) (by kernel_rfl) (H17.loads (by kernel_rfl))) (d := (some 18)) (by kernel_rfl) rfl ?_
 refine og 1 [(0, (Value.bool false)), (1, (ptr b1)), (2, (ptr b10)), (3, (ptr b19)), (17, (agg [(i64 1), (Value.string (str [97, 110, 110])), (Value.string ByteArray.empty), (i64 0), (Value.string (str [107])), (i64 0), (i64 0), (i64 1), (i64 2), (Value.bool true), (i64 0), (i64 0), (Value.slice none 0 0)])), (19, (agg [(i64 5), (Value.string (str [97, 110, 110])), (Value.string ByteArray.empty), (i64 0), (Value.string ByteArray.empty), (i64 0), (i64 0), (i64 3), (i64 4), (Value.bool true), (i64 0), (i64 0), (Value.slice none 0 0)]))] 4 ?_
 refine Ops.new (o := rowL [(i64 1), (Value.string (str [97, 110, 110])), (Value.string ByteArray.empty), (i64 0), (Value.string (str [107])), (i64 0), (i64 0), (i64 1), (i64 2), (Value.bool true), (i64 0), (i64 0), (Value.slice none 0 0), (i64 5), (Value.string (str [97, 110, 110])), (Value.string ByteArray.empty), (i64 0), (Value.string ByteArray.empty), (i64 0), (i64 0), (i64 3), (i64 4), (Value.bool true), (i64 0), (i64 0), (Value.slice none 0 0)] 43) (V := fun b => (Value.slice (some ⟨b, 0, none⟩) 2 2)) (by kernel_rfl) (d := (some 20)) (by kernel_rfl) (fun b => rfl) (fun b28 w29 hb30 H31 K32 hs33 => ?_)
 have lb28b1 : b1 < b28 := by have := H8.lt; omega
 have lb28b10 : b10 < b28 := by have := H17.lt; omega
 have lb28b19 : b19 < b28 := by have := H26.lt; omega
 have nb28 : w.heap.size ≤ b28 := by have := K0.size; omega
 replace K0 := K0.t0 K32
 replace H8 := H8.keep K32 (fun h => h)
 replace H17 := H17.keep K32 (fun h => h)
 replace H26 := H26.keep K32 (fun h => h)
 clear K32 hs33
 have hk45 : orderH (List.map HC.c [(⟨⟨(⟨1, [97, 110, 110], ([] : List UInt8), 0, [107], 0, 0⟩ : Opm), 1, 2, true, ⟨0, 0, []⟩⟩, none, 0⟩ : HC), (⟨⟨(⟨5, [97, 110, 110], ([] : List UInt8), 0, ([] : List UInt8), 0, 0⟩ : Opm), 3, 4, true, ⟨0, 0, []⟩⟩, none, 0⟩ : HC)]) = ([0, 1], true, 0) := by kernel_rfl
 refine Ops.call (by kernel_rfl) (d := (some 21)) (by kernel_rfl) (Order_calls _ (some ⟨b28, 0, none⟩) 2 [(⟨⟨(⟨1, [97, 110, 110], ([] : List UInt8), 0, [107], 0, 0⟩ : Opm), 1, 2, true, ⟨0, 0, []⟩⟩, none, 0⟩ : HC), (⟨⟨(⟨5, [97, 110, 110], ([] : List UInt8), 0, ([] : List UInt8), 0, 0⟩ : Opm), 3, 4, true, ⟨0, 0, []⟩⟩, none, 0⟩ : HC)] none_ (show RdT _ 13 HC.cells _ _ from Rd.lit H31 (n := 2) rfl (by decide)) (rowsE_nil (fun x hx => by rcases List.mem_cons.1 hx with rfl | hx; (exact ⟨rfl, rfl, rfl⟩); (rcases List.mem_cons.1 hx with rfl | hx; (exact ⟨rfl, rfl, rfl⟩); (cases hx)))) (fun x hx => by rcases List.mem_cons.1 hx with rfl | hx; (decide); (rcases List.mem_cons.1 hx with rfl | hx; (decide); (cases hx))) (by decide)) ?_
 rintro _ w42 ⟨o36, A37, c38, ok39, why40, rfl, K41, hR43, hE44⟩
 obtain ⟨rfl, e46⟩ := Prod.mk.inj (hE44.trans hk45)
 obtain ⟨rfl, rfl⟩ := Prod.mk.inj e46
 refine ⟨_, _, rfl, rfl, ?_⟩
 replace K0 := K0.t0 K41
 replace H8 := H8.keep K41 (fun h => h)
 replace H17 := H17.keep K41 (fun h => h)
 replace H26 := H26.keep K41 (fun h => h)
 replace H31 := H31.keep K41 (fun h => h)
 clear K41
 refine og 7 [(0, (Value.bool false)), (1, (ptr b1)), (2, (ptr b10)), (3, (ptr b19)), (4, (Value.slice A37 (([0, 1] : List Nat).length) c38)), (5, (Value.bool true)), (6, (i64 0))] 13 ?_
 refine od ?_
 refine qs ?_
 refine qg ?_
 refine Ops.go (v := (agg [(i64 5), (Value.string (str [97, 110, 110])), (Value.string ByteArray.empty), (i64 0), (Value.string ByteArray.empty), (i64 0), (i64 0)])) (by kernel_rfl) (Runs.load (t := 24) (a := ⟨b10, 0, none⟩) (by kernel_rfl) (H17.loads (by kernel_rfl))) (d := (some 26)) (by kernel_rfl) rfl ?_
 refine Ops.go (v := (agg [(i64 40), (i64 0), (Value.slice none 0 0)])) (by kernel_rfl) (Runs.load (t := 28) (a := ⟨b19, 0, none⟩) (by kernel_rfl) (H26.loads (by kernel_rfl))) (d := (some 27)) (by kernel_rfl) rfl ?_
 refine og 1 [(0, (Value.bool false)), (1, (ptr b1)), (2, (ptr b10)), (3, (ptr b19)), (4, (Value.slice A37 (([0, 1] : List Nat).length) c38)), (5, (Value.bool true)), (6, (i64 0)), (28, (agg [(i64 5), (Value.string (str [97, 110, 110])), (Value.string ByteArray.empty), (i64 0), (Value.string ByteArray.empty), (i64 0), (i64 0), (i64 1), (i64 4), (Value.bool true), (i64 40), (i64 0), (Value.slice none 0 0)]))] 3 ?_
 refine Ops.go (v := (agg [(i64 1), (Value.string (str [97, 110, 110])), (Value.string ByteArray.empty), (i64 0), (Value.string (str [107])), (i64 0), (i64 0)])) (by kernel_rfl) (Runs.load (t := 24) (a := ⟨b1, 0, none⟩) (by kernel_rfl) (H8.loads (by kernel_rfl))) (d := (some 29)) (by kernel_rfl) rfl ?_
 refine og 1 [(0, (Value.bool false)), (1, (ptr b1)), (2, (ptr b10)), (3, (ptr b19)), (4, (Value.slice A37 (([0, 1] : List Nat).length) c38)), (5, (Value.bool true)), (6, (i64 0)), (28, (agg [(i64 5), (Value.string (str [97, 110, 110])), (Value.string ByteArray.empty), (i64 0), (Value.string ByteArray.empty), (i64 0), (i64 0), (i64 1), (i64 4), (Value.bool true), (i64 40), (i64 0), (Value.slice none 0 0)])), (30, (agg [(i64 1), (Value.string (str [97, 110, 110])), (Value.string ByteArray.empty), (i64 0), (Value.string (str [107])), (i64 0), (i64 0), (i64 2), (i64 3), (Value.bool true), (i64 0), (i64 0), (Value.slice none 0 0)]))] 5 ?_
 refine Ops.new (o := rowL [(i64 5), (Value.string (str [97, 110, 110])), (Value.string ByteArray.empty), (i64 0), (Value.string ByteArray.empty), (i64 0), (i64 0), (i64 1), (i64 4), (Value.bool true), (i64 40), (i64 0), (Value.slice none 0 0), (i64 1), (Value.string (str [97, 110, 110])), (Value.string ByteArray.empty), (i64 0), (Value.string (str [107])), (i64 0), (i64 0), (i64 2), (i64 3), (Value.bool true), (i64 0), (i64 0), (Value.slice none 0 0)] 43) (V := fun b => (Value.slice (some ⟨b, 0, none⟩) 2 2)) (by kernel_rfl) (d := (some 31)) (by kernel_rfl) (fun b => rfl) (fun b47 w48 hb49 H50 K51 hs52 => ?_)
 have lb47b1 : b1 < b47 := by have := H8.lt; omega
 have lb47b10 : b10 < b47 := by have := H17.lt; omega
 have lb47b19 : b19 < b47 := by have := H26.lt; omega
 have lb47b28 : b28 < b47 := by have := H31.lt; omega
 have nb47 : w.heap.size ≤ b47 := by have := K0.size; omega
 replace K0 := K0.t0 K51
 replace H8 := H8.keep K51 (fun h => h)
 replace H17 := H17.keep K51 (fun h => h)
 replace H26 := H26.keep K51 (fun h => h)
 replace H31 := H31.keep K51 (fun h => h)
 replace hR43 := (Rd.keep0 (by omega) hR43 K51)
 clear K51 hs52
 have hk64 : orderH (List.map HC.c [(⟨⟨(⟨5, [97, 110, 110], ([] : List UInt8), 0, ([] : List UInt8), 0, 0⟩ : Opm), 1, 4, true, ⟨40, 0, []⟩⟩, none, 0⟩ : HC), (⟨⟨(⟨1, [97, 110, 110], ([] : List UInt8), 0, [107], 0, 0⟩ : Opm), 2, 3, true, ⟨0, 0, []⟩⟩, none, 0⟩ : HC)]) = ([0, 1], true, 0) := by kernel_rfl
 refine Ops.call (by kernel_rfl) (d := (some 32)) (by kernel_rfl) (Order_calls _ (some ⟨b47, 0, none⟩) 2 [(⟨⟨(⟨5, [97, 110, 110], ([] : List UInt8), 0, ([] : List UInt8), 0, 0⟩ : Opm), 1, 4, true, ⟨40, 0, []⟩⟩, none, 0⟩ : HC), (⟨⟨(⟨1, [97, 110, 110], ([] : List UInt8), 0, [107], 0, 0⟩ : Opm), 2, 3, true, ⟨0, 0, []⟩⟩, none, 0⟩ : HC)] none_ (show RdT _ 13 HC.cells _ _ from Rd.lit H50 (n := 2) rfl (by decide)) (rowsE_nil (fun x hx => by rcases List.mem_cons.1 hx with rfl | hx; (exact ⟨rfl, rfl, rfl⟩); (rcases List.mem_cons.1 hx with rfl | hx; (exact ⟨rfl, rfl, rfl⟩); (cases hx)))) (fun x hx => by rcases List.mem_cons.1 hx with rfl | hx; (decide); (rcases List.mem_cons.1 hx with rfl | hx; (decide); (cases hx))) (by decide)) ?_
 rintro _ w61 ⟨o55, A56, c57, ok58, why59, rfl, K60, hR62, hE63⟩
 obtain ⟨rfl, e65⟩ := Prod.mk.inj (hE63.trans hk64)
 obtain ⟨rfl, rfl⟩ := Prod.mk.inj e65
 refine ⟨_, _, rfl, rfl, ?_⟩
 replace K0 := K0.t0 K60
 replace H8 := H8.keep K60 (fun h => h)
 replace H17 := H17.keep K60 (fun h => h)
 replace H26 := H26.keep K60 (fun h => h)
 replace H31 := H31.keep K60 (fun h => h)
 replace H50 := H50.keep K60 (fun h => h)
 replace hR43 := (Rd.keep0 (by omega) hR43 K60)
 clear K60
 refine og 7 [(0, (Value.bool false)), (1, (ptr b1)), (2, (ptr b10)), (3, (ptr b19)), (4, (Value.slice A37 (([0, 1] : List Nat).length) c38)), (5, (Value.bool true)), (6, (i64 0)), (7, (Value.slice A56 (([0, 1] : List Nat).length) c57)), (8, (Value.bool true)), (9, (i64 0))] 14 ?_
 refine od ?_
 refine qs ?_
 refine qg ?_
 refine Ops.go (v := (agg [(i64 1), (Value.string (str [97, 110, 110])), (Value.string ByteArray.empty), (i64 0), (Value.string (str [107])), (i64 0), (i64 0)])) (by kernel_rfl) (Runs.load (t := 24) (a := ⟨b1, 0, none⟩) (by kernel_rfl) (H8.loads (by kernel_rfl))) (d := (some 37)) (by kernel_rfl) rfl ?_
 refine og 1 [(0, (Value.bool false)), (2, (ptr b10)), (3, (ptr b19)), (4, (Value.slice A37 (([0, 1] : List Nat).length) c38)), (5, (Value.bool true)), (6, (i64 0)), (7, (Value.slice A56 (([0, 1] : List Nat).length) c57)), (8, (Value.bool true)), (9, (i64 0)), (38, (agg [(i64 1), (Value.string (str [97, 110, 110])), (Value.string ByteArray.empty), (i64 0), (Value.string (str [107])), (i64 0), (i64 0), (i64 1), (i64 2), (Value.bool true), (i64 0), (i64 0), (Value.slice none 0 0)]))] 2 ?_
 refine Ops.go (v := (agg [(i64 5), (Value.string (str [97, 110, 110])), (Value.string ByteArray.empty), (i64 0), (Value.string ByteArray.empty), (i64 0), (i64 0)])) (by kernel_rfl) (Runs.load (t := 24) (a := ⟨b10, 0, none⟩) (by kernel_rfl) (H17.loads (by kernel_rfl))) (d := (some 39)) (by kernel_rfl) rfl ?_
 refine Ops.go (v := (agg [(i64 40), (i64 0), (Value.slice none 0 0)])) (by kernel_rfl) (Runs.load (t := 28) (a := ⟨b19, 0, none⟩) (by kernel_rfl) (H26.loads (by kernel_rfl))) (d := (some 40)) (by kernel_rfl) rfl ?_
 refine og 1 [(0, (Value.bool false)), (4, (Value.slice A37 (([0, 1] : List Nat).length) c38)), (5, (Value.bool true)), (6, (i64 0)), (7, (Value.slice A56 (([0, 1] : List Nat).length) c57)), (8, (Value.bool true)), (9, (i64 0)), (38, (agg [(i64 1), (Value.string (str [97, 110, 110])), (Value.string ByteArray.empty), (i64 0), (Value.string (str [107])), (i64 0), (i64 0), (i64 1), (i64 2), (Value.bool true), (i64 0), (i64 0), (Value.slice none 0 0)])), (41, (agg [(i64 5), (Value.string (str [97, 110, 110])), (Value.string ByteArray.empty), (i64 0), (Value.string ByteArray.empty), (i64 0), (i64 0), (i64 3), (i64 4), (Value.bool true), (i64 40), (i64 0), (Value.slice none 0 0)]))] 5 ?_
 refine Ops.new (o := rowL [(i64 1), (Value.string (str [97, 110, 110])), (Value.string ByteArray.empty), (i64 0), (Value.string (str [107])), (i64 0), (i64 0), (i64 1), (i64 2), (Value.bool true), (i64 0), (i64 0), (Value.slice none 0 0), (i64 5), (Value.string (str [97, 110, 110])), (Value.string ByteArray.empty), (i64 0), (Value.string ByteArray.empty), (i64 0), (i64 0), (i64 3), (i64 4), (Value.bool true), (i64 40), (i64 0), (Value.slice none 0 0)] 43) (V := fun b => (Value.slice (some ⟨b, 0, none⟩) 2 2)) (by kernel_rfl) (d := (some 42)) (by kernel_rfl) (fun b => rfl) (fun b66 w67 hb68 H69 K70 hs71 => ?_)
 have lb66b1 : b1 < b66 := by have := H8.lt; omega
 have lb66b10 : b10 < b66 := by have := H17.lt; omega
 have lb66b19 : b19 < b66 := by have := H26.lt; omega
 have lb66b28 : b28 < b66 := by have := H31.lt; omega
 have lb66b47 : b47 < b66 := by have := H50.lt; omega
 have nb66 : w.heap.size ≤ b66 := by have := K0.size; omega
 replace K0 := K0.t0 K70
 replace H8 := H8.keep K70 (fun h => h)
 replace H17 := H17.keep K70 (fun h => h)
 replace H26 := H26.keep K70 (fun h => h)
 replace H31 := H31.keep K70 (fun h => h)
 replace H50 := H50.keep K70 (fun h => h)
 replace hR43 := (Rd.keep0 (by omega) hR43 K70)
 replace hR62 := (Rd.keep0 (by omega) hR62 K70)
 clear K70 hs71
 have hk79 : orderH (List.map HC.c [(⟨⟨(⟨1, [97, 110, 110], ([] : List UInt8), 0, [107], 0, 0⟩ : Opm), 1, 2, true, ⟨0, 0, []⟩⟩, none, 0⟩ : HC), (⟨⟨(⟨5, [97, 110, 110], ([] : List UInt8), 0, ([] : List UInt8), 0, 0⟩ : Opm), 3, 4, true, ⟨40, 0, []⟩⟩, none, 0⟩ : HC)]) = ([], false, 0) := by kernel_rfl
 refine Ops.call (by kernel_rfl) (d := (some 43)) (by kernel_rfl) (Linear_calls _ (some ⟨b66, 0, none⟩) 2 [(⟨⟨(⟨1, [97, 110, 110], ([] : List UInt8), 0, [107], 0, 0⟩ : Opm), 1, 2, true, ⟨0, 0, []⟩⟩, none, 0⟩ : HC), (⟨⟨(⟨5, [97, 110, 110], ([] : List UInt8), 0, ([] : List UInt8), 0, 0⟩ : Opm), 3, 4, true, ⟨40, 0, []⟩⟩, none, 0⟩ : HC)] none_ (show RdT _ 13 HC.cells _ _ from Rd.lit H69 (n := 2) rfl (by decide)) (rowsE_nil (fun x hx => by rcases List.mem_cons.1 hx with rfl | hx; (exact ⟨rfl, rfl, rfl⟩); (rcases List.mem_cons.1 hx with rfl | hx; (exact ⟨rfl, rfl, rfl⟩); (cases hx)))) (fun x hx => by rcases List.mem_cons.1 hx with rfl | hx; (decide); (rcases List.mem_cons.1 hx with rfl | hx; (decide); (cases hx))) (by decide)) ?_
 rintro _ w77 ⟨ok74, why75, rfl, K76, hE78⟩
 obtain ⟨rfl, rfl⟩ := Prod.mk.inj (hE78.trans (congrArg Prod.snd hk79))
 refine ⟨_, _, rfl, rfl, ?_⟩
 replace K0 := K0.t0 K76
 replace H8 := H8.keep K76 (fun h => h)
 replace H17 := H17.keep K76 (fun h => h)
 replace H26 := H26.keep K76 (fun h => h)
 replace H31 := H31.keep K76 (fun h => h)
 replace H50 := H50.keep K76 (fun h => h)
 replace H69 := H69.keep K76 (fun h => h)
 replace hR43 := (Rd.keep0 (by omega) hR43 K76)
 replace hR62 := (Rd.keep0 (by omega) hR62 K76)
 clear K76
 refine og 5 [(0, (Value.bool false)), (4, (Value.slice A37 (([0, 1] : List Nat).length) c38)), (5, (Value.bool true)), (6, (i64 0)), (7, (Value.slice A56 (([0, 1] : List Nat).length) c57)), (8, (Value.bool true)), (9, (i64 0)), (10, (Value.bool false)), (11, (i64 0))] 12 ?_
 refine od ?_
 refine qs ?_
 refine qg ?_
 refine og 7 [(0, (Value.bool false)), (7, (Value.slice A56 (([0, 1] : List Nat).length) c57)), (8, (Value.bool true)), (9, (i64 0)), (10, (Value.bool false)), (11, (i64 0)), (51, (Value.bool true)), (52, (Value.slice A37 (([0, 1] : List Nat).length) c38))] 7 ?_
 refine Ops.new (o := rowL [(i64 0), (i64 1)] 3) (V := fun b => (Value.slice (some ⟨b, 0, none⟩) 2 2)) (by kernel_rfl) (d := (some 53)) (by kernel_rfl) (fun b => rfl) (fun b80 w81 hb82 H83 K84 hs85 => ?_)
 have lb80b1 : b1 < b80 := by have := H8.lt; omega
 have lb80b10 : b10 < b80 := by have := H17.lt; omega
 have lb80b19 : b19 < b80 := by have := H26.lt; omega
 have lb80b28 : b28 < b80 := by have := H31.lt; omega
 have lb80b47 : b47 < b80 := by have := H50.lt; omega
 have lb80b66 : b66 < b80 := by have := H69.lt; omega
 have nb80 : w.heap.size ≤ b80 := by have := K0.size; omega
 replace K0 := K0.t0 K84
 replace H8 := H8.keep K84 (fun h => h)
 replace H17 := H17.keep K84 (fun h => h)
 replace H26 := H26.keep K84 (fun h => h)
 replace H31 := H31.keep K84 (fun h => h)
 replace H50 := H50.keep K84 (fun h => h)
 replace H69 := H69.keep K84 (fun h => h)
 replace hR43 := (Rd.keep0 (by omega) hR43 K84)
 replace hR62 := (Rd.keep0 (by omega) hR62 K84)
 clear K84 hs85
 refine Ops.call (by kernel_rfl) (d := (some 54)) (by kernel_rfl) (sameN_calls _ A37 c38 ([0, 1] : List Nat) (some ⟨b80, 0, none⟩) 2 [0, 1] hR43 (show RdT _ 1 iN _ [0, 1] from Rd.lit H83 (n := 2) rfl (by decide))) ?_
 rintro _ w89 ⟨t86, rfl, ht87, K88⟩
 refine ⟨_, _, rfl, rfl, ?_⟩
 replace K0 := K0.t0 K88
 replace H8 := H8.keep K88 (fun h => h)
 replace H17 := H17.keep K88 (fun h => h)
 replace H26 := H26.keep K88 (fun h => h)
 replace H31 := H31.keep K88 (fun h => h)
 replace H50 := H50.keep K88 (fun h => h)
 replace H69 := H69.keep K88 (fun h => h)
 replace H83 := H83.keep K88 (fun h => h)
 replace hR43 := (Rd.keep0 (by omega) hR43 K88)
 replace hR62 := (Rd.keep0 (by omega) hR62 K88)
 clear K88
 refine og 2 [(0, (Value.bool false)), (7, (Value.slice A56 (([0, 1] : List Nat).length) c57)), (8, (Value.bool true)), (9, (i64 0)), (10, (Value.bool false)), (11, (i64 0)), (56, (Value.bool t86))] 11 ?_
 have h90 : t86 = true := ht87.2 rfl
 rw [h90]
 refine og 8 [(0, (Value.bool false)), (10, (Value.bool false)), (11, (i64 0)), (63, (Value.bool true)), (64, (Value.slice A56 (([0, 1] : List Nat).length) c57))] 19 ?_
 refine Ops.new (o := rowL [(i64 0), (i64 1)] 3) (V := fun b => (Value.slice (some ⟨b, 0, none⟩) 2 2)) (by kernel_rfl) (d := (some 65)) (by kernel_rfl) (fun b => rfl) (fun b91 w92 hb93 H94 K95 hs96 => ?_)
 have lb91b1 : b1 < b91 := by have := H8.lt; omega
 have lb91b10 : b10 < b91 := by have := H17.lt; omega
 have lb91b19 : b19 < b91 := by have := H26.lt; omega
 have lb91b28 : b28 < b91 := by have := H31.lt; omega
 have lb91b47 : b47 < b91 := by have := H50.lt; omega
 have lb91b66 : b66 < b91 := by have := H69.lt; omega
 have lb91b80 : b80 < b91 := by have := H83.lt; omega
 have nb91 : w.heap.size ≤ b91 := by have := K0.size; omega
 replace K0 := K0.t0 K95
 replace H8 := H8.keep K95 (fun h => h)
 replace H17 := H17.keep K95 (fun h => h)
 replace H26 := H26.keep K95 (fun h => h)
 replace H31 := H31.keep K95 (fun h => h)
 replace H50 := H50.keep K95 (fun h => h)
 replace H69 := H69.keep K95 (fun h => h)
 replace H83 := H83.keep K95 (fun h => h)
 replace hR43 := (Rd.keep0 (by omega) hR43 K95)
 replace hR62 := (Rd.keep0 (by omega) hR62 K95)
 clear K95 hs96
 refine Ops.call (by kernel_rfl) (d := (some 66)) (by kernel_rfl) (sameN_calls _ A56 c57 ([0, 1] : List Nat) (some ⟨b91, 0, none⟩) 2 [0, 1] hR62 (show RdT _ 1 iN _ [0, 1] from Rd.lit H94 (n := 2) rfl (by decide))) ?_
 rintro _ w100 ⟨t97, rfl, ht98, K99⟩
 refine ⟨_, _, rfl, rfl, ?_⟩
 replace K0 := K0.t0 K99
 replace H8 := H8.keep K99 (fun h => h)
 replace H17 := H17.keep K99 (fun h => h)
 replace H26 := H26.keep K99 (fun h => h)
 replace H31 := H31.keep K99 (fun h => h)
 replace H50 := H50.keep K99 (fun h => h)
 replace H69 := H69.keep K99 (fun h => h)
 replace H83 := H83.keep K99 (fun h => h)
 replace H94 := H94.keep K99 (fun h => h)
 replace hR43 := (Rd.keep0 (by omega) hR43 K99)
 replace hR62 := (Rd.keep0 (by omega) hR62 K99)
 clear K99
 refine og 2 [(0, (Value.bool false)), (10, (Value.bool false)), (11, (i64 0)), (68, (Value.bool t97))] 23 ?_
 have h101 : t97 = true := ht98.2 rfl
 rw [h101]
 refine og 8 [(0, (Value.bool true))] 31 ?_
 refine od ?_
 refine q_ret (by kernel_rfl) ?_
 refine ⟨(Value.bool true), retv_tmp rfl rfl, ?_⟩
 exact ⟨rfl, K0⟩

theorem hard_calls (w : World) (LA : Option Addr) (lc : Nat) (l : List HC) (hL : RdT w 13 HC.cells (Value.slice LA l.length lc) l) : Calls Tryd.prog 9 ⟨[(Value.slice LA l.length lc)]⟩ w (fun e w' => ∃ t, e = .returned (.bool t) ∧ (t = false → l.length ≤ 40) ∧ Keeps none_ w w') := by
 have hcap := (RdT.len HC.two (by decide) hL).2
 unfold maxLen at hcap
 have K0 : Keeps none_ w w := Keeps.refl w
 refine q_calls Tryd.func9 (by kernel_rfl) (by kernel_rfl) ?_
 refine qs ?_
 refine qg ?_
 refine og 1 [(0, (Value.slice LA l.length lc)), (2, (Value.bool false))] 1 ?_
 refine od ?_
 refine qs ?_
 refine qg ?_
 refine og 1 [(0, (Value.slice LA l.length lc)), (2, (Value.bool false)), (3, (i64 0))] 1 ?_
 refine od ?_
 refine qs ?_
 refine qs ?_
 refine qg ?_
 refine og 1 [(0, (Value.slice LA l.length lc)), (2, (Value.bool false)), (3, (i64 0)), (4, (i64 0))] 1 ?_
 refine od ?_
 refine q_block (id := 0) (by kernel_rfl) ?_
 refine q_keep (R := [(0, (Value.slice LA l.length lc)), (2, (Value.bool false)), (3, (i64 0)), (4, (i64 0))]) (by kernel_rfl) ?_
 refine q_loop (fun (gs : Nat × Nat) L (wx : World) => match gs with | (ii, n) => L = [(0, (Value.slice LA l.length lc)), (2, (Value.bool false)), (3, (i64 ((n : Nat) : Int))), (4, (i64 ((ii : Nat) : Int)))] ∧ n ≤ ii ∧ ii ≤ l.length ∧ Keeps none_ w wx) (fun (gs : Nat × Nat) => match gs with | (ii, n) => l.length - ii) (0, 0) (by kernel_rfl) ⟨rfl, Nat.zero_le _, Nat.zero_le _, K0⟩ ?_
 clear K0
 rintro ⟨ii, n⟩ _ w1 ⟨rfl, hn, hi, K2⟩
 refine qs ?_
 refine qs ?_
 refine qg ?_
 refine og 4 [(0, (Value.slice LA l.length lc)), (2, (Value.bool false)), (3, (i64 ((n : Nat) : Int))), (4, (i64 ((ii : Nat) : Int))), (8, (Value.bool (decide (((ii : Nat) : Int) < ((l.length : Nat) : Int)))))] 4 ?_
 refine od ?_
 refine q_cond (o := .tmp 8) (b := (decide (((ii : Nat) : Int) < ((l.length : Nat) : Int)))) (by kernel_rfl) rfl (fun h3 => ?_) (fun h3 => ?_)
 ·rw [h3]
  have p4 : ((ii : Nat) : Int) < ((l.length : Nat) : Int) := of_decide_eq_true h3
  refine q_skip (by kernel_rfl) ?_
  refine qs ?_
  refine q_block (id := 1) (by kernel_rfl) ?_
  refine qs ?_
  refine qg ?_
  refine og 2 [(0, (Value.slice LA l.length lc)), (2, (Value.bool false)), (3, (i64 ((n : Nat) : Int))), (4, (i64 ((ii : Nat) : Int))), (11, (Value.slice LA l.length lc)), (12, (i64 ((ii : Nat) : Int)))] 2 ?_
  obtain ⟨x, hx⟩ : ∃ x, l[ii]? = some x := ⟨_, List.getElem?_eq_getElem (by omega)⟩
  obtain ⟨rb5, ro6, hA7⟩ := Rd.addr (Rd.keep0 (by decide) hL K2) (by omega)
  refine Ops.go (by kernel_rfl) (Runs.ixSliceE (k := IntKind.i64) (t := 22) (len := l.length) (cap := lc) (s := 13) (off' := ro6 + ii * 13) (i := ((ii : Nat) : Int)) hA7 (by kernel_rfl) (by kernel_rfl) (by omega) (by omega) (by omega)) (d := (some 13)) (by kernel_rfl) rfl ?_
  refine og 1 [(0, (Value.slice LA l.length lc)), (2, (Value.bool false)), (3, (i64 ((n : Nat) : Int))), (4, (i64 ((ii : Nat) : Int))), (14, (Value.pointer (some ⟨rb5, ro6 + ii * 13 + 9, none⟩)))] 4 ?_
  refine Ops.go (v := (Value.bool x.c.told)) (by kernel_rfl) (Runs.load (t := 4) (a := ⟨rb5, ro6 + ii * 13 + 9, none⟩) (by kernel_rfl) (RdT.ldf (f := HC.cells) (x := x) (o := 9) HC.two (Rd.keep0 (by decide) hL K2) (by kernel_rfl) hA7 hx rfl)) (d := (some 15)) (by kernel_rfl) rfl ?_
  refine og 2 [(0, (Value.slice LA l.length lc)), (2, (Value.bool false)), (3, (i64 ((n : Nat) : Int))), (4, (i64 ((ii : Nat) : Int))), (17, (Value.bool (!x.c.told)))] 7 ?_
  refine Ops.split (!x.c.told) (fun h8 => ?_) (fun h8 => ?_)
  ·rw [h8]
   have p9 : x.c.told = false := (bnot_true h8)
   refine og 8 [(0, (Value.slice LA l.length lc)), (2, (Value.bool false)), (3, (i64 ((n : Nat) : Int))), (4, (i64 ((ii : Nat) : Int))), (25, (Value.bool true))] 15 ?_
   refine od ?_
   refine q_then (o := .tmp 25) (by kernel_rfl) rfl ?_
   refine qg ?_
   refine og 2 [(0, (Value.slice LA l.length lc)), (2, (Value.bool false)), (3, (i64 ((n : Nat) : Int))), (4, (i64 ((ii : Nat) : Int))), (27, (i64 (IntKind.i64.wrap (((n : Nat) : Int) + 1))))] 2 ?_
   have e10 : IntKind.i64.wrap (((n : Nat) : Int) + 1) = ((n + 1 : Nat) : Int) := by rw [wrap_i64 (by omega) (by omega)]; omega
   rw [e10]
   clear e10
   refine og 1 [(0, (Value.slice LA l.length lc)), (2, (Value.bool false)), (3, (i64 ((n + 1 : Nat) : Int))), (4, (i64 ((ii : Nat) : Int)))] 3 ?_
   refine od ?_
   refine qg ?_
   refine og 2 [(0, (Value.slice LA l.length lc)), (2, (Value.bool false)), (3, (i64 ((n + 1 : Nat) : Int))), (4, (i64 ((ii : Nat) : Int))), (10, (i64 (IntKind.i64.wrap (((ii : Nat) : Int) + 1))))] 2 ?_
   have e11 : IntKind.i64.wrap (((ii : Nat) : Int) + 1) = ((ii + 1 : Nat) : Int) := by rw [wrap_i64 (by omega) (by omega)]; omega
   rw [e11]
   clear e11
   refine og 1 [(0, (Value.slice LA l.length lc)), (2, (Value.bool false)), (3, (i64 ((n + 1 : Nat) : Int))), (4, (i64 ((ii + 1 : Nat) : Int)))] 3 ?_
   refine Ops.keep (R := [(0, (Value.slice LA l.length lc)), (2, (Value.bool false)), (3, (i64 ((n + 1 : Nat) : Int))), (4, (i64 ((ii + 1 : Nat) : Int)))]) (by kernel_rfl) ?_
   refine od ?_
   exact ⟨(ii + 1, n + 1), ⟨rfl, (by omega), (by omega), K2⟩, (show l.length - (ii + 1) < l.length - ii from by omega)⟩
  ·rw [h8]
   have p12 : x.c.told = true := (bnot_false h8)
   refine og 2 [(0, (Value.slice LA l.length lc)), (2, (Value.bool false)), (3, (i64 ((n : Nat) : Int))), (4, (i64 ((ii : Nat) : Int))), (17, (Value.bool false)), (18, (Value.slice LA l.length lc)), (19, (i64 ((ii : Nat) : Int)))] 9 ?_
   refine Ops.go (by kernel_rfl) (Runs.ixSliceE (k := IntKind.i64) (t := 22) (len := l.length) (cap := lc) (s := 13) (off' := ro6 + ii * 13) (i := ((ii : Nat) : Int)) hA7 (by kernel_rfl) (by kernel_rfl) (by omega) (by omega) (by omega)) (d := (some 20)) (by kernel_rfl) rfl ?_
   refine og 2 [(0, (Value.slice LA l.length lc)), (2, (Value.bool false)), (3, (i64 ((n : Nat) : Int))), (4, (i64 ((ii : Nat) : Int))), (17, (Value.bool false)), (22, (Value.pointer (some ⟨rb5, ro6 + ii * 13 + 10, none⟩)))] 12 ?_
   refine Ops.go (v := (i64 x.c.rep.why)) (by kernel_rfl) (Runs.load (t := 25) (a := ⟨rb5, ro6 + ii * 13 + 10, none⟩) (by kernel_rfl) (RdT.ldf (f := HC.cells) (x := x) (o := 10) HC.two (Rd.keep0 (by decide) hL K2) (by kernel_rfl) hA7 hx rfl)) (d := (some 23)) (by kernel_rfl) rfl ?_
   refine og 2 [(0, (Value.slice LA l.length lc)), (2, (Value.bool false)), (3, (i64 ((n : Nat) : Int))), (4, (i64 ((ii : Nat) : Int))), (25, (Value.bool (x.c.rep.why != 50)))] 15 ?_
   refine od ?_
   refine q_cond (o := .tmp 25) (b := (x.c.rep.why != 50)) (by kernel_rfl) rfl (fun h13 => ?_) (fun h13 => ?_)
   ·rw [h13]
    have p14 : ¬ (x.c.rep.why = 50) := of_bne_t h13
    refine qg ?_
    refine og 2 [(0, (Value.slice LA l.length lc)), (2, (Value.bool false)), (3, (i64 ((n : Nat) : Int))), (4, (i64 ((ii : Nat) : Int))), (27, (i64 (IntKind.i64.wrap (((n : Nat) : Int) + 1))))] 2 ?_
    have e15 : IntKind.i64.wrap (((n : Nat) : Int) + 1) = ((n + 1 : Nat) : Int) := by rw [wrap_i64 (by omega) (by omega)]; omega
    rw [e15]
    clear e15
    refine og 1 [(0, (Value.slice LA l.length lc)), (2, (Value.bool false)), (3, (i64 ((n + 1 : Nat) : Int))), (4, (i64 ((ii : Nat) : Int)))] 3 ?_
    refine od ?_
    refine qg ?_
    refine og 2 [(0, (Value.slice LA l.length lc)), (2, (Value.bool false)), (3, (i64 ((n + 1 : Nat) : Int))), (4, (i64 ((ii : Nat) : Int))), (10, (i64 (IntKind.i64.wrap (((ii : Nat) : Int) + 1))))] 2 ?_
    have e16 : IntKind.i64.wrap (((ii : Nat) : Int) + 1) = ((ii + 1 : Nat) : Int) := by rw [wrap_i64 (by omega) (by omega)]; omega
    rw [e16]
    clear e16
    refine og 1 [(0, (Value.slice LA l.length lc)), (2, (Value.bool false)), (3, (i64 ((n + 1 : Nat) : Int))), (4, (i64 ((ii + 1 : Nat) : Int)))] 3 ?_
    refine Ops.keep (R := [(0, (Value.slice LA l.length lc)), (2, (Value.bool false)), (3, (i64 ((n + 1 : Nat) : Int))), (4, (i64 ((ii + 1 : Nat) : Int)))]) (by kernel_rfl) ?_
    refine od ?_
    exact ⟨(ii + 1, n + 1), ⟨rfl, (by omega), (by omega), K2⟩, (show l.length - (ii + 1) < l.length - ii from by omega)⟩
   ·rw [h13]
    have p17 : x.c.rep.why = 50 := of_bne_f h13
    refine q_skip (by kernel_rfl) ?_
    refine qg ?_
    refine og 2 [(0, (Value.slice LA l.length lc)), (2, (Value.bool false)), (3, (i64 ((n : Nat) : Int))), (4, (i64 ((ii : Nat) : Int))), (10, (i64 (IntKind.i64.wrap (((ii : Nat) : Int) + 1))))] 2 ?_
    have e18 : IntKind.i64.wrap (((ii : Nat) : Int) + 1) = ((ii + 1 : Nat) : Int) := by rw [wrap_i64 (by omega) (by omega)]; omega
    rw [e18]
    clear e18
    refine og 1 [(0, (Value.slice LA l.length lc)), (2, (Value.bool false)), (3, (i64 ((n : Nat) : Int))), (4, (i64 ((ii + 1 : Nat) : Int)))] 3 ?_
    refine Ops.keep (R := [(0, (Value.slice LA l.length lc)), (2, (Value.bool false)), (3, (i64 ((n : Nat) : Int))), (4, (i64 ((ii + 1 : Nat) : Int)))]) (by kernel_rfl) ?_
    refine od ?_
    exact ⟨(ii + 1, n), ⟨rfl, (by omega), (by omega), K2⟩, (show l.length - (ii + 1) < l.length - ii from by omega)⟩
 ·rw [h3]
  have p19 : ¬ (((ii : Nat) : Int) < ((l.length : Nat) : Int)) := of_decide_eq_false h3
  refine q_exit (id := 0) (by kernel_rfl) ?_
  refine qs ?_
  refine qg ?_
  refine og 4 [(0, (Value.slice LA l.length lc)), (2, (Value.bool false)), (3, (i64 ((n : Nat) : Int))), (31, (Value.bool (decide (((l.length : Nat) : Int) > 40))))] 4 ?_
  refine Ops.split (decide (((l.length : Nat) : Int) > 40)) (fun h20 => ?_) (fun h20 => ?_)
  ·rw [h20]
   have p21 : ((l.length : Nat) : Int) > 40 := of_decide_eq_true h20
   refine og 13 [(2, (Value.bool true))] 17 ?_
   refine od ?_
   refine q_ret (by kernel_rfl) ?_
   refine ⟨(Value.bool true), retv_tmp rfl rfl, ?_⟩
   exact ⟨_, rfl, fun h => (by cases h), K2⟩
  ·rw [h20]
   have p22 : ¬ (((l.length : Nat) : Int) > 40) := of_decide_eq_false h20
   refine og 3 [(0, (Value.slice LA l.length lc)), (2, (Value.bool false)), (3, (i64 ((n : Nat) : Int))), (31, (Value.bool false)), (34, (Value.bool (decide (((n : Nat) : Int) > 6))))] 7 ?_
   refine Ops.split (decide (((n : Nat) : Int) > 6)) (fun h23 => ?_) (fun h23 => ?_)
   ·rw [h23]
    have p24 : ((n : Nat) : Int) > 6 := of_decide_eq_true h23
    refine og 4 [(0, (Value.slice LA l.length lc)), (2, (Value.bool false)), (31, (Value.bool false)), (38, (Value.bool (decide (((n : Nat) : Int) ≤ 8))))] 11 ?_
    refine Ops.split (decide (((n : Nat) : Int) ≤ 8)) (fun h25 => ?_) (fun h25 => ?_)
    ·rw [h25]
     have p26 : ((n : Nat) : Int) ≤ 8 := of_decide_eq_true h25
     refine og 6 [(2, (Value.bool (decide (((l.length : Nat) : Int) > 12))))] 17 ?_
     refine od ?_
     refine q_ret (by kernel_rfl) ?_
     refine ⟨(Value.bool (decide (((l.length : Nat) : Int) > 12))), retv_tmp rfl rfl, ?_⟩
     exact ⟨_, rfl, fun h => (by have h := h; simp at h; omega), K2⟩
    ·rw [h25]
     have p27 : ¬ (((n : Nat) : Int) ≤ 8) := of_decide_eq_false h25
     refine og 6 [(2, (Value.bool false))] 17 ?_
     refine od ?_
     refine q_ret (by kernel_rfl) ?_
     refine ⟨(Value.bool false), retv_tmp rfl rfl, ?_⟩
     exact ⟨_, rfl, fun h => (by omega), K2⟩
   ·rw [h23]
    have p28 : ¬ (((n : Nat) : Int) > 6) := of_decide_eq_false h23
    refine og 10 [(2, (Value.bool false))] 17 ?_
    refine od ?_
    refine q_ret (by kernel_rfl) ?_
    refine ⟨(Value.bool false), retv_tmp rfl rfl, ?_⟩
    exact ⟨_, rfl, fun h => (by omega), K2⟩
end Go.Proofs.YtnbcghbgeiocbaaDoor
namespace Go.Q
open Go.RowKit
/-- The calls U can be done one after another behind s, so that all that were told are done. -/
inductive Lin : List HCall → LS_ → Prop
  | done {U : List HCall} {s : LS_} : (∀ c ∈ U, c.told = false) → Lin U s
  | step {U A B : List HCall} {c : HCall} {s s' : LS_} : U = A ++ c :: B → (∀ d ∈ A ++ B, aheadH d c = false) → stepH c s = some s' → Lin (A ++ B) s' → Lin U s
theorem perm_split {α : Type} {A B A' B' : List α} {c : α} (h : (A ++ c :: B).Perm (A' ++ c :: B')) : (A ++ B).Perm (A' ++ B') :=
  ((List.perm_middle.symm.trans h).trans List.perm_middle).cons_inv
theorem Lin.perm {U V : List HCall} {s : LS_} (h : Lin U s) (hp : U.Perm V) : Lin V s := by
  induction h generalizing V with
  | done h => exact .done fun c hc => h c (hp.mem_iff.2 hc)
  | @step U A B c s s' e ha hs hl ih =>
    subst e
    obtain ⟨A', B', rfl⟩ := List.append_of_mem (hp.mem_iff.1 (List.mem_append_right _ (List.mem_cons_self ..)))
    have hq := perm_split hp
    exact .step rfl (fun d hd => ha d (hq.mem_iff.2 hd)) hs (ih hq)
theorem Lin.map {f : HCall → HCall} (ht : ∀ c, (f c).told = c.told) (hs : ∀ c s, stepH (f c) s = stepH c s) {U : List HCall} {s : LS_} (h : Lin U s) (hU : ∀ c ∈ U, ∀ d ∈ U, aheadH d c = false → aheadH (f d) (f c) = false) : Lin (U.map f) s := by
  induction h with
  | done h => exact .done fun c hc => by obtain ⟨x, hx, rfl⟩ := List.mem_map.1 hc; rw [ht]; exact h x hx
  | @step U A B c s s' e ha hst hl ih =>
    subst e
    have hin : ∀ d ∈ A ++ B, d ∈ A ++ c :: B := fun d hd => by
      rcases List.mem_append.1 hd with h | h
      · exact List.mem_append_left _ h
      · exact List.mem_append_right _ (List.mem_cons_of_mem _ h)
    refine .step (A := A.map f) (B := B.map f) (c := f c) (by rw [List.map_append, List.map_cons]) (fun d hd => ?_) (by rw [hs]; exact hst) (by rw [← List.map_append]; exact ih fun c hc d hd => hU c (hin c hc) d (hin d hd))
    rw [← List.map_append] at hd
    obtain ⟨x, hx, rfl⟩ := List.mem_map.1 hd
    exact hU c (List.mem_append_right _ (List.mem_cons_self ..)) x (hin x hx) (ha x hx)
theorem Lin.unmap {f : HCall → HCall} (ht : ∀ c, (f c).told = c.told) (hs : ∀ c s, stepH (f c) s = stepH c s) {W : List HCall} {s : LS_} (h : Lin W s) : ∀ {U : List HCall}, W = U.map f → (∀ c ∈ U, ∀ d ∈ U, aheadH (f d) (f c) = false → aheadH d c = false) → Lin U s := by
  induction h with
  | done h => intro U e hU; subst e; exact .done fun c hc => by rw [← ht]; exact h (f c) (List.mem_map.2 ⟨c, hc, rfl⟩)
  | @step W A B c s s' e ha hst hl ih =>
    intro U e2 hU
    subst e
    obtain ⟨A0, R0, rfl, hA, hR⟩ := List.append_eq_map_iff.1 e2
    obtain ⟨c0, B0, rfl, hc, hB⟩ : ∃ c0 B0, R0 = c0 :: B0 ∧ f c0 = c ∧ B0.map f = B := by
      cases R0 with
      | nil => cases hR
      | cons x R => rw [List.map_cons, List.cons.injEq] at hR; exact ⟨x, R, rfl, hR.1, hR.2⟩
    have hin : ∀ d ∈ A0 ++ B0, d ∈ A0 ++ c0 :: B0 := fun d hd => by
      rcases List.mem_append.1 hd with h | h
      · exact List.mem_append_left _ h
      · exact List.mem_append_right _ (List.mem_cons_of_mem _ h)
    have e3 : A ++ B = (A0 ++ B0).map f := by rw [List.map_append, hA, hB]
    refine .step rfl (fun d hd => ?_) (by rw [← hs, hc]; exact hst) (ih e3 fun c hc d hd => hU c (hin c hc) d (hin d hd))
    refine hU c0 (List.mem_append_right _ (List.mem_cons_self ..)) d (hin d hd) ?_
    rw [hc]
    exact ha (f d) (by rw [e3]; exact List.mem_map.2 ⟨d, hd, rfl⟩)
/-- The calls that are not done. -/
def undH (X : List (HCall × Nat)) (d : Nat) : List HCall := (X.zipIdx.filter fun p => !d.testBit p.2).map fun p => p.1.1
theorem und_mem {X : List (HCall × Nat)} {d : Nat} {c : HCall} : c ∈ undH X d ↔ ∃ i x, X[i]? = some x ∧ d.testBit i = false ∧ x.1 = c := by
  unfold undH
  constructor
  · intro h
    obtain ⟨p, hp, rfl⟩ := List.mem_map.1 h
    obtain ⟨h1, h2⟩ := List.mem_filter.1 hp
    exact ⟨p.2, p.1, zip_mem h1, by simpa using h2, rfl⟩
  · rintro ⟨i, x, hx, hb, rfl⟩
    exact List.mem_map.2 ⟨(x, i), List.mem_filter.2 ⟨List.mem_of_getElem? (i := i) (by rw [List.getElem?_zipIdx, hx]; simp), by simp [hb]⟩, rfl⟩
theorem und_split {X : List (HCall × Nat)} {d i : Nat} {c : HCall × Nat} (hc : X[i]? = some c) (hb : d.testBit i = false) :
    ∃ A B, undH X d = A ++ c.1 :: B ∧ undH X (d ||| (1 <<< i)) = A ++ B ∧ ∀ e ∈ A ++ B, ∃ j x, X[j]? = some x ∧ j ≠ i ∧ d.testBit j = false ∧ x.1 = e := by
  have hi := (List.getElem?_eq_some_iff.1 hc).1
  have e : X.zipIdx = (X.take i).zipIdx ++ (c, i) :: (X.drop (i + 1)).zipIdx (i + 1) := by
    conv => lhs; rw [show X = X.take i ++ c :: X.drop (i + 1) from by rw [← List.getElem_eq_iff hi |>.2 hc]; exact (List.take_append_drop i X).symm.trans (by rw [List.drop_eq_getElem_cons hi])]
    rw [List.zipIdx_append, List.length_take, Nat.min_eq_left (by omega), Nat.zero_add, List.zipIdx_cons]
  have h1 : ∀ p ∈ (X.take i).zipIdx, p.2 < i := fun p hp => by
    have := (List.getElem?_eq_some_iff.1 (zip_mem hp)).1
    rw [List.length_take] at this; omega
  have h2 : ∀ p ∈ (X.drop (i + 1)).zipIdx (i + 1), i < p.2 := fun p hp => by
    have := List.le_snd_of_mem_zipIdx hp; omega
  have hf1 : ∀ p ∈ (X.take i).zipIdx, (!(d ||| (1 <<< i)).testBit p.2) = (!d.testBit p.2) := fun p hp => by
    rw [testBit_or, decide_eq_false (by have := h1 p hp; omega), Bool.or_false]
  have hf2 : ∀ p ∈ (X.drop (i + 1)).zipIdx (i + 1), (!(d ||| (1 <<< i)).testBit p.2) = (!d.testBit p.2) := fun p hp => by
    rw [testBit_or, decide_eq_false (by have := h2 p hp; omega), Bool.or_false]
  refine ⟨((X.take i).zipIdx.filter fun p => !d.testBit p.2).map (fun p => p.1.1), (((X.drop (i + 1)).zipIdx (i + 1)).filter fun p => !d.testBit p.2).map (fun p => p.1.1), ?_, ?_, fun z hz => ?_⟩
  · unfold undH
    rw [e, List.filter_append, List.filter_cons_of_pos (by simp [hb]), List.map_append, List.map_cons]
  · unfold undH
    rw [e, List.filter_append, List.filter_cons_of_neg (by rw [testBit_or]; simp), List.map_append, List.filter_congr hf1, List.filter_congr hf2]
  · rw [← List.map_append] at hz
    obtain ⟨p, hp, rfl⟩ := List.mem_map.1 hz
    have hmem : p ∈ X.zipIdx ∧ p.2 ≠ i ∧ d.testBit p.2 = false := by
      rcases List.mem_append.1 hp with hp | hp
      · obtain ⟨q1, q2⟩ := List.mem_filter.1 hp
        exact ⟨by rw [e]; exact List.mem_append_left _ q1, by have := h1 p q1; omega, by simpa using q2⟩
      · obtain ⟨q1, q2⟩ := List.mem_filter.1 hp
        exact ⟨by rw [e]; exact List.mem_append_right _ (List.mem_cons_of_mem _ q1), by have := h2 p q1; omega, by simpa using q2⟩
    exact ⟨p.2, p.1, zip_mem hmem.1, hmem.2.1, hmem.2.2, rfl⟩
theorem left_zero {X : List (HCall × Nat)} {t : Sr LS_} (hV : (probH X).V t) : t.left = 0 ↔ ∀ c ∈ undH X t.done, c.told = false := by
  rw [hV.1]
  have h0 : (((probH X).lf t.done : Nat) : Int) = 0 ↔ (probH X).lf t.done = 0 := by omega
  rw [h0]
  unfold Prob.lf
  rw [List.countP_eq_zero]
  constructor
  · intro h c hc
    obtain ⟨i, x, hx, hb, rfl⟩ := und_mem.1 hc
    have h1 := h i (List.mem_range.2 (List.getElem?_eq_some_iff.1 hx).1)
    have h2 : (probH X).told i = x.1.told := by show (match X[i]? with | some c => c.1.told | none => false) = _; rw [hx]
    rw [h2, hb] at h1
    simpa using h1
  · intro h i hi hq
    have hlt : i < X.length := List.mem_range.1 hi
    have hx := List.getElem?_eq_getElem hlt
    have h2 : (probH X).told i = X[i].1.told := by show (match X[i]? with | some c => c.1.told | none => false) = _; rw [hx]
    rw [h2, Bool.and_eq_true] at hq
    have := h X[i].1 (und_mem.2 ⟨i, X[i], hx, by simpa using hq.2, rfl⟩)
    rw [hq.1] at this
    cases this
theorem one_some {X : List (HCall × Nat)} {t : Sr LS_} {i : Nat} {c : HCall × Nat} (hc : X[i]? = some c) {t' : Sr LS_} : (probH X).one t i = some t' ↔ t.done.testBit i = false ∧ (∀ j x, X[j]? = some x → j ≠ i → t.done.testBit j = false → aheadH x.1 c.1 = false) ∧ ∃ s', stepH c.1 t.s = some s' ∧ t' = ⟨t.order ++ [c.2], t.done ||| (1 <<< i), if c.1.told then t.left - 1 else t.left, s'⟩ := by
  have hw : (probH X).wait t.done i = X.zipIdx.any fun p => decide (p.2 ≠ i) && !t.done.testBit p.2 && aheadH p.1.1 c.1 := by
    show (match X[i]? with | some c => X.zipIdx.any fun p => decide (p.2 ≠ i) && !t.done.testBit p.2 && aheadH p.1.1 c.1 | none => true) = _
    rw [hc]
  have hs : (probH X).step i t.s = stepH c.1 t.s := by show (match X[i]? with | some c => stepH c.1 t.s | none => none) = _; rw [hc]
  have hn : (probH X).num i = c.2 := by show (match X[i]? with | some c => c.2 | none => 0) = _; rw [hc]
  have ht : (probH X).told i = c.1.told := by show (match X[i]? with | some c => c.1.told | none => false) = _; rw [hc]
  unfold Prob.one
  rw [hw, hs, hn, ht]
  constructor
  · intro h
    split at h
    · cases h
    · rename_i hb
      rw [Bool.or_eq_true, not_or] at hb
      obtain ⟨s', hs', rfl⟩ := Option.map_eq_some_iff.1 h
      refine ⟨by simpa using hb.1, fun j x hx hj hbj => ?_, s', hs', rfl⟩
      cases hq : aheadH x.1 c.1 with
      | false => rfl
      | true =>
        exfalso
        apply hb.2
        rw [List.any_eq_true]
        exact ⟨(x, j), List.mem_of_getElem? (i := j) (by rw [List.getElem?_zipIdx, hx]; simp), by simp [hj, hbj, hq]⟩
  · rintro ⟨h1, h2, s', h3, rfl⟩
    have hany : (X.zipIdx.any fun p => decide (p.2 ≠ i) && !t.done.testBit p.2 && aheadH p.1.1 c.1) = false := by
      rw [List.any_eq_false]
      intro p hp hq
      rw [Bool.and_eq_true, Bool.and_eq_true] at hq
      have := h2 p.2 p.1 (zip_mem hp) (of_decide_eq_true hq.1.1) (by simpa using hq.1.2)
      rw [this] at hq
      cases hq.2
    rw [h1, hany, h3]
    rfl
/-- There is an order if and only if the calls that are left can be done one after another. -/
theorem sv_lin {X : List (HCall × Nat)} (hX : ∀ c ∈ X, -9223372036854775808 ≤ c.1.op.amount ∧ c.1.op.amount ≤ 9223372036854775807) : ∀ (k : Nat) (t : Sr LS_), X.length - (probH X).pc t.done = k → (probH X).V t → (((probH X).sv t).isSome = true ↔ Lin (undH X t.done) t.s) := by
  intro k
  induction k using Nat.strongRecOn with
  | _ k ih =>
    intro t hk hV
    rw [Prob.sv_eq]
    by_cases h0 : t.left = 0
    · rw [if_pos h0]
      exact ⟨fun _ => .done ((left_zero hV).1 h0), fun _ => rfl⟩
    · rw [if_neg h0, findSome_isSome, List.any_eq_true]
      have next : ∀ {i : Nat} {t' : Sr LS_}, i < X.length → (probH X).one t i = some t' → (((probH X).sv t').isSome = true ↔ Lin (undH X t'.done) t'.s) := fun {i t'} hi h1 => by
        have hp := (Prob.one_pc (P := probH X) hi h1).1
        have hle := (probH X).pc_le t'.done
        have hn : (probH X).n = X.length := rfl
        exact ih _ (by omega) t' rfl (Prob.one_V (probH_like hX) hi h1 hV)
      constructor
      · rintro ⟨t', ht', h⟩
        obtain ⟨i, hi, h1⟩ := List.mem_filterMap.1 ht'
        have hi : i < X.length := List.mem_range.1 hi
        have hL := (next hi h1).1 h
        have hc := List.getElem?_eq_getElem hi
        obtain ⟨hb, hw, s', hs', rfl⟩ := (one_some hc).1 h1
        obtain ⟨A, B, e1, e2, hAB⟩ := und_split hc hb
        refine .step e1 (fun d hd => ?_) hs' (by rw [← e2]; exact hL)
        obtain ⟨j, x, hx, hj, hbj, rfl⟩ := hAB d hd
        exact hw j x hx hj hbj
      · intro h
        cases h with
        | done h => exact absurd ((left_zero hV).2 h) h0
        | @step _ A B c _ s' e ha hs hl =>
          obtain ⟨i, x, hx, hb, rfl⟩ := und_mem.1 (show c ∈ undH X t.done by rw [e]; exact List.mem_append_right _ (List.mem_cons_self ..))
          obtain ⟨A', B', e1, e2, hAB⟩ := und_split hx hb
          have hq : (A ++ B).Perm (A' ++ B') := perm_split (by rw [← e, ← e1])
          have hi : i < X.length := (List.getElem?_eq_some_iff.1 hx).1
          have h1 : (probH X).one t i = some ⟨t.order ++ [x.2], t.done ||| (1 <<< i), if x.1.told then t.left - 1 else t.left, s'⟩ := (one_some hx).2 ⟨hb, fun j y hy hj hbj => ?_, s', hs, rfl⟩
          · exact ⟨_, List.mem_filterMap.2 ⟨i, List.mem_range.2 hi, h1⟩, (next hi h1).2 (by show Lin (undH X (t.done ||| (1 <<< i))) s'; rw [e2]; exact hl.perm hq)⟩
          · -- what is not done and not this one
            have hy2 : y.1 ∈ undH X (t.done ||| (1 <<< i)) := und_mem.2 ⟨j, y, hy, by rw [testBit_or, hbj, decide_eq_false hj]; rfl, rfl⟩
            rw [e2] at hy2
            exact ha y.1 (hq.mem_iff.2 hy2)
theorem und_zero (X : List (HCall × Nat)) : undH X 0 = X.map Prod.fst := by
  unfold undH
  rw [List.filter_eq_self.2 (fun p _ => by simp), show (fun p : (HCall × Nat) × Nat => p.1.1) = Prod.fst ∘ Prod.fst from rfl, ← List.map_map, List.zipIdx_map_fst]
theorem looked_fst (l : List HCall) : (lookedH l).map Prod.fst = l.filter countsH := by
  unfold lookedH
  have h := List.filter_map (f := Prod.fst) (p := countsH) (l := l.zipIdx)
  rw [List.zipIdx_map_fst] at h
  rw [h]; rfl
/-- Is there an order? -/
def linH (l : List HCall) : Prop := Lin (l.filter countsH) ([], [])
theorem order_lin {l : List HCall} (hl : ∀ c ∈ l, -9223372036854775808 ≤ c.op.amount ∧ c.op.amount ≤ 9223372036854775807) : ((probH (lookedH l)).sv (startH (lookedH l))).isSome = true ↔ linH l := by
  have h := sv_lin (X := lookedH l) (fun c hc => hl c.1 (List.mem_of_getElem? (looked_mem hc).1)) _ (startH (lookedH l)) rfl (startH_V _)
  rw [show (startH (lookedH l)).done = 0 from rfl, und_zero, looked_fst] at h
  exact h
/-- The answer to calls that can be looked at. -/
def goodH (l : List HCall) : Prop := ¬ 8 < (l.filter countsH).length ∧ (l.filter countsH).any (fun c => c.told && decide (c.en < c.bg)) = false
theorem looked_bad (l : List HCall) : (lookedH l).any (fun c => c.1.told && decide (c.1.en < c.1.bg)) = (l.filter countsH).any (fun c => c.told && decide (c.en < c.bg)) := by
  rw [← looked_fst, List.any_map]; rfl
theorem order2 {l m : List HCall} (hl : ∀ c ∈ l, -9223372036854775808 ≤ c.op.amount ∧ c.op.amount ≤ 9223372036854775807) (hm : ∀ c ∈ m, -9223372036854775808 ≤ c.op.amount ∧ c.op.amount ≤ 9223372036854775807) (h1 : (l.filter countsH).length = (m.filter countsH).length)
    (h2 : (l.filter countsH).any (fun c => c.told && decide (c.en < c.bg)) = (m.filter countsH).any (fun c => c.told && decide (c.en < c.bg))) (h3 : linH l ↔ linH m) : (orderH l).2 = (orderH m).2 := by
  have e1 : (lookedH l).length = (l.filter countsH).length := by rw [← looked_fst, List.length_map]
  have e2 : (lookedH m).length = (m.filter countsH).length := by rw [← looked_fst, List.length_map]
  have h4 : ((probH (lookedH l)).sv (startH (lookedH l))).isSome = ((probH (lookedH m)).sv (startH (lookedH m))).isSome := by
    rw [Bool.eq_iff_iff, order_lin hl, order_lin hm]; exact h3
  unfold orderH
  rw [e1, e2, h1, looked_bad, looked_bad, h2]
  split
  · rfl
  · split
    · rfl
    · revert h4
      cases (probH (lookedH l)).sv (startH (lookedH l)) <;> cases (probH (lookedH m)).sv (startH (lookedH m)) <;> intro h4 <;> first | rfl | cases h4
/-! ### turned, and stretched -/
def scaleH (k : Int) (c : HCall) : HCall := ⟨c.op, c.bg * k, c.en * k, c.told, c.rep⟩
theorem ahead_scale {k : Int} (hk : 1 ≤ k) (d c : HCall) : aheadH (scaleH k d) (scaleH k c) = aheadH d c := by
  unfold aheadH scaleH
  dsimp only
  congr 1
  exact decide_eq_decide.2 (Int.mul_lt_mul_right (by omega))
theorem turn_law {l m : List HCall} {k : Int} (hk : 1 ≤ k) (hl : ∀ c ∈ l, -9223372036854775808 ≤ c.op.amount ∧ c.op.amount ≤ 9223372036854775807) (hp : m.Perm (l.map (scaleH k))) : (orderH l).2 = (orderH m).2 := by
  have hf : (m.filter countsH).Perm ((l.filter countsH).map (scaleH k)) := by
    refine (hp.filter countsH).trans (List.Perm.of_eq ?_)
    rw [List.filter_map]; rfl
  refine order2 hl (fun c hc => by obtain ⟨x, hx, rfl⟩ := List.mem_map.1 (hp.mem_iff.1 hc); exact hl x hx) (by rw [hf.length_eq, List.length_map]) ?_ ?_
  · rw [hf.any_eq, List.any_map]
    refine any_congr' fun c _ => ?_
    show (c.told && decide (c.en < c.bg)) = (c.told && decide (c.en * k < c.bg * k))
    congr 1
    exact decide_eq_decide.2 (Int.mul_lt_mul_right (by omega)).symm
  · constructor
    · intro h
      exact (Lin.map (f := scaleH k) (fun _ => rfl) (fun _ _ => rfl) h fun c _ d _ hq => by rw [ahead_scale hk]; exact hq).perm hf.symm
    · intro h
      exact Lin.unmap (f := scaleH k) (fun _ => rfl) (fun _ _ => rfl) (h.perm hf) rfl fun c _ d _ hq => by rw [ahead_scale hk] at hq; exact hq
end Go.Q
namespace Go.Q
open Go.ChangeShapes Go.WideShapes Go.ChangeAt Go.RowKit Go.Deep Go.Op
section
variable {H : Type} {enc : TypeId × Value → H} {P : Program} {w : World} {base : Nat} {spare : Nat → Bool} {held : Bool}
/-- The ranges of a call's numbers. -/
def HC.Rng (x : HC) : Prop := (-9223372036854775808 ≤ x.c.op.amount ∧ x.c.op.amount ≤ 9223372036854775807) ∧ (-9223372036854775808 ≤ x.c.bg ∧ x.c.bg ≤ 9223372036854775807) ∧ (-9223372036854775808 ≤ x.c.en ∧ x.c.en ≤ 9223372036854775807)
/-- A call that comes in, of its cells. -/
theorem dec_call {e ti tb to tr r t0 t1 t2 : TypeId} {fs os ps rs : Array Field} {m : Nat} {cs : List Value} {y : DataW H × List MemPlace} (he : P.underlying e = some (.struct fs))
    (k0 : fieldAt? P fs 0 = some (0, 7, to)) (k1 : fieldAt? P fs 1 = some (7, 1, ti)) (k2 : fieldAt? P fs 2 = some (8, 1, ti)) (k3 : fieldAt? P fs 3 = some (9, 1, tb)) (k4 : fieldAt? P fs 4 = some (10, 3, tr))
    (u1 : P.underlying ti = some (.int .i64)) (u3 : P.underlying tb = some .bool)
    (ho : P.underlying to = some (.struct os)) (oone : oneCellFields P os = true) (oC : P.cellsOf to = os.size) (o7 : os.size = 7)
    (o0 : fieldOf? P os 0 = some (.int .i64)) (o1 : fieldOf? P os 1 = some .string) (o2 : fieldOf? P os 2 = some .string) (o3 : fieldOf? P os 3 = some (.int .i64)) (o4 : fieldOf? P os 4 = some .string) (o5 : fieldOf? P os 5 = some (.int .i64)) (o6 : fieldOf? P os 6 = some (.int .i64))
    (hp : P.underlying tr = some (.struct ps)) (p0 : fieldAt? P ps 0 = some (0, 1, t0)) (p1 : fieldAt? P ps 1 = some (1, 1, t1)) (p2 : fieldAt? P ps 2 = some (2, 1, t2)) (v0 : P.underlying t0 = some (.int .i64)) (v1 : P.underlying t1 = some (.int .i64)) (v2 : P.underlying t2 = some (.slice r))
    (hr : P.underlying r = some (.struct rs)) (hrone : oneCellFields P rs = true) (hrC : P.cellsOf r = rs.size) (hr2 : rs.size = 2) (hrb : P.bytesOf r = 24)
    (j0 : fieldOf? P rs 0 = some .string) (j1 : fieldOf? P rs 1 = some (.int .i64)) (hl : cs.length = 13) (hz : ∀ k ∈ y.1.weights P e, k ≤ reachBytes) (htr : DataW.trod enc P w base spare held m e cs = some y) :
    ∃ x : HC, (x.In w ∧ x.Rng) ∧ cs = x.cells := by
  match cs, hl with
  | [c0, c1, c2, c3, c4, c5, c6, c7, c8, c9, c10, c11, c12], _ =>
    obtain ⟨m0, z0, s0, _⟩ := trod_field he htr k0
    obtain ⟨m1, z1, s1, _⟩ := trod_field he htr k1
    obtain ⟨m2, z2, s2, _⟩ := trod_field he htr k2
    obtain ⟨m3, z3, s3, _⟩ := trod_field he htr k3
    obtain ⟨m4, z4, s4, w4⟩ := trod_field he htr k4
    obtain ⟨n1, e1, _, w1⟩ := DataW.trod_int u1 s1
    obtain ⟨n2, e2, _, w2⟩ := DataW.trod_int u1 s2
    obtain ⟨b3, e3, _⟩ := DataW.trod_bool u3 s3
    obtain ⟨o, hok, eo⟩ := dec_op ho oone oC o7 o0 o1 o2 o3 o4 o5 o6 (by rw [o7]; rfl) s0
    obtain ⟨p, A, c, hpk, ep, hpR, hpz⟩ := dec_reply hp p0 p1 p2 v0 v1 v2 hr hrone hrC hr2 hrb j0 j1 rfl (fun k hk => hz k (w4 k hk)) s4
    simp only [List.drop_succ_cons, List.drop_zero, List.take_succ_cons, List.take_zero, List.cons.injEq, and_true] at e1 e2 e3 eo ep
    have eo2 : [c0, c1, c2, c3, c4, c5, c6] = o.cells := eo
    have ep2 : [c10, c11, c12] = [i64 p.why, i64 p.amount, .slice A p.rows.length c] := by simpa using ep
    unfold Opm.cells at eo2
    simp only [List.cons.injEq, and_true] at eo2 ep2
    obtain ⟨rfl, rfl, rfl, rfl, rfl, rfl, rfl⟩ := eo2
    obtain ⟨rfl, rfl, rfl⟩ := ep2
    subst e1; subst e2; subst e3
    exact ⟨⟨⟨o, n1, n2, b3, p⟩, A, c⟩, ⟨⟨hpR, hpz⟩, hok.amount, wf_i64 w1, wf_i64 w2⟩, rfl⟩
theorem open_calls {s e ti tb to tr r t0 t1 t2 : TypeId} {fs os ps rs : Array Field} {v : Value} {d : DataW H} {pl : List MemPlace} (hs : P.underlying s = some (.slice e)) (he : P.underlying e = some (.struct fs)) (hC : P.cellsOf e = 13)
    (k0 : fieldAt? P fs 0 = some (0, 7, to)) (k1 : fieldAt? P fs 1 = some (7, 1, ti)) (k2 : fieldAt? P fs 2 = some (8, 1, ti)) (k3 : fieldAt? P fs 3 = some (9, 1, tb)) (k4 : fieldAt? P fs 4 = some (10, 3, tr))
    (u1 : P.underlying ti = some (.int .i64)) (u3 : P.underlying tb = some .bool)
    (ho : P.underlying to = some (.struct os)) (oone : oneCellFields P os = true) (oC : P.cellsOf to = os.size) (o7 : os.size = 7)
    (o0 : fieldOf? P os 0 = some (.int .i64)) (o1 : fieldOf? P os 1 = some .string) (o2 : fieldOf? P os 2 = some .string) (o3 : fieldOf? P os 3 = some (.int .i64)) (o4 : fieldOf? P os 4 = some .string) (o5 : fieldOf? P os 5 = some (.int .i64)) (o6 : fieldOf? P os 6 = some (.int .i64))
    (hp : P.underlying tr = some (.struct ps)) (p0 : fieldAt? P ps 0 = some (0, 1, t0)) (p1 : fieldAt? P ps 1 = some (1, 1, t1)) (p2 : fieldAt? P ps 2 = some (2, 1, t2)) (v0 : P.underlying t0 = some (.int .i64)) (v1 : P.underlying t1 = some (.int .i64)) (v2 : P.underlying t2 = some (.slice r))
    (hr : P.underlying r = some (.struct rs)) (hrone : oneCellFields P rs = true) (hrC : P.cellsOf r = rs.size) (hr2 : rs.size = 2) (hrb : P.bytesOf r = 24)
    (j0 : fieldOf? P rs 0 = some .string) (j1 : fieldOf? P rs 1 = some (.int .i64))
    (hv : Value.okWide P w .any 0 s v) (hz : ∀ k ∈ d.weights P s, k ≤ reachBytes) (h : DataW.Trod enc P w base spare held s v d pl) :
    ∃ (l : List HC) (A : Option Addr) (c : Nat), v = .slice A l.length c ∧ RdT w 13 HC.cells (.slice A l.length c) l ∧ ∀ x ∈ l, x.In w ∧ x.Rng := by
  obtain ⟨fuel, h⟩ := trod_fuel h (slice_form hs hv)
  obtain ⟨css, hR, hc, _, A, c, hA⟩ := open_rows_w (sz := 13) (fun cs z => (∀ k ∈ z.weights P e, k ≤ reachBytes) → ∃ x : HC, (x.In w ∧ x.Rng) ∧ cs = x.cells) hs hC (by decide) h fun m cs y hl htr hz =>
    dec_call he k0 k1 k2 k3 k4 u1 u3 ho oone oC o7 o0 o1 o2 o3 o4 o5 o6 hp p0 p1 p2 v0 v1 v2 hr hrone hrC hr2 hrb j0 j1 hl hz htr
  obtain ⟨l, hb, hl2, hg⟩ := flat_models (f := HC.cells) (Good := fun x => x.In w ∧ x.Rng) (css := css) fun cs hcs => by
    obtain ⟨z, h1, h2⟩ := hc cs hcs
    exact h1 fun k hk => hz k (h2 k hk)
  rw [← hl2] at hA
  subst hA
  exact ⟨l, A, c, rfl, by unfold RdT; rw [← hb]; exact hR, hg⟩
end
/-! ### a row of calls, turned round -/
section
def rotI (t : Int) (n : Nat) : Nat := (t.tmod ((n : Nat) : Int) + ((n : Nat) : Int)).toNat % n
theorem rotI_nat (t : Int) {n : Nat} (h : 0 < n) : ∃ s : Nat, t.tmod ((n : Nat) : Int) + ((n : Nat) : Int) = ((s : Nat) : Int) ∧ s % n = rotI t n ∧ s < 2 * n ∧ rotI t n < n := by
  have h1 : t.tmod ((n : Nat) : Int) < ((n : Nat) : Int) := Int.tmod_lt_of_pos t (by omega)
  have h2 : -((n : Nat) : Int) < t.tmod ((n : Nat) : Int) := Int.lt_tmod_of_pos t (by omega)
  exact ⟨(t.tmod ((n : Nat) : Int) + ((n : Nat) : Int)).toNat, by omega, rfl, by omega, Nat.mod_lt _ h⟩
theorem run_remN {P : Program} {w : World} {k : IntKind} {t : TypeId} {a n r : Nat} (hn : 0 < n) (h : a % n = r) : (binOp .rem t (.int k ((a : Nat) : Int)) (.int k ((n : Nat) : Int))).run P w = .ok (.int k ((r : Nat) : Int)) w := by
  subst h
  rw [← tmod_nat]
  exact run_rem (by omega)
def rotL (t : Int) (l : List HC) : List HC := l.drop (rotI t l.length) ++ l.take (rotI t l.length)
theorem rotL_len (t : Int) (l : List HC) : (rotL t l).length = l.length := by
  unfold rotL
  rw [List.length_append, List.length_drop, List.length_take]
  rcases Nat.eq_zero_or_pos l.length with h | h
  · omega
  · have := (rotI_nat t h).choose_spec.2.2.2; omega
theorem rotL_at {t : Int} {l : List HC} {i n : Nat} (hi : i < l.length) (hn : (i + rotI t l.length) % l.length = n) : (rotL t l)[i]? = l[n]? := by
  have hr := (rotI_nat t (show 0 < l.length by omega)).choose_spec.2.2.2
  unfold rotL
  rw [List.getElem?_append, List.length_drop]
  split
  · rw [List.getElem?_drop]
    rw [Nat.mod_eq_of_lt (by omega)] at hn
    rw [← hn, Nat.add_comm]
  · rw [List.getElem?_take, if_pos (by omega)]
    rw [Nat.mod_eq_sub_mod (by omega), Nat.mod_eq_of_lt (by omega)] at hn
    rw [← hn]
    congr 1
    omega
theorem rotL_perm (t : Int) (l : List HC) : (rotL t l).Perm l := by
  unfold rotL
  exact List.perm_append_comm.trans (List.Perm.of_eq (List.take_append_drop _ _))
theorem take_mapF {k : Int} {o q : List HC} {i : Nat} {x y : HC} (h : o.map HC.c = (q.take i).map (fun z => scaleH k z.c)) (hx : q[i]? = some x) (hy : y.c = scaleH k x.c) : (o ++ [y]).map HC.c = (q.take (i + 1)).map (fun z => scaleH k z.c) := by
  rw [List.map_append, h, List.take_add_one, hx, List.map_append]
  show _ ++ [y.c] = _ ++ [scaleH k x.c]
  rw [hy]
theorem far_ex (a : Int) : ∃ k : Int, 1 + (a.tmod 5 + 5).tmod 5 = k ∧ 1 ≤ k ∧ k ≤ 5 ∧ -5 < a.tmod 5 ∧ a.tmod 5 < 5 := by
  have h1 := Int.tmod_lt_of_pos a (b := 5) (by decide)
  have h2 := Int.lt_tmod_of_pos a (b := 5) (by decide)
  have h3 := Int.tmod_lt_of_pos (a.tmod 5 + 5) (b := 5) (by decide)
  have h4 := Int.tmod_nonneg (a := a.tmod 5 + 5) 5 (by omega)
  exact ⟨_, rfl, by omega, by omega, by omega, h1⟩
theorem mul_far {a k : Int} (h1 : -1000000 ≤ a) (h2 : a ≤ 1000000) (hk1 : 1 ≤ k) (hk2 : k ≤ 5) : -5000000 ≤ a * k ∧ a * k ≤ 5000000 := by
  obtain rfl | rfl | rfl | rfl | rfl : k = 1 ∨ k = 2 ∨ k = 3 ∨ k = 4 ∨ k = 5 := by omega
  all_goals omega
theorem map_all {P : HCall → Prop} {o q : List HC} (h : o.map HC.c = q.map HC.c) (hq : ∀ x ∈ q, P x.c) : ∀ x ∈ o, P x.c := by
  intro x hx
  have : x.c ∈ q.map HC.c := by rw [← h]; exact List.mem_map_of_mem hx
  obtain ⟨y, hy, e⟩ := List.mem_map.1 this
  rw [← e]; exact hq y hy
theorem far_all {P : HCall → Prop} {t k : Int} {l o : List HC} {n : Nat} (hs : ∀ c, P c → P (scaleH k c)) (h : o.map HC.c = ((rotL t l).take n).map (fun z => scaleH k z.c)) (hl : ∀ x ∈ l, P x.c) : ∀ x ∈ o, P x.c := by
  intro x hx
  have : x.c ∈ o.map HC.c := List.mem_map_of_mem hx
  rw [h] at this
  obtain ⟨y, hy, e⟩ := List.mem_map.1 this
  rw [← e]
  exact hs _ (hl y ((rotL_perm t l).mem_iff.1 (List.mem_of_mem_take hy)))
theorem HC.In.keep {w w' : World} {x : HC} (h : x.In w) (K : Keeps none_ w w') : x.In w' := ⟨Rd.keep0 (by decide) h.rows K, h.rlen⟩
theorem turned_law {t k : Int} {l o o1 o2 : List HC} (hk : 1 ≤ k) (ho : ∀ x ∈ l, -9223372036854775808 ≤ x.c.op.amount ∧ x.c.op.amount ≤ 9223372036854775807) (hm : o.map HC.c = ((rotL t l).take o.length).map (fun z => scaleH k z.c)) (hl : o.length = l.length) (h1 : o1.map HC.c = l.map HC.c) (h2 : o2.map HC.c = o.map HC.c) : (orderH (o1.map HC.c)).2 = (orderH (o2.map HC.c)).2 := by
  rw [h1, h2]
  refine turn_law hk (fun c hc => ?_) (k := k) ?_
  · obtain ⟨x, hx, rfl⟩ := List.mem_map.1 hc
    exact ho x hx
  · rw [hm, List.take_of_length_le (by rw [rotL_len, hl]; exact Nat.le_refl _), List.map_map]
    exact (rotL_perm t l).map _
end
end Go.Q
namespace Go.Proofs.YtnbcghbgeiocbaaDoor
open Go.Q Go.RowKit

set_option maxHeartbeats 4000000 in
theorem Turns_calls (w : World) (LA : Option Addr) (lc : Nat) (l : List HC) (a1 a2 : Int) (hL : RdT w 13 HC.cells (Value.slice LA l.length lc) l) (hI : ∀ x ∈ l, x.In w ∧ x.Rng) : Calls Tryd.prog 7 ⟨[(Value.slice LA l.length lc), (i64 a1), (i64 a2)]⟩ w (fun e w' => e = .returned (.bool true) ∧ Keeps none_ w w') := by
 have hLi : ∀ x ∈ l, x.In w := fun x hx => (hI x hx).1
 have hcap := (RdT.len HC.two (by decide) hL).2
 unfold maxLen at hcap
 obtain ⟨kf, hkf, hk1, hk2, hk3, hk4⟩ := far_ex a2
 have K0 : Keeps none_ w w := Keeps.refl w
 refine q_calls Tryd.func7 (by kernel_rfl) (by kernel_rfl) ?_
 refine qs ?_
 refine qg ?_
 refine og 1 [(0, (Value.slice LA l.length lc)), (1, (i64 a1)), (2, (i64 a2)), (6, (Value.bool false))] 1 ?_
 refine od ?_
 refine qs ?_
 refine qs ?_
 refine qg ?_
 refine og 1 [(0, (Value.slice LA l.length lc)), (1, (i64 a1)), (2, (i64 a2)), (6, (Value.bool false)), (15, (Value.slice LA l.length lc))] 1 ?_
 refine Ops.call (by kernel_rfl) (d := (some 16)) (by kernel_rfl) (hard_calls _ LA lc l (Rd.keep0 (by decide) hL K0)) ?_
 rintro _ w4 ⟨t1, rfl, ht2, K3⟩
 refine ⟨_, _, rfl, rfl, ?_⟩
 replace K0 := K0.t0 K3
 clear K3
 refine og 1 [(0, (Value.slice LA l.length lc)), (1, (i64 a1)), (2, (i64 a2)), (6, (Value.bool false)), (17, (Value.bool t1))] 3 ?_
 refine Ops.split t1 (fun h5 => ?_) (fun h5 => ?_)
 ·rw [h5]
  have p6 : t1 = true := h5
  refine og 4 [(0, (Value.slice LA l.length lc)), (1, (i64 a1)), (2, (i64 a2)), (6, (Value.bool false)), (21, (Value.bool true))] 7 ?_
  refine od ?_
  refine q_then (o := .tmp 21) (by kernel_rfl) rfl ?_
  refine qs ?_
  refine qg ?_
  refine Ops.call (by kernel_rfl) (d := (some 22)) (by kernel_rfl) (known_calls _) ?_
  rintro _ w8 ⟨rfl, K7⟩
  refine ⟨_, _, rfl, rfl, ?_⟩
  replace K0 := K0.t0 K7
  clear K7
  refine og 1 [(0, (Value.slice LA l.length lc)), (1, (i64 a1)), (2, (i64 a2)), (6, (Value.bool true))] 2 ?_
  refine od ?_
  refine q_ret (by kernel_rfl) ?_
  refine ⟨(Value.bool true), retv_tmp rfl rfl, ?_⟩
  exact ⟨rfl, K0⟩
 ·rw [h5]
  have p9 : t1 = false := h5
  refine og 4 [(0, (Value.slice LA l.length lc)), (1, (i64 a1)), (2, (i64 a2)), (6, (Value.bool false)), (21, (Value.bool (decide (((l.length : Nat) : Int) > 12))))] 7 ?_
  refine od ?_
  refine q_cond (o := .tmp 21) (b := (decide (((l.length : Nat) : Int) > 12))) (by kernel_rfl) rfl (fun h10 => ?_) (fun h10 => ?_)
  ·rw [h10]
   have p11 : ((l.length : Nat) : Int) > 12 := of_decide_eq_true h10
   refine qs ?_
   refine qg ?_
   refine Ops.call (by kernel_rfl) (d := (some 22)) (by kernel_rfl) (known_calls _) ?_
   rintro _ w13 ⟨rfl, K12⟩
   refine ⟨_, _, rfl, rfl, ?_⟩
   replace K0 := K0.t0 K12
   clear K12
   refine og 1 [(0, (Value.slice LA l.length lc)), (1, (i64 a1)), (2, (i64 a2)), (6, (Value.bool true))] 2 ?_
   refine od ?_
   refine q_ret (by kernel_rfl) ?_
   refine ⟨(Value.bool true), retv_tmp rfl rfl, ?_⟩
   exact ⟨rfl, K0⟩
  ·rw [h10]
   have p14 : ¬ (((l.length : Nat) : Int) > 12) := of_decide_eq_false h10
   refine q_skip (by kernel_rfl) ?_
   refine qs ?_
   refine qg ?_
   refine og 3 [(0, (Value.slice LA l.length lc)), (1, (i64 a1)), (2, (i64 a2)), (6, (Value.bool false)), (25, (i64 (IntKind.i64.wrap (((a2).tmod 5) + 5))))] 3 ?_
   have e15 : IntKind.i64.wrap (((a2).tmod 5) + 5) = ((a2).tmod 5) + 5 := wrap_i64 (by omega) (by omega)
   rw [e15]
   refine og 2 [(0, (Value.slice LA l.length lc)), (1, (i64 a1)), (2, (i64 a2)), (6, (Value.bool false)), (27, (i64 (IntKind.i64.wrap (1 + ((((a2).tmod 5) + 5).tmod 5)))))] 5 ?_
   have e16 : IntKind.i64.wrap (1 + ((((a2).tmod 5) + 5).tmod 5)) = kf := by rw [wrap_i64 (by omega) (by omega)]; omega
   rw [e16]
   refine og 1 [(0, (Value.slice LA l.length lc)), (1, (i64 a1)), (2, (i64 kf)), (6, (Value.bool false))] 6 ?_
   refine od ?_
   refine qs ?_
   refine qg ?_
   refine og 1 [(0, (Value.slice LA l.length lc)), (1, (i64 a1)), (2, (i64 kf)), (6, (Value.bool false)), (7, (Value.slice none 0 0))] 1 ?_
   refine od ?_
   refine qs ?_
   refine qs ?_
   refine qg ?_
   refine og 1 [(0, (Value.slice LA l.length lc)), (1, (i64 a1)), (2, (i64 kf)), (6, (Value.bool false)), (7, (Value.slice none 0 0)), (8, (i64 0))] 1 ?_
   refine od ?_
   refine q_block (id := 0) (by kernel_rfl) ?_
   refine q_keep (R := [(0, (Value.slice LA l.length lc)), (1, (i64 a1)), (2, (i64 kf)), (7, (Value.slice none 0 0)), (8, (i64 0))]) (by kernel_rfl) ?_
   refine q_loop (fun (gs : Nat × (List HC) × (Option Addr) × Nat) L (wx : World) => match gs with | (ii, o, A, oc) => L = [(0, (Value.slice LA l.length lc)), (1, (i64 a1)), (2, (i64 kf)), (7, (Value.slice A o.length oc)), (8, (i64 ((ii : Nat) : Int)))] ∧ OwnT wx w.heap.size 30 13 HC.cells ((Value.slice A o.length oc)) o ∧ o.map HC.c = ((rotL a1 l).take ii).map (fun z => scaleH kf z.c) ∧ (∀ x ∈ o, x.In w) ∧ ii ≤ l.length ∧ Keeps none_ w wx) (fun (gs : Nat × (List HC) × (Option Addr) × Nat) => match gs with | (ii, o, A, oc) => l.length - ii) (0, [], none, 0) (by kernel_rfl) ⟨rfl, (OwnT.nil _ _ _ _ _), rfl, (fun _ h => by cases h), Nat.zero_le _, K0⟩ ?_
   clear K0
   rintro ⟨ii, o, A, oc⟩ _ w17 ⟨rfl, hOV, hm, hoI, hi, K18⟩
   have hol : o.length = ii := by have := congrArg List.length hm; simp only [List.length_map, List.length_take, rotL_len] at this; omega
   refine qs ?_
   refine qs ?_
   refine qg ?_
   refine og 4 [(0, (Value.slice LA l.length lc)), (1, (i64 a1)), (2, (i64 kf)), (7, (Value.slice A o.length oc)), (8, (i64 ((ii : Nat) : Int))), (31, (Value.bool (decide (((ii : Nat) : Int) < ((l.length : Nat) : Int)))))] 4 ?_
   refine od ?_
   refine q_cond (o := .tmp 31) (b := (decide (((ii : Nat) : Int) < ((l.length : Nat) : Int)))) (by kernel_rfl) rfl (fun h19 => ?_) (fun h19 => ?_)
   ·rw [h19]
    have p20 : ((ii : Nat) : Int) < ((l.length : Nat) : Int) := of_decide_eq_true h19
    obtain ⟨rr, hrr, hrm, hrl, hrt⟩ := rotI_nat a1 (show 0 < l.length by omega)
    obtain ⟨n0, hn0⟩ : ∃ n, (ii + rotI a1 l.length) % l.length = n := ⟨_, rfl⟩
    have hnl : n0 < l.length := by rw [← hn0]; exact Nat.mod_lt _ (by omega)
    refine q_skip (by kernel_rfl) ?_
    refine qs ?_
    refine q_block (id := 1) (by kernel_rfl) ?_
    refine qs ?_
    refine qg ?_
    refine og 4 [(0, (Value.slice LA l.length lc)), (1, (i64 a1)), (2, (i64 kf)), (7, (Value.slice A o.length oc)), (8, (i64 ((ii : Nat) : Int))), (34, (i64 ((ii : Nat) : Int))), (35, (i64 a1)), (37, (i64 ((l.length : Nat) : Int)))] 4 ?_
    refine Ops.go (v := (i64 ((a1 : Int).tmod ((l.length : Nat) : Int)))) (by kernel_rfl) (Runs.int (op := .rem) (t := 3) (by kernel_rfl) (run_rem (by omega))) (d := (some 38)) (by kernel_rfl) rfl ?_
    refine og 3 [(0, (Value.slice LA l.length lc)), (1, (i64 a1)), (2, (i64 kf)), (7, (Value.slice A o.length oc)), (8, (i64 ((ii : Nat) : Int))), (34, (i64 ((ii : Nat) : Int))), (41, (i64 (IntKind.i64.wrap (((a1 : Int).tmod ((l.length : Nat) : Int)) + ((l.length : Nat) : Int)))))] 8 ?_
    have e21 : IntKind.i64.wrap (((a1 : Int).tmod ((l.length : Nat) : Int)) + ((l.length : Nat) : Int)) = ((rr : Nat) : Int) := by rw [wrap_i64 (by omega) (by omega)]; omega
    rw [e21]
    refine og 2 [(0, (Value.slice LA l.length lc)), (1, (i64 a1)), (2, (i64 kf)), (7, (Value.slice A o.length oc)), (8, (i64 ((ii : Nat) : Int))), (34, (i64 ((ii : Nat) : Int))), (41, (i64 ((rr : Nat) : Int))), (43, (i64 ((l.length : Nat) : Int)))] 10 ?_
    refine Ops.go (v := (i64 ((rotI a1 l.length : Nat) : Int))) (by kernel_rfl) (Runs.int (op := .rem) (t := 3) (by kernel_rfl) (run_remN (by omega) hrm)) (d := (some 44)) (by kernel_rfl) rfl ?_
    refine og 1 [(0, (Value.slice LA l.length lc)), (1, (i64 a1)), (2, (i64 kf)), (7, (Value.slice A o.length oc)), (8, (i64 ((ii : Nat) : Int))), (45, (i64 (IntKind.i64.wrap (((ii : Nat) : Int) + ((rotI a1 l.length : Nat) : Int)))))] 12 ?_
    have e22 : IntKind.i64.wrap (((ii : Nat) : Int) + ((rotI a1 l.length : Nat) : Int)) = ((ii + (rotI a1 l.length) : Nat) : Int) := by rw [wrap_i64 (by omega) (by omega)]; omega
    rw [e22]
    clear e22
    refine og 2 [(0, (Value.slice LA l.length lc)), (1, (i64 a1)), (2, (i64 kf)), (7, (Value.slice A o.length oc)), (8, (i64 ((ii : Nat) : Int))), (45, (i64 ((ii + (rotI a1 l.length) : Nat) : Int))), (47, (i64 ((l.length : Nat) : Int)))] 14 ?_
    refine Ops.go (v := (i64 ((n0 : Nat) : Int))) (by kernel_rfl) (Runs.int (op := .rem) (t := 3) (by kernel_rfl) (run_remN (by omega) hn0)) (d := (some 48)) (by kernel_rfl) rfl ?_
    refine og 1 [(0, (Value.slice LA l.length lc)), (1, (i64 a1)), (2, (i64 kf)), (7, (Value.slice A o.length oc)), (8, (i64 ((ii : Nat) : Int))), (9, (i64 ((n0 : Nat) : Int)))] 16 ?_
    refine od ?_
    refine qs ?_
    refine qg ?_
    refine og 2 [(0, (Value.slice LA l.length lc)), (1, (i64 a1)), (2, (i64 kf)), (7, (Value.slice A o.length oc)), (8, (i64 ((ii : Nat) : Int))), (49, (Value.slice LA l.length lc)), (50, (i64 ((n0 : Nat) : Int)))] 2 ?_
    obtain ⟨x, hx⟩ : ∃ x, l[n0]? = some x := ⟨_, List.getElem?_eq_getElem (by omega)⟩
    have hxi := (hI x (List.mem_of_getElem? hx)).1
    have hxg := (hI x (List.mem_of_getElem? hx)).2.2
    obtain ⟨rb23, ro24, hA25⟩ := Rd.addr (Rd.keep0 (by decide) hL K18) (by omega)
    refine Ops.go (by kernel_rfl) (Runs.ixSliceE (k := IntKind.i64) (t := 22) (len := l.length) (cap := lc) (s := 13) (off' := ro24 + n0 * 13) (i := ((n0 : Nat) : Int)) hA25 (by kernel_rfl) (by kernel_rfl) (by omega) (by omega) (by omega)) (d := (some 51)) (by kernel_rfl) rfl ?_
    refine Ops.go (v := (agg [(i64 x.c.op.kind), (Value.string (str x.c.op.frm)), (Value.string (str x.c.op.to)), (i64 x.c.op.amount), (Value.string (str x.c.op.key)), (i64 x.c.op.slot), (i64 x.c.op.shard), (i64 x.c.bg), (i64 x.c.en), (Value.bool x.c.told), (i64 x.c.rep.why), (i64 x.c.rep.amount), (Value.slice x.A x.c.rep.rows.length x.k)])) (by kernel_rfl) (Runs.load (t := 30) (a := ⟨rb23, ro24 + n0 * 13, none⟩) (by kernel_rfl) (RdT.ld (f := HC.cells) (x := x) HC.two (Rd.keep0 (by decide) hL K18) (by kernel_rfl) (by kernel_rfl) hA25 hx)) (d := (some 52)) (by kernel_rfl) rfl ?_
    refine Ops.new (o := rowL [(i64 0), (Value.string ByteArray.empty), (Value.string ByteArray.empty), (i64 0), (Value.string ByteArray.empty), (i64 0), (i64 0), (i64 0), (i64 0), (Value.bool false), (i64 0), (i64 0), (Value.slice none 0 0)] 30) (V := fun b => (ptr b)) (by kernel_rfl) (d := (some 10)) (by kernel_rfl) (fun b => rfl) (fun b26 w27 hb28 H29 K30 hs31 => ?_)
    have nb26 : w.heap.size ≤ b26 := by have := K18.size; omega
    have ob32 : ∀ i, ((Value.slice A o.length oc)).ownBlock = some i → i < b26 := fun i hi => by have := (World.ownsRow.lt hOV i hi).2; omega
    replace K18 := K18.trans K30 (U := none_) (fun i h1 h2 => h2) (fun i h1 h2 => by exact h2)
    replace hOV := own_keep0 hOV K30
    clear K30 hs31
    refine Ops.put (t := 30) (b := b26) (off := 0) (v := (agg [(i64 x.c.op.kind), (Value.string (str x.c.op.frm)), (Value.string (str x.c.op.to)), (i64 x.c.op.amount), (Value.string (str x.c.op.key)), (i64 x.c.op.slot), (i64 x.c.op.shard), (i64 x.c.bg), (i64 x.c.en), (Value.bool x.c.told), (i64 x.c.rep.why), (i64 x.c.rep.amount), (Value.slice x.A x.c.rep.rows.length x.k)])) (ys := [(i64 x.c.op.kind), (Value.string (str x.c.op.frm)), (Value.string (str x.c.op.to)), (i64 x.c.op.amount), (Value.string (str x.c.op.key)), (i64 x.c.op.slot), (i64 x.c.op.shard), (i64 x.c.bg), (i64 x.c.en), (Value.bool x.c.told), (i64 x.c.rep.why), (i64 x.c.rep.amount), (Value.slice x.A x.c.rep.rows.length x.k)]) (by kernel_rfl) (by kernel_rfl) H29 (by kernel_rfl) (d := none) (by kernel_rfl) rfl (fun w33 H34 K35 => ?_)
    clear H29
    replace K18 := K18.trans K35 (U := none_) (fun i h1 h2 => h2) (fun i h1 h2 => by have h2 : i = b26 := h2; exfalso; omega)
    replace hOV := own_keep hOV K35 (fun i hi => by have := ob32 i hi; omega)
    clear K35
    refine od ?_
    refine qs ?_
    refine qs ?_
    refine qg ?_
    refine og 1 [(0, (Value.slice LA l.length lc)), (1, (i64 a1)), (2, (i64 kf)), (7, (Value.slice A o.length oc)), (8, (i64 ((ii : Nat) : Int))), (10, (ptr b26)), (53, (Value.pointer (some ⟨b26, 7, none⟩)))] 1 ?_
    refine Ops.go (v := (i64 x.c.bg)) (by kernel_rfl) (Runs.load (t := 3) (a := ⟨b26, 7, none⟩) (by kernel_rfl) (H34.loads (by kernel_rfl))) (d := (some 54)) (by kernel_rfl) rfl ?_
    refine og 2 [(0, (Value.slice LA l.length lc)), (1, (i64 a1)), (2, (i64 kf)), (7, (Value.slice A o.length oc)), (8, (i64 ((ii : Nat) : Int))), (10, (ptr b26)), (56, (Value.bool (decide (x.c.bg < (-1000000)))))] 4 ?_
    refine Ops.split (decide (x.c.bg < (-1000000))) (fun h36 => ?_) (fun h36 => ?_)
    ·rw [h36]
     have p37 : x.c.bg < (-1000000) := of_decide_eq_true h36
     refine og 14 [(0, (Value.slice LA l.length lc)), (1, (i64 a1)), (2, (i64 kf)), (7, (Value.slice A o.length oc)), (8, (i64 ((ii : Nat) : Int))), (10, (ptr b26)), (70, (Value.bool true))] 18 ?_
     refine od ?_
     refine q_then (o := .tmp 70) (by kernel_rfl) rfl ?_
     refine qs ?_
     refine qg ?_
     refine Ops.call (by kernel_rfl) (d := (some 71)) (by kernel_rfl) (known_calls _) ?_
     rintro _ w39 ⟨rfl, K38⟩
     refine ⟨_, _, rfl, rfl, ?_⟩
     replace K18 := K18.trans K38 (U := none_) (fun i h1 h2 => h2) (fun i h1 h2 => by exact h2)
     replace H34 := H34.keep K38 (fun h => h)
     replace hOV := own_keep0 hOV K38
     clear K38
     refine og 1 [(0, (Value.slice LA l.length lc)), (1, (i64 a1)), (2, (i64 kf)), (6, (Value.bool true)), (7, (Value.slice A o.length oc)), (8, (i64 ((ii : Nat) : Int))), (10, (ptr b26))] 2 ?_
     refine od ?_
     refine q_ret (by kernel_rfl) ?_
     refine ⟨(Value.bool true), retv_tmp rfl rfl, ?_⟩
     exact ⟨rfl, K18⟩
    ·rw [h36]
     have p40 : ¬ (x.c.bg < (-1000000)) := of_decide_eq_false h36
     refine og 1 [(0, (Value.slice LA l.length lc)), (1, (i64 a1)), (2, (i64 kf)), (7, (Value.slice A o.length oc)), (8, (i64 ((ii : Nat) : Int))), (10, (ptr b26)), (56, (Value.bool false)), (57, (Value.pointer (some ⟨b26, 7, none⟩)))] 5 ?_
     refine Ops.go (v := (i64 x.c.bg)) (by kernel_rfl) (Runs.load (t := 3) (a := ⟨b26, 7, none⟩) (by kernel_rfl) (H34.loads (by kernel_rfl))) (d := (some 58)) (by kernel_rfl) rfl ?_
     refine og 3 [(0, (Value.slice LA l.length lc)), (1, (i64 a1)), (2, (i64 kf)), (7, (Value.slice A o.length oc)), (8, (i64 ((ii : Nat) : Int))), (10, (ptr b26)), (61, (Value.bool (decide (x.c.bg > 1000000))))] 9 ?_
     refine Ops.split (decide (x.c.bg > 1000000)) (fun h41 => ?_) (fun h41 => ?_)
     ·rw [h41]
      have p42 : x.c.bg > 1000000 := of_decide_eq_true h41
      refine og 9 [(0, (Value.slice LA l.length lc)), (1, (i64 a1)), (2, (i64 kf)), (7, (Value.slice A o.length oc)), (8, (i64 ((ii : Nat) : Int))), (10, (ptr b26)), (70, (Value.bool true))] 18 ?_
      refine od ?_
      refine q_then (o := .tmp 70) (by kernel_rfl) rfl ?_
      refine qs ?_
      refine qg ?_
      refine Ops.call (by kernel_rfl) (d := (some 71)) (by kernel_rfl) (known_calls _) ?_
      rintro _ w44 ⟨rfl, K43⟩
      refine ⟨_, _, rfl, rfl, ?_⟩
      replace K18 := K18.trans K43 (U := none_) (fun i h1 h2 => h2) (fun i h1 h2 => by exact h2)
      replace H34 := H34.keep K43 (fun h => h)
      replace hOV := own_keep0 hOV K43
      clear K43
      refine og 1 [(0, (Value.slice LA l.length lc)), (1, (i64 a1)), (2, (i64 kf)), (6, (Value.bool true)), (7, (Value.slice A o.length oc)), (8, (i64 ((ii : Nat) : Int))), (10, (ptr b26))] 2 ?_
      refine od ?_
      refine q_ret (by kernel_rfl) ?_
      refine ⟨(Value.bool true), retv_tmp rfl rfl, ?_⟩
      exact ⟨rfl, K18⟩
     ·rw [h41]
      have p45 : ¬ (x.c.bg > 1000000) := of_decide_eq_false h41
      refine og 1 [(0, (Value.slice LA l.length lc)), (1, (i64 a1)), (2, (i64 kf)), (7, (Value.slice A o.length oc)), (8, (i64 ((ii : Nat) : Int))), (10, (ptr b26)), (61, (Value.bool false)), (62, (Value.pointer (some ⟨b26, 8, none⟩)))] 10 ?_
      refine Ops.go (v := (i64 x.c.en)) (by kernel_rfl) (Runs.load (t := 3) (a := ⟨b26, 8, none⟩) (by kernel_rfl) (H34.loads (by kernel_rfl))) (d := (some 63)) (by kernel_rfl) rfl ?_
      refine og 3 [(0, (Value.slice LA l.length lc)), (1, (i64 a1)), (2, (i64 kf)), (7, (Value.slice A o.length oc)), (8, (i64 ((ii : Nat) : Int))), (10, (ptr b26)), (66, (Value.bool (decide (x.c.en < (-1000000)))))] 14 ?_
      refine Ops.split (decide (x.c.en < (-1000000))) (fun h46 => ?_) (fun h46 => ?_)
      ·rw [h46]
       have p47 : x.c.en < (-1000000) := of_decide_eq_true h46
       refine og 4 [(0, (Value.slice LA l.length lc)), (1, (i64 a1)), (2, (i64 kf)), (7, (Value.slice A o.length oc)), (8, (i64 ((ii : Nat) : Int))), (10, (ptr b26)), (70, (Value.bool true))] 18 ?_
       refine od ?_
       refine q_then (o := .tmp 70) (by kernel_rfl) rfl ?_
       refine qs ?_
       refine qg ?_
       refine Ops.call (by kernel_rfl) (d := (some 71)) (by kernel_rfl) (known_calls _) ?_
       rintro _ w49 ⟨rfl, K48⟩
       refine ⟨_, _, rfl, rfl, ?_⟩
       replace K18 := K18.trans K48 (U := none_) (fun i h1 h2 => h2) (fun i h1 h2 => by exact h2)
       replace H34 := H34.keep K48 (fun h => h)
       replace hOV := own_keep0 hOV K48
       clear K48
       refine og 1 [(0, (Value.slice LA l.length lc)), (1, (i64 a1)), (2, (i64 kf)), (6, (Value.bool true)), (7, (Value.slice A o.length oc)), (8, (i64 ((ii : Nat) : Int))), (10, (ptr b26))] 2 ?_
       refine od ?_
       refine q_ret (by kernel_rfl) ?_
       refine ⟨(Value.bool true), retv_tmp rfl rfl, ?_⟩
       exact ⟨rfl, K18⟩
      ·rw [h46]
       have p50 : ¬ (x.c.en < (-1000000)) := of_decide_eq_false h46
       refine og 1 [(0, (Value.slice LA l.length lc)), (1, (i64 a1)), (2, (i64 kf)), (7, (Value.slice A o.length oc)), (8, (i64 ((ii : Nat) : Int))), (10, (ptr b26)), (66, (Value.bool false)), (67, (Value.pointer (some ⟨b26, 8, none⟩)))] 15 ?_
       refine Ops.go (v := (i64 x.c.en)) (by kernel_rfl) (Runs.load (t := 3) (a := ⟨b26, 8, none⟩) (by kernel_rfl) (H34.loads (by kernel_rfl))) (d := (some 68)) (by kernel_rfl) rfl ?_
       refine og 2 [(0, (Value.slice LA l.length lc)), (1, (i64 a1)), (2, (i64 kf)), (7, (Value.slice A o.length oc)), (8, (i64 ((ii : Nat) : Int))), (10, (ptr b26)), (70, (Value.bool (decide (x.c.en > 1000000))))] 18 ?_
       refine od ?_
       refine q_cond (o := .tmp 70) (b := (decide (x.c.en > 1000000))) (by kernel_rfl) rfl (fun h51 => ?_) (fun h51 => ?_)
       ·rw [h51]
        have p52 : x.c.en > 1000000 := of_decide_eq_true h51
        refine qs ?_
        refine qg ?_
        refine Ops.call (by kernel_rfl) (d := (some 71)) (by kernel_rfl) (known_calls _) ?_
        rintro _ w54 ⟨rfl, K53⟩
        refine ⟨_, _, rfl, rfl, ?_⟩
        replace K18 := K18.trans K53 (U := none_) (fun i h1 h2 => h2) (fun i h1 h2 => by exact h2)
        replace H34 := H34.keep K53 (fun h => h)
        replace hOV := own_keep0 hOV K53
        clear K53
        refine og 1 [(0, (Value.slice LA l.length lc)), (1, (i64 a1)), (2, (i64 kf)), (6, (Value.bool true)), (7, (Value.slice A o.length oc)), (8, (i64 ((ii : Nat) : Int))), (10, (ptr b26))] 2 ?_
        refine od ?_
        refine q_ret (by kernel_rfl) ?_
        refine ⟨(Value.bool true), retv_tmp rfl rfl, ?_⟩
        exact ⟨rfl, K18⟩
       ·rw [h51]
        have p55 : ¬ (x.c.en > 1000000) := of_decide_eq_false h51
        have hmb := mul_far (a := x.c.bg) (by omega) (by omega) hk1 hk2
        have hme := mul_far (a := x.c.en) (by omega) (by omega) hk1 hk2
        refine q_skip (by kernel_rfl) ?_
        refine qs ?_
        refine qg ?_
        refine og 1 [(0, (Value.slice LA l.length lc)), (1, (i64 a1)), (2, (i64 kf)), (7, (Value.slice A o.length oc)), (8, (i64 ((ii : Nat) : Int))), (10, (ptr b26)), (72, (Value.pointer (some ⟨b26, 7, none⟩)))] 1 ?_
        refine Ops.go (v := (i64 x.c.bg)) (by kernel_rfl) (Runs.load (t := 3) (a := ⟨b26, 7, none⟩) (by kernel_rfl) (H34.loads (by kernel_rfl))) (d := (some 73)) (by kernel_rfl) rfl ?_
        refine og 2 [(0, (Value.slice LA l.length lc)), (1, (i64 a1)), (2, (i64 kf)), (7, (Value.slice A o.length oc)), (8, (i64 ((ii : Nat) : Int))), (10, (ptr b26)), (75, (i64 (IntKind.i64.wrap (x.c.bg * kf))))] 4 ?_
        have e56 : IntKind.i64.wrap (x.c.bg * kf) = x.c.bg * kf := wrap_i64 (by omega) (by omega)
        rw [e56]
        refine og 1 [(0, (Value.slice LA l.length lc)), (1, (i64 a1)), (2, (i64 kf)), (7, (Value.slice A o.length oc)), (8, (i64 ((ii : Nat) : Int))), (10, (ptr b26)), (75, (i64 (x.c.bg * kf))), (76, (Value.pointer (some ⟨b26, 7, none⟩)))] 5 ?_
        refine Ops.put (t := 3) (b := b26) (off := 7) (v := (i64 (x.c.bg * kf))) (ys := [(i64 x.c.op.kind), (Value.string (str x.c.op.frm)), (Value.string (str x.c.op.to)), (i64 x.c.op.amount), (Value.string (str x.c.op.key)), (i64 x.c.op.slot), (i64 x.c.op.shard), (i64 (x.c.bg * kf)), (i64 x.c.en), (Value.bool x.c.told), (i64 x.c.rep.why), (i64 x.c.rep.amount), (Value.slice x.A x.c.rep.rows.length x.k)]) (by kernel_rfl) (by kernel_rfl) H34 (by kernel_rfl) (d := none) (by kernel_rfl) rfl (fun w57 H58 K59 => ?_)
        clear H34
        replace K18 := K18.trans K59 (U := none_) (fun i h1 h2 => h2) (fun i h1 h2 => by have h2 : i = b26 := h2; exfalso; omega)
        replace hOV := own_keep hOV K59 (fun i hi => by have := ob32 i hi; omega)
        clear K59
        refine od ?_
        refine qs ?_
        refine qg ?_
        refine og 1 [(0, (Value.slice LA l.length lc)), (1, (i64 a1)), (2, (i64 kf)), (7, (Value.slice A o.length oc)), (8, (i64 ((ii : Nat) : Int))), (10, (ptr b26)), (77, (Value.pointer (some ⟨b26, 8, none⟩)))] 1 ?_
        refine Ops.go (v := (i64 x.c.en)) (by kernel_rfl) (Runs.load (t := 3) (a := ⟨b26, 8, none⟩) (by kernel_rfl) (H58.loads (by kernel_rfl))) (d := (some 78)) (by kernel_rfl) rfl ?_
        refine og 2 [(0, (Value.slice LA l.length lc)), (1, (i64 a1)), (2, (i64 kf)), (7, (Value.slice A o.length oc)), (8, (i64 ((ii : Nat) : Int))), (10, (ptr b26)), (80, (i64 (IntKind.i64.wrap (x.c.en * kf))))] 4 ?_
        have e60 : IntKind.i64.wrap (x.c.en * kf) = x.c.en * kf := wrap_i64 (by omega) (by omega)
        rw [e60]
        refine og 1 [(0, (Value.slice LA l.length lc)), (1, (i64 a1)), (2, (i64 kf)), (7, (Value.slice A o.length oc)), (8, (i64 ((ii : Nat) : Int))), (10, (ptr b26)), (80, (i64 (x.c.en * kf))), (81, (Value.pointer (some ⟨b26, 8, none⟩)))] 5 ?_
        refine Ops.put (t := 3) (b := b26) (off := 8) (v := (i64 (x.c.en * kf))) (ys := [(i64 x.c.op.kind), (Value.string (str x.c.op.frm)), (Value.string (str x.c.op.to)), (i64 x.c.op.amount), (Value.string (str x.c.op.key)), (i64 x.c.op.slot), (i64 x.c.op.shard), (i64 (x.c.bg * kf)), (i64 (x.c.en * kf)), (Value.bool x.c.told), (i64 x.c.rep.why), (i64 x.c.rep.amount), (Value.slice x.A x.c.rep.rows.length x.k)]) (by kernel_rfl) (by kernel_rfl) H58 (by kernel_rfl) (d := none) (by kernel_rfl) rfl (fun w61 H62 K63 => ?_)
        clear H58
        replace K18 := K18.trans K63 (U := none_) (fun i h1 h2 => h2) (fun i h1 h2 => by have h2 : i = b26 := h2; exfalso; omega)
        replace hOV := own_keep hOV K63 (fun i hi => by have := ob32 i hi; omega)
        clear K63
        refine od ?_
        refine qg ?_
        refine og 1 [(0, (Value.slice LA l.length lc)), (1, (i64 a1)), (2, (i64 kf)), (7, (Value.slice A o.length oc)), (8, (i64 ((ii : Nat) : Int))), (10, (ptr b26)), (82, (Value.slice A o.length oc))] 1 ?_
        refine Ops.go (v := (agg [(i64 x.c.op.kind), (Value.string (str x.c.op.frm)), (Value.string (str x.c.op.to)), (i64 x.c.op.amount), (Value.string (str x.c.op.key)), (i64 x.c.op.slot), (i64 x.c.op.shard), (i64 (x.c.bg * kf)), (i64 (x.c.en * kf)), (Value.bool x.c.told), (i64 x.c.rep.why), (i64 x.c.rep.amount), (Value.slice x.A x.c.rep.rows.length x.k)])) (by kernel_rfl) (Runs.load (t := 30) (a := ⟨b26, 0, none⟩) (by kernel_rfl) (H62.loads (by kernel_rfl))) (d := (some 83)) (by kernel_rfl) rfl ?_
        refine Ops.new (o := rowL [(i64 x.c.op.kind), (Value.string (str x.c.op.frm)), (Value.string (str x.c.op.to)), (i64 x.c.op.amount), (Value.string (str x.c.op.key)), (i64 x.c.op.slot), (i64 x.c.op.shard), (i64 (x.c.bg * kf)), (i64 (x.c.en * kf)), (Value.bool x.c.told), (i64 x.c.rep.why), (i64 x.c.rep.amount), (Value.slice x.A x.c.rep.rows.length x.k)] 30) (V := fun b => (Value.slice (some ⟨b, 0, none⟩) 1 1)) (by kernel_rfl) (d := (some 84)) (by kernel_rfl) (fun b => rfl) (fun b64 w65 hb66 H67 K68 hs69 => ?_)
        have lb64b26 : b26 < b64 := by have := H62.lt; omega
        have nb64 : w.heap.size ≤ b64 := by have := K18.size; omega
        have ob70 : ∀ i, ((Value.slice A o.length oc)).ownBlock = some i → i < b64 := fun i hi => by have := (World.ownsRow.lt hOV i hi).2; omega
        replace K18 := K18.trans K68 (U := none_) (fun i h1 h2 => h2) (fun i h1 h2 => by exact h2)
        replace H62 := H62.keep K68 (fun h => h)
        replace hOV := own_keep0 hOV K68
        clear K68 hs69
        obtain ⟨v71, w72, hr73, hO74, hK75, hg76⟩ := OwnT.app (ty := 22) HC.two HC.one tyHR hOV (show RdT _ 13 HC.cells _ [(⟨scaleH kf x.c, x.A, x.k⟩ : HC)] from Rd.lit H67 (n := 1) rfl (by decide)) (by simp only [List.length_cons, List.length_nil]; omega) (by simp only [List.length_cons, List.length_nil]; omega) (K18.size)
        obtain ⟨A78, c79, rfl⟩ := RdT.form HC.two (by decide) (OwnT.rd hO74)
        have ob80 : ∀ i, ((Value.slice A78 ((o ++ [(⟨scaleH kf x.c, x.A, x.k⟩ : HC)]).length) c79)).ownBlock = some i → i ≠ b26 := fun i hi => by rcases hg76 i hi with h | h; (have := ob32 i h; omega); (have := H62.lt; omega)
        have ob81 : ∀ i, ((Value.slice A78 ((o ++ [(⟨scaleH kf x.c, x.A, x.k⟩ : HC)]).length) c79)).ownBlock = some i → i ≠ b64 := fun i hi => by rcases hg76 i hi with h | h; (have := ob70 i h; omega); (have := H67.lt; omega)
        have K77 := hK75
        refine Ops.go (v := (Value.slice A78 ((o ++ [(⟨scaleH kf x.c, x.A, x.k⟩ : HC)]).length) c79)) (by kernel_rfl) (Runs.append (ts := #[22, 22]) (ty := 22) (vs := [(Value.slice A o.length oc), (Value.slice (some ⟨b64, 0, none⟩) 1 1)]) (by kernel_rfl) hr73) (d := (some 85)) (by kernel_rfl) rfl ?_
        replace K18 := K18.trans K77 (U := none_) (fun i h1 h2 => h2) (fun i h1 h2 => by have h2 : ((Value.slice A o.length oc)).ownBlock = some i := h2; exfalso; have := (World.ownsRow.lt hOV i h2).1; omega)
        replace H62 := H62.keep K77 (by intro h; change ((Value.slice A o.length oc)).ownBlock = some b26 at h; have := ob32 b26 h; omega)
        replace H67 := H67.keep K77 (by intro h; change ((Value.slice A o.length oc)).ownBlock = some b64 at h; have := ob70 b64 h; omega)
        clear hOV
        clear K77 hr73 hK75 hg76
        refine og 1 [(0, (Value.slice LA l.length lc)), (1, (i64 a1)), (2, (i64 kf)), (7, (Value.slice A78 ((o ++ [(⟨scaleH kf x.c, x.A, x.k⟩ : HC)]).length) c79)), (8, (i64 ((ii : Nat) : Int)))] 5 ?_
        refine od ?_
        refine qg ?_
        refine og 2 [(0, (Value.slice LA l.length lc)), (1, (i64 a1)), (2, (i64 kf)), (7, (Value.slice A78 ((o ++ [(⟨scaleH kf x.c, x.A, x.k⟩ : HC)]).length) c79)), (8, (i64 ((ii : Nat) : Int))), (33, (i64 (IntKind.i64.wrap (((ii : Nat) : Int) + 1))))] 2 ?_
        have e82 : IntKind.i64.wrap (((ii : Nat) : Int) + 1) = ((ii + 1 : Nat) : Int) := by rw [wrap_i64 (by omega) (by omega)]; omega
        rw [e82]
        clear e82
        refine og 1 [(0, (Value.slice LA l.length lc)), (1, (i64 a1)), (2, (i64 kf)), (7, (Value.slice A78 ((o ++ [(⟨scaleH kf x.c, x.A, x.k⟩ : HC)]).length) c79)), (8, (i64 ((ii + 1 : Nat) : Int)))] 3 ?_
        refine Ops.keep (R := [(0, (Value.slice LA l.length lc)), (1, (i64 a1)), (2, (i64 kf)), (7, (Value.slice A78 ((o ++ [(⟨scaleH kf x.c, x.A, x.k⟩ : HC)]).length) c79)), (8, (i64 ((ii + 1 : Nat) : Int)))]) (by kernel_rfl) ?_
        refine od ?_
        exact ⟨(ii + 1, (o ++ [(⟨scaleH kf x.c, x.A, x.k⟩ : HC)]), A78, c79), ⟨rfl, hO74, (take_mapF hm ((rotL_at (by omega) hn0).trans hx) rfl), (fun y hy => (List.mem_append.1 hy).elim (hoI y) (fun h => by rw [List.mem_singleton] at h; subst h; exact ⟨hxi.rows, hxi.rlen⟩)), (by omega), K18⟩, (show l.length - (ii + 1) < l.length - ii from by omega)⟩
   ·rw [h19]
    have p83 : ¬ (((ii : Nat) : Int) < ((l.length : Nat) : Int)) := of_decide_eq_false h19
    refine q_exit (id := 0) (by kernel_rfl) ?_
    refine qs ?_
    refine qg ?_
    refine og 1 [(7, (Value.slice A o.length oc)), (87, (Value.slice LA l.length lc))] 1 ?_
    refine Ops.call (by kernel_rfl) (d := (some 88)) (by kernel_rfl) (given_calls _ LA lc l (Rd.keep0 (by decide) hL K18) (fun x hx => (hLi x hx).keep K18) (by omega)) ?_
    rintro _ w89 ⟨o84, OA85, oc86, T87, rfl, K88, hO90, hR91, h92, h93, hm94⟩
    refine ⟨_, _, rfl, rfl, ?_⟩
    replace K18 := K18.trans K88 (U := none_) (fun i h1 h2 => h2) (fun i h1 h2 => by exact h2)
    replace hOV := own_keep0 hOV K88
    clear K88
    have hx96 := OwnT.rd hO90
    have hz95 : o84.length = l.length := by have := congrArg List.length hm94; simpa only [List.length_map] using this
    refine Ops.call (by kernel_rfl) (d := (some 89)) (by kernel_rfl) (Linear_calls _ OA85 oc86 o84 T87 hx96 hR91 (map_all (P := (fun c : HCall => -9223372036854775808 ≤ c.op.amount ∧ c.op.amount ≤ 9223372036854775807)) hm94 (fun x hx => (hI x hx).2.1)) (by omega)) ?_
    rintro _ w100 ⟨ok97, why98, rfl, K99, hE101⟩
    refine ⟨_, _, rfl, rfl, ?_⟩
    replace K18 := K18.trans K99 (U := none_) (fun i h1 h2 => h2) (fun i h1 h2 => by exact h2)
    replace hOV := own_keep0 hOV K99
    replace hx96 := (Rd.keep0 (by omega) hx96 K99)
    replace hR91 := (RowsE.keep hR91 K99 (fun _ _ h => h))
    clear K99
    refine og 5 [(7, (Value.slice A o.length oc)), (11, (Value.bool ok97)), (12, (i64 why98))] 8 ?_
    refine od ?_
    refine qs ?_
    refine qg ?_
    refine og 1 [(11, (Value.bool ok97)), (12, (i64 why98)), (93, (Value.slice A o.length oc))] 1 ?_
    refine Ops.call (by kernel_rfl) (d := (some 94)) (by kernel_rfl) (given_calls _ A oc o (OwnT.rd hOV) (fun x hx => (hoI x hx).keep K18) (by omega)) ?_
    rintro _ w107 ⟨o102, OA103, oc104, T105, rfl, K106, hO108, hR109, h110, h111, hm112⟩
    refine ⟨_, _, rfl, rfl, ?_⟩
    replace K18 := K18.trans K106 (U := none_) (fun i h1 h2 => h2) (fun i h1 h2 => by exact h2)
    replace hOV := own_keep0 hOV K106
    replace hx96 := (Rd.keep0 (by omega) hx96 K106)
    replace hR91 := (RowsE.keep hR91 K106 (fun _ _ h => h))
    clear K106
    have hx114 := OwnT.rd hO108
    have hz113 : o102.length = o.length := by have := congrArg List.length hm112; simpa only [List.length_map] using this
    refine Ops.call (by kernel_rfl) (d := (some 95)) (by kernel_rfl) (Linear_calls _ OA103 oc104 o102 T105 hx114 hR109 (map_all (P := (fun c : HCall => -9223372036854775808 ≤ c.op.amount ∧ c.op.amount ≤ 9223372036854775807)) hm112 (far_all (P := (fun c : HCall => -9223372036854775808 ≤ c.op.amount ∧ c.op.amount ≤ 9223372036854775807)) (fun c hc => hc) hm (fun x hx => (hI x hx).2.1))) (by omega)) ?_
    rintro _ w118 ⟨ok115, why116, rfl, K117, hE119⟩
    have e120 := Prod.mk.inj (hE101.trans ((turned_law (t := a1) hk1 (fun x hx => (hI x hx).2.1) (by rw [hol]; exact hm) (by omega) hm94 hm112).trans hE119.symm))
    obtain ⟨rfl, rfl⟩ := e120
    refine ⟨_, _, rfl, rfl, ?_⟩
    replace K18 := K18.trans K117 (U := none_) (fun i h1 h2 => h2) (fun i h1 h2 => by exact h2)
    replace hOV := own_keep0 hOV K117
    replace hx96 := (Rd.keep0 (by omega) hx96 K117)
    replace hR91 := (RowsE.keep hR91 K117 (fun _ _ h => h))
    replace hx114 := (Rd.keep0 (by omega) hx114 K117)
    replace hR109 := (RowsE.keep hR109 K117 (fun _ _ h => h))
    clear K117
    refine og 5 [(11, (Value.bool ok97)), (12, (i64 why98)), (13, (Value.bool ok97)), (14, (i64 why98))] 8 ?_
    refine od ?_
    refine qs ?_
    refine qg ?_
    refine og 2 [(12, (i64 why98)), (14, (i64 why98)), (98, (Value.bool ok97)), (99, (Value.bool ok97))] 2 ?_
    refine Ops.split ok97 (fun h121 => ?_) (fun h121 => ?_)
    ·rw [h121]
     have p122 : ok97 = true := h121
     refine og 7 [(106, (Value.bool (why98 == why98)))] 9 ?_
     have h123 : (why98 == why98) = true := by simp
     rw [h123]
     refine Ops.call (by kernel_rfl) (d := (some 107)) (by kernel_rfl) (known_calls _) ?_
     rintro _ w125 ⟨rfl, K124⟩
     refine ⟨_, _, rfl, rfl, ?_⟩
     replace K18 := K18.trans K124 (U := none_) (fun i h1 h2 => h2) (fun i h1 h2 => by exact h2)
     replace hOV := own_keep0 hOV K124
     replace hx96 := (Rd.keep0 (by omega) hx96 K124)
     replace hR91 := (RowsE.keep hR91 K124 (fun _ _ h => h))
     replace hx114 := (Rd.keep0 (by omega) hx114 K124)
     replace hR109 := (RowsE.keep hR109 K124 (fun _ _ h => h))
     clear K124
     refine og 2 [(6, (Value.bool true))] 12 ?_
     refine od ?_
     refine q_ret (by kernel_rfl) ?_
     refine ⟨(Value.bool true), retv_tmp rfl rfl, ?_⟩
     exact ⟨rfl, K18⟩
    ·rw [h121]
     have p126 : ok97 = false := h121
     refine og 7 [(106, (Value.bool (why98 == why98)))] 9 ?_
     have h127 : (why98 == why98) = true := by simp
     rw [h127]
     refine Ops.call (by kernel_rfl) (d := (some 107)) (by kernel_rfl) (known_calls _) ?_
     rintro _ w129 ⟨rfl, K128⟩
     refine ⟨_, _, rfl, rfl, ?_⟩
     replace K18 := K18.trans K128 (U := none_) (fun i h1 h2 => h2) (fun i h1 h2 => by exact h2)
     replace hOV := own_keep0 hOV K128
     replace hx96 := (Rd.keep0 (by omega) hx96 K128)
     replace hR91 := (RowsE.keep hR91 K128 (fun _ _ h => h))
     replace hx114 := (Rd.keep0 (by omega) hx114 K128)
     replace hR109 := (RowsE.keep hR109 K128 (fun _ _ h => h))
     clear K128
     refine og 2 [(6, (Value.bool true))] 12 ?_
     refine od ?_
     refine q_ret (by kernel_rfl) ?_
     refine ⟨(Value.bool true), retv_tmp rfl rfl, ?_⟩
     exact ⟨rfl, K18⟩
end Go.Proofs.YtnbcghbgeiocbaaDoor
