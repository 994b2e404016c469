/- What the claim stands on, part 16: rules of the walk, contracts of the functions, plain laws. -/
import Derived.Test.YtnbcghbgeiocbaaDoorProg
import Derived.Test.YtnbcghbgeiocbaaDoorKHSerial15
import Derived.Test.YtnbcghbgeiocbaaDoorKHSerial8
import Derived.Test.YtnbcghbgeiocbaaDoorKHSerial6
import Derived.Test.YtnbcghbgeiocbaaDoorKHSerial11
import Derived.Test.YtnbcghbgeiocbaaDoorKHSerial13
import Derived.Test.YtnbcghbgeiocbaaDoorKHSerial10
set_option linter.unusedVariables false
namespace Go.Proofs.YtnbcghbgeiocbaaDoor
open Go.Q Go.RowKit
set_option maxHeartbeats 4000000 in
theorem Order_calls (w : World) (LA : Option Addr) (lc : Nat) (l : List HC) (G : Nat → Prop) (hL : RdT w 13 HC.cells (Value.slice LA l.length lc) l) (hG : RowsE w HC.rv HC.rows G l) (ho : ∀ x ∈ l, -9223372036854775808 ≤ x.c.op.amount ∧ x.c.op.amount ≤ 9223372036854775807) (hl : l.length ≤ 2000) : Calls Tryd.prog 12 ⟨[(Value.slice LA l.length lc)]⟩ w (fun e w' => ∃ (o : List Nat) (A : Option Addr) (c : Nat) (ok : Bool) (why : Int), e = .returned (.tuple #[.slice A o.length c, .bool ok, i64 why]) ∧ Keeps none_ w w' ∧ RdT w' 1 iN (.slice A o.length c) o ∧ (o, ok, why) = orderH (l.map HC.c)) := by
 have K0 : Keeps none_ w w := Keeps.refl w
 refine qr_calls 11 Tryd.func12 (by kernel_rfl) (by kernel_rfl) ?_
 refine rsg Open.wide ?_
 refine ogd 3 [(0, .slice LA l.length lc), (2, .slice none 0 0), (3, .bool false), (4, i64 0)] ?_
 refine rsg Open.wide ?_
 refine onew (rowL [(Value.slice none 0 0), (Value.slice none 0 0)] 68) (fun b => (ptr b)) 5 (fun b => rfl) (fun b1 w2 hb3 H4 K5 hs6 => ?_)
 have nb1 : w.heap.size ≤ b1 := by have := K0.size; omega
 replace K0 := K0.t0 K5
 clear K5 hs6
 refine od ?_
 refine rsg Open.wide ?_
 refine ocQ 16 (New_calls _) ?_
 rintro _ w10 ⟨b7, mb8, kb9, rfl, K11, H12, Hm13, Hk14, hb15, hb16, hb17, hb18, hb19, hb20⟩
 have lb7b1 : b1 < b7 := by have := H4.lt; omega
 have lmb8b1 : b1 < mb8 := by have := H4.lt; omega
 have lkb9b1 : b1 < kb9 := by have := H4.lt; omega
 have nb7 : w.heap.size ≤ b7 := by have := K0.size; omega
 have nmb8 : w.heap.size ≤ mb8 := by have := K0.size; omega
 have nkb9 : w.heap.size ≤ kb9 := by have := K0.size; omega
 refine ⟨_, _, rfl, rfl, ?_⟩
 replace K0 := K0.t0 K11
 replace H4 := H4.kn K11
 refine og 1 [(0, .slice LA l.length lc), (2, .slice none 0 0), (3, .bool false), (4, i64 0), (5, ptr b1), (17, (agg [(Value.slice none 0 0), (Value.int IntKind.u64 0), (i64 0), (ptr b7)]))] 2 ?_
 refine onew (rowL [(Value.slice none 0 0), (Value.int IntKind.u64 0), (i64 0), (Value.pointer none)] 73) (fun b => (ptr b)) 6 (fun b => rfl) (fun b21 w22 hb23 H24 K25 hs26 => ?_)
 have lb21b1 : b1 < b21 := by have := H4.lt; omega
 have lb21b7 : b7 < b21 := by have := H12.lt; omega
 have lb21mb8 : mb8 < b21 := by have := Hm13.lt; omega
 have lb21kb9 : kb9 < b21 := by have := Hk14.lt; omega
 have nb21 : w.heap.size ≤ b21 := by have := K0.size; omega
 replace K0 := K0.t0 K25
 replace H4 := H4.kn K25
 replace H12 := H12.kn K25
 replace Hm13 := Hm13.kn K25
 replace Hk14 := Hk14.kn K25
 clear K25 hs26
 refine oput 73 b21 [(Value.slice none 0 0), (Value.int IntKind.u64 0), (i64 0), (ptr b7)] H24 rfl (fun w27 H28 K29 => ?_)
 replace K0 := K0.trans K29 (U := none_) (fun i h1 h2 => h2) (fun i h1 h2 => by have h2 : i = b21 := h2; exfalso; omega)
 replace H4 := H4.k1 K29 (by omega)
 replace H12 := H12.k1 K29 (by omega)
 replace Hm13 := Hm13.k1 K29 (by omega)
 replace Hk14 := Hk14.k1 K29 (by omega)
 refine od ?_
 refine rsg Open.wide ?_
 refine ogd 1 [(0, .slice LA l.length lc), (2, .slice none 0 0), (3, .bool false), (4, i64 0), (5, ptr b1), (6, ptr b21), (7, i64 0)] ?_
 refine rsQ ?_
 refine rsg Open.wide ?_
 refine ogd 3 [(2, .slice none 0 0), (3, .bool false), (4, i64 0), (5, ptr b1), (6, ptr b21), (7, i64 0), (18, .slice LA l.length lc), (19, i64 ↑l.length), (20, i64 0)] ?_
 refine qr_block (id := 0) (by kernel_rfl) ?_
 refine qr_keep (R := [(2, .slice none 0 0), (3, .bool false), (4, i64 0), (5, ptr b1), (6, ptr b21), (7, i64 0), (18, .slice LA l.length lc), (19, i64 ↑l.length), (20, i64 0)]) (by kernel_rfl) ?_
 refine qr_loop (fun (gs : Nat × (Option Addr) × Nat × (List HC) × (Option Addr) × Nat × (List Nat) × Nat × Int) (ds : List Deferred) L (wx : World) => match gs with | (ii, A1, c1, LX, A2, c2, nu, n, why) => ds = [] ∧ L = [(2, (Value.slice none 0 0)), (3, (Value.bool false)), (4, (i64 0)), (5, (ptr b1)), (6, (ptr b21)), (7, (i64 why)), (18, (Value.slice LA l.length lc)), (19, (i64 ((l.length : Nat) : Int))), (20, (i64 ((ii : Nat) : Int)))] ∧ OwnT wx w.heap.size 43 13 HC.cells ((Value.slice A1 LX.length c1)) LX ∧ (∀ i, ((Value.slice A1 LX.length c1)).ownBlock = some i → i ≠ b1) ∧ (∀ i, ((Value.slice A1 LX.length c1)).ownBlock = some i → i ≠ b7) ∧ (∀ i, ((Value.slice A1 LX.length c1)).ownBlock = some i → i ≠ mb8) ∧ (∀ i, ((Value.slice A1 LX.length c1)).ownBlock = some i → i ≠ kb9) ∧ (∀ i, ((Value.slice A1 LX.length c1)).ownBlock = some i → i ≠ b21) ∧ (∀ i, ((Value.slice A2 nu.length c2)).ownBlock = some i → ((Value.slice A1 LX.length c1)).ownBlock = some i → False) ∧ OwnT wx w.heap.size 3 1 iN ((Value.slice A2 nu.length c2)) nu ∧ (∀ i, ((Value.slice A2 nu.length c2)).ownBlock = some i → i ≠ b1) ∧ (∀ i, ((Value.slice A2 nu.length c2)).ownBlock = some i → i ≠ b7) ∧ (∀ i, ((Value.slice A2 nu.length c2)).ownBlock = some i → i ≠ mb8) ∧ (∀ i, ((Value.slice A2 nu.length c2)).ownBlock = some i → i ≠ kb9) ∧ (∀ i, ((Value.slice A2 nu.length c2)).ownBlock = some i → i ≠ b21) ∧ (∀ i, ((Value.slice A1 LX.length c1)).ownBlock = some i → ((Value.slice A2 nu.length c2)).ownBlock = some i → False) ∧ XS LX nu = lookedH ((l.map HC.c).take ii) ∧ nu.length = LX.length ∧ (∀ z ∈ LX, z ∈ l) ∧ n = (XS LX nu).countP (fun c => c.1.told) ∧ (why = if (XS LX nu).any (fun c => badH c.1) = true then 1 else 0) ∧ ii ≤ l.length ∧ LX.length ≤ ii ∧ Keeps none_ w wx ∧ Has wx b1 (rowL [(Value.slice A1 LX.length c1), (Value.slice A2 nu.length c2)] 68) ∧ Has wx b7 (rowL [(Value.map (some mb8)), (Value.map (some kb9))] 110) ∧ HasMap wx mb8 kstr ki64 [] ∧ HasMap wx kb9 kpair keptv (([] : List KeptM).map KeptM.kv) ∧ Has wx b21 (rowL [(Value.slice none 0 0), (Value.int IntKind.u64 0), (i64 ((n : Nat) : Int)), (ptr b7)] 73)) (fun (gs : Nat × (Option Addr) × Nat × (List HC) × (Option Addr) × Nat × (List Nat) × Nat × Int) => match gs with | (ii, A1, c1, LX, A2, c2, nu, n, why) => l.length - ii) (0, none, 0, [], none, 0, [], 0, 0) (by kernel_rfl) ⟨rfl, rfl, (OwnT.nil _ _ _ _ _), (fun i hi => by cases hi), (fun i hi => by cases hi), (fun i hi => by cases hi), (fun i hi => by cases hi), (fun i hi => by cases hi), (fun _ _ h => by cases h), (OwnT.nil _ _ _ _ _), (fun i hi => by cases hi), (fun i hi => by cases hi), (fun i hi => by cases hi), (fun i hi => by cases hi), (fun i hi => by cases hi), (fun _ _ h => by cases h), rfl, rfl, (fun z hz => by cases hz), rfl, rfl, Nat.zero_le _, Nat.zero_le _, K0, H4, H12, Hm13, Hk14, H28⟩ ?_
 clear H4 H12 Hm13 Hk14 H28 K0
 rintro ⟨ii, A1, c1, LX, A2, c2, nu, n, why⟩ _ _ w30 ⟨rfl, rfl, hOP, obPb1, obPb7, obPmb8, obPkb9, obPb21, ooPQ, hOQ, obQb1, obQb7, obQmb8, obQkb9, obQb21, ooQP, hX, hnl, hsub, hn, hw, hi, hLl, K31, H32, H33, H34, H35, H36⟩
 have hnle : n ≤ LX.length := by rw [hn]; exact Nat.le_trans List.countP_le_length (by rw [xs_len hnl]; exact Nat.le_refl _)
 refine rsg Open.wide ?_
 refine ogd 1 [(2, .slice none 0 0), (3, .bool false), (4, i64 0), (5, ptr b1), (6, ptr b21), (7, i64 why), (18, .slice LA l.length lc), (19, i64 ↑l.length), (20, i64 ↑ii), (21, (Value.bool (decide (((ii : Nat) : Int) < ((l.length : Nat) : Int)))))] ?_
 refine rsQ ?_
 refine rcQ 21 (decide (((ii : Nat) : Int) < ((l.length : Nat) : Int))) rfl (fun h37 => ?_) (fun h37 => ?_)
 ·rw [h37]
  have p38 := of_decide_eq_true h37
  refine rkQ ?_
  refine rsQ ?_
  refine qr_block (id := 1) (by kernel_rfl) ?_
  refine rsg Open.wide ?_
  refine og 1 [(2, .slice none 0 0), (3, .bool false), (4, i64 0), (5, ptr b1), (6, ptr b21), (7, i64 why), (18, .slice LA l.length lc), (19, i64 ↑l.length), (20, i64 ↑ii), (22, i64 ↑ii)] 1 ?_
  obtain ⟨x, hx⟩ : ∃ x, l[ii]? = some x := ⟨_, List.getElem?_eq_getElem (by omega)⟩
  obtain ⟨rb39, ro40, hA41⟩ := Rd.addr (Rd.keep0 (by decide) hL K31) (by omega)
  refine Ops.go (by kernel_rfl) (Runs.ixSliceE (k := IntKind.i64) (t := 33) (len := l.length) (cap := lc) (s := 13) (off' := ro40 + ii * 13) (i := ((ii : Nat) : Int)) hA41 (by kernel_rfl) (by kernel_rfl) (by omega) (by omega) (by omega)) (d := (some 23)) (by kernel_rfl) rfl ?_
  refine ogo (agg (HC.cells x)) 24 (Runs.load (t := 43) (a := ⟨rb39, ro40 + ii * 13, none⟩) (by kernel_rfl) (RdT.ld (f := HC.cells) (x := x) HC.two (Rd.keep0 (by decide) hL K31) (by kernel_rfl) (by kernel_rfl) hA41 hx)) rfl ?_
  refine onew (rowL [(i64 0), (Value.string ByteArray.empty), (Value.string ByteArray.empty), (i64 0), (Value.string ByteArray.empty), (i64 0), (i64 0), (i64 0), (i64 0), (Value.bool false), (i64 0), (i64 0), (Value.slice none 0 0)] 43) (fun b => (ptr b)) 9 (fun b => rfl) (fun b42 w43 hb44 H45 K46 hs47 => ?_)
  have lb42b1 : b1 < b42 := by have := H32.lt; omega
  have lb42b7 : b7 < b42 := by have := H33.lt; omega
  have lb42mb8 : mb8 < b42 := by have := H34.lt; omega
  have lb42kb9 : kb9 < b42 := by have := H35.lt; omega
  have lb42b21 : b21 < b42 := by have := H36.lt; omega
  have nb42 : w.heap.size ≤ b42 := by have := K31.size; omega
  have ob48 : ∀ i, ((Value.slice A1 LX.length c1)).ownBlock = some i → i < b42 := fun i hi => by have := (World.ownsRow.lt hOP i hi).2; omega
  have ob49 : ∀ i, ((Value.slice A2 nu.length c2)).ownBlock = some i → i < b42 := fun i hi => by have := (World.ownsRow.lt hOQ i hi).2; omega
  replace K31 := K31.trans K46 (U := none_) (fun i h1 h2 => h2) (fun i h1 h2 => by exact h2)
  replace H32 := H32.kn K46
  replace H33 := H33.kn K46
  replace H34 := H34.kn K46
  replace H35 := H35.kn K46
  replace H36 := H36.kn K46
  replace hOP := own_keep0 hOP K46
  replace hOQ := own_keep0 hOQ K46
  clear K46 hs47
  refine og 1 [(2, .slice none 0 0), (3, .bool false), (4, i64 0), (5, ptr b1), (6, ptr b21), (7, i64 why), (8, i64 ↑ii), (9, ptr b42), (18, .slice LA l.length lc), (19, i64 ↑l.length), (20, i64 ↑ii), (24, (agg (HC.cells x)))] 5 ?_
  refine oput 43 b42 (HC.cells x) H45 rfl (fun w50 H51 K52 => ?_)
  replace K31 := K31.trans K52 (U := none_) (fun i h1 h2 => h2) (fun i h1 h2 => by have h2 : i = b42 := h2; exfalso; omega)
  replace H32 := H32.k1 K52 (by omega)
  replace H33 := H33.k1 K52 (by omega)
  replace H34 := H34.k1 K52 (by omega)
  replace H35 := H35.k1 K52 (by omega)
  replace H36 := H36.k1 K52 (by omega)
  replace hOP := own_keep hOP K52 (fun i hi => by have := ob48 i hi; omega)
  replace hOQ := own_keep hOQ K52 (fun i hi => by have := ob49 i hi; omega)
  refine od ?_
  refine rsQ ?_
  refine rsg Open.wide ?_
  refine ogo (agg (HC.cells x)) 25 (rld 43 b42 0 H51) rfl ?_
  refine ocQ 26 (countsP_calls _ x) ?_
  rintro _ w53 ⟨rfl, K54⟩
  refine ⟨_, _, rfl, rfl, ?_⟩
  replace K31 := K31.trans K54 (U := none_) (fun i h1 h2 => h2) (fun i h1 h2 => by exact h2)
  replace H32 := H32.kn K54
  replace H33 := H33.kn K54
  replace H34 := H34.kn K54
  replace H35 := H35.kn K54
  replace H36 := H36.kn K54
  replace H51 := H51.kn K54
  replace hOP := own_keep0 hOP K54
  replace hOQ := own_keep0 hOQ K54
  refine ogd 1 [(2, .slice none 0 0), (3, .bool false), (4, i64 0), (5, ptr b1), (6, ptr b21), (7, i64 why), (8, i64 ↑ii), (9, ptr b42), (18, .slice LA l.length lc), (19, i64 ↑l.length), (20, i64 ↑ii), (27, (Value.bool (!(countsH x.c))))] ?_
  refine rcQ 27 (!(countsH x.c)) rfl (fun h55 => ?_) (fun h55 => ?_)
  ·rw [h55]
   have p56 := bnot_true h55
   have hstep := looked_step (m := l.map HC.c) (i := ii) (c := x.c) (by rw [List.getElem?_map, hx]; rfl)
   have hcx : countsH x.c = false := (bnot_true h55)
   rw [hcx, if_neg (by decide), List.append_nil] at hstep
   refine qr_exit (id := 1) (by kernel_rfl) ?_
   refine rgQ Open.wide ?_
   refine og 1 [(2, .slice none 0 0), (3, .bool false), (4, i64 0), (5, ptr b1), (6, ptr b21), (7, i64 why), (18, .slice LA l.length lc), (19, i64 ↑l.length), (20, i64 ↑ii), (51, (i64 (IntKind.i64.wrap (((ii : Nat) : Int) + 1))))] 1 ?_
   rw [show IntKind.i64.wrap (((ii : Nat) : Int) + 1) = ((ii + 1 : Nat) : Int) from by rw [wrap_i64 (by omega) (by omega)]; omega]
   refine og 1 [(2, .slice none 0 0), (3, .bool false), (4, i64 0), (5, ptr b1), (6, ptr b21), (7, i64 why), (18, .slice LA l.length lc), (19, i64 ↑l.length), (20, i64 ↑(ii + 1))] 2 ?_
   refine ok_ [(2, .slice none 0 0), (3, .bool false), (4, i64 0), (5, ptr b1), (6, ptr b21), (7, i64 why), (18, .slice LA l.length lc), (19, i64 ↑l.length), (20, i64 ↑(ii + 1))] ?_
   refine od ?_
   exact ⟨(ii + 1, A1, c1, LX, A2, c2, nu, n, why), ⟨rfl, rfl, hOP, obPb1, obPb7, obPmb8, obPkb9, obPb21, ooPQ, hOQ, obQb1, obQb7, obQmb8, obQkb9, obQb21, ooQP, (by rw [hstep]; exact hX), hnl, hsub, hn, hw, (by omega), (by omega), K31, H32, H33, H34, H35, H36⟩, (show l.length - (ii + 1) < l.length - ii from by omega)⟩
  ·rw [h55]
   have p58 := bnot_false h55
   have hstep := looked_step (m := l.map HC.c) (i := ii) (c := x.c) (by rw [List.getElem?_map, hx]; rfl)
   have hcx : countsH x.c = true := (bnot_false h55)
   rw [hcx, if_pos rfl] at hstep
   refine rkQ ?_
   refine rsQ ?_
   refine qr_drawS Open.wide 14 (by kernel_rfl) (by kernel_rfl) (by kernel_rfl) (by kernel_rfl) (fun w59 K60 _ _ => ?_)
   replace K31 := K31.trans K60 (U := none_) (fun i h1 h2 => h2) (fun i h1 h2 => by exact h2)
   replace H32 := H32.kn K60
   replace H33 := H33.kn K60
   replace H34 := H34.kn K60
   replace H35 := H35.kn K60
   replace H36 := H36.kn K60
   replace H51 := H51.kn K60
   replace hOP := own_keep0 hOP K60
   replace hOQ := own_keep0 hOQ K60
   have Kb61 : Keeps (fun i => i = b1 ∨ ((Value.slice A1 LX.length c1)).ownBlock = some i ∨ ((Value.slice A2 nu.length c2)).ownBlock = some i) w59 w59 := (Keeps.refl w59).mono (fun _ _ h => h.elim)
   refine ⟨fun wz => Keeps (fun i => i = b1 ∨ ((Value.slice A1 LX.length c1)).ownBlock = some i ∨ ((Value.slice A2 nu.length c2)).ownBlock = some i) w59 wz, [(11, fun wz => Loads Tryd.prog wz 33 ⟨b1, 0, none⟩ (Value.slice A1 LX.length c1)), (13, fun wz => Loads Tryd.prog wz 35 ⟨b1, 1, none⟩ (Value.slice A2 nu.length c2))], (SH.cons (SH.cons (SH.nil Kb61) (.inr (H32.loads (by kernel_rfl)))) (.inr (H32.loads (by kernel_rfl)))), ?_⟩
   refine skQ 13 [0] [(2, .slice none 0 0), (3, .bool false), (4, i64 0), (5, ptr b1), (6, ptr b21), (7, i64 why), (8, i64 ↑ii), (9, ptr b42), (18, .slice LA l.length lc), (19, i64 ↑l.length), (20, i64 ↑ii), (28, ptr b1)] ?_
   refine DrS.takeH (s := 11) (.head _) (i := 1) (v := (Value.slice A1 LX.length c1)) (by kernel_rfl) (by kernel_rfl) (by kernel_rfl) (fun wz hB hp => Runs.load (t := 33) (a := ⟨b1, 0, none⟩) (by kernel_rfl) hp) (d := (some 29)) (by kernel_rfl) rfl ?_
   refine stQ 2 (agg (HC.cells x)) 30 (fun wz hS => rld 43 b42 0 (H51.keep hS (by intro h; change b42 = b1 ∨ ((Value.slice A1 LX.length c1)).ownBlock = some b42 ∨ ((Value.slice A2 nu.length c2)).ownBlock = some b42 at h; rcases h with h | h | h; (omega); (have := ob48 b42 h; omega); (have := ob49 b42 h; omega)))) rfl ?_
   refine skQ 10 [5] [(2, .slice none 0 0), (3, .bool false), (4, i64 0), (5, ptr b1), (6, ptr b21), (7, i64 why), (8, i64 ↑ii), (9, ptr b42), (18, .slice LA l.length lc), (19, i64 ↑l.length), (20, i64 ↑ii), (29, .slice A1 LX.length c1), (30, (agg (HC.cells x))), (33, .pointer (some ⟨b1, 1, none⟩))] ?_
   refine DrS.takeH (s := 13) (.tail _ (.head _)) (i := 6) (v := (Value.slice A2 nu.length c2)) (by kernel_rfl) (by kernel_rfl) (by kernel_rfl) (fun wz hB hp => Runs.load (t := 35) (a := ⟨b1, 1, none⟩) (by kernel_rfl) hp) (d := (some 34)) (by kernel_rfl) rfl ?_
   refine skQ 8 [7] [(2, .slice none 0 0), (3, .bool false), (4, i64 0), (5, ptr b1), (6, ptr b21), (7, i64 why), (9, ptr b42), (18, .slice LA l.length lc), (19, i64 ↑l.length), (20, i64 ↑ii), (29, .slice A1 LX.length c1), (30, (agg (HC.cells x))), (34, .slice A2 nu.length c2), (35, i64 ↑ii)] ?_
   refine DrS.two (i := 3) (j := 8) (by kernel_rfl) ?_ ?_
   ·skip
    refine Dr1.new (o := rowL (HC.cells x) 43) (V := fun b => (Value.slice (some ⟨b, 0, none⟩) 1 1)) (by kernel_rfl) (d := (some 31)) (by kernel_rfl) (fun b => rfl) (fun b62 w63 hb64 H65 K66 hs67 => ?_)
    have lb62b1 : b1 < b62 := by have := H32.lt; omega
    have lb62b7 : b7 < b62 := by have := H33.lt; omega
    have lb62mb8 : mb8 < b62 := by have := H34.lt; omega
    have lb62kb9 : kb9 < b62 := by have := H35.lt; omega
    have lb62b21 : b21 < b62 := by have := H36.lt; omega
    have lb62b42 : b42 < b62 := by have := H51.lt; omega
    have nb62 : w.heap.size ≤ b62 := by have := K31.size; omega
    have ob68 : ∀ i, ((Value.slice A1 LX.length c1)).ownBlock = some i → i < b62 := fun i hi => by have := (World.ownsRow.lt hOP i hi).2; omega
    have xb62 : w59.heap.size ≤ b62 := by have := Kb61.size; omega
    replace K31 := K31.trans K66 (U := none_) (fun i h1 h2 => h2) (fun i h1 h2 => by exact h2)
    replace H32 := H32.kn K66
    replace H33 := H33.kn K66
    replace H34 := H34.kn K66
    replace H35 := H35.kn K66
    replace H36 := H36.kn K66
    replace H51 := H51.kn K66
    replace hOP := own_keep0 hOP K66
    replace hOQ := own_keep0 hOQ K66
    have Kb70 := Kb61.trans K66 (U := (fun i => i = b1 ∨ ((Value.slice A1 LX.length c1)).ownBlock = some i ∨ ((Value.slice A2 nu.length c2)).ownBlock = some i)) (fun _ _ h => h) (fun i h1 h2 => by exact h2.elim)
    refine ⟨(SH.cons (SH.cons (SH.nil Kb70) (.inr (H32.loads (by kernel_rfl)))) (.inr (H32.loads (by kernel_rfl)))), ?_⟩
    clear K66 hs67
    refine DrS.two (i := 4) (j := 8) (by kernel_rfl) ?_ ?_
    ·skip
     obtain ⟨v71, w72, hr73, hO74, hK75, hg76⟩ := OwnT.app (ty := 33) HC.two HC.one tyH hOP (show RdT _ 13 HC.cells _ [x] from Rd.lit H65 (n := 1) rfl (by decide)) (by simp only [List.length_cons, List.length_nil]; omega) (by simp only [List.length_cons, List.length_nil]; omega) K31.size
     obtain ⟨A78, c79, rfl⟩ := RdT.form HC.two (by decide) (OwnT.rd hO74)
     have ob80 : ∀ i, ((Value.slice A78 ((LX ++ [x]).length) c79)).ownBlock = some i → i ≠ b1 := fun i hi => by rcases hg76 i hi with h | h; (have := obPb1 i h; omega); (have := H32.lt; omega)
     have ob81 : ∀ i, ((Value.slice A78 ((LX ++ [x]).length) c79)).ownBlock = some i → i ≠ b7 := fun i hi => by rcases hg76 i hi with h | h; (have := obPb7 i h; omega); (have := H33.lt; omega)
     have ob82 : ∀ i, ((Value.slice A78 ((LX ++ [x]).length) c79)).ownBlock = some i → i ≠ mb8 := fun i hi => by rcases hg76 i hi with h | h; (have := obPmb8 i h; omega); (have := H34.lt; omega)
     have ob83 : ∀ i, ((Value.slice A78 ((LX ++ [x]).length) c79)).ownBlock = some i → i ≠ kb9 := fun i hi => by rcases hg76 i hi with h | h; (have := obPkb9 i h; omega); (have := H35.lt; omega)
     have ob84 : ∀ i, ((Value.slice A78 ((LX ++ [x]).length) c79)).ownBlock = some i → i ≠ b21 := fun i hi => by rcases hg76 i hi with h | h; (have := obPb21 i h; omega); (have := H36.lt; omega)
     have oo87 : ∀ i, ((Value.slice A2 nu.length c2)).ownBlock = some i → ((Value.slice A78 ((LX ++ [x]).length) c79)).ownBlock = some i → False := fun i hi hs => by rcases hg76 i hs with h | h; (exact ooPQ i hi h); (have := (World.ownsRow.lt hOQ i hi).2; omega)
     have oo88 : ∀ i, ((Value.slice A78 ((LX ++ [x]).length) c79)).ownBlock = some i → ((Value.slice A2 nu.length c2)).ownBlock = some i → False := fun i hi hs => oo87 i hs hi
     have K77 := hK75
     replace K31 := K31.trans K77 (U := none_) (fun i h1 h2 => h2) (fun i h1 h2 => by have h2 : ((Value.slice A1 LX.length c1)).ownBlock = some i := h2; exfalso; have := (World.ownsRow.lt hOP i h2).1; omega)
     replace H32 := H32.keep K77 (by intro h; change ((Value.slice A1 LX.length c1)).ownBlock = some b1 at h; have := obPb1 b1 h; omega)
     replace H33 := H33.keep K77 (by intro h; change ((Value.slice A1 LX.length c1)).ownBlock = some b7 at h; have := obPb7 b7 h; omega)
     replace H34 := H34.keep K77 (by intro h; change ((Value.slice A1 LX.length c1)).ownBlock = some mb8 at h; have := obPmb8 mb8 h; omega)
     replace H35 := H35.keep K77 (by intro h; change ((Value.slice A1 LX.length c1)).ownBlock = some kb9 at h; have := obPkb9 kb9 h; omega)
     replace H36 := H36.keep K77 (by intro h; change ((Value.slice A1 LX.length c1)).ownBlock = some b21 at h; have := obPb21 b21 h; omega)
     replace H51 := H51.keep K77 (by intro h; change ((Value.slice A1 LX.length c1)).ownBlock = some b42 at h; have := ob48 b42 h; omega)
     replace H65 := H65.keep K77 (by intro h; change ((Value.slice A1 LX.length c1)).ownBlock = some b62 at h; have := ob68 b62 h; omega)
     clear hOP
     replace hOQ := own_keep hOQ K77 (fun i hi hs => by have hs : ((Value.slice A1 LX.length c1)).ownBlock = some i := hs; exact ooPQ i hi hs)
     have Kb89 := Kb70.trans K77 (U := (fun i => i = b1 ∨ ((Value.slice A1 LX.length c1)).ownBlock = some i ∨ ((Value.slice A2 nu.length c2)).ownBlock = some i)) (fun _ _ h => h) (fun i h1 h2 => by have h2 : ((Value.slice A1 LX.length c1)).ownBlock = some i := h2; exact .inr (.inl h2))
     refine Dr1.go (v := (Value.slice A78 ((LX ++ [x]).length) c79)) (by kernel_rfl) (Runs.append (ts := #[33, 33]) (ty := 33) (vs := [(Value.slice A1 LX.length c1), (Value.slice (some ⟨b62, 0, none⟩) 1 1)]) (by kernel_rfl) hr73) (d := (some 32)) (by kernel_rfl) rfl (SH.cons (SH.cons (SH.nil Kb89) (.inr (H32.loads (by kernel_rfl)))) (.inr (H32.loads (by kernel_rfl)))) ?_
     clear K77 hr73 hK75 hg76
     refine skQ 5 [10] [(2, .slice none 0 0), (3, .bool false), (4, i64 0), (5, ptr b1), (6, ptr b21), (7, i64 why), (9, ptr b42), (18, .slice LA l.length lc), (19, i64 ↑l.length), (20, i64 ↑ii), (32, (Value.slice A78 ((LX ++ [x]).length) c79)), (34, .slice A2 nu.length c2), (35, i64 ↑ii), (38, ptr b1)] ?_
     refine soQ 8 ?_
     refine Dr1.new (o := rowL [(i64 ((ii : Nat) : Int))] 3) (V := fun b => (Value.slice (some ⟨b, 0, none⟩) 1 1)) (by kernel_rfl) (d := (some 36)) (by kernel_rfl) (fun b => rfl) (fun b90 w91 hb92 H93 K94 hs95 => ?_)
     have lb90b1 : b1 < b90 := by have := H32.lt; omega
     have lb90b7 : b7 < b90 := by have := H33.lt; omega
     have lb90mb8 : mb8 < b90 := by have := H34.lt; omega
     have lb90kb9 : kb9 < b90 := by have := H35.lt; omega
     have lb90b21 : b21 < b90 := by have := H36.lt; omega
     have lb90b42 : b42 < b90 := by have := H51.lt; omega
     have lb90b62 : b62 < b90 := by have := H65.lt; omega
     have nb90 : w.heap.size ≤ b90 := by have := K31.size; omega
     have xb90 : w59.heap.size ≤ b90 := by have := Kb89.size; omega
     replace K31 := K31.trans K94 (U := none_) (fun i h1 h2 => h2) (fun i h1 h2 => by exact h2)
     replace H32 := H32.kn K94
     replace H33 := H33.kn K94
     replace H34 := H34.kn K94
     replace H35 := H35.kn K94
     replace H36 := H36.kn K94
     replace H51 := H51.kn K94
     replace hOQ := own_keep0 hOQ K94
     replace hO74 := own_keep0 hO74 K94
     have Kb98 := Kb89.trans K94 (U := (fun i => i = b1 ∨ ((Value.slice A1 LX.length c1)).ownBlock = some i ∨ ((Value.slice A2 nu.length c2)).ownBlock = some i)) (fun _ _ h => h) (fun i h1 h2 => by exact h2.elim)
     refine ⟨(SH.cons (SH.cons (SH.nil Kb98) (.inr (H32.loads (by kernel_rfl)))) (.inr (H32.loads (by kernel_rfl)))), ?_⟩
     clear K94 hs95
     refine soQ 9 ?_
     obtain ⟨v99, w100, hr101, hO102, hK103, hg104⟩ := OwnT.app (ty := 35) iN_one iN_cells tyI hOQ (show RdT _ 1 iN _ [ii] from Rd.lit H93 (n := 1) rfl (by decide)) (by simp only [List.length_cons, List.length_nil]; omega) (by simp only [List.length_cons, List.length_nil]; omega) K31.size
     obtain ⟨A106, c107, rfl⟩ := RdT.form iN_one (by decide) (OwnT.rd hO102)
     have ob108 : ∀ i, ((Value.slice A106 ((nu ++ [ii]).length) c107)).ownBlock = some i → i ≠ b1 := fun i hi => by rcases hg104 i hi with h | h; (have := obQb1 i h; omega); (have := H32.lt; omega)
     have ob109 : ∀ i, ((Value.slice A106 ((nu ++ [ii]).length) c107)).ownBlock = some i → i ≠ b7 := fun i hi => by rcases hg104 i hi with h | h; (have := obQb7 i h; omega); (have := H33.lt; omega)
     have ob110 : ∀ i, ((Value.slice A106 ((nu ++ [ii]).length) c107)).ownBlock = some i → i ≠ mb8 := fun i hi => by rcases hg104 i hi with h | h; (have := obQmb8 i h; omega); (have := H34.lt; omega)
     have ob111 : ∀ i, ((Value.slice A106 ((nu ++ [ii]).length) c107)).ownBlock = some i → i ≠ kb9 := fun i hi => by rcases hg104 i hi with h | h; (have := obQkb9 i h; omega); (have := H35.lt; omega)
     have ob112 : ∀ i, ((Value.slice A106 ((nu ++ [ii]).length) c107)).ownBlock = some i → i ≠ b21 := fun i hi => by rcases hg104 i hi with h | h; (have := obQb21 i h; omega); (have := H36.lt; omega)
     have oo116 : ∀ i, ((Value.slice A78 ((LX ++ [x]).length) c79)).ownBlock = some i → ((Value.slice A106 ((nu ++ [ii]).length) c107)).ownBlock = some i → False := fun i hi hs => by rcases hg104 i hs with h | h; (exact oo88 i hi h); (have := (World.ownsRow.lt hO74 i hi).2; omega)
     have oo117 : ∀ i, ((Value.slice A106 ((nu ++ [ii]).length) c107)).ownBlock = some i → ((Value.slice A78 ((LX ++ [x]).length) c79)).ownBlock = some i → False := fun i hi hs => oo116 i hs hi
     have K105 := hK103
     replace K31 := K31.trans K105 (U := none_) (fun i h1 h2 => h2) (fun i h1 h2 => by have h2 : ((Value.slice A2 nu.length c2)).ownBlock = some i := h2; exfalso; have := (World.ownsRow.lt hOQ i h2).1; omega)
     replace H32 := H32.keep K105 (by intro h; change ((Value.slice A2 nu.length c2)).ownBlock = some b1 at h; have := obQb1 b1 h; omega)
     replace H33 := H33.keep K105 (by intro h; change ((Value.slice A2 nu.length c2)).ownBlock = some b7 at h; have := obQb7 b7 h; omega)
     replace H34 := H34.keep K105 (by intro h; change ((Value.slice A2 nu.length c2)).ownBlock = some mb8 at h; have := obQmb8 mb8 h; omega)
     replace H35 := H35.keep K105 (by intro h; change ((Value.slice A2 nu.length c2)).ownBlock = some kb9 at h; have := obQkb9 kb9 h; omega)
     replace H36 := H36.keep K105 (by intro h; change ((Value.slice A2 nu.length c2)).ownBlock = some b21 at h; have := obQb21 b21 h; omega)
     replace H51 := H51.keep K105 (by intro h; change ((Value.slice A2 nu.length c2)).ownBlock = some b42 at h; have := ob49 b42 h; omega)
     clear hOQ
     replace hO74 := own_keep hO74 K105 (fun i hi hs => by have hs : ((Value.slice A2 nu.length c2)).ownBlock = some i := hs; exact oo88 i hi hs)
     have Kb118 := Kb98.trans K105 (U := (fun i => i = b1 ∨ ((Value.slice A1 LX.length c1)).ownBlock = some i ∨ ((Value.slice A2 nu.length c2)).ownBlock = some i)) (fun _ _ h => h) (fun i h1 h2 => by have h2 : ((Value.slice A2 nu.length c2)).ownBlock = some i := h2; exact .inr (.inr (h2)))
     refine Dr1.go (v := (Value.slice A106 ((nu ++ [ii]).length) c107)) (by kernel_rfl) (Runs.append (ts := #[35, 35]) (ty := 35) (vs := [(Value.slice A2 nu.length c2), (Value.slice (some ⟨b90, 0, none⟩) 1 1)]) (by kernel_rfl) hr101) (d := (some 37)) (by kernel_rfl) rfl (SH.cons (SH.cons (SH.nil Kb118) (.inr (H32.loads (by kernel_rfl)))) (.inr (H32.loads (by kernel_rfl)))) ?_
     clear K105 hr101 hK103 hg104
     refine soQ 11 ?_
     refine Dr1.put (t := 33) (b := b1) (off := 0) (v := (Value.slice A78 ((LX ++ [x]).length) c79)) (ys := [(Value.slice A78 ((LX ++ [x]).length) c79), (Value.slice A2 nu.length c2)]) (by kernel_rfl) (by kernel_rfl) H32 (by kernel_rfl) (d := none) (by kernel_rfl) rfl (fun w119 H120 K121 => ?_)
     replace K31 := K31.trans K121 (U := none_) (fun i h1 h2 => h2) (fun i h1 h2 => by have h2 : i = b1 := h2; exfalso; omega)
     replace H33 := H33.k1 K121 (by omega)
     replace H34 := H34.k1 K121 (by omega)
     replace H35 := H35.k1 K121 (by omega)
     replace H36 := H36.k1 K121 (by omega)
     replace H51 := H51.k1 K121 (by omega)
     replace hO74 := own_keep hO74 K121 (fun i hi => by have := ob80 i hi; omega)
     replace hO102 := own_keep hO102 K121 (fun i hi => by have := ob108 i hi; omega)
     have Kb122 := Kb118.trans K121 (U := (fun i => i = b1 ∨ ((Value.slice A1 LX.length c1)).ownBlock = some i ∨ ((Value.slice A2 nu.length c2)).ownBlock = some i)) (fun _ _ h => h) (fun i h1 h2 => by have h2 : i = b1 := h2; exact .inl h2)
     refine ⟨(SH.cons (SH.cons (SH.nil Kb122) (.inr (H120.loads (by kernel_rfl)))) (.inl (by kernel_rfl))), ?_⟩
     refine skQ 1 [12] [(2, .slice none 0 0), (3, .bool false), (4, i64 0), (5, ptr b1), (6, ptr b21), (7, i64 why), (9, ptr b42), (18, .slice LA l.length lc), (19, i64 ↑l.length), (20, i64 ↑ii), (37, (Value.slice A106 ((nu ++ [ii]).length) c107)), (39, .pointer (some ⟨b1, 1, none⟩))] ?_
     refine soQ 13 ?_
     refine Dr1.put (t := 35) (b := b1) (off := 1) (v := (Value.slice A106 ((nu ++ [ii]).length) c107)) (ys := [(Value.slice A78 ((LX ++ [x]).length) c79), (Value.slice A106 ((nu ++ [ii]).length) c107)]) (by kernel_rfl) (by kernel_rfl) H120 (by kernel_rfl) (d := none) (by kernel_rfl) rfl (fun w123 H124 K125 => ?_)
     replace K31 := K31.trans K125 (U := none_) (fun i h1 h2 => h2) (fun i h1 h2 => by have h2 : i = b1 := h2; exfalso; omega)
     replace H33 := H33.k1 K125 (by omega)
     replace H34 := H34.k1 K125 (by omega)
     replace H35 := H35.k1 K125 (by omega)
     replace H36 := H36.k1 K125 (by omega)
     replace H51 := H51.k1 K125 (by omega)
     replace hO74 := own_keep hO74 K125 (fun i hi => by have := ob80 i hi; omega)
     replace hO102 := own_keep hO102 K125 (fun i hi => by have := ob108 i hi; omega)
     have Kb126 := Kb122.trans K125 (U := (fun i => i = b1 ∨ ((Value.slice A1 LX.length c1)).ownBlock = some i ∨ ((Value.slice A2 nu.length c2)).ownBlock = some i)) (fun _ _ h => h) (fun i h1 h2 => by have h2 : i = b1 := h2; exact .inl h2)
     refine ⟨(SH.cons (SH.cons (SH.nil Kb126) (.inl (by kernel_rfl))) (.inl (by kernel_rfl))), ?_⟩
     refine DrS.done (by kernel_rfl) ?_
     refine rsg Open.wide ?_
     refine og 1 [(2, .slice none 0 0), (3, .bool false), (4, i64 0), (5, ptr b1), (6, ptr b21), (7, i64 why), (9, ptr b42), (18, .slice LA l.length lc), (19, i64 ↑l.length), (20, i64 ↑ii), (40, .pointer (some ⟨b42, 9, none⟩))] 1 ?_
     refine ogo (Value.bool x.c.told) 41 (rld 4 b42 9 H51) rfl ?_
     refine od ?_
     refine rcQ 41 x.c.told rfl (fun h127 => ?_) (fun h127 => ?_)
     ·rw [h127]
      have p128 : x.c.told = true := h127
      refine rsg Open.wide ?_
      refine og 1 [(2, .slice none 0 0), (3, .bool false), (4, i64 0), (5, ptr b1), (6, ptr b21), (7, i64 why), (9, ptr b42), (18, .slice LA l.length lc), (19, i64 ↑l.length), (20, i64 ↑ii), (42, .pointer (some ⟨b21, 2, none⟩))] 1 ?_
      refine ogo (i64 ((n : Nat) : Int)) 43 (rld 3 b21 2 H36) rfl ?_
      refine og 1 [(2, .slice none 0 0), (3, .bool false), (4, i64 0), (5, ptr b1), (6, ptr b21), (7, i64 why), (9, ptr b42), (18, .slice LA l.length lc), (19, i64 ↑l.length), (20, i64 ↑ii), (44, (i64 (IntKind.i64.wrap (((n : Nat) : Int) + 1))))] 3 ?_
      rw [show IntKind.i64.wrap (((n : Nat) : Int) + 1) = ((n + 1 : Nat) : Int) from by rw [wrap_i64 (by omega) (by omega)]; omega]
      refine og 1 [(2, .slice none 0 0), (3, .bool false), (4, i64 0), (5, ptr b1), (6, ptr b21), (7, i64 why), (9, ptr b42), (18, .slice LA l.length lc), (19, i64 ↑l.length), (20, i64 ↑ii), (44, i64 ↑(n + 1)), (45, .pointer (some ⟨b21, 2, none⟩))] 4 ?_
      refine Ops.put (t := 3) (b := b21) (off := 2) (v := (i64 ((n + 1 : Nat) : Int))) (ys := [(Value.slice none 0 0), (Value.int IntKind.u64 0), (i64 ((n + 1 : Nat) : Int)), (ptr b7)]) (by kernel_rfl) (by kernel_rfl) H36 (by kernel_rfl) (d := none) (by kernel_rfl) rfl (fun w130 H131 K132 => ?_)
      replace K31 := K31.trans K132 (U := none_) (fun i h1 h2 => h2) (fun i h1 h2 => by have h2 : i = b21 := h2; exfalso; omega)
      replace H124 := H124.k1 K132 (by omega)
      replace H33 := H33.k1 K132 (by omega)
      replace H34 := H34.k1 K132 (by omega)
      replace H35 := H35.k1 K132 (by omega)
      replace H51 := H51.k1 K132 (by omega)
      replace hO74 := own_keep hO74 K132 (fun i hi => by have := ob84 i hi; omega)
      replace hO102 := own_keep hO102 K132 (fun i hi => by have := ob112 i hi; omega)
      refine od ?_
      refine rsg Open.wide ?_
      refine og 1 [(2, .slice none 0 0), (3, .bool false), (4, i64 0), (5, ptr b1), (6, ptr b21), (7, i64 why), (9, ptr b42), (18, .slice LA l.length lc), (19, i64 ↑l.length), (20, i64 ↑ii), (46, .pointer (some ⟨b42, 8, none⟩))] 1 ?_
      refine ogo (i64 x.c.en) 47 (rld 3 b42 8 H51) rfl ?_
      refine og 1 [(2, .slice none 0 0), (3, .bool false), (4, i64 0), (5, ptr b1), (6, ptr b21), (7, i64 why), (18, .slice LA l.length lc), (19, i64 ↑l.length), (20, i64 ↑ii), (47, i64 x.c.en), (48, .pointer (some ⟨b42, 7, none⟩))] 3 ?_
      refine ogo (i64 x.c.bg) 49 (rld 3 b42 7 H51) rfl ?_
      refine ogd 1 [(2, .slice none 0 0), (3, .bool false), (4, i64 0), (5, ptr b1), (6, ptr b21), (7, i64 why), (18, .slice LA l.length lc), (19, i64 ↑l.length), (20, i64 ↑ii), (50, (Value.bool (decide (x.c.en < x.c.bg))))] ?_
      refine rcQ 50 (decide (x.c.en < x.c.bg)) rfl (fun h133 => ?_) (fun h133 => ?_)
      ·rw [h133]
       have p134 := of_decide_eq_true h133
       have hbx : badH x.c = true := by unfold badH; rw [h127, decide_eq_true (by omega)]; rfl
       refine rgQ Open.wide ?_
       refine ogd 1 [(2, .slice none 0 0), (3, .bool false), (4, i64 0), (5, ptr b1), (6, ptr b21), (7, i64 1), (18, .slice LA l.length lc), (19, i64 ↑l.length), (20, i64 ↑ii)] ?_
       refine rgQ Open.wide ?_
       refine og 1 [(2, .slice none 0 0), (3, .bool false), (4, i64 0), (5, ptr b1), (6, ptr b21), (7, i64 1), (18, .slice LA l.length lc), (19, i64 ↑l.length), (20, i64 ↑ii), (51, (i64 (IntKind.i64.wrap (((ii : Nat) : Int) + 1))))] 1 ?_
       rw [show IntKind.i64.wrap (((ii : Nat) : Int) + 1) = ((ii + 1 : Nat) : Int) from by rw [wrap_i64 (by omega) (by omega)]; omega]
       refine og 1 [(2, .slice none 0 0), (3, .bool false), (4, i64 0), (5, ptr b1), (6, ptr b21), (7, i64 1), (18, .slice LA l.length lc), (19, i64 ↑l.length), (20, i64 ↑(ii + 1))] 2 ?_
       refine ok_ [(2, .slice none 0 0), (3, .bool false), (4, i64 0), (5, ptr b1), (6, ptr b21), (7, i64 1), (18, .slice LA l.length lc), (19, i64 ↑l.length), (20, i64 ↑(ii + 1))] ?_
       refine od ?_
       exact ⟨(ii + 1, A78, c79, (LX ++ [x]), A106, c107, (nu ++ [ii]), n + 1, 1), ⟨rfl, rfl, hO74, ob80, ob81, ob82, ob83, ob84, oo117, hO102, ob108, ob109, ob110, ob111, ob112, oo116, (by rw [xs_snoc hnl, hstep, hX]), (by rw [List.length_append, List.length_append, hnl]; rfl), (fun z hz => by rcases List.mem_append.1 hz with hz | hz; exact hsub z hz; rw [List.mem_singleton.1 hz]; exact List.mem_of_getElem? hx), (by rw [xs_snoc hnl, left_snoc, if_pos h127, ← hn]), (by rw [xs_snoc hnl, any_snoc, hbx, Bool.or_true]; rfl), (by omega), (by rw [List.length_append]; have : ([x] : List HC).length = 1 := rfl; omega), K31, H124, H33, H34, H35, H131⟩, (show l.length - (ii + 1) < l.length - ii from by omega)⟩
      ·rw [h133]
       have p136 := of_decide_eq_false h133
       have hbx : badH x.c = false := by unfold badH; rw [h127, decide_eq_false (by omega)]; rfl
       refine rkQ ?_
       refine rgQ Open.wide ?_
       refine og 1 [(2, .slice none 0 0), (3, .bool false), (4, i64 0), (5, ptr b1), (6, ptr b21), (7, i64 why), (18, .slice LA l.length lc), (19, i64 ↑l.length), (20, i64 ↑ii), (51, (i64 (IntKind.i64.wrap (((ii : Nat) : Int) + 1))))] 1 ?_
       rw [show IntKind.i64.wrap (((ii : Nat) : Int) + 1) = ((ii + 1 : Nat) : Int) from by rw [wrap_i64 (by omega) (by omega)]; omega]
       refine og 1 [(2, .slice none 0 0), (3, .bool false), (4, i64 0), (5, ptr b1), (6, ptr b21), (7, i64 why), (18, .slice LA l.length lc), (19, i64 ↑l.length), (20, i64 ↑(ii + 1))] 2 ?_
       refine ok_ [(2, .slice none 0 0), (3, .bool false), (4, i64 0), (5, ptr b1), (6, ptr b21), (7, i64 why), (18, .slice LA l.length lc), (19, i64 ↑l.length), (20, i64 ↑(ii + 1))] ?_
       refine od ?_
       exact ⟨(ii + 1, A78, c79, (LX ++ [x]), A106, c107, (nu ++ [ii]), n + 1, why), ⟨rfl, rfl, hO74, ob80, ob81, ob82, ob83, ob84, oo117, hO102, ob108, ob109, ob110, ob111, ob112, oo116, (by rw [xs_snoc hnl, hstep, hX]), (by rw [List.length_append, List.length_append, hnl]; rfl), (fun z hz => by rcases List.mem_append.1 hz with hz | hz; exact hsub z hz; rw [List.mem_singleton.1 hz]; exact List.mem_of_getElem? hx), (by rw [xs_snoc hnl, left_snoc, if_pos h127, ← hn]), (by rw [xs_snoc hnl, any_snoc, hbx, Bool.or_false]; exact hw), (by omega), (by rw [List.length_append]; have : ([x] : List HC).length = 1 := rfl; omega), K31, H124, H33, H34, H35, H131⟩, (show l.length - (ii + 1) < l.length - ii from by omega)⟩
     ·rw [h127]
      have p138 : x.c.told = false := h127
      have hbx : badH x.c = false := by unfold badH; rw [h127]; rfl
      refine rkQ ?_
      refine rgQ Open.wide ?_
      refine og 1 [(2, .slice none 0 0), (3, .bool false), (4, i64 0), (5, ptr b1), (6, ptr b21), (7, i64 why), (18, .slice LA l.length lc), (19, i64 ↑l.length), (20, i64 ↑ii), (51, (i64 (IntKind.i64.wrap (((ii : Nat) : Int) + 1))))] 1 ?_
      rw [show IntKind.i64.wrap (((ii : Nat) : Int) + 1) = ((ii + 1 : Nat) : Int) from by rw [wrap_i64 (by omega) (by omega)]; omega]
      refine og 1 [(2, .slice none 0 0), (3, .bool false), (4, i64 0), (5, ptr b1), (6, ptr b21), (7, i64 why), (18, .slice LA l.length lc), (19, i64 ↑l.length), (20, i64 ↑(ii + 1))] 2 ?_
      refine ok_ [(2, .slice none 0 0), (3, .bool false), (4, i64 0), (5, ptr b1), (6, ptr b21), (7, i64 why), (18, .slice LA l.length lc), (19, i64 ↑l.length), (20, i64 ↑(ii + 1))] ?_
      refine od ?_
      exact ⟨(ii + 1, A78, c79, (LX ++ [x]), A106, c107, (nu ++ [ii]), n, why), ⟨rfl, rfl, hO74, ob80, ob81, ob82, ob83, ob84, oo117, hO102, ob108, ob109, ob110, ob111, ob112, oo116, (by rw [xs_snoc hnl, hstep, hX]), (by rw [List.length_append, List.length_append, hnl]; rfl), (fun z hz => by rcases List.mem_append.1 hz with hz | hz; exact hsub z hz; rw [List.mem_singleton.1 hz]; exact List.mem_of_getElem? hx), (by rw [xs_snoc hnl, left_snoc, if_neg (by rw [h127]; decide), ← hn]; exact (Nat.add_zero n).symm), (by rw [xs_snoc hnl, any_snoc, hbx, Bool.or_false]; exact hw), (by omega), (by rw [List.length_append]; have : ([x] : List HC).length = 1 := rfl; omega), K31, H124, H33, H34, H35, H36⟩, (show l.length - (ii + 1) < l.length - ii from by omega)⟩
    ·skip
     refine Dr1.new (o := rowL [(i64 ((ii : Nat) : Int))] 3) (V := fun b => (Value.slice (some ⟨b, 0, none⟩) 1 1)) (by kernel_rfl) (d := (some 36)) (by kernel_rfl) (fun b => rfl) (fun b140 w141 hb142 H143 K144 hs145 => ?_)
     have lb140b1 : b1 < b140 := by have := H32.lt; omega
     have lb140b7 : b7 < b140 := by have := H33.lt; omega
     have lb140mb8 : mb8 < b140 := by have := H34.lt; omega
     have lb140kb9 : kb9 < b140 := by have := H35.lt; omega
     have lb140b21 : b21 < b140 := by have := H36.lt; omega
     have lb140b42 : b42 < b140 := by have := H51.lt; omega
     have lb140b62 : b62 < b140 := by have := H65.lt; omega
     have nb140 : w.heap.size ≤ b140 := by have := K31.size; omega
     have ob146 : ∀ i, ((Value.slice A1 LX.length c1)).ownBlock = some i → i < b140 := fun i hi => by have := (World.ownsRow.lt hOP i hi).2; omega
     have xb140 : w59.heap.size ≤ b140 := by have := Kb70.size; omega
     replace K31 := K31.trans K144 (U := none_) (fun i h1 h2 => h2) (fun i h1 h2 => by exact h2)
     replace H32 := H32.kn K144
     replace H33 := H33.kn K144
     replace H34 := H34.kn K144
     replace H35 := H35.kn K144
     replace H36 := H36.kn K144
     replace H51 := H51.kn K144
     replace H65 := H65.kn K144
     replace hOP := own_keep0 hOP K144
     replace hOQ := own_keep0 hOQ K144
     have Kb148 := Kb70.trans K144 (U := (fun i => i = b1 ∨ ((Value.slice A1 LX.length c1)).ownBlock = some i ∨ ((Value.slice A2 nu.length c2)).ownBlock = some i)) (fun _ _ h => h) (fun i h1 h2 => by exact h2.elim)
     refine ⟨(SH.cons (SH.cons (SH.nil Kb148) (.inr (H32.loads (by kernel_rfl)))) (.inr (H32.loads (by kernel_rfl)))), ?_⟩
     clear K144 hs145
     refine soQ 4 ?_
     obtain ⟨v149, w150, hr151, hO152, hK153, hg154⟩ := OwnT.app (ty := 33) HC.two HC.one tyH hOP (show RdT _ 13 HC.cells _ [x] from Rd.lit H65 (n := 1) rfl (by decide)) (by simp only [List.length_cons, List.length_nil]; omega) (by simp only [List.length_cons, List.length_nil]; omega) K31.size
     obtain ⟨A156, c157, rfl⟩ := RdT.form HC.two (by decide) (OwnT.rd hO152)
     have ob158 : ∀ i, ((Value.slice A156 ((LX ++ [x]).length) c157)).ownBlock = some i → i ≠ b1 := fun i hi => by rcases hg154 i hi with h | h; (have := obPb1 i h; omega); (have := H32.lt; omega)
     have ob159 : ∀ i, ((Value.slice A156 ((LX ++ [x]).length) c157)).ownBlock = some i → i ≠ b7 := fun i hi => by rcases hg154 i hi with h | h; (have := obPb7 i h; omega); (have := H33.lt; omega)
     have ob160 : ∀ i, ((Value.slice A156 ((LX ++ [x]).length) c157)).ownBlock = some i → i ≠ mb8 := fun i hi => by rcases hg154 i hi with h | h; (have := obPmb8 i h; omega); (have := H34.lt; omega)
     have ob161 : ∀ i, ((Value.slice A156 ((LX ++ [x]).length) c157)).ownBlock = some i → i ≠ kb9 := fun i hi => by rcases hg154 i hi with h | h; (have := obPkb9 i h; omega); (have := H35.lt; omega)
     have ob162 : ∀ i, ((Value.slice A156 ((LX ++ [x]).length) c157)).ownBlock = some i → i ≠ b21 := fun i hi => by rcases hg154 i hi with h | h; (have := obPb21 i h; omega); (have := H36.lt; omega)
     have oo166 : ∀ i, ((Value.slice A2 nu.length c2)).ownBlock = some i → ((Value.slice A156 ((LX ++ [x]).length) c157)).ownBlock = some i → False := fun i hi hs => by rcases hg154 i hs with h | h; (exact ooPQ i hi h); (have := (World.ownsRow.lt hOQ i hi).2; omega)
     have oo167 : ∀ i, ((Value.slice A156 ((LX ++ [x]).length) c157)).ownBlock = some i → ((Value.slice A2 nu.length c2)).ownBlock = some i → False := fun i hi hs => oo166 i hs hi
     have K155 := hK153
     replace K31 := K31.trans K155 (U := none_) (fun i h1 h2 => h2) (fun i h1 h2 => by have h2 : ((Value.slice A1 LX.length c1)).ownBlock = some i := h2; exfalso; have := (World.ownsRow.lt hOP i h2).1; omega)
     replace H32 := H32.keep K155 (by intro h; change ((Value.slice A1 LX.length c1)).ownBlock = some b1 at h; have := obPb1 b1 h; omega)
     replace H33 := H33.keep K155 (by intro h; change ((Value.slice A1 LX.length c1)).ownBlock = some b7 at h; have := obPb7 b7 h; omega)
     replace H34 := H34.keep K155 (by intro h; change ((Value.slice A1 LX.length c1)).ownBlock = some mb8 at h; have := obPmb8 mb8 h; omega)
     replace H35 := H35.keep K155 (by intro h; change ((Value.slice A1 LX.length c1)).ownBlock = some kb9 at h; have := obPkb9 kb9 h; omega)
     replace H36 := H36.keep K155 (by intro h; change ((Value.slice A1 LX.length c1)).ownBlock = some b21 at h; have := obPb21 b21 h; omega)
     replace H51 := H51.keep K155 (by intro h; change ((Value.slice A1 LX.length c1)).ownBlock = some b42 at h; have := ob48 b42 h; omega)
     replace H143 := H143.keep K155 (by intro h; change ((Value.slice A1 LX.length c1)).ownBlock = some b140 at h; have := ob146 b140 h; omega)
     clear hOP
     replace hOQ := own_keep hOQ K155 (fun i hi hs => by have hs : ((Value.slice A1 LX.length c1)).ownBlock = some i := hs; exact ooPQ i hi hs)
     have Kb168 := Kb148.trans K155 (U := (fun i => i = b1 ∨ ((Value.slice A1 LX.length c1)).ownBlock = some i ∨ ((Value.slice A2 nu.length c2)).ownBlock = some i)) (fun _ _ h => h) (fun i h1 h2 => by have h2 : ((Value.slice A1 LX.length c1)).ownBlock = some i := h2; exact .inr (.inl h2))
     refine Dr1.go (v := (Value.slice A156 ((LX ++ [x]).length) c157)) (by kernel_rfl) (Runs.append (ts := #[33, 33]) (ty := 33) (vs := [(Value.slice A1 LX.length c1), (Value.slice (some ⟨b62, 0, none⟩) 1 1)]) (by kernel_rfl) hr151) (d := (some 32)) (by kernel_rfl) rfl (SH.cons (SH.cons (SH.nil Kb168) (.inr (H32.loads (by kernel_rfl)))) (.inr (H32.loads (by kernel_rfl)))) ?_
     clear K155 hr151 hK153 hg154
     refine skQ 4 [10] [(2, .slice none 0 0), (3, .bool false), (4, i64 0), (5, ptr b1), (6, ptr b21), (7, i64 why), (9, ptr b42), (18, .slice LA l.length lc), (19, i64 ↑l.length), (20, i64 ↑ii), (32, (Value.slice A156 ((LX ++ [x]).length) c157)), (34, .slice A2 nu.length c2), (36, .slice (some ⟨b140, 0, none⟩) 1 1), (38, ptr b1)] ?_
     refine soQ 9 ?_
     obtain ⟨v169, w170, hr171, hO172, hK173, hg174⟩ := OwnT.app (ty := 35) iN_one iN_cells tyI hOQ (show RdT _ 1 iN _ [ii] from Rd.lit H143 (n := 1) rfl (by decide)) (by simp only [List.length_cons, List.length_nil]; omega) (by simp only [List.length_cons, List.length_nil]; omega) K31.size
     obtain ⟨A176, c177, rfl⟩ := RdT.form iN_one (by decide) (OwnT.rd hO172)
     have ob178 : ∀ i, ((Value.slice A176 ((nu ++ [ii]).length) c177)).ownBlock = some i → i ≠ b1 := fun i hi => by rcases hg174 i hi with h | h; (have := obQb1 i h; omega); (have := H32.lt; omega)
     have ob179 : ∀ i, ((Value.slice A176 ((nu ++ [ii]).length) c177)).ownBlock = some i → i ≠ b7 := fun i hi => by rcases hg174 i hi with h | h; (have := obQb7 i h; omega); (have := H33.lt; omega)
     have ob180 : ∀ i, ((Value.slice A176 ((nu ++ [ii]).length) c177)).ownBlock = some i → i ≠ mb8 := fun i hi => by rcases hg174 i hi with h | h; (have := obQmb8 i h; omega); (have := H34.lt; omega)
     have ob181 : ∀ i, ((Value.slice A176 ((nu ++ [ii]).length) c177)).ownBlock = some i → i ≠ kb9 := fun i hi => by rcases hg174 i hi with h | h; (have := obQkb9 i h; omega); (have := H35.lt; omega)
     have ob182 : ∀ i, ((Value.slice A176 ((nu ++ [ii]).length) c177)).ownBlock = some i → i ≠ b21 := fun i hi => by rcases hg174 i hi with h | h; (have := obQb21 i h; omega); (have := H36.lt; omega)
     have oo186 : ∀ i, ((Value.slice A156 ((LX ++ [x]).length) c157)).ownBlock = some i → ((Value.slice A176 ((nu ++ [ii]).length) c177)).ownBlock = some i → False := fun i hi hs => by rcases hg174 i hs with h | h; (exact oo167 i hi h); (have := (World.ownsRow.lt hO152 i hi).2; omega)
     have oo187 : ∀ i, ((Value.slice A176 ((nu ++ [ii]).length) c177)).ownBlock = some i → ((Value.slice A156 ((LX ++ [x]).length) c157)).ownBlock = some i → False := fun i hi hs => oo186 i hs hi
     have K175 := hK173
     replace K31 := K31.trans K175 (U := none_) (fun i h1 h2 => h2) (fun i h1 h2 => by have h2 : ((Value.slice A2 nu.length c2)).ownBlock = some i := h2; exfalso; have := (World.ownsRow.lt hOQ i h2).1; omega)
     replace H32 := H32.keep K175 (by intro h; change ((Value.slice A2 nu.length c2)).ownBlock = some b1 at h; have := obQb1 b1 h; omega)
     replace H33 := H33.keep K175 (by intro h; change ((Value.slice A2 nu.length c2)).ownBlock = some b7 at h; have := obQb7 b7 h; omega)
     replace H34 := H34.keep K175 (by intro h; change ((Value.slice A2 nu.length c2)).ownBlock = some mb8 at h; have := obQmb8 mb8 h; omega)
     replace H35 := H35.keep K175 (by intro h; change ((Value.slice A2 nu.length c2)).ownBlock = some kb9 at h; have := obQkb9 kb9 h; omega)
     replace H36 := H36.keep K175 (by intro h; change ((Value.slice A2 nu.length c2)).ownBlock = some b21 at h; have := obQb21 b21 h; omega)
     replace H51 := H51.keep K175 (by intro h; change ((Value.slice A2 nu.length c2)).ownBlock = some b42 at h; have := ob49 b42 h; omega)
     clear hOQ
     replace hO152 := own_keep hO152 K175 (fun i hi hs => by have hs : ((Value.slice A2 nu.length c2)).ownBlock = some i := hs; exact oo167 i hi hs)
     have Kb188 := Kb168.trans K175 (U := (fun i => i = b1 ∨ ((Value.slice A1 LX.length c1)).ownBlock = some i ∨ ((Value.slice A2 nu.length c2)).ownBlock = some i)) (fun _ _ h => h) (fun i h1 h2 => by have h2 : ((Value.slice A2 nu.length c2)).ownBlock = some i := h2; exact .inr (.inr (h2)))
     refine Dr1.go (v := (Value.slice A176 ((nu ++ [ii]).length) c177)) (by kernel_rfl) (Runs.append (ts := #[35, 35]) (ty := 35) (vs := [(Value.slice A2 nu.length c2), (Value.slice (some ⟨b140, 0, none⟩) 1 1)]) (by kernel_rfl) hr171) (d := (some 37)) (by kernel_rfl) rfl (SH.cons (SH.cons (SH.nil Kb188) (.inr (H32.loads (by kernel_rfl)))) (.inr (H32.loads (by kernel_rfl)))) ?_
     clear K175 hr171 hK173 hg174
     refine soQ 11 ?_
     refine Dr1.put (t := 33) (b := b1) (off := 0) (v := (Value.slice A156 ((LX ++ [x]).length) c157)) (ys := [(Value.slice A156 ((LX ++ [x]).length) c157), (Value.slice A2 nu.length c2)]) (by kernel_rfl) (by kernel_rfl) H32 (by kernel_rfl) (d := none) (by kernel_rfl) rfl (fun w189 H190 K191 => ?_)
     replace K31 := K31.trans K191 (U := none_) (fun i h1 h2 => h2) (fun i h1 h2 => by have h2 : i = b1 := h2; exfalso; omega)
     replace H33 := H33.k1 K191 (by omega)
     replace H34 := H34.k1 K191 (by omega)
     replace H35 := H35.k1 K191 (by omega)
     replace H36 := H36.k1 K191 (by omega)
     replace H51 := H51.k1 K191 (by omega)
     replace hO152 := own_keep hO152 K191 (fun i hi => by have := ob158 i hi; omega)
     replace hO172 := own_keep hO172 K191 (fun i hi => by have := ob178 i hi; omega)
     have Kb192 := Kb188.trans K191 (U := (fun i => i = b1 ∨ ((Value.slice A1 LX.length c1)).ownBlock = some i ∨ ((Value.slice A2 nu.length c2)).ownBlock = some i)) (fun _ _ h => h) (fun i h1 h2 => by have h2 : i = b1 := h2; exact .inl h2)
     refine ⟨(SH.cons (SH.cons (SH.nil Kb192) (.inr (H190.loads (by kernel_rfl)))) (.inl (by kernel_rfl))), ?_⟩
     refine skQ 1 [12] [(2, .slice none 0 0), (3, .bool false), (4, i64 0), (5, ptr b1), (6, ptr b21), (7, i64 why), (9, ptr b42), (18, .slice LA l.length lc), (19, i64 ↑l.length), (20, i64 ↑ii), (37, (Value.slice A176 ((nu ++ [ii]).length) c177)), (39, .pointer (some ⟨b1, 1, none⟩))] ?_
     refine soQ 13 ?_
     refine Dr1.put (t := 35) (b := b1) (off := 1) (v := (Value.slice A176 ((nu ++ [ii]).length) c177)) (ys := [(Value.slice A156 ((LX ++ [x]).length) c157), (Value.slice A176 ((nu ++ [ii]).length) c177)]) (by kernel_rfl) (by kernel_rfl) H190 (by kernel_rfl) (d := none) (by kernel_rfl) rfl (fun w193 H194 K195 => ?_)
     replace K31 := K31.trans K195 (U := none_) (fun i h1 h2 => h2) (fun i h1 h2 => by have h2 : i = b1 := h2; exfalso; omega)
     replace H33 := H33.k1 K195 (by omega)
     replace H34 := H34.k1 K195 (by omega)
     replace H35 := H35.k1 K195 (by omega)
     replace H36 := H36.k1 K195 (by omega)
     replace H51 := H51.k1 K195 (by omega)
     replace hO152 := own_keep hO152 K195 (fun i hi => by have := ob158 i hi; omega)
     replace hO172 := own_keep hO172 K195 (fun i hi => by have := ob178 i hi; omega)
     have Kb196 := Kb192.trans K195 (U := (fun i => i = b1 ∨ ((Value.slice A1 LX.length c1)).ownBlock = some i ∨ ((Value.slice A2 nu.length c2)).ownBlock = some i)) (fun _ _ h => h) (fun i h1 h2 => by have h2 : i = b1 := h2; exact .inl h2)
     refine ⟨(SH.cons (SH.cons (SH.nil Kb196) (.inl (by kernel_rfl))) (.inl (by kernel_rfl))), ?_⟩
     refine DrS.done (by kernel_rfl) ?_
     refine rsg Open.wide ?_
     refine og 1 [(2, .slice none 0 0), (3, .bool false), (4, i64 0), (5, ptr b1), (6, ptr b21), (7, i64 why), (9, ptr b42), (18, .slice LA l.length lc), (19, i64 ↑l.length), (20, i64 ↑ii), (40, .pointer (some ⟨b42, 9, none⟩))] 1 ?_
     refine ogo (Value.bool x.c.told) 41 (rld 4 b42 9 H51) rfl ?_
     refine od ?_
     refine rcQ 41 x.c.told rfl (fun h197 => ?_) (fun h197 => ?_)
     ·rw [h197]
      have p198 : x.c.told = true := h197
      refine rsg Open.wide ?_
      refine og 1 [(2, .slice none 0 0), (3, .bool false), (4, i64 0), (5, ptr b1), (6, ptr b21), (7, i64 why), (9, ptr b42), (18, .slice LA l.length lc), (19, i64 ↑l.length), (20, i64 ↑ii), (42, .pointer (some ⟨b21, 2, none⟩))] 1 ?_
      refine ogo (i64 ((n : Nat) : Int)) 43 (rld 3 b21 2 H36) rfl ?_
      refine og 1 [(2, .slice none 0 0), (3, .bool false), (4, i64 0), (5, ptr b1), (6, ptr b21), (7, i64 why), (9, ptr b42), (18, .slice LA l.length lc), (19, i64 ↑l.length), (20, i64 ↑ii), (44, (i64 (IntKind.i64.wrap (((n : Nat) : Int) + 1))))] 3 ?_
      rw [show IntKind.i64.wrap (((n : Nat) : Int) + 1) = ((n + 1 : Nat) : Int) from by rw [wrap_i64 (by omega) (by omega)]; omega]
      refine og 1 [(2, .slice none 0 0), (3, .bool false), (4, i64 0), (5, ptr b1), (6, ptr b21), (7, i64 why), (9, ptr b42), (18, .slice LA l.length lc), (19, i64 ↑l.length), (20, i64 ↑ii), (44, i64 ↑(n + 1)), (45, .pointer (some ⟨b21, 2, none⟩))] 4 ?_
      refine Ops.put (t := 3) (b := b21) (off := 2) (v := (i64 ((n + 1 : Nat) : Int))) (ys := [(Value.slice none 0 0), (Value.int IntKind.u64 0), (i64 ((n + 1 : Nat) : Int)), (ptr b7)]) (by kernel_rfl) (by kernel_rfl) H36 (by kernel_rfl) (d := none) (by kernel_rfl) rfl (fun w200 H201 K202 => ?_)
      replace K31 := K31.trans K202 (U := none_) (fun i h1 h2 => h2) (fun i h1 h2 => by have h2 : i = b21 := h2; exfalso; omega)
      replace H194 := H194.k1 K202 (by omega)
      replace H33 := H33.k1 K202 (by omega)
      replace H34 := H34.k1 K202 (by omega)
      replace H35 := H35.k1 K202 (by omega)
      replace H51 := H51.k1 K202 (by omega)
      replace hO152 := own_keep hO152 K202 (fun i hi => by have := ob162 i hi; omega)
      replace hO172 := own_keep hO172 K202 (fun i hi => by have := ob182 i hi; omega)
      refine od ?_
      refine rsg Open.wide ?_
      refine og 1 [(2, .slice none 0 0), (3, .bool false), (4, i64 0), (5, ptr b1), (6, ptr b21), (7, i64 why), (9, ptr b42), (18, .slice LA l.length lc), (19, i64 ↑l.length), (20, i64 ↑ii), (46, .pointer (some ⟨b42, 8, none⟩))] 1 ?_
      refine ogo (i64 x.c.en) 47 (rld 3 b42 8 H51) rfl ?_
      refine og 1 [(2, .slice none 0 0), (3, .bool false), (4, i64 0), (5, ptr b1), (6, ptr b21), (7, i64 why), (18, .slice LA l.length lc), (19, i64 ↑l.length), (20, i64 ↑ii), (47, i64 x.c.en), (48, .pointer (some ⟨b42, 7, none⟩))] 3 ?_
      refine ogo (i64 x.c.bg) 49 (rld 3 b42 7 H51) rfl ?_
      refine ogd 1 [(2, .slice none 0 0), (3, .bool false), (4, i64 0), (5, ptr b1), (6, ptr b21), (7, i64 why), (18, .slice LA l.length lc), (19, i64 ↑l.length), (20, i64 ↑ii), (50, (Value.bool (decide (x.c.en < x.c.bg))))] ?_
      refine rcQ 50 (decide (x.c.en < x.c.bg)) rfl (fun h203 => ?_) (fun h203 => ?_)
      ·rw [h203]
       have p204 := of_decide_eq_true h203
       have hbx : badH x.c = true := by unfold badH; rw [h197, decide_eq_true (by omega)]; rfl
       refine rgQ Open.wide ?_
       refine ogd 1 [(2, .slice none 0 0), (3, .bool false), (4, i64 0), (5, ptr b1), (6, ptr b21), (7, i64 1), (18, .slice LA l.length lc), (19, i64 ↑l.length), (20, i64 ↑ii)] ?_
       refine rgQ Open.wide ?_
       refine og 1 [(2, .slice none 0 0), (3, .bool false), (4, i64 0), (5, ptr b1), (6, ptr b21), (7, i64 1), (18, .slice LA l.length lc), (19, i64 ↑l.length), (20, i64 ↑ii), (51, (i64 (IntKind.i64.wrap (((ii : Nat) : Int) + 1))))] 1 ?_
       rw [show IntKind.i64.wrap (((ii : Nat) : Int) + 1) = ((ii + 1 : Nat) : Int) from by rw [wrap_i64 (by omega) (by omega)]; omega]
       refine og 1 [(2, .slice none 0 0), (3, .bool false), (4, i64 0), (5, ptr b1), (6, ptr b21), (7, i64 1), (18, .slice LA l.length lc), (19, i64 ↑l.length), (20, i64 ↑(ii + 1))] 2 ?_
       refine ok_ [(2, .slice none 0 0), (3, .bool false), (4, i64 0), (5, ptr b1), (6, ptr b21), (7, i64 1), (18, .slice LA l.length lc), (19, i64 ↑l.length), (20, i64 ↑(ii + 1))] ?_
       refine od ?_
       exact ⟨(ii + 1, A156, c157, (LX ++ [x]), A176, c177, (nu ++ [ii]), n + 1, 1), ⟨rfl, rfl, hO152, ob158, ob159, ob160, ob161, ob162, oo187, hO172, ob178, ob179, ob180, ob181, ob182, oo186, (by rw [xs_snoc hnl, hstep, hX]), (by rw [List.length_append, List.length_append, hnl]; rfl), (fun z hz => by rcases List.mem_append.1 hz with hz | hz; exact hsub z hz; rw [List.mem_singleton.1 hz]; exact List.mem_of_getElem? hx), (by rw [xs_snoc hnl, left_snoc, if_pos h197, ← hn]), (by rw [xs_snoc hnl, any_snoc, hbx, Bool.or_true]; rfl), (by omega), (by rw [List.length_append]; have : ([x] : List HC).length = 1 := rfl; omega), K31, H194, H33, H34, H35, H201⟩, (show l.length - (ii + 1) < l.length - ii from by omega)⟩
      ·rw [h203]
       have p206 := of_decide_eq_false h203
       have hbx : badH x.c = false := by unfold badH; rw [h197, decide_eq_false (by omega)]; rfl
       refine rkQ ?_
       refine rgQ Open.wide ?_
       refine og 1 [(2, .slice none 0 0), (3, .bool false), (4, i64 0), (5, ptr b1), (6, ptr b21), (7, i64 why), (18, .slice LA l.length lc), (19, i64 ↑l.length), (20, i64 ↑ii), (51, (i64 (IntKind.i64.wrap (((ii : Nat) : Int) + 1))))] 1 ?_
       rw [show IntKind.i64.wrap (((ii : Nat) : Int) + 1) = ((ii + 1 : Nat) : Int) from by rw [wrap_i64 (by omega) (by omega)]; omega]
       refine og 1 [(2, .slice none 0 0), (3, .bool false), (4, i64 0), (5, ptr b1), (6, ptr b21), (7, i64 why), (18, .slice LA l.length lc), (19, i64 ↑l.length), (20, i64 ↑(ii + 1))] 2 ?_
       refine ok_ [(2, .slice none 0 0), (3, .bool false), (4, i64 0), (5, ptr b1), (6, ptr b21), (7, i64 why), (18, .slice LA l.length lc), (19, i64 ↑l.length), (20, i64 ↑(ii + 1))] ?_
       refine od ?_
       exact ⟨(ii + 1, A156, c157, (LX ++ [x]), A176, c177, (nu ++ [ii]), n + 1, why), ⟨rfl, rfl, hO152, ob158, ob159, ob160, ob161, ob162, oo187, hO172, ob178, ob179, ob180, ob181, ob182, oo186, (by rw [xs_snoc hnl, hstep, hX]), (by rw [List.length_append, List.length_append, hnl]; rfl), (fun z hz => by rcases List.mem_append.1 hz with hz | hz; exact hsub z hz; rw [List.mem_singleton.1 hz]; exact List.mem_of_getElem? hx), (by rw [xs_snoc hnl, left_snoc, if_pos h197, ← hn]), (by rw [xs_snoc hnl, any_snoc, hbx, Bool.or_false]; exact hw), (by omega), (by rw [List.length_append]; have : ([x] : List HC).length = 1 := rfl; omega), K31, H194, H33, H34, H35, H201⟩, (show l.length - (ii + 1) < l.length - ii from by omega)⟩
     ·rw [h197]
      have p208 : x.c.told = false := h197
      have hbx : badH x.c = false := by unfold badH; rw [h197]; rfl
      refine rkQ ?_
      refine rgQ Open.wide ?_
      refine og 1 [(2, .slice none 0 0), (3, .bool false), (4, i64 0), (5, ptr b1), (6, ptr b21), (7, i64 why), (18, .slice LA l.length lc), (19, i64 ↑l.length), (20, i64 ↑ii), (51, (i64 (IntKind.i64.wrap (((ii : Nat) : Int) + 1))))] 1 ?_
      rw [show IntKind.i64.wrap (((ii : Nat) : Int) + 1) = ((ii + 1 : Nat) : Int) from by rw [wrap_i64 (by omega) (by omega)]; omega]
      refine og 1 [(2, .slice none 0 0), (3, .bool false), (4, i64 0), (5, ptr b1), (6, ptr b21), (7, i64 why), (18, .slice LA l.length lc), (19, i64 ↑l.length), (20, i64 ↑(ii + 1))] 2 ?_
      refine ok_ [(2, .slice none 0 0), (3, .bool false), (4, i64 0), (5, ptr b1), (6, ptr b21), (7, i64 why), (18, .slice LA l.length lc), (19, i64 ↑l.length), (20, i64 ↑(ii + 1))] ?_
      refine od ?_
      exact ⟨(ii + 1, A156, c157, (LX ++ [x]), A176, c177, (nu ++ [ii]), n, why), ⟨rfl, rfl, hO152, ob158, ob159, ob160, ob161, ob162, oo187, hO172, ob178, ob179, ob180, ob181, ob182, oo186, (by rw [xs_snoc hnl, hstep, hX]), (by rw [List.length_append, List.length_append, hnl]; rfl), (fun z hz => by rcases List.mem_append.1 hz with hz | hz; exact hsub z hz; rw [List.mem_singleton.1 hz]; exact List.mem_of_getElem? hx), (by rw [xs_snoc hnl, left_snoc, if_neg (by rw [h197]; decide), ← hn]; exact (Nat.add_zero n).symm), (by rw [xs_snoc hnl, any_snoc, hbx, Bool.or_false]; exact hw), (by omega), (by rw [List.length_append]; have : ([x] : List HC).length = 1 := rfl; omega), K31, H194, H33, H34, H35, H36⟩, (show l.length - (ii + 1) < l.length - ii from by omega)⟩
   ·skip
    refine Dr1.new (o := rowL [(i64 ((ii : Nat) : Int))] 3) (V := fun b => (Value.slice (some ⟨b, 0, none⟩) 1 1)) (by kernel_rfl) (d := (some 36)) (by kernel_rfl) (fun b => rfl) (fun b210 w211 hb212 H213 K214 hs215 => ?_)
    have lb210b1 : b1 < b210 := by have := H32.lt; omega
    have lb210b7 : b7 < b210 := by have := H33.lt; omega
    have lb210mb8 : mb8 < b210 := by have := H34.lt; omega
    have lb210kb9 : kb9 < b210 := by have := H35.lt; omega
    have lb210b21 : b21 < b210 := by have := H36.lt; omega
    have lb210b42 : b42 < b210 := by have := H51.lt; omega
    have nb210 : w.heap.size ≤ b210 := by have := K31.size; omega
    have ob216 : ∀ i, ((Value.slice A1 LX.length c1)).ownBlock = some i → i < b210 := fun i hi => by have := (World.ownsRow.lt hOP i hi).2; omega
    have xb210 : w59.heap.size ≤ b210 := by have := Kb61.size; omega
    replace K31 := K31.trans K214 (U := none_) (fun i h1 h2 => h2) (fun i h1 h2 => by exact h2)
    replace H32 := H32.kn K214
    replace H33 := H33.kn K214
    replace H34 := H34.kn K214
    replace H35 := H35.kn K214
    replace H36 := H36.kn K214
    replace H51 := H51.kn K214
    replace hOP := own_keep0 hOP K214
    replace hOQ := own_keep0 hOQ K214
    have Kb218 := Kb61.trans K214 (U := (fun i => i = b1 ∨ ((Value.slice A1 LX.length c1)).ownBlock = some i ∨ ((Value.slice A2 nu.length c2)).ownBlock = some i)) (fun _ _ h => h) (fun i h1 h2 => by exact h2.elim)
    refine ⟨(SH.cons (SH.cons (SH.nil Kb218) (.inr (H32.loads (by kernel_rfl)))) (.inr (H32.loads (by kernel_rfl)))), ?_⟩
    clear K214 hs215
    refine soQ 3 ?_
    refine Dr1.new (o := rowL (HC.cells x) 43) (V := fun b => (Value.slice (some ⟨b, 0, none⟩) 1 1)) (by kernel_rfl) (d := (some 31)) (by kernel_rfl) (fun b => rfl) (fun b219 w220 hb221 H222 K223 hs224 => ?_)
    have lb219b1 : b1 < b219 := by have := H32.lt; omega
    have lb219b7 : b7 < b219 := by have := H33.lt; omega
    have lb219mb8 : mb8 < b219 := by have := H34.lt; omega
    have lb219kb9 : kb9 < b219 := by have := H35.lt; omega
    have lb219b21 : b21 < b219 := by have := H36.lt; omega
    have lb219b42 : b42 < b219 := by have := H51.lt; omega
    have lb219b210 : b210 < b219 := by have := H213.lt; omega
    have nb219 : w.heap.size ≤ b219 := by have := K31.size; omega
    have xb219 : w59.heap.size ≤ b219 := by have := Kb218.size; omega
    replace K31 := K31.trans K223 (U := none_) (fun i h1 h2 => h2) (fun i h1 h2 => by exact h2)
    replace H32 := H32.kn K223
    replace H33 := H33.kn K223
    replace H34 := H34.kn K223
    replace H35 := H35.kn K223
    replace H36 := H36.kn K223
    replace H51 := H51.kn K223
    replace H213 := H213.kn K223
    replace hOP := own_keep0 hOP K223
    replace hOQ := own_keep0 hOQ K223
    have Kb227 := Kb218.trans K223 (U := (fun i => i = b1 ∨ ((Value.slice A1 LX.length c1)).ownBlock = some i ∨ ((Value.slice A2 nu.length c2)).ownBlock = some i)) (fun _ _ h => h) (fun i h1 h2 => by exact h2.elim)
    refine ⟨(SH.cons (SH.cons (SH.nil Kb227) (.inr (H32.loads (by kernel_rfl)))) (.inr (H32.loads (by kernel_rfl)))), ?_⟩
    clear K223 hs224
    refine soQ 4 ?_
    obtain ⟨v228, w229, hr230, hO231, hK232, hg233⟩ := OwnT.app (ty := 33) HC.two HC.one tyH hOP (show RdT _ 13 HC.cells _ [x] from Rd.lit H222 (n := 1) rfl (by decide)) (by simp only [List.length_cons, List.length_nil]; omega) (by simp only [List.length_cons, List.length_nil]; omega) K31.size
    obtain ⟨A235, c236, rfl⟩ := RdT.form HC.two (by decide) (OwnT.rd hO231)
    have ob237 : ∀ i, ((Value.slice A235 ((LX ++ [x]).length) c236)).ownBlock = some i → i ≠ b1 := fun i hi => by rcases hg233 i hi with h | h; (have := obPb1 i h; omega); (have := H32.lt; omega)
    have ob238 : ∀ i, ((Value.slice A235 ((LX ++ [x]).length) c236)).ownBlock = some i → i ≠ b7 := fun i hi => by rcases hg233 i hi with h | h; (have := obPb7 i h; omega); (have := H33.lt; omega)
    have ob239 : ∀ i, ((Value.slice A235 ((LX ++ [x]).length) c236)).ownBlock = some i → i ≠ mb8 := fun i hi => by rcases hg233 i hi with h | h; (have := obPmb8 i h; omega); (have := H34.lt; omega)
    have ob240 : ∀ i, ((Value.slice A235 ((LX ++ [x]).length) c236)).ownBlock = some i → i ≠ kb9 := fun i hi => by rcases hg233 i hi with h | h; (have := obPkb9 i h; omega); (have := H35.lt; omega)
    have ob241 : ∀ i, ((Value.slice A235 ((LX ++ [x]).length) c236)).ownBlock = some i → i ≠ b21 := fun i hi => by rcases hg233 i hi with h | h; (have := obPb21 i h; omega); (have := H36.lt; omega)
    have oo245 : ∀ i, ((Value.slice A2 nu.length c2)).ownBlock = some i → ((Value.slice A235 ((LX ++ [x]).length) c236)).ownBlock = some i → False := fun i hi hs => by rcases hg233 i hs with h | h; (exact ooPQ i hi h); (have := (World.ownsRow.lt hOQ i hi).2; omega)
    have oo246 : ∀ i, ((Value.slice A235 ((LX ++ [x]).length) c236)).ownBlock = some i → ((Value.slice A2 nu.length c2)).ownBlock = some i → False := fun i hi hs => oo245 i hs hi
    have K234 := hK232
    replace K31 := K31.trans K234 (U := none_) (fun i h1 h2 => h2) (fun i h1 h2 => by have h2 : ((Value.slice A1 LX.length c1)).ownBlock = some i := h2; exfalso; have := (World.ownsRow.lt hOP i h2).1; omega)
    replace H32 := H32.keep K234 (by intro h; change ((Value.slice A1 LX.length c1)).ownBlock = some b1 at h; have := obPb1 b1 h; omega)
    replace H33 := H33.keep K234 (by intro h; change ((Value.slice A1 LX.length c1)).ownBlock = some b7 at h; have := obPb7 b7 h; omega)
    replace H34 := H34.keep K234 (by intro h; change ((Value.slice A1 LX.length c1)).ownBlock = some mb8 at h; have := obPmb8 mb8 h; omega)
    replace H35 := H35.keep K234 (by intro h; change ((Value.slice A1 LX.length c1)).ownBlock = some kb9 at h; have := obPkb9 kb9 h; omega)
    replace H36 := H36.keep K234 (by intro h; change ((Value.slice A1 LX.length c1)).ownBlock = some b21 at h; have := obPb21 b21 h; omega)
    replace H51 := H51.keep K234 (by intro h; change ((Value.slice A1 LX.length c1)).ownBlock = some b42 at h; have := ob48 b42 h; omega)
    replace H213 := H213.keep K234 (by intro h; change ((Value.slice A1 LX.length c1)).ownBlock = some b210 at h; have := ob216 b210 h; omega)
    clear hOP
    replace hOQ := own_keep hOQ K234 (fun i hi hs => by have hs : ((Value.slice A1 LX.length c1)).ownBlock = some i := hs; exact ooPQ i hi hs)
    have Kb247 := Kb227.trans K234 (U := (fun i => i = b1 ∨ ((Value.slice A1 LX.length c1)).ownBlock = some i ∨ ((Value.slice A2 nu.length c2)).ownBlock = some i)) (fun _ _ h => h) (fun i h1 h2 => by have h2 : ((Value.slice A1 LX.length c1)).ownBlock = some i := h2; exact .inr (.inl h2))
    refine Dr1.go (v := (Value.slice A235 ((LX ++ [x]).length) c236)) (by kernel_rfl) (Runs.append (ts := #[33, 33]) (ty := 33) (vs := [(Value.slice A1 LX.length c1), (Value.slice (some ⟨b219, 0, none⟩) 1 1)]) (by kernel_rfl) hr230) (d := (some 32)) (by kernel_rfl) rfl (SH.cons (SH.cons (SH.nil Kb247) (.inr (H32.loads (by kernel_rfl)))) (.inr (H32.loads (by kernel_rfl)))) ?_
    clear K234 hr230 hK232 hg233
    refine skQ 4 [10] [(2, .slice none 0 0), (3, .bool false), (4, i64 0), (5, ptr b1), (6, ptr b21), (7, i64 why), (9, ptr b42), (18, .slice LA l.length lc), (19, i64 ↑l.length), (20, i64 ↑ii), (32, (Value.slice A235 ((LX ++ [x]).length) c236)), (34, .slice A2 nu.length c2), (36, .slice (some ⟨b210, 0, none⟩) 1 1), (38, ptr b1)] ?_
    refine soQ 9 ?_
    obtain ⟨v248, w249, hr250, hO251, hK252, hg253⟩ := OwnT.app (ty := 35) iN_one iN_cells tyI hOQ (show RdT _ 1 iN _ [ii] from Rd.lit H213 (n := 1) rfl (by decide)) (by simp only [List.length_cons, List.length_nil]; omega) (by simp only [List.length_cons, List.length_nil]; omega) K31.size
    obtain ⟨A255, c256, rfl⟩ := RdT.form iN_one (by decide) (OwnT.rd hO251)
    have ob257 : ∀ i, ((Value.slice A255 ((nu ++ [ii]).length) c256)).ownBlock = some i → i ≠ b1 := fun i hi => by rcases hg253 i hi with h | h; (have := obQb1 i h; omega); (have := H32.lt; omega)
    have ob258 : ∀ i, ((Value.slice A255 ((nu ++ [ii]).length) c256)).ownBlock = some i → i ≠ b7 := fun i hi => by rcases hg253 i hi with h | h; (have := obQb7 i h; omega); (have := H33.lt; omega)
    have ob259 : ∀ i, ((Value.slice A255 ((nu ++ [ii]).length) c256)).ownBlock = some i → i ≠ mb8 := fun i hi => by rcases hg253 i hi with h | h; (have := obQmb8 i h; omega); (have := H34.lt; omega)
    have ob260 : ∀ i, ((Value.slice A255 ((nu ++ [ii]).length) c256)).ownBlock = some i → i ≠ kb9 := fun i hi => by rcases hg253 i hi with h | h; (have := obQkb9 i h; omega); (have := H35.lt; omega)
    have ob261 : ∀ i, ((Value.slice A255 ((nu ++ [ii]).length) c256)).ownBlock = some i → i ≠ b21 := fun i hi => by rcases hg253 i hi with h | h; (have := obQb21 i h; omega); (have := H36.lt; omega)
    have oo265 : ∀ i, ((Value.slice A235 ((LX ++ [x]).length) c236)).ownBlock = some i → ((Value.slice A255 ((nu ++ [ii]).length) c256)).ownBlock = some i → False := fun i hi hs => by rcases hg253 i hs with h | h; (exact oo246 i hi h); (have := (World.ownsRow.lt hO231 i hi).2; omega)
    have oo266 : ∀ i, ((Value.slice A255 ((nu ++ [ii]).length) c256)).ownBlock = some i → ((Value.slice A235 ((LX ++ [x]).length) c236)).ownBlock = some i → False := fun i hi hs => oo265 i hs hi
    have K254 := hK252
    replace K31 := K31.trans K254 (U := none_) (fun i h1 h2 => h2) (fun i h1 h2 => by have h2 : ((Value.slice A2 nu.length c2)).ownBlock = some i := h2; exfalso; have := (World.ownsRow.lt hOQ i h2).1; omega)
    replace H32 := H32.keep K254 (by intro h; change ((Value.slice A2 nu.length c2)).ownBlock = some b1 at h; have := obQb1 b1 h; omega)
    replace H33 := H33.keep K254 (by intro h; change ((Value.slice A2 nu.length c2)).ownBlock = some b7 at h; have := obQb7 b7 h; omega)
    replace H34 := H34.keep K254 (by intro h; change ((Value.slice A2 nu.length c2)).ownBlock = some mb8 at h; have := obQmb8 mb8 h; omega)
    replace H35 := H35.keep K254 (by intro h; change ((Value.slice A2 nu.length c2)).ownBlock = some kb9 at h; have := obQkb9 kb9 h; omega)
    replace H36 := H36.keep K254 (by intro h; change ((Value.slice A2 nu.length c2)).ownBlock = some b21 at h; have := obQb21 b21 h; omega)
    replace H51 := H51.keep K254 (by intro h; change ((Value.slice A2 nu.length c2)).ownBlock = some b42 at h; have := ob49 b42 h; omega)
    clear hOQ
    replace hO231 := own_keep hO231 K254 (fun i hi hs => by have hs : ((Value.slice A2 nu.length c2)).ownBlock = some i := hs; exact oo246 i hi hs)
    have Kb267 := Kb247.trans K254 (U := (fun i => i = b1 ∨ ((Value.slice A1 LX.length c1)).ownBlock = some i ∨ ((Value.slice A2 nu.length c2)).ownBlock = some i)) (fun _ _ h => h) (fun i h1 h2 => by have h2 : ((Value.slice A2 nu.length c2)).ownBlock = some i := h2; exact .inr (.inr (h2)))
    refine Dr1.go (v := (Value.slice A255 ((nu ++ [ii]).length) c256)) (by kernel_rfl) (Runs.append (ts := #[35, 35]) (ty := 35) (vs := [(Value.slice A2 nu.length c2), (Value.slice (some ⟨b210, 0, none⟩) 1 1)]) (by kernel_rfl) hr250) (d := (some 37)) (by kernel_rfl) rfl (SH.cons (SH.cons (SH.nil Kb267) (.inr (H32.loads (by kernel_rfl)))) (.inr (H32.loads (by kernel_rfl)))) ?_
    clear K254 hr250 hK252 hg253
    refine soQ 11 ?_
    refine Dr1.put (t := 33) (b := b1) (off := 0) (v := (Value.slice A235 ((LX ++ [x]).length) c236)) (ys := [(Value.slice A235 ((LX ++ [x]).length) c236), (Value.slice A2 nu.length c2)]) (by kernel_rfl) (by kernel_rfl) H32 (by kernel_rfl) (d := none) (by kernel_rfl) rfl (fun w268 H269 K270 => ?_)
    replace K31 := K31.trans K270 (U := none_) (fun i h1 h2 => h2) (fun i h1 h2 => by have h2 : i = b1 := h2; exfalso; omega)
    replace H33 := H33.k1 K270 (by omega)
    replace H34 := H34.k1 K270 (by omega)
    replace H35 := H35.k1 K270 (by omega)
    replace H36 := H36.k1 K270 (by omega)
    replace H51 := H51.k1 K270 (by omega)
    replace hO231 := own_keep hO231 K270 (fun i hi => by have := ob237 i hi; omega)
    replace hO251 := own_keep hO251 K270 (fun i hi => by have := ob257 i hi; omega)
    have Kb271 := Kb267.trans K270 (U := (fun i => i = b1 ∨ ((Value.slice A1 LX.length c1)).ownBlock = some i ∨ ((Value.slice A2 nu.length c2)).ownBlock = some i)) (fun _ _ h => h) (fun i h1 h2 => by have h2 : i = b1 := h2; exact .inl h2)
    refine ⟨(SH.cons (SH.cons (SH.nil Kb271) (.inr (H269.loads (by kernel_rfl)))) (.inl (by kernel_rfl))), ?_⟩
    refine skQ 1 [12] [(2, .slice none 0 0), (3, .bool false), (4, i64 0), (5, ptr b1), (6, ptr b21), (7, i64 why), (9, ptr b42), (18, .slice LA l.length lc), (19, i64 ↑l.length), (20, i64 ↑ii), (37, (Value.slice A255 ((nu ++ [ii]).length) c256)), (39, .pointer (some ⟨b1, 1, none⟩))] ?_
    refine soQ 13 ?_
    refine Dr1.put (t := 35) (b := b1) (off := 1) (v := (Value.slice A255 ((nu ++ [ii]).length) c256)) (ys := [(Value.slice A235 ((LX ++ [x]).length) c236), (Value.slice A255 ((nu ++ [ii]).length) c256)]) (by kernel_rfl) (by kernel_rfl) H269 (by kernel_rfl) (d := none) (by kernel_rfl) rfl (fun w272 H273 K274 => ?_)
    replace K31 := K31.trans K274 (U := none_) (fun i h1 h2 => h2) (fun i h1 h2 => by have h2 : i = b1 := h2; exfalso; omega)
    replace H33 := H33.k1 K274 (by omega)
    replace H34 := H34.k1 K274 (by omega)
    replace H35 := H35.k1 K274 (by omega)
    replace H36 := H36.k1 K274 (by omega)
    replace H51 := H51.k1 K274 (by omega)
    replace hO231 := own_keep hO231 K274 (fun i hi => by have := ob237 i hi; omega)
    replace hO251 := own_keep hO251 K274 (fun i hi => by have := ob257 i hi; omega)
    have Kb275 := Kb271.trans K274 (U := (fun i => i = b1 ∨ ((Value.slice A1 LX.length c1)).ownBlock = some i ∨ ((Value.slice A2 nu.length c2)).ownBlock = some i)) (fun _ _ h => h) (fun i h1 h2 => by have h2 : i = b1 := h2; exact .inl h2)
    refine ⟨(SH.cons (SH.cons (SH.nil Kb275) (.inl (by kernel_rfl))) (.inl (by kernel_rfl))), ?_⟩
    refine DrS.done (by kernel_rfl) ?_
    refine rsg Open.wide ?_
    refine og 1 [(2, .slice none 0 0), (3, .bool false), (4, i64 0), (5, ptr b1), (6, ptr b21), (7, i64 why), (9, ptr b42), (18, .slice LA l.length lc), (19, i64 ↑l.length), (20, i64 ↑ii), (40, .pointer (some ⟨b42, 9, none⟩))] 1 ?_
    refine ogo (Value.bool x.c.told) 41 (rld 4 b42 9 H51) rfl ?_
    refine od ?_
    refine rcQ 41 x.c.told rfl (fun h276 => ?_) (fun h276 => ?_)
    ·rw [h276]
     have p277 : x.c.told = true := h276
     refine rsg Open.wide ?_
     refine og 1 [(2, .slice none 0 0), (3, .bool false), (4, i64 0), (5, ptr b1), (6, ptr b21), (7, i64 why), (9, ptr b42), (18, .slice LA l.length lc), (19, i64 ↑l.length), (20, i64 ↑ii), (42, .pointer (some ⟨b21, 2, none⟩))] 1 ?_
     refine ogo (i64 ((n : Nat) : Int)) 43 (rld 3 b21 2 H36) rfl ?_
     refine og 1 [(2, .slice none 0 0), (3, .bool false), (4, i64 0), (5, ptr b1), (6, ptr b21), (7, i64 why), (9, ptr b42), (18, .slice LA l.length lc), (19, i64 ↑l.length), (20, i64 ↑ii), (44, (i64 (IntKind.i64.wrap (((n : Nat) : Int) + 1))))] 3 ?_
     rw [show IntKind.i64.wrap (((n : Nat) : Int) + 1) = ((n + 1 : Nat) : Int) from by rw [wrap_i64 (by omega) (by omega)]; omega]
     refine og 1 [(2, .slice none 0 0), (3, .bool false), (4, i64 0), (5, ptr b1), (6, ptr b21), (7, i64 why), (9, ptr b42), (18, .slice LA l.length lc), (19, i64 ↑l.length), (20, i64 ↑ii), (44, i64 ↑(n + 1)), (45, .pointer (some ⟨b21, 2, none⟩))] 4 ?_
     refine Ops.put (t := 3) (b := b21) (off := 2) (v := (i64 ((n + 1 : Nat) : Int))) (ys := [(Value.slice none 0 0), (Value.int IntKind.u64 0), (i64 ((n + 1 : Nat) : Int)), (ptr b7)]) (by kernel_rfl) (by kernel_rfl) H36 (by kernel_rfl) (d := none) (by kernel_rfl) rfl (fun w279 H280 K281 => ?_)
     replace K31 := K31.trans K281 (U := none_) (fun i h1 h2 => h2) (fun i h1 h2 => by have h2 : i = b21 := h2; exfalso; omega)
     replace H273 := H273.k1 K281 (by omega)
     replace H33 := H33.k1 K281 (by omega)
     replace H34 := H34.k1 K281 (by omega)
     replace H35 := H35.k1 K281 (by omega)
     replace H51 := H51.k1 K281 (by omega)
     replace hO231 := own_keep hO231 K281 (fun i hi => by have := ob241 i hi; omega)
     replace hO251 := own_keep hO251 K281 (fun i hi => by have := ob261 i hi; omega)
     refine od ?_
     refine rsg Open.wide ?_
     refine og 1 [(2, .slice none 0 0), (3, .bool false), (4, i64 0), (5, ptr b1), (6, ptr b21), (7, i64 why), (9, ptr b42), (18, .slice LA l.length lc), (19, i64 ↑l.length), (20, i64 ↑ii), (46, .pointer (some ⟨b42, 8, none⟩))] 1 ?_
     refine ogo (i64 x.c.en) 47 (rld 3 b42 8 H51) rfl ?_
     refine og 1 [(2, .slice none 0 0), (3, .bool false), (4, i64 0), (5, ptr b1), (6, ptr b21), (7, i64 why), (18, .slice LA l.length lc), (19, i64 ↑l.length), (20, i64 ↑ii), (47, i64 x.c.en), (48, .pointer (some ⟨b42, 7, none⟩))] 3 ?_
     refine ogo (i64 x.c.bg) 49 (rld 3 b42 7 H51) rfl ?_
     refine ogd 1 [(2, .slice none 0 0), (3, .bool false), (4, i64 0), (5, ptr b1), (6, ptr b21), (7, i64 why), (18, .slice LA l.length lc), (19, i64 ↑l.length), (20, i64 ↑ii), (50, (Value.bool (decide (x.c.en < x.c.bg))))] ?_
     refine rcQ 50 (decide (x.c.en < x.c.bg)) rfl (fun h282 => ?_) (fun h282 => ?_)
     ·rw [h282]
      have p283 := of_decide_eq_true h282
      have hbx : badH x.c = true := by unfold badH; rw [h276, decide_eq_true (by omega)]; rfl
      refine rgQ Open.wide ?_
      refine ogd 1 [(2, .slice none 0 0), (3, .bool false), (4, i64 0), (5, ptr b1), (6, ptr b21), (7, i64 1), (18, .slice LA l.length lc), (19, i64 ↑l.length), (20, i64 ↑ii)] ?_
      refine rgQ Open.wide ?_
      refine og 1 [(2, .slice none 0 0), (3, .bool false), (4, i64 0), (5, ptr b1), (6, ptr b21), (7, i64 1), (18, .slice LA l.length lc), (19, i64 ↑l.length), (20, i64 ↑ii), (51, (i64 (IntKind.i64.wrap (((ii : Nat) : Int) + 1))))] 1 ?_
      rw [show IntKind.i64.wrap (((ii : Nat) : Int) + 1) = ((ii + 1 : Nat) : Int) from by rw [wrap_i64 (by omega) (by omega)]; omega]
      refine og 1 [(2, .slice none 0 0), (3, .bool false), (4, i64 0), (5, ptr b1), (6, ptr b21), (7, i64 1), (18, .slice LA l.length lc), (19, i64 ↑l.length), (20, i64 ↑(ii + 1))] 2 ?_
      refine ok_ [(2, .slice none 0 0), (3, .bool false), (4, i64 0), (5, ptr b1), (6, ptr b21), (7, i64 1), (18, .slice LA l.length lc), (19, i64 ↑l.length), (20, i64 ↑(ii + 1))] ?_
      refine od ?_
      exact ⟨(ii + 1, A235, c236, (LX ++ [x]), A255, c256, (nu ++ [ii]), n + 1, 1), ⟨rfl, rfl, hO231, ob237, ob238, ob239, ob240, ob241, oo266, hO251, ob257, ob258, ob259, ob260, ob261, oo265, (by rw [xs_snoc hnl, hstep, hX]), (by rw [List.length_append, List.length_append, hnl]; rfl), (fun z hz => by rcases List.mem_append.1 hz with hz | hz; exact hsub z hz; rw [List.mem_singleton.1 hz]; exact List.mem_of_getElem? hx), (by rw [xs_snoc hnl, left_snoc, if_pos h276, ← hn]), (by rw [xs_snoc hnl, any_snoc, hbx, Bool.or_true]; rfl), (by omega), (by rw [List.length_append]; have : ([x] : List HC).length = 1 := rfl; omega), K31, H273, H33, H34, H35, H280⟩, (show l.length - (ii + 1) < l.length - ii from by omega)⟩
     ·rw [h282]
      have p285 := of_decide_eq_false h282
      have hbx : badH x.c = false := by unfold badH; rw [h276, decide_eq_false (by omega)]; rfl
      refine rkQ ?_
      refine rgQ Open.wide ?_
      refine og 1 [(2, .slice none 0 0), (3, .bool false), (4, i64 0), (5, ptr b1), (6, ptr b21), (7, i64 why), (18, .slice LA l.length lc), (19, i64 ↑l.length), (20, i64 ↑ii), (51, (i64 (IntKind.i64.wrap (((ii : Nat) : Int) + 1))))] 1 ?_
      rw [show IntKind.i64.wrap (((ii : Nat) : Int) + 1) = ((ii + 1 : Nat) : Int) from by rw [wrap_i64 (by omega) (by omega)]; omega]
      refine og 1 [(2, .slice none 0 0), (3, .bool false), (4, i64 0), (5, ptr b1), (6, ptr b21), (7, i64 why), (18, .slice LA l.length lc), (19, i64 ↑l.length), (20, i64 ↑(ii + 1))] 2 ?_
      refine ok_ [(2, .slice none 0 0), (3, .bool false), (4, i64 0), (5, ptr b1), (6, ptr b21), (7, i64 why), (18, .slice LA l.length lc), (19, i64 ↑l.length), (20, i64 ↑(ii + 1))] ?_
      refine od ?_
      exact ⟨(ii + 1, A235, c236, (LX ++ [x]), A255, c256, (nu ++ [ii]), n + 1, why), ⟨rfl, rfl, hO231, ob237, ob238, ob239, ob240, ob241, oo266, hO251, ob257, ob258, ob259, ob260, ob261, oo265, (by rw [xs_snoc hnl, hstep, hX]), (by rw [List.length_append, List.length_append, hnl]; rfl), (fun z hz => by rcases List.mem_append.1 hz with hz | hz; exact hsub z hz; rw [List.mem_singleton.1 hz]; exact List.mem_of_getElem? hx), (by rw [xs_snoc hnl, left_snoc, if_pos h276, ← hn]), (by rw [xs_snoc hnl, any_snoc, hbx, Bool.or_false]; exact hw), (by omega), (by rw [List.length_append]; have : ([x] : List HC).length = 1 := rfl; omega), K31, H273, H33, H34, H35, H280⟩, (show l.length - (ii + 1) < l.length - ii from by omega)⟩
    ·rw [h276]
     have p287 : x.c.told = false := h276
     have hbx : badH x.c = false := by unfold badH; rw [h276]; rfl
     refine rkQ ?_
     refine rgQ Open.wide ?_
     refine og 1 [(2, .slice none 0 0), (3, .bool false), (4, i64 0), (5, ptr b1), (6, ptr b21), (7, i64 why), (18, .slice LA l.length lc), (19, i64 ↑l.length), (20, i64 ↑ii), (51, (i64 (IntKind.i64.wrap (((ii : Nat) : Int) + 1))))] 1 ?_
     rw [show IntKind.i64.wrap (((ii : Nat) : Int) + 1) = ((ii + 1 : Nat) : Int) from by rw [wrap_i64 (by omega) (by omega)]; omega]
     refine og 1 [(2, .slice none 0 0), (3, .bool false), (4, i64 0), (5, ptr b1), (6, ptr b21), (7, i64 why), (18, .slice LA l.length lc), (19, i64 ↑l.length), (20, i64 ↑(ii + 1))] 2 ?_
     refine ok_ [(2, .slice none 0 0), (3, .bool false), (4, i64 0), (5, ptr b1), (6, ptr b21), (7, i64 why), (18, .slice LA l.length lc), (19, i64 ↑l.length), (20, i64 ↑(ii + 1))] ?_
     refine od ?_
     exact ⟨(ii + 1, A235, c236, (LX ++ [x]), A255, c256, (nu ++ [ii]), n, why), ⟨rfl, rfl, hO231, ob237, ob238, ob239, ob240, ob241, oo266, hO251, ob257, ob258, ob259, ob260, ob261, oo265, (by rw [xs_snoc hnl, hstep, hX]), (by rw [List.length_append, List.length_append, hnl]; rfl), (fun z hz => by rcases List.mem_append.1 hz with hz | hz; exact hsub z hz; rw [List.mem_singleton.1 hz]; exact List.mem_of_getElem? hx), (by rw [xs_snoc hnl, left_snoc, if_neg (by rw [h276]; decide), ← hn]; exact (Nat.add_zero n).symm), (by rw [xs_snoc hnl, any_snoc, hbx, Bool.or_false]; exact hw), (by omega), (by rw [List.length_append]; have : ([x] : List HC).length = 1 := rfl; omega), K31, H273, H33, H34, H35, H36⟩, (show l.length - (ii + 1) < l.length - ii from by omega)⟩
 ·rw [h37]
  have p289 := of_decide_eq_false h37
  have hXm : XS LX nu = lookedH (l.map HC.c) := by rw [List.take_of_length_le (by rw [List.length_map]; omega)] at hX; exact hX
  refine qr_exit (id := 0) (by kernel_rfl) ?_
  refine rsQ ?_
  refine qr_block (id := 2) (by kernel_rfl) ?_
  refine rsg Open.wide ?_
  refine og 1 [(2, .slice none 0 0), (3, .bool false), (4, i64 0), (5, ptr b1), (6, ptr b21), (7, i64 why), (53, ptr b1)] 1 ?_
  refine ogo (Value.slice A1 LX.length c1) 54 (rld 33 b1 0 H32) rfl ?_
  refine ogd 3 [(2, .slice none 0 0), (3, .bool false), (4, i64 0), (5, ptr b1), (6, ptr b21), (7, i64 why), (52, (Value.bool (decide (((LX.length : Nat) : Int) > 8))))] ?_
  refine rcQ 52 (decide (((LX.length : Nat) : Int) > 8)) rfl (fun h290 => ?_) (fun h290 => ?_)
  ·rw [h290]
   have p291 := of_decide_eq_true h290
   refine rsg Open.wide ?_
   refine ogd 3 [(2, .slice none 0 0), (3, .bool false), (4, i64 3), (5, ptr b1), (6, ptr b21), (7, i64 why)] ?_
   refine rtQ ?_
   refine retR_none (v := (Value.tuple #[(Value.slice none 0 0), (Value.bool false), (i64 3)])) (retv_tmp3 rfl rfl rfl rfl) ?_
   exact ⟨[], none, 0, false, 3, rfl, K31, Rd.nil _ _, order_size (by rw [← hXm, xs_len hnl]; omega)⟩
  ·rw [h290]
   have p292 := of_decide_eq_false h290
   refine rsg Open.wide ?_
   refine ogd 3 [(2, .slice none 0 0), (3, .bool false), (4, i64 0), (5, ptr b1), (6, ptr b21), (7, i64 why), (57, .bool (why != 0))] ?_
   refine rcQ 57 (why != 0) rfl (fun h293 => ?_) (fun h293 => ?_)
   ·rw [h293]
    have p294 := of_bne_t h293
    have hany : (XS LX nu).any (fun c => badH c.1) = true := by cases hq : (XS LX nu).any (fun c => badH c.1) with | true => rfl | false => rw [hq, if_neg (by decide)] at hw; omega
    refine rsg Open.wide ?_
    refine ogd 4 [(2, .slice none 0 0), (3, .bool false), (4, i64 why), (5, ptr b1), (6, ptr b21)] ?_
    refine rtQ ?_
    refine retR_none (v := (Value.tuple #[(Value.slice none 0 0), (Value.bool false), (i64 why)])) (retv_tmp3 rfl rfl rfl rfl) ?_
    have hw1 : why = 1 := by rw [hany, if_pos rfl] at hw; exact hw
    exact ⟨[], none, 0, false, why, rfl, K31, Rd.nil _ _, by rw [hw1]; exact order_bad (by rw [← hXm, xs_len hnl]; omega) (by rw [← hXm]; exact hany)⟩
   ·rw [h293]
    have p295 := of_bne_f h293
    have hany : (XS LX nu).any (fun c => badH c.1) = false := by cases hq : (XS LX nu).any (fun c => badH c.1) with | true => rw [hq, if_pos rfl] at hw; omega | false => rfl
    refine rkQ ?_
    refine qr_keep (R := [(5, ptr b1), (6, ptr b21)]) (by kernel_rfl) ?_
    obtain ⟨f0, R0, hf0, hrun0, hR0⟩ := order_end hXm hnl (fun c hc => by obtain ⟨z, hz, e⟩ := List.mem_map.1 hc; rw [← e]; exact ho z hz) (by omega) (by rw [← hXm]; exact hany)
    have hs0 : startH (XS LX nu) = StC.m (⟨[], none, 0, 0, ((n : Nat) : Int), b7, ([], [])⟩ : StC) := by unfold startH leftH StC.m; rw [← hn]
    have hnb : b7 ≠ mb8 ∧ b7 ≠ kb9 ∧ mb8 ≠ kb9 := by omega
    have hI0 : Imm w30 110 68 73 (fun i => i < w30.heap.size) b1 A1 c1 LX A2 c2 nu true (⟨[], none, 0, 0, ((n : Nat) : Int), b7, ([], [])⟩ : StC) b21 [(⟨[], none, 0, 0, ((n : Nat) : Int), b7, ([], [])⟩ : StC)] ([] : List Nat) := { pool := ⟨fun z hz => by rw [List.mem_singleton.1 hz]; exact ⟨Rd.nil _ _, fun i hi => (by cases hi), mb8, kb9, [], H33, H34, H35, hnb, LBook.nil, H33.lt, H34.lt, H35.lt⟩, fun i hi => hi⟩, h5 := H32, f5 := H32.lt, rl := OwnT.rd hOP, fl := fun i hi => (World.ownsRow.lt hOP i hi).2, ra := OwnT.rd hOQ, fa := fun i hi => (World.ownsRow.lt hOQ i hi).2, rows := ⟨G, ⟨fun z hz => (RowsE.keep hG K31 (fun _ _ h => h)).1 z (hsub z hz), fun z hz => hG.2.1 z (hsub z hz), (RowsE.keep hG K31 (fun _ _ h => h)).2.2⟩, (RowsE.keep hG K31 (fun _ _ h => h)).2.2⟩, tcell := fun _ => H36, ft := H36.lt, defs := DefsW.nil _, fd := fun D h => (by cases h) }
    exact Order_tail w w30 b1 b21 b7 f0 A1 c1 LX A2 c2 nu _ R0 _ K31 hI0 hnl (fun z hz => ho z (hsub z hz)) (by omega) (by rw [← hs0]; exact SrOk.start _) hf0 (by rw [← hs0]; exact hrun0) (fun e w' ⟨o, A, c, ok, he, hk, hr, hR⟩ => ⟨o, A, c, ok, 0, he, hk, hr, hR0 o ok hR⟩)
end Go.Proofs.YtnbcghbgeiocbaaDoor
namespace Go.Proofs.YtnbcghbgeiocbaaDoor
open Go.Q Go.RowKit
theorem Linear_calls (w : World) (LA : Option Addr) (lc : Nat) (l : List HC) (G : Nat → Prop) (hL : RdT w 13 HC.cells (Value.slice LA l.length lc) l) (hG : RowsE w HC.rv HC.rows G l) (ho : ∀ x ∈ l, -9223372036854775808 ≤ x.c.op.amount ∧ x.c.op.amount ≤ 9223372036854775807) (hl : l.length ≤ 2000) : Calls Tryd.prog 14 ⟨[(Value.slice LA l.length lc)]⟩ w (fun e w' => ∃ (ok : Bool) (why : Int), e = .returned (.tuple #[.bool ok, i64 why]) ∧ Keeps none_ w w' ∧ (ok, why) = (orderH (l.map HC.c)).2) := by
 have K0 : Keeps none_ w w := Keeps.refl w
 refine q_calls Tryd.func14 (by kernel_rfl) (by kernel_rfl) ?_
 refine qsg ?_
 refine ogd 2 [(0, .slice LA l.length lc), (2, .bool false), (3, i64 0)] ?_
 refine qsg ?_
 refine og 1 [(2, .bool false), (3, i64 0), (8, .slice LA l.length lc)] 1 ?_
 refine ocQ 9 (Order_calls _ LA lc l G (Rd.keep0 (by decide) hL K0) (RowsE.keep hG K0 (fun _ _ h => h)) ho hl) ?_
 rintro _ w7 ⟨o1, A2, c3, ok4, why5, rfl, K6, hR8, hE9⟩
 refine ⟨_, _, rfl, rfl, ?_⟩
 replace K0 := K0.t0 K6
 clear K6
 refine ogd 7 [(2, .bool false), (3, i64 0), (5, .bool ok4), (6, i64 why5)] ?_
 refine qsg ?_
 refine ogd 4 [(2, .bool ok4), (3, i64 why5)] ?_
 refine qtQ ?_
 refine ⟨(Value.tuple #[(Value.bool ok4), (i64 why5)]), retv_tmp2 rfl rfl rfl, ?_⟩
 exact ⟨ok4, why5, rfl, K0, by rw [← hE9]⟩
end Go.Proofs.YtnbcghbgeiocbaaDoor
namespace Go.Proofs.YtnbcghbgeiocbaaDoor
open Go.Q Go.RowKit
theorem known_calls (w : World)   : Calls Tryd.prog 10 ⟨[]⟩ w (fun e w' => e = .returned (.bool true) ∧ Keeps none_ w w') := by
 have K0 : Keeps none_ w w := Keeps.refl w
 refine q_calls Tryd.func10 (by kernel_rfl) (by kernel_rfl) ?_
 refine qsg ?_
 refine ogd 1 [(0, .bool false)] ?_
 refine qsg ?_
 refine og 1 [(0, .bool false), (12, (agg [(i64 1), (Value.string (str [97, 110, 110])), (Value.string ByteArray.empty), (i64 0), (Value.string (str [107])), (i64 0), (i64 0)]))] 1 ?_
 refine onew (rowL [(i64 0), (Value.string ByteArray.empty), (Value.string ByteArray.empty), (i64 0), (Value.string ByteArray.empty), (i64 0), (i64 0)] 24) (fun b => (ptr b)) 1 (fun b => rfl) (fun b1 w2 hb3 H4 K5 hs6 => ?_)
 have nb1 : w.heap.size ≤ b1 := by have := K0.size; omega
 replace K0 := K0.t0 K5
 clear K5 hs6
 refine oput 24 b1 [(i64 1), (Value.string (str [97, 110, 110])), (Value.string ByteArray.empty), (i64 0), (Value.string (str [107])), (i64 0), (i64 0)] H4 rfl (fun w7 H8 K9 => ?_)
 clear H4
 replace K0 := K0.trans K9 (U := none_) (fun i h1 h2 => h2) (fun i h1 h2 => by have h2 : i = b1 := h2; exfalso; omega)
 clear K9
 refine od ?_
 refine qsg ?_
 refine og 1 [(0, .bool false), (1, ptr b1), (13, (agg [(i64 5), (Value.string (str [97, 110, 110])), (Value.string ByteArray.empty), (i64 0), (Value.string ByteArray.empty), (i64 0), (i64 0)]))] 1 ?_
 refine onew (rowL [(i64 0), (Value.string ByteArray.empty), (Value.string ByteArray.empty), (i64 0), (Value.string ByteArray.empty), (i64 0), (i64 0)] 24) (fun b => (ptr b)) 2 (fun b => rfl) (fun b10 w11 hb12 H13 K14 hs15 => ?_)
 have lb10b1 : b1 < b10 := by have := H8.lt; omega
 have nb10 : w.heap.size ≤ b10 := by have := K0.size; omega
 replace K0 := K0.t0 K14
 replace H8 := H8.kn K14
 clear K14 hs15
 refine oput 24 b10 [(i64 5), (Value.string (str [97, 110, 110])), (Value.string ByteArray.empty), (i64 0), (Value.string ByteArray.empty), (i64 0), (i64 0)] H13 rfl (fun w16 H17 K18 => ?_)
 replace K0 := K0.trans K18 (U := none_) (fun i h1 h2 => h2) (fun i h1 h2 => by have h2 : i = b10 := h2; exfalso; omega)
 replace H8 := H8.k1 K18 (by omega)
 refine od ?_
 refine qsg ?_
 refine og 1 [(0, .bool false), (1, ptr b1), (2, ptr b10), (14, (agg [(i64 40), (i64 0), (Value.slice none 0 0)]))] 1 ?_
 refine onew (rowL [(i64 0), (i64 0), (Value.slice none 0 0)] 28) (fun b => (ptr b)) 3 (fun b => rfl) (fun b19 w20 hb21 H22 K23 hs24 => ?_)
 have lb19b1 : b1 < b19 := by have := H8.lt; omega
 have lb19b10 : b10 < b19 := by have := H17.lt; omega
 have nb19 : w.heap.size ≤ b19 := by have := K0.size; omega
 replace K0 := K0.t0 K23
 replace H8 := H8.kn K23
 replace H17 := H17.kn K23
 clear K23 hs24
 refine oput 28 b19 [(i64 40), (i64 0), (Value.slice none 0 0)] H22 rfl (fun w25 H26 K27 => ?_)
 replace K0 := K0.trans K27 (U := none_) (fun i h1 h2 => h2) (fun i h1 h2 => by have h2 : i = b19 := h2; exfalso; omega)
 replace H8 := H8.k1 K27 (by omega)
 replace H17 := H17.k1 K27 (by omega)
 refine od ?_
 refine qsg ?_
 refine ogo (agg [(i64 1), (Value.string (str [97, 110, 110])), (Value.string ByteArray.empty), (i64 0), (Value.string (str [107])), (i64 0), (i64 0)]) 16 (rld 24 b1 0 H8) rfl ?_
 refine og 1 [(0, .bool false), (1, ptr b1), (2, ptr b10), (3, ptr b19), (17, (agg [(i64 1), (Value.string (str [97, 110, 110])), (Value.string ByteArray.empty), (i64 0), (Value.string (str [107])), (i64 0), (i64 0), (i64 1), (i64 2), (Value.bool true), (i64 0), (i64 0), (Value.slice none 0 0)]))] 2 ?_
 refine ogo (agg [(i64 5), (Value.string (str [97, 110, 110])), (Value.string ByteArray.empty), (i64 0), (Value.string ByteArray.empty), (i64 0), (i64 0)]) 18 (rld 24 b10 0 H17) rfl ?_
 refine og 1 [(0, .bool false), (1, ptr b1), (2, ptr b10), (3, ptr b19), (17, (agg [(i64 1), (Value.string (str [97, 110, 110])), (Value.string ByteArray.empty), (i64 0), (Value.string (str [107])), (i64 0), (i64 0), (i64 1), (i64 2), (Value.bool true), (i64 0), (i64 0), (Value.slice none 0 0)])), (19, (agg [(i64 5), (Value.string (str [97, 110, 110])), (Value.string ByteArray.empty), (i64 0), (Value.string ByteArray.empty), (i64 0), (i64 0), (i64 3), (i64 4), (Value.bool true), (i64 0), (i64 0), (Value.slice none 0 0)]))] 4 ?_
 refine onew (rowL [(i64 1), (Value.string (str [97, 110, 110])), (Value.string ByteArray.empty), (i64 0), (Value.string (str [107])), (i64 0), (i64 0), (i64 1), (i64 2), (Value.bool true), (i64 0), (i64 0), (Value.slice none 0 0), (i64 5), (Value.string (str [97, 110, 110])), (Value.string ByteArray.empty), (i64 0), (Value.string ByteArray.empty), (i64 0), (i64 0), (i64 3), (i64 4), (Value.bool true), (i64 0), (i64 0), (Value.slice none 0 0)] 43) (fun b => (Value.slice (some ⟨b, 0, none⟩) 2 2)) 20 (fun b => rfl) (fun b28 w29 hb30 H31 K32 hs33 => ?_)
 have lb28b1 : b1 < b28 := by have := H8.lt; omega
 have lb28b10 : b10 < b28 := by have := H17.lt; omega
 have lb28b19 : b19 < b28 := by have := H26.lt; omega
 have nb28 : w.heap.size ≤ b28 := by have := K0.size; omega
 replace K0 := K0.t0 K32
 replace H8 := H8.kn K32
 replace H17 := H17.kn K32
 replace H26 := H26.kn K32
 clear K32 hs33
 have hk45 : orderH (List.map HC.c [(⟨⟨(⟨1, [97, 110, 110], ([] : List UInt8), 0, [107], 0, 0⟩ : Opm), 1, 2, true, ⟨0, 0, []⟩⟩, none, 0⟩ : HC), (⟨⟨(⟨5, [97, 110, 110], ([] : List UInt8), 0, ([] : List UInt8), 0, 0⟩ : Opm), 3, 4, true, ⟨0, 0, []⟩⟩, none, 0⟩ : HC)]) = ([0, 1], true, 0) := by kernel_rfl
 refine ocQ 21 (Order_calls _ (some ⟨b28, 0, none⟩) 2 [(⟨⟨(⟨1, [97, 110, 110], ([] : List UInt8), 0, [107], 0, 0⟩ : Opm), 1, 2, true, ⟨0, 0, []⟩⟩, none, 0⟩ : HC), (⟨⟨(⟨5, [97, 110, 110], ([] : List UInt8), 0, ([] : List UInt8), 0, 0⟩ : Opm), 3, 4, true, ⟨0, 0, []⟩⟩, none, 0⟩ : HC)] none_ (show RdT _ 13 HC.cells _ _ from Rd.lit H31 (n := 2) rfl (by decide)) (rowsE_nil (fun x hx => by rcases List.mem_cons.1 hx with rfl | hx; (exact ⟨rfl, rfl, rfl⟩); (rcases List.mem_cons.1 hx with rfl | hx; (exact ⟨rfl, rfl, rfl⟩); (cases hx)))) (fun x hx => by rcases List.mem_cons.1 hx with rfl | hx; (decide); (rcases List.mem_cons.1 hx with rfl | hx; (decide); (cases hx))) (by decide)) ?_
 rintro _ w42 ⟨o36, A37, c38, ok39, why40, rfl, K41, hR43, hE44⟩
 obtain ⟨rfl, e46⟩ := Prod.mk.inj (hE44.trans hk45)
 obtain ⟨rfl, rfl⟩ := Prod.mk.inj e46
 refine ⟨_, _, rfl, rfl, ?_⟩
 replace K0 := K0.t0 K41
 replace H8 := H8.kn K41
 replace H17 := H17.kn K41
 replace H26 := H26.kn K41
 replace H31 := H31.kn K41
 refine ogd 7 [(0, .bool false), (1, ptr b1), (2, ptr b10), (3, ptr b19), (4, (Value.slice A37 (([0, 1] : List Nat).length) c38)), (5, .bool true), (6, i64 0)] ?_
 refine qsg ?_
 refine ogo (agg [(i64 5), (Value.string (str [97, 110, 110])), (Value.string ByteArray.empty), (i64 0), (Value.string ByteArray.empty), (i64 0), (i64 0)]) 26 (rld 24 b10 0 H17) rfl ?_
 refine ogo (agg [(i64 40), (i64 0), (Value.slice none 0 0)]) 27 (rld 28 b19 0 H26) rfl ?_
 refine og 1 [(0, .bool false), (1, ptr b1), (2, ptr b10), (3, ptr b19), (4, (Value.slice A37 (([0, 1] : List Nat).length) c38)), (5, .bool true), (6, i64 0), (28, (agg [(i64 5), (Value.string (str [97, 110, 110])), (Value.string ByteArray.empty), (i64 0), (Value.string ByteArray.empty), (i64 0), (i64 0), (i64 1), (i64 4), (Value.bool true), (i64 40), (i64 0), (Value.slice none 0 0)]))] 3 ?_
 refine ogo (agg [(i64 1), (Value.string (str [97, 110, 110])), (Value.string ByteArray.empty), (i64 0), (Value.string (str [107])), (i64 0), (i64 0)]) 29 (rld 24 b1 0 H8) rfl ?_
 refine og 1 [(0, .bool false), (1, ptr b1), (2, ptr b10), (3, ptr b19), (4, (Value.slice A37 (([0, 1] : List Nat).length) c38)), (5, .bool true), (6, i64 0), (28, (agg [(i64 5), (Value.string (str [97, 110, 110])), (Value.string ByteArray.empty), (i64 0), (Value.string ByteArray.empty), (i64 0), (i64 0), (i64 1), (i64 4), (Value.bool true), (i64 40), (i64 0), (Value.slice none 0 0)])), (30, (agg [(i64 1), (Value.string (str [97, 110, 110])), (Value.string ByteArray.empty), (i64 0), (Value.string (str [107])), (i64 0), (i64 0), (i64 2), (i64 3), (Value.bool true), (i64 0), (i64 0), (Value.slice none 0 0)]))] 5 ?_
 refine onew (rowL [(i64 5), (Value.string (str [97, 110, 110])), (Value.string ByteArray.empty), (i64 0), (Value.string ByteArray.empty), (i64 0), (i64 0), (i64 1), (i64 4), (Value.bool true), (i64 40), (i64 0), (Value.slice none 0 0), (i64 1), (Value.string (str [97, 110, 110])), (Value.string ByteArray.empty), (i64 0), (Value.string (str [107])), (i64 0), (i64 0), (i64 2), (i64 3), (Value.bool true), (i64 0), (i64 0), (Value.slice none 0 0)] 43) (fun b => (Value.slice (some ⟨b, 0, none⟩) 2 2)) 31 (fun b => rfl) (fun b47 w48 hb49 H50 K51 hs52 => ?_)
 have lb47b1 : b1 < b47 := by have := H8.lt; omega
 have lb47b10 : b10 < b47 := by have := H17.lt; omega
 have lb47b19 : b19 < b47 := by have := H26.lt; omega
 have lb47b28 : b28 < b47 := by have := H31.lt; omega
 have nb47 : w.heap.size ≤ b47 := by have := K0.size; omega
 replace K0 := K0.t0 K51
 replace H8 := H8.kn K51
 replace H17 := H17.kn K51
 replace H26 := H26.kn K51
 replace H31 := H31.kn K51
 replace hR43 := (Rd.keep0 (by omega) hR43 K51)
 clear K51 hs52
 have hk64 : orderH (List.map HC.c [(⟨⟨(⟨5, [97, 110, 110], ([] : List UInt8), 0, ([] : List UInt8), 0, 0⟩ : Opm), 1, 4, true, ⟨40, 0, []⟩⟩, none, 0⟩ : HC), (⟨⟨(⟨1, [97, 110, 110], ([] : List UInt8), 0, [107], 0, 0⟩ : Opm), 2, 3, true, ⟨0, 0, []⟩⟩, none, 0⟩ : HC)]) = ([0, 1], true, 0) := by kernel_rfl
 refine ocQ 32 (Order_calls _ (some ⟨b47, 0, none⟩) 2 [(⟨⟨(⟨5, [97, 110, 110], ([] : List UInt8), 0, ([] : List UInt8), 0, 0⟩ : Opm), 1, 4, true, ⟨40, 0, []⟩⟩, none, 0⟩ : HC), (⟨⟨(⟨1, [97, 110, 110], ([] : List UInt8), 0, [107], 0, 0⟩ : Opm), 2, 3, true, ⟨0, 0, []⟩⟩, none, 0⟩ : HC)] none_ (show RdT _ 13 HC.cells _ _ from Rd.lit H50 (n := 2) rfl (by decide)) (rowsE_nil (fun x hx => by rcases List.mem_cons.1 hx with rfl | hx; (exact ⟨rfl, rfl, rfl⟩); (rcases List.mem_cons.1 hx with rfl | hx; (exact ⟨rfl, rfl, rfl⟩); (cases hx)))) (fun x hx => by rcases List.mem_cons.1 hx with rfl | hx; (decide); (rcases List.mem_cons.1 hx with rfl | hx; (decide); (cases hx))) (by decide)) ?_
 rintro _ w61 ⟨o55, A56, c57, ok58, why59, rfl, K60, hR62, hE63⟩
 obtain ⟨rfl, e65⟩ := Prod.mk.inj (hE63.trans hk64)
 obtain ⟨rfl, rfl⟩ := Prod.mk.inj e65
 refine ⟨_, _, rfl, rfl, ?_⟩
 replace K0 := K0.t0 K60
 replace H8 := H8.kn K60
 replace H17 := H17.kn K60
 replace H26 := H26.kn K60
 replace H31 := H31.kn K60
 replace H50 := H50.kn K60
 replace hR43 := (Rd.keep0 (by omega) hR43 K60)
 refine ogd 7 [(0, .bool false), (1, ptr b1), (2, ptr b10), (3, ptr b19), (4, (Value.slice A37 (([0, 1] : List Nat).length) c38)), (5, .bool true), (6, i64 0), (7, (Value.slice A56 (([0, 1] : List Nat).length) c57)), (8, .bool true), (9, i64 0)] ?_
 refine qsg ?_
 refine ogo (agg [(i64 1), (Value.string (str [97, 110, 110])), (Value.string ByteArray.empty), (i64 0), (Value.string (str [107])), (i64 0), (i64 0)]) 37 (rld 24 b1 0 H8) rfl ?_
 refine og 1 [(0, .bool false), (2, ptr b10), (3, ptr b19), (4, (Value.slice A37 (([0, 1] : List Nat).length) c38)), (5, .bool true), (6, i64 0), (7, (Value.slice A56 (([0, 1] : List Nat).length) c57)), (8, .bool true), (9, i64 0), (38, (agg [(i64 1), (Value.string (str [97, 110, 110])), (Value.string ByteArray.empty), (i64 0), (Value.string (str [107])), (i64 0), (i64 0), (i64 1), (i64 2), (Value.bool true), (i64 0), (i64 0), (Value.slice none 0 0)]))] 2 ?_
 refine ogo (agg [(i64 5), (Value.string (str [97, 110, 110])), (Value.string ByteArray.empty), (i64 0), (Value.string ByteArray.empty), (i64 0), (i64 0)]) 39 (rld 24 b10 0 H17) rfl ?_
 refine ogo (agg [(i64 40), (i64 0), (Value.slice none 0 0)]) 40 (rld 28 b19 0 H26) rfl ?_
 refine og 1 [(0, .bool false), (4, (Value.slice A37 (([0, 1] : List Nat).length) c38)), (5, .bool true), (6, i64 0), (7, (Value.slice A56 (([0, 1] : List Nat).length) c57)), (8, .bool true), (9, i64 0), (38, (agg [(i64 1), (Value.string (str [97, 110, 110])), (Value.string ByteArray.empty), (i64 0), (Value.string (str [107])), (i64 0), (i64 0), (i64 1), (i64 2), (Value.bool true), (i64 0), (i64 0), (Value.slice none 0 0)])), (41, (agg [(i64 5), (Value.string (str [97, 110, 110])), (Value.string ByteArray.empty), (i64 0), (Value.string ByteArray.empty), (i64 0), (i64 0), (i64 3), (i64 4), (Value.bool true), (i64 40), (i64 0), (Value.slice none 0 0)]))] 5 ?_
 refine onew (rowL [(i64 1), (Value.string (str [97, 110, 110])), (Value.string ByteArray.empty), (i64 0), (Value.string (str [107])), (i64 0), (i64 0), (i64 1), (i64 2), (Value.bool true), (i64 0), (i64 0), (Value.slice none 0 0), (i64 5), (Value.string (str [97, 110, 110])), (Value.string ByteArray.empty), (i64 0), (Value.string ByteArray.empty), (i64 0), (i64 0), (i64 3), (i64 4), (Value.bool true), (i64 40), (i64 0), (Value.slice none 0 0)] 43) (fun b => (Value.slice (some ⟨b, 0, none⟩) 2 2)) 42 (fun b => rfl) (fun b66 w67 hb68 H69 K70 hs71 => ?_)
 have lb66b1 : b1 < b66 := by have := H8.lt; omega
 have lb66b10 : b10 < b66 := by have := H17.lt; omega
 have lb66b19 : b19 < b66 := by have := H26.lt; omega
 have lb66b28 : b28 < b66 := by have := H31.lt; omega
 have lb66b47 : b47 < b66 := by have := H50.lt; omega
 have nb66 : w.heap.size ≤ b66 := by have := K0.size; omega
 replace K0 := K0.t0 K70
 replace H8 := H8.kn K70
 replace H17 := H17.kn K70
 replace H26 := H26.kn K70
 replace H31 := H31.kn K70
 replace H50 := H50.kn K70
 replace hR43 := (Rd.keep0 (by omega) hR43 K70)
 replace hR62 := (Rd.keep0 (by omega) hR62 K70)
 clear K70 hs71
 have hk79 : orderH (List.map HC.c [(⟨⟨(⟨1, [97, 110, 110], ([] : List UInt8), 0, [107], 0, 0⟩ : Opm), 1, 2, true, ⟨0, 0, []⟩⟩, none, 0⟩ : HC), (⟨⟨(⟨5, [97, 110, 110], ([] : List UInt8), 0, ([] : List UInt8), 0, 0⟩ : Opm), 3, 4, true, ⟨40, 0, []⟩⟩, none, 0⟩ : HC)]) = ([], false, 0) := by kernel_rfl
 refine ocQ 43 (Linear_calls _ (some ⟨b66, 0, none⟩) 2 [(⟨⟨(⟨1, [97, 110, 110], ([] : List UInt8), 0, [107], 0, 0⟩ : Opm), 1, 2, true, ⟨0, 0, []⟩⟩, none, 0⟩ : HC), (⟨⟨(⟨5, [97, 110, 110], ([] : List UInt8), 0, ([] : List UInt8), 0, 0⟩ : Opm), 3, 4, true, ⟨40, 0, []⟩⟩, none, 0⟩ : HC)] none_ (show RdT _ 13 HC.cells _ _ from Rd.lit H69 (n := 2) rfl (by decide)) (rowsE_nil (fun x hx => by rcases List.mem_cons.1 hx with rfl | hx; (exact ⟨rfl, rfl, rfl⟩); (rcases List.mem_cons.1 hx with rfl | hx; (exact ⟨rfl, rfl, rfl⟩); (cases hx)))) (fun x hx => by rcases List.mem_cons.1 hx with rfl | hx; (decide); (rcases List.mem_cons.1 hx with rfl | hx; (decide); (cases hx))) (by decide)) ?_
 rintro _ w77 ⟨ok74, why75, rfl, K76, hE78⟩
 obtain ⟨rfl, rfl⟩ := Prod.mk.inj (hE78.trans (congrArg Prod.snd hk79))
 refine ⟨_, _, rfl, rfl, ?_⟩
 replace K0 := K0.t0 K76
 replace H8 := H8.kn K76
 replace H17 := H17.kn K76
 replace H26 := H26.kn K76
 replace H31 := H31.kn K76
 replace H50 := H50.kn K76
 replace H69 := H69.kn K76
 replace hR43 := (Rd.keep0 (by omega) hR43 K76)
 replace hR62 := (Rd.keep0 (by omega) hR62 K76)
 refine ogd 5 [(0, .bool false), (4, (Value.slice A37 (([0, 1] : List Nat).length) c38)), (5, .bool true), (6, i64 0), (7, (Value.slice A56 (([0, 1] : List Nat).length) c57)), (8, .bool true), (9, i64 0), (10, .bool false), (11, i64 0)] ?_
 refine qsg ?_
 refine og 7 [(0, .bool false), (7, (Value.slice A56 (([0, 1] : List Nat).length) c57)), (8, .bool true), (9, i64 0), (10, .bool false), (11, i64 0), (51, .bool true), (52, (Value.slice A37 (([0, 1] : List Nat).length) c38))] 7 ?_
 refine onew (rowL [(i64 0), (i64 1)] 3) (fun b => (Value.slice (some ⟨b, 0, none⟩) 2 2)) 53 (fun b => rfl) (fun b80 w81 hb82 H83 K84 hs85 => ?_)
 have lb80b1 : b1 < b80 := by have := H8.lt; omega
 have lb80b10 : b10 < b80 := by have := H17.lt; omega
 have lb80b19 : b19 < b80 := by have := H26.lt; omega
 have lb80b28 : b28 < b80 := by have := H31.lt; omega
 have lb80b47 : b47 < b80 := by have := H50.lt; omega
 have lb80b66 : b66 < b80 := by have := H69.lt; omega
 have nb80 : w.heap.size ≤ b80 := by have := K0.size; omega
 replace K0 := K0.t0 K84
 replace H8 := H8.kn K84
 replace H17 := H17.kn K84
 replace H26 := H26.kn K84
 replace H31 := H31.kn K84
 replace H50 := H50.kn K84
 replace H69 := H69.kn K84
 replace hR43 := (Rd.keep0 (by omega) hR43 K84)
 replace hR62 := (Rd.keep0 (by omega) hR62 K84)
 clear K84 hs85
 refine ocQ 54 (sameN_calls _ A37 c38 ([0, 1] : List Nat) (some ⟨b80, 0, none⟩) 2 [0, 1] hR43 (show RdT _ 1 iN _ [0, 1] from Rd.lit H83 (n := 2) rfl (by decide))) ?_
 rintro _ w89 ⟨t86, rfl, ht87, K88⟩
 refine ⟨_, _, rfl, rfl, ?_⟩
 replace K0 := K0.t0 K88
 replace H8 := H8.kn K88
 replace H17 := H17.kn K88
 replace H26 := H26.kn K88
 replace H31 := H31.kn K88
 replace H50 := H50.kn K88
 replace H69 := H69.kn K88
 replace H83 := H83.kn K88
 replace hR62 := (Rd.keep0 (by omega) hR62 K88)
 refine og 2 [(0, .bool false), (7, (Value.slice A56 (([0, 1] : List Nat).length) c57)), (8, .bool true), (9, i64 0), (10, .bool false), (11, i64 0), (56, .bool t86)] 11 ?_
 have h90 : t86 = true := ht87.2 rfl
 rw [h90]
 refine og 8 [(0, .bool false), (10, .bool false), (11, i64 0), (63, .bool true), (64, (Value.slice A56 (([0, 1] : List Nat).length) c57))] 19 ?_
 refine onew (rowL [(i64 0), (i64 1)] 3) (fun b => (Value.slice (some ⟨b, 0, none⟩) 2 2)) 65 (fun b => rfl) (fun b91 w92 hb93 H94 K95 hs96 => ?_)
 have lb91b1 : b1 < b91 := by have := H8.lt; omega
 have lb91b10 : b10 < b91 := by have := H17.lt; omega
 have lb91b19 : b19 < b91 := by have := H26.lt; omega
 have lb91b28 : b28 < b91 := by have := H31.lt; omega
 have lb91b47 : b47 < b91 := by have := H50.lt; omega
 have lb91b66 : b66 < b91 := by have := H69.lt; omega
 have lb91b80 : b80 < b91 := by have := H83.lt; omega
 have nb91 : w.heap.size ≤ b91 := by have := K0.size; omega
 replace K0 := K0.t0 K95
 replace hR62 := (Rd.keep0 (by omega) hR62 K95)
 clear K95 hs96
 refine ocQ 66 (sameN_calls _ A56 c57 ([0, 1] : List Nat) (some ⟨b91, 0, none⟩) 2 [0, 1] hR62 (show RdT _ 1 iN _ [0, 1] from Rd.lit H94 (n := 2) rfl (by decide))) ?_
 rintro _ w100 ⟨t97, rfl, ht98, K99⟩
 refine ⟨_, _, rfl, rfl, ?_⟩
 replace K0 := K0.t0 K99
 refine og 2 [(0, .bool false), (10, .bool false), (11, i64 0), (68, .bool t97)] 23 ?_
 have h101 : t97 = true := ht98.2 rfl
 rw [h101]
 refine ogd 8 [(0, .bool true)] ?_
 refine qtQ ?_
 refine ⟨(Value.bool true), retv_tmp rfl rfl, ?_⟩
 exact ⟨rfl, K0⟩
end Go.Proofs.YtnbcghbgeiocbaaDoor
namespace Go.Q
open Go.RowKit
inductive Lin : List HCall → LS_ → Prop
 | done {U : List HCall} {s : LS_} : (∀ c ∈ U, c.told = false) → Lin U s
 | step {U A B : List HCall} {c : HCall} {s s' : LS_} : U = A ++ c :: B → (∀ d ∈ A ++ B, aheadH d c = false) → stepH c s = some s' → Lin (A ++ B) s' → Lin U s
theorem perm_split {α : Type} {A B A' B' : List α} {c : α} (h : (A ++ c :: B).Perm (A' ++ c :: B')) : (A ++ B).Perm (A' ++ B') :=
 ((List.perm_middle.symm.trans h).trans List.perm_middle).cons_inv
theorem Lin.perm {U V : List HCall} {s : LS_} (h : Lin U s) (hp : U.Perm V) : Lin V s := by
 induction h generalizing V with
 | done h => exact .done fun c hc => h c (hp.mem_iff.2 hc)
 | @step U A B c s s' e ha hs hl ih =>
  subst e
  obtain ⟨A', B', rfl⟩ := List.append_of_mem (hp.mem_iff.1 (List.mem_append_right _ (List.mem_cons_self ..)))
  have hq := perm_split hp
  exact .step rfl (fun d hd => ha d (hq.mem_iff.2 hd)) hs (ih hq)
theorem Lin.map {f : HCall → HCall} (ht : ∀ c, (f c).told = c.told) (hs : ∀ c s, stepH (f c) s = stepH c s) {U : List HCall} {s : LS_} (h : Lin U s) (hU : ∀ c ∈ U, ∀ d ∈ U, aheadH d c = false → aheadH (f d) (f c) = false) : Lin (U.map f) s := by
 induction h with
 | done h => exact .done fun c hc => by obtain ⟨x, hx, rfl⟩ := List.mem_map.1 hc; rw [ht]; exact h x hx
 | @step U A B c s s' e ha hst hl ih =>
  subst e
  have hin : ∀ d ∈ A ++ B, d ∈ A ++ c :: B := fun d hd => by
   rcases List.mem_append.1 hd with h | h
   ·exact List.mem_append_left _ h
   ·exact List.mem_append_right _ (List.mem_cons_of_mem _ h)
  refine .step (A := A.map f) (B := B.map f) (c := f c) (by rw [List.map_append, List.map_cons]) (fun d hd => ?_) (by rw [hs]; exact hst) (by rw [← List.map_append]; exact ih fun c hc d hd => hU c (hin c hc) d (hin d hd))
  rw [← List.map_append] at hd
  obtain ⟨x, hx, rfl⟩ := List.mem_map.1 hd
  exact hU c (List.mem_append_right _ (List.mem_cons_self ..)) x (hin x hx) (ha x hx)
def undH (X : List (HCall × Nat)) (d : Nat) : List HCall := (X.zipIdx.filter fun p => !d.testBit p.2).map fun p => p.1.1
theorem und_mem {X : List (HCall × Nat)} {d : Nat} {c : HCall} : c ∈ undH X d ↔ ∃ i x, X[i]? = some x ∧ d.testBit i = false ∧ x.1 = c := by
 unfold undH
 constructor
 ·intro h
  obtain ⟨p, hp, rfl⟩ := List.mem_map.1 h
  obtain ⟨h1, h2⟩ := List.mem_filter.1 hp
  exact ⟨p.2, p.1, zip_mem h1, by simpa using h2, rfl⟩
 ·rintro ⟨i, x, hx, hb, rfl⟩
  exact List.mem_map.2 ⟨(x, i), List.mem_filter.2 ⟨List.mem_of_getElem? (i := i) (by rw [List.getElem?_zipIdx, hx]; simp), by simp [hb]⟩, rfl⟩
theorem und_split {X : List (HCall × Nat)} {d i : Nat} {c : HCall × Nat} (hc : X[i]? = some c) (hb : d.testBit i = false) :
  ∃ A B, undH X d = A ++ c.1 :: B ∧ undH X (d ||| (1 <<< i)) = A ++ B ∧ ∀ e ∈ A ++ B, ∃ j x, X[j]? = some x ∧ j ≠ i ∧ d.testBit j = false ∧ x.1 = e := by
 have hi := (List.getElem?_eq_some_iff.1 hc).1
 have e : X.zipIdx = (X.take i).zipIdx ++ (c, i) :: (X.drop (i + 1)).zipIdx (i + 1) := by
  conv => lhs; rw [show X = X.take i ++ c :: X.drop (i + 1) from by rw [← List.getElem_eq_iff hi |>.2 hc]; exact (List.take_append_drop i X).symm.trans (by rw [List.drop_eq_getElem_cons hi])]
  rw [List.zipIdx_append, List.length_take, Nat.min_eq_left (by omega), Nat.zero_add, List.zipIdx_cons]
 have h1 : ∀ p ∈ (X.take i).zipIdx, p.2 < i := fun p hp => by
  have := (List.getElem?_eq_some_iff.1 (zip_mem hp)).1
  rw [List.length_take] at this; omega
 have h2 : ∀ p ∈ (X.drop (i + 1)).zipIdx (i + 1), i < p.2 := fun p hp => by
  have := List.le_snd_of_mem_zipIdx hp; omega
 have hf1 : ∀ p ∈ (X.take i).zipIdx, (!(d ||| (1 <<< i)).testBit p.2) = (!d.testBit p.2) := fun p hp => by
  rw [testBit_or, decide_eq_false (by have := h1 p hp; omega), Bool.or_false]
 have hf2 : ∀ p ∈ (X.drop (i + 1)).zipIdx (i + 1), (!(d ||| (1 <<< i)).testBit p.2) = (!d.testBit p.2) := fun p hp => by
  rw [testBit_or, decide_eq_false (by have := h2 p hp; omega), Bool.or_false]
 refine ⟨((X.take i).zipIdx.filter fun p => !d.testBit p.2).map (fun p => p.1.1), (((X.drop (i + 1)).zipIdx (i + 1)).filter fun p => !d.testBit p.2).map (fun p => p.1.1), ?_, ?_, fun z hz => ?_⟩
 ·unfold undH
  rw [e, List.filter_append, List.filter_cons_of_pos (by simp [hb]), List.map_append, List.map_cons]
 ·unfold undH
  rw [e, List.filter_append, List.filter_cons_of_neg (by rw [testBit_or]; simp), List.map_append, List.filter_congr hf1, List.filter_congr hf2]
 ·rw [← List.map_append] at hz
  obtain ⟨p, hp, rfl⟩ := List.mem_map.1 hz
  have hmem : p ∈ X.zipIdx ∧ p.2 ≠ i ∧ d.testBit p.2 = false := by
   rcases List.mem_append.1 hp with hp | hp
   ·obtain ⟨q1, q2⟩ := List.mem_filter.1 hp
    exact ⟨by rw [e]; exact List.mem_append_left _ q1, by have := h1 p q1; omega, by simpa using q2⟩
   ·obtain ⟨q1, q2⟩ := List.mem_filter.1 hp
    exact ⟨by rw [e]; exact List.mem_append_right _ (List.mem_cons_of_mem _ q1), by have := h2 p q1; omega, by simpa using q2⟩
  exact ⟨p.2, p.1, zip_mem hmem.1, hmem.2.1, hmem.2.2, rfl⟩
theorem left_zero {X : List (HCall × Nat)} {t : Sr LS_} (hV : (probH X).V t) : t.left = 0 ↔ ∀ c ∈ undH X t.done, c.told = false := by
 rw [hV.1]
 have h0 : (((probH X).lf t.done : Nat) : Int) = 0 ↔ (probH X).lf t.done = 0 := by omega
 rw [h0]
 unfold Prob.lf
 rw [List.countP_eq_zero]
 constructor
 ·intro h c hc
  obtain ⟨i, x, hx, hb, rfl⟩ := und_mem.1 hc
  have h1 := h i (List.mem_range.2 (List.getElem?_eq_some_iff.1 hx).1)
  have h2 : (probH X).told i = x.1.told := by show (match X[i]? with | some c => c.1.told | none => false) = _; rw [hx]
  rw [h2, hb] at h1
  simpa using h1
 ·intro h i hi hq
  have hlt : i < X.length := List.mem_range.1 hi
  have hx := List.getElem?_eq_getElem hlt
  have h2 : (probH X).told i = X[i].1.told := by show (match X[i]? with | some c => c.1.told | none => false) = _; rw [hx]
  rw [h2, Bool.and_eq_true] at hq
  have := h X[i].1 (und_mem.2 ⟨i, X[i], hx, by simpa using hq.2, rfl⟩)
  rw [hq.1] at this
  cases this
theorem one_some {X : List (HCall × Nat)} {t : Sr LS_} {i : Nat} {c : HCall × Nat} (hc : X[i]? = some c) {t' : Sr LS_} : (probH X).one t i = some t' ↔ t.done.testBit i = false ∧ (∀ j x, X[j]? = some x → j ≠ i → t.done.testBit j = false → aheadH x.1 c.1 = false) ∧ ∃ s', stepH c.1 t.s = some s' ∧ t' = ⟨t.order ++ [c.2], t.done ||| (1 <<< i), if c.1.told then t.left - 1 else t.left, s'⟩ := by
 have hw : (probH X).wait t.done i = X.zipIdx.any fun p => decide (p.2 ≠ i) && !t.done.testBit p.2 && aheadH p.1.1 c.1 := by
  show (match X[i]? with | some c => X.zipIdx.any fun p => decide (p.2 ≠ i) && !t.done.testBit p.2 && aheadH p.1.1 c.1 | none => true) = _
  rw [hc]
 have hs : (probH X).step i t.s = stepH c.1 t.s := by show (match X[i]? with | some c => stepH c.1 t.s | none => none) = _; rw [hc]
 have hn : (probH X).num i = c.2 := by show (match X[i]? with | some c => c.2 | none => 0) = _; rw [hc]
 have ht : (probH X).told i = c.1.told := by show (match X[i]? with | some c => c.1.told | none => false) = _; rw [hc]
 unfold Prob.one
 rw [hw, hs, hn, ht]
 constructor
 ·intro h
  split at h
  ·cases h
  ·rename_i hb
   rw [Bool.or_eq_true, not_or] at hb
   obtain ⟨s', hs', rfl⟩ := Option.map_eq_some_iff.1 h
   refine ⟨by simpa using hb.1, fun j x hx hj hbj => ?_, s', hs', rfl⟩
   cases hq : aheadH x.1 c.1 with
   | false => rfl
   | true =>
    exfalso
    apply hb.2
    rw [List.any_eq_true]
    exact ⟨(x, j), List.mem_of_getElem? (i := j) (by rw [List.getElem?_zipIdx, hx]; simp), by simp [hj, hbj, hq]⟩
 ·rintro ⟨h1, h2, s', h3, rfl⟩
  have hany : (X.zipIdx.any fun p => decide (p.2 ≠ i) && !t.done.testBit p.2 && aheadH p.1.1 c.1) = false := by
   rw [List.any_eq_false]
   intro p hp hq
   rw [Bool.and_eq_true, Bool.and_eq_true] at hq
   have := h2 p.2 p.1 (zip_mem hp) (of_decide_eq_true hq.1.1) (by simpa using hq.1.2)
   rw [this] at hq
   cases hq.2
  rw [h1, hany, h3]
  rfl
theorem sv_lin {X : List (HCall × Nat)} (hX : ∀ c ∈ X, -9223372036854775808 ≤ c.1.op.amount ∧ c.1.op.amount ≤ 9223372036854775807) : ∀ (k : Nat) (t : Sr LS_), X.length - (probH X).pc t.done = k → (probH X).V t → (((probH X).sv t).isSome = true ↔ Lin (undH X t.done) t.s) := by
 intro k
 induction k using Nat.strongRecOn with
 | _ k ih =>
  intro t hk hV
  rw [Prob.sv_eq]
  by_cases h0 : t.left = 0
  ·rw [if_pos h0]
   exact ⟨fun _ => .done ((left_zero hV).1 h0), fun _ => rfl⟩
  ·rw [if_neg h0, findSome_isSome, List.any_eq_true]
   have next : ∀ {i : Nat} {t' : Sr LS_}, i < X.length → (probH X).one t i = some t' → (((probH X).sv t').isSome = true ↔ Lin (undH X t'.done) t'.s) := fun {i t'} hi h1 => by
    have hp := (Prob.one_pc (P := probH X) hi h1).1
    have hle := (probH X).pc_le t'.done
    have hn : (probH X).n = X.length := rfl
    exact ih _ (by omega) t' rfl (Prob.one_V (probH_like hX) hi h1 hV)
   constructor
   ·rintro ⟨t', ht', h⟩
    obtain ⟨i, hi, h1⟩ := List.mem_filterMap.1 ht'
    have hi : i < X.length := List.mem_range.1 hi
    have hL := (next hi h1).1 h
    have hc := List.getElem?_eq_getElem hi
    obtain ⟨hb, hw, s', hs', rfl⟩ := (one_some hc).1 h1
    obtain ⟨A, B, e1, e2, hAB⟩ := und_split hc hb
    refine .step e1 (fun d hd => ?_) hs' (by rw [← e2]; exact hL)
    obtain ⟨j, x, hx, hj, hbj, rfl⟩ := hAB d hd
    exact hw j x hx hj hbj
   ·intro h
    cases h with
    | done h => exact absurd ((left_zero hV).2 h) h0
    | @step _ A B c _ s' e ha hs hl =>
     obtain ⟨i, x, hx, hb, rfl⟩ := und_mem.1 (show c ∈ undH X t.done by rw [e]; exact List.mem_append_right _ (List.mem_cons_self ..))
     obtain ⟨A', B', e1, e2, hAB⟩ := und_split hx hb
     have hq : (A ++ B).Perm (A' ++ B') := perm_split (by rw [← e, ← e1])
     have hi : i < X.length := (List.getElem?_eq_some_iff.1 hx).1
     have h1 : (probH X).one t i = some ⟨t.order ++ [x.2], t.done ||| (1 <<< i), if x.1.told then t.left - 1 else t.left, s'⟩ := (one_some hx).2 ⟨hb, fun j y hy hj hbj => ?_, s', hs, rfl⟩
     ·exact ⟨_, List.mem_filterMap.2 ⟨i, List.mem_range.2 hi, h1⟩, (next hi h1).2 (by show Lin (undH X (t.done ||| (1 <<< i))) s'; rw [e2]; exact hl.perm hq)⟩
     ·-- what is not done and not this one
      have hy2 : y.1 ∈ undH X (t.done ||| (1 <<< i)) := und_mem.2 ⟨j, y, hy, by rw [testBit_or, hbj, decide_eq_false hj]; rfl, rfl⟩
      rw [e2] at hy2
      exact ha y.1 (hq.mem_iff.2 hy2)
theorem und_zero (X : List (HCall × Nat)) : undH X 0 = X.map Prod.fst := by
 unfold undH
 rw [List.filter_eq_self.2 (fun p _ => by simp), show (fun p : (HCall × Nat) × Nat => p.1.1) = Prod.fst ∘ Prod.fst from rfl, ← List.map_map, List.zipIdx_map_fst]
theorem looked_fst (l : List HCall) : (lookedH l).map Prod.fst = l.filter countsH := by
 unfold lookedH
 have h := List.filter_map (f := Prod.fst) (p := countsH) (l := l.zipIdx)
 rw [List.zipIdx_map_fst] at h
 rw [h]; rfl
def linH (l : List HCall) : Prop := Lin (l.filter countsH) ([], [])
theorem order_lin {l : List HCall} (hl : ∀ c ∈ l, -9223372036854775808 ≤ c.op.amount ∧ c.op.amount ≤ 9223372036854775807) : ((probH (lookedH l)).sv (startH (lookedH l))).isSome = true ↔ linH l := by
 have h := sv_lin (X := lookedH l) (fun c hc => hl c.1 (List.mem_of_getElem? (looked_mem hc).1)) _ (startH (lookedH l)) rfl (startH_V _)
 rw [show (startH (lookedH l)).done = 0 from rfl, und_zero, looked_fst] at h
 exact h
def goodH (l : List HCall) : Prop := ¬ 8 < (l.filter countsH).length ∧ (l.filter countsH).any (fun c => c.told && decide (c.en < c.bg)) = false
theorem looked_bad (l : List HCall) : (lookedH l).any (fun c => c.1.told && decide (c.1.en < c.1.bg)) = (l.filter countsH).any (fun c => c.told && decide (c.en < c.bg)) := by
 rw [← looked_fst, List.any_map]; rfl
theorem order_good {l : List HCall} (h : goodH l) : orderH l = match (probH (lookedH l)).sv (startH (lookedH l)) with | some o => (o, true, 0) | none => ([], false, 0) := by
 have h1 : (lookedH l).length = (l.filter countsH).length := by rw [← looked_fst, List.length_map]
 unfold orderH
 rw [h1, if_neg h.1, looked_bad, h.2, if_neg (by decide)]
 rfl
theorem order_no {l : List HCall} (hl : ∀ c ∈ l, -9223372036854775808 ≤ c.op.amount ∧ c.op.amount ≤ 9223372036854775807) (hg : goodH l) (h : ¬ linH l) : (orderH l).2 = (false, 0) := by
 rw [order_good hg]
 cases hq : (probH (lookedH l)).sv (startH (lookedH l)) with
 | some o => exact absurd ((order_lin hl).1 (by rw [hq]; rfl)) h
 | none => rfl
def scaleH (k : Int) (c : HCall) : HCall := ⟨c.op, c.bg * k, c.en * k, c.told, c.rep⟩
end Go.Q
namespace Go.Q
open Go.ChangeShapes Go.WideShapes Go.ChangeAt Go.RowKit Go.Deep Go.Op
section
variable {H : Type} {enc : TypeId × Value → H} {P : Program} {w : World} {base : Nat} {spare : Nat → Bool} {held : Bool}
def HC.Rng (x : HC) : Prop := (-9223372036854775808 ≤ x.c.op.amount ∧ x.c.op.amount ≤ 9223372036854775807) ∧ (-9223372036854775808 ≤ x.c.bg ∧ x.c.bg ≤ 9223372036854775807) ∧ (-9223372036854775808 ≤ x.c.en ∧ x.c.en ≤ 9223372036854775807)
end
section
def rotI (t : Int) (n : Nat) : Nat := (t.tmod ((n : Nat) : Int) + ((n : Nat) : Int)).toNat % n
def rotL (t : Int) (l : List HC) : List HC := l.drop (rotI t l.length) ++ l.take (rotI t l.length)
theorem map_all {P : HCall → Prop} {o q : List HC} (h : o.map HC.c = q.map HC.c) (hq : ∀ x ∈ q, P x.c) : ∀ x ∈ o, P x.c := by
 intro x hx
 have : x.c ∈ q.map HC.c := by rw [← h]; exact List.mem_map_of_mem hx
 obtain ⟨y, hy, e⟩ := List.mem_map.1 this
 rw [← e]; exact hq y hy
theorem HC.In.keep {w w' : World} {x : HC} (h : x.In w) (K : Keeps none_ w w') : x.In w' := ⟨Rd.keep0 (by decide) h.rows K, h.rlen⟩
end
end Go.Q
namespace Go.Q
open Go.RowKit
theorem oneK_len (S : List RowM) (K : List KeptM) (o : Opm) : (doK S K o).length ≤ K.length + 1 := by
 unfold doK
 split
 ·rw [List.length_append]; exact Nat.le_refl _
 ·omega
theorem oneR_rows (S : List RowM) (K : List KeptM) (o : Opm) : (doR S K o).rows.length ≤ S.length := by
 unfold doR
 repeat' split
 all_goals first | exact Nat.zero_le _ | exact Nat.le_refl _
def oneStep (x : LS_ × List HCall) (o : Opm) : LS_ × List HCall := ((doS x.1.1 x.1.2 o, doK x.1.1 x.1.2 o), x.2 ++ [⟨o, ((2 * x.2.length : Nat) : Int), ((2 * x.2.length + 1 : Nat) : Int), true, doR x.1.1 x.1.2 o⟩])
def oneA (l : List Opm) : LS_ × List HCall := l.foldl oneStep (([], []), [])
theorem oneA_take {l : List Opm} {i : Nat} {x : Opm} {S : List RowM} {K : List KeptM} {h : List HCall} (hx : l[i]? = some x) (hE : oneA (l.take i) = ((S, K), h)) (hl : h.length = i) : oneA (l.take (i + 1)) = ((doS S K x, doK S K x), h ++ [⟨x, ((2 * i : Nat) : Int), ((2 * i + 1 : Nat) : Int), true, doR S K x⟩]) := by
 unfold oneA at hE ⊢
 rw [List.take_add_one, hx, List.foldl_append, hE]
 show oneStep ((S, K), h) x = _
 unfold oneStep
 rw [hl]
def SeqL : List HCall → LS_ → LS_ → Prop
 | [], s, s' => s = s'
 | c :: l, s, s' => ∃ s1, stepH c s = some s1 ∧ SeqL l s1 s'
theorem SeqL.snoc : ∀ {l : List HCall} {s s' : LS_} {c : HCall} {s2 : LS_}, SeqL l s s' → stepH c s' = some s2 → SeqL (l ++ [c]) s s2
 | [], _, _, c, s2, h, hc => by cases h; exact ⟨s2, hc, rfl⟩
 | x :: l, s, s', c, s2, ⟨s1, h1, h2⟩, hc => ⟨s1, h1, h2.snoc hc⟩
theorem wrongE_50 (o : Opm) : wrongE o ≠ 50 := by
 unfold wrongE
 repeat' split
 all_goals decide
theorem actE_50 (S : List RowM) (o : Opm) : actE S o ≠ 50 := by
 unfold actE
 repeat' split
 all_goals decide
theorem doR_50 {S : List RowM} {K : List KeptM} (hK : ∀ k ∈ K, k.why ≠ 50) (o : Opm) : (doR S K o).why ≠ 50 := by
 unfold doR
 split
 ·exact wrongE_50 o
 ·split
  ·show (0 : Int) ≠ 50; decide
  ·split
   ·show (0 : Int) ≠ 50; decide
   ·split
    ·split
     ·show (40 : Int) ≠ 50; decide
     ·show (0 : Int) ≠ 50; decide
    ·split
     ·rename_i k hk
      split
      ·show (45 : Int) ≠ 50; decide
      ·exact hK k (findK_some hk).1
     ·exact actE_50 S (plainE o)
theorem doK_50 {S : List RowM} {K : List KeptM} (hK : ∀ k ∈ K, k.why ≠ 50) (o : Opm) : ∀ k ∈ doK S K o, k.why ≠ 50 := by
 intro k hk
 unfold doK at hk
 split at hk
 ·rcases List.mem_append.1 hk with hk | hk
  ·exact hK k hk
  ·rw [List.mem_singleton.1 hk]; exact actE_50 S (plainE o)
 ·exact hK k hk
theorem stepH_self (c : HCall) (s : LS_) (h : c.rep = doR s.1 s.2 c.op) : stepH c s = some (doS s.1 s.2 c.op, doK s.1 s.2 c.op) := by
 unfold stepH
 rw [if_neg (by rw [h]; simp)]
structure OneH (s : LS_) (h : List HCall) : Prop where
 seq : SeqL h ([], []) s
 at_ : ∀ i c, h[i]? = some c → c.bg = ((2 * i : Nat) : Int) ∧ c.en = ((2 * i + 1 : Nat) : Int) ∧ c.told = true ∧ c.rep.why ≠ 50
 why : ∀ k ∈ s.2, k.why ≠ 50
theorem OneH.step {s : LS_} {h : List HCall} (H : OneH s h) (o : Opm) : OneH (oneStep (s, h) o).1 (oneStep (s, h) o).2 where
 seq := H.seq.snoc (stepH_self _ _ rfl)
 at_ i c hc := by
  have hc : (h ++ [(⟨o, ((2 * h.length : Nat) : Int), ((2 * h.length + 1 : Nat) : Int), true, doR s.1 s.2 o⟩ : HCall)])[i]? = some c := hc
  rw [List.getElem?_append] at hc
  split at hc
  ·exact H.at_ i c hc
  ·rename_i hi
   have hi2 : i - h.length = 0 := by
    have := (List.getElem?_eq_some_iff.1 hc).1
    simp only [List.length_cons, List.length_nil] at this; omega
   rw [hi2] at hc
   simp only [List.getElem?_cons_zero, Option.some.injEq] at hc
   subst hc
   have hi3 : i = h.length := by omega
   subst hi3
   exact ⟨rfl, rfl, rfl, doR_50 H.why o⟩
 why := doK_50 H.why o
theorem oneH_fold : ∀ (l : List Opm) {s : LS_} {h : List HCall}, OneH s h → OneH (l.foldl oneStep (s, h)).1 (l.foldl oneStep (s, h)).2
 | [], _, _, H => H
 | o :: l, s, h, H => oneH_fold l (H.step o)
theorem oneA_one (l : List Opm) : OneH (oneA l).1 (oneA l).2 := oneH_fold l ⟨rfl, fun i c hc => (by cases hc), fun k hk => (by cases hk)⟩
theorem oneA_len (l : List Opm) : (oneA l).2.length = l.length := by
 have : ∀ (l : List Opm) (x : LS_ × List HCall), (l.foldl oneStep x).2.length = x.2.length + l.length := by
  intro l
  induction l with
  | nil => intro x; rfl
  | cons o l ih => intro x; rw [List.foldl_cons, ih]; show (x.2 ++ _).length + _ = _; rw [List.length_append]; show x.2.length + 1 + l.length = x.2.length + (l.length + 1); omega
 have := this l (([], []), [])
 simpa [oneA] using this
theorem oneA_op (l : List Opm) : (oneA l).2.map HCall.op = l := by
 have : ∀ (l : List Opm) (x : LS_ × List HCall), (l.foldl oneStep x).2.map HCall.op = x.2.map HCall.op ++ l := by
  intro l
  induction l with
  | nil => intro x; simp
  | cons o l ih => intro x; rw [List.foldl_cons, ih]; show (x.2 ++ _).map HCall.op ++ _ = _; rw [List.map_append, List.append_assoc]; rfl
 have := this l (([], []), [])
 simpa [oneA] using this
def Wide (a b : HCall) : Prop := b.op = a.op ∧ b.told = a.told ∧ b.rep = a.rep ∧ b.bg ≤ a.bg ∧ a.en ≤ b.en
theorem Wide.refl (a : HCall) : Wide a a := ⟨rfl, rfl, rfl, Int.le_refl _, Int.le_refl _⟩
theorem Wide.step {a b : HCall} (h : Wide a b) (s : LS_) : stepH b s = stepH a s := by unfold stepH; rw [h.1, h.2.1, h.2.2.1]
theorem Wide.ahead {a b c d : HCall} (h : Wide a b) (k : Wide c d) (q : aheadH a c = false) : aheadH b d = false := by
 unfold aheadH at q ⊢
 rw [h.2.1]
 cases ht : a.told with
 | false => rfl
 | true =>
  rw [ht] at q
  have := of_decide_eq_false (show decide (a.en < c.bg) = false from q)
  show decide (b.en < d.bg) = false
  have h1 := h.2.2.2.2; have h2 := k.2.2.2.1
  exact decide_eq_false (by omega)
def WideL (a b : List HCall) : Prop := a.length = b.length ∧ ∀ (i : Nat) (x y : HCall), a[i]? = some x → b[i]? = some y → Wide x y
theorem WideL.refl (a : List HCall) : WideL a a := ⟨rfl, fun i x y h k => by rw [h] at k; cases k; exact Wide.refl x⟩
theorem WideL.set {a b : List HCall} (h : WideL a b) {i : Nat} {x z : HCall} (hx : a[i]? = some x) (hz : Wide x z) : WideL a (b.set i z) := by
 refine ⟨by rw [List.length_set]; exact h.1, fun j u v hu hv => ?_⟩
 rw [List.getElem?_set] at hv
 split at hv
 ·rename_i hij
  subst hij
  split at hv
  ·cases hv; rw [hx] at hu; cases hu; exact hz
  ·cases hv
 ·exact h.2 j u v hu hv
theorem WideL.cons {x y : HCall} {a b : List HCall} (h : WideL (x :: a) (y :: b)) : Wide x y ∧ WideL a b := ⟨h.2 0 x y rfl rfl, by have := h.1; simp only [List.length_cons] at this; omega, fun i u v hu hv => h.2 (i + 1) u v hu hv⟩
theorem OneH.pair {s : LS_} {h : List HCall} (H : OneH s h) : h.Pairwise (fun a b => aheadH b a = false) := by
 rw [List.pairwise_iff_getElem]
 intro i j hi hj hij
 have h1 := H.at_ i h[i] (List.getElem?_eq_getElem hi)
 have h2 := H.at_ j h[j] (List.getElem?_eq_getElem hj)
 unfold aheadH
 rw [h2.2.1, h1.1, decide_eq_false (by omega), Bool.and_false]
theorem OneH.wide {s : LS_} {h b : List HCall} (H : OneH s h) (hw : WideL h b) : ∀ c ∈ b, countsH c = true ∧ c.bg ≤ c.en := by
 intro c hc
 obtain ⟨i, hi⟩ := List.mem_iff_getElem?.1 hc
 have hl := (List.getElem?_eq_some_iff.1 hi).1
 have e := hw.1
 have hx := List.getElem?_eq_getElem (show i < h.length by omega)
 have w := hw.2 i _ c hx hi
 have h1 := H.at_ i _ hx
 refine ⟨?_, ?_⟩
 ·rw [counts_told (by rw [w.2.1]; exact h1.2.2.1), w.2.2.1]
  exact bne_iff_ne.2 h1.2.2.2
 ·have h3 := w.2.2.2.1; have h4 := w.2.2.2.2; have h5 := h1.1; have h6 := h1.2.1
  omega
theorem Lin.more {U : List HCall} {s : LS_} (h : Lin U s) {x : HCall} (hx : x.told = false) : Lin (U ++ [x]) s := by
 induction h with
 | done h => exact .done fun c hc => by rcases List.mem_append.1 hc with hc | hc; exact h c hc; rw [List.mem_singleton.1 hc]; exact hx
 | @step U A B c s s' e ha hst hl ih =>
  subst e
  refine .step (A := A) (B := B ++ [x]) (c := c) (by rw [List.append_assoc, List.cons_append]) (fun d hd => ?_) hst (by rw [← List.append_assoc]; exact ih)
  rw [← List.append_assoc] at hd
  rcases List.mem_append.1 hd with hd | hd
  ·exact ha d hd
  ·rw [List.mem_singleton.1 hd]; exact ahead_not hx
theorem one_all {P : Opm → Prop} {l : List Opm} (h : ∀ x ∈ l, P x) : ∀ c ∈ (oneA l).2, P c.op := by
 intro c hc
 have : c.op ∈ (oneA l).2.map HCall.op := List.mem_map_of_mem hc
 rw [oneA_op] at this
 exact h _ this
theorem one_amt {l : List Opm} (h : ∀ x ∈ l, x.Ok) (n : Nat) : ∀ c ∈ (oneA (l.take n)).2, -9223372036854775808 ≤ c.op.amount ∧ c.op.amount ≤ 9223372036854775807 :=
 one_all fun x hx => (h x (List.mem_of_mem_take hx)).amount
theorem of_map {P : HCall → Prop} {o : List HC} {m : List HCall} (h : o.map HC.c = m) (hm : ∀ c ∈ m, P c) : ∀ x ∈ o, P x.c := fun x hx => hm _ (by rw [← h]; exact List.mem_map_of_mem hx)
theorem one_amtO {l : List Opm} (h : ∀ x ∈ l, x.Ok) {n : Nat} {o : List HC} (e : o.map HC.c = (oneA (l.take n)).2) : ∀ x ∈ o, -9223372036854775808 ≤ x.c.op.amount ∧ x.c.op.amount ≤ 9223372036854775807 :=
 of_map (P := fun c => -9223372036854775808 ≤ c.op.amount ∧ c.op.amount ≤ 9223372036854775807) e (one_amt h n)
end Go.Q
namespace Go.Proofs.YtnbcghbgeiocbaaDoor
open Go.Q Go.RowKit
set_option maxHeartbeats 4000000 in
theorem one_calls (w : World) (OA : Option Addr) (oc : Nat) (l : List Opm) (n : Nat) (hL : RdT w 7 Opm.cells (.slice OA l.length oc) l) (hLo : ∀ x ∈ l, x.Ok) (hn : n ≤ 100) : Calls Tryd.prog 20 ⟨[(Value.slice OA l.length oc), (i64 ((n : Nat) : Int))]⟩ w (fun e w' => ∃ (o : List HC) (OA1 : Option Addr) (oc1 : Nat) (T : Nat → Prop), e = .returned ((Value.slice OA1 o.length oc1)) ∧ Keeps none_ w w' ∧ OwnT w' w.heap.size 30 13 HC.cells ((Value.slice OA1 o.length oc1)) o ∧ RowsE w' HC.rv HC.rows T o ∧ (∀ j, T j → w.heap.size ≤ j) ∧ (∀ j, ((Value.slice OA1 o.length oc1)).ownBlock = some j → T j → False) ∧ o.map HC.c = (oneA (l.take n)).2 ∧ ∀ y ∈ o, y.c.rep.rows.length ≤ 1000) := by
 have hcap := RdT.len Opm.seven (by decide) hL
 have K0 : Keeps none_ w w := Keeps.refl w
 refine q_calls Tryd.func20 (by kernel_rfl) (by kernel_rfl) ?_
 refine qsg ?_
 refine ogd 1 [(0, .slice OA l.length oc), (1, i64 ↑n), (4, .slice none 0 0)] ?_
 refine qsg ?_
 refine og 1 [(0, .slice OA l.length oc), (1, i64 ↑n), (4, .slice none 0 0), (8, (agg [(Value.slice none 0 0), (Value.slice none 0 0)]))] 1 ?_
 refine onew (rowL [(Value.slice none 0 0), (Value.slice none 0 0)] 55) (fun b => (ptr b)) 9 (fun b => rfl) (fun b1 w2 hb3 H4 K5 hs6 => ?_)
 have nb1 : w.heap.size ≤ b1 := by have := K0.size; omega
 replace K0 := K0.t0 K5
 clear K5 hs6
 refine ogd 1 [(0, .slice OA l.length oc), (1, i64 ↑n), (4, .slice none 0 0), (5, ptr b1)] ?_
 refine qsg ?_
 refine ogd 1 [(0, .slice OA l.length oc), (1, i64 ↑n), (4, .slice none 0 0), (5, ptr b1), (6, .slice none 0 0)] ?_
 refine qs ?_
 refine qsg ?_
 refine ogd 1 [(0, .slice OA l.length oc), (1, i64 ↑n), (4, .slice none 0 0), (5, ptr b1), (6, .slice none 0 0), (7, i64 0)] ?_
 refine q_block (id := 0) (by kernel_rfl) ?_
 refine q_keep (R := [(0, .slice OA l.length oc), (1, i64 ↑n), (4, .slice none 0 0), (5, ptr b1), (6, .slice none 0 0), (7, i64 0)]) (by kernel_rfl) ?_
 refine q_loop (fun (gs : Nat × (List RowM) × (List KeptM) × (Option Addr) × Nat × (Option Addr) × Nat × (List HC) × (Option Addr) × Nat × (Nat → Prop)) L (wx : World) => match gs with | (ii, S, K, NA, nc, MA, mc, o, OA1, oc1, T) => L = [(0, (Value.slice OA l.length oc)), (1, (i64 ((n : Nat) : Int))), (4, (Value.slice none 0 0)), (5, (ptr b1)), (6, (Value.slice OA1 o.length oc1)), (7, (i64 ((ii : Nat) : Int)))] ∧ OwnT wx w.heap.size 98 2 RowM.cells (Value.slice NA S.length nc) S ∧ (∀ i, ((Value.slice NA S.length nc)).ownBlock = some i → i ≠ b1) ∧ (∀ i, ((Value.slice MA K.length mc)).ownBlock = some i → ((Value.slice NA S.length nc)).ownBlock = some i → False) ∧ (∀ i, ((Value.slice OA1 o.length oc1)).ownBlock = some i → ((Value.slice NA S.length nc)).ownBlock = some i → False) ∧ OwnT wx w.heap.size 101 10 kref (Value.slice MA K.length mc) K ∧ (∀ i, ((Value.slice MA K.length mc)).ownBlock = some i → i ≠ b1) ∧ (∀ i, ((Value.slice NA S.length nc)).ownBlock = some i → ((Value.slice MA K.length mc)).ownBlock = some i → False) ∧ (∀ i, ((Value.slice OA1 o.length oc1)).ownBlock = some i → ((Value.slice MA K.length mc)).ownBlock = some i → False) ∧ OwnT wx w.heap.size 30 13 HC.cells ((Value.slice OA1 o.length oc1)) o ∧ (∀ i, ((Value.slice OA1 o.length oc1)).ownBlock = some i → i ≠ b1) ∧ (∀ i, ((Value.slice NA S.length nc)).ownBlock = some i → ((Value.slice OA1 o.length oc1)).ownBlock = some i → False) ∧ (∀ i, ((Value.slice MA K.length mc)).ownBlock = some i → ((Value.slice OA1 o.length oc1)).ownBlock = some i → False) ∧ oneA (l.take ii) = ((S, K), o.map HC.c) ∧ Ledg S K ∧ K.length ≤ ii ∧ RowsE wx HC.rv HC.rows T o ∧ (∀ j, T j → w.heap.size ≤ j) ∧ (∀ j, ((Value.slice NA S.length nc)).ownBlock = some j → T j → False) ∧ (∀ j, ((Value.slice MA K.length mc)).ownBlock = some j → T j → False) ∧ (∀ j, ((Value.slice OA1 o.length oc1)).ownBlock = some j → T j → False) ∧ (∀ j, T j → j ≠ b1) ∧ (∀ y ∈ o, y.c.rep.rows.length ≤ 1000) ∧ ii ≤ l.length ∧ ii ≤ n ∧ Keeps none_ w wx ∧ Has wx b1 (rowL [(Value.slice NA S.length nc), (Value.slice MA K.length mc)] 55)) (fun (gs : Nat × (List RowM) × (List KeptM) × (Option Addr) × Nat × (Option Addr) × Nat × (List HC) × (Option Addr) × Nat × (Nat → Prop)) => match gs with | (ii, S, K, NA, nc, MA, mc, o, OA1, oc1, T) => l.length - ii) (0, [], [], none, 0, none, 0, [], none, 0, none_) (by kernel_rfl) ⟨rfl, (OwnT.nil _ _ _ _ _), (fun i hi => by cases hi), (fun _ _ h => by cases h), (fun _ _ h => by cases h), (OwnT.nil _ _ _ _ _), (fun i hi => by cases hi), (fun _ _ h => by cases h), (fun _ _ h => by cases h), (OwnT.nil _ _ _ _ _), (fun i hi => by cases hi), (fun _ _ h => by cases h), (fun _ _ h => by cases h), rfl, LBook.nil.ledg, (Nat.le_refl _), (RowsE.nil _ _ _), (fun _ h => h.elim), (fun _ _ h => h.elim), (fun _ _ h => h.elim), (fun _ _ h => h.elim), (fun _ h => h.elim), (fun _ h => by cases h), Nat.zero_le _, Nat.zero_le _, K0, H4⟩ ?_
 clear H4 K0
 rintro ⟨ii, S, K, NA, nc, MA, mc, o, OA1, oc1, T⟩ _ w7 ⟨rfl, hON, obNb1, ooNM, ooNV, hOM, obMb1, ooMN, ooMV, hOV, obVb1, ooVN, ooVM, hE, hLg, hKl, hRT, hTw, hTN, hTM, hTV, hTr, hoz, hi, hin, K8, H9⟩
 have hol : o.length = ii := by have := congrArg (fun z => z.2.length) hE; simp only [oneA_len, List.length_take, List.length_map] at this; omega
 have hSle := hLg.le
 refine qs ?_
 refine qsg ?_
 refine og 5 [(0, .slice OA l.length oc), (1, i64 ↑n), (4, .slice none 0 0), (5, ptr b1), (6, .slice OA1 o.length oc1), (7, i64 ↑ii), (14, (Value.bool (decide (((ii : Nat) : Int) < ((l.length : Nat) : Int)))))] 5 ?_
 refine Ops.split (decide (((ii : Nat) : Int) < ((l.length : Nat) : Int))) (fun h10 => ?_) (fun h10 => ?_)
 ·rw [h10]
  have p11 := of_decide_eq_true h10
  refine ogd 4 [(0, .slice OA l.length oc), (1, i64 ↑n), (4, .slice none 0 0), (5, ptr b1), (6, .slice OA1 o.length oc1), (7, i64 ↑ii), (18, (Value.bool (decide (((ii : Nat) : Int) < ((n : Nat) : Int)))))] ?_
  refine qcQ 18 (decide (((ii : Nat) : Int) < ((n : Nat) : Int))) rfl (fun h12 => ?_) (fun h12 => ?_)
  ·rw [h12]
   have p13 := of_decide_eq_true h12
   obtain ⟨x, hx⟩ : ∃ y, l[ii]? = some y := ⟨_, List.getElem?_eq_getElem (by omega)⟩
   have hxo := hLo x (List.mem_of_getElem? hx)
   have hx1 := hxo.amount
   obtain ⟨rb14, ro15, hA16⟩ := Rd.addr (Rd.keep0 (by decide) hL K8) (by omega)
   have hkl9 := oneK_len S K x
   have hrl9 := oneR_rows S K x
   have hsl9 := (hLg.do (o := x) (by omega)).le
   refine qkQ ?_
   refine qs ?_
   refine q_block (id := 1) (by kernel_rfl) ?_
   refine q_drawS 20 (by kernel_rfl) (by kernel_rfl) (by kernel_rfl) (fun w17 K18 _ _ => ?_)
   replace K8 := K8.trans K18 (U := none_) (fun i h1 h2 => h2) (fun i h1 h2 => by exact h2)
   replace H9 := H9.kn K18
   replace hON := own_keep0 hON K18
   replace hOM := own_keep0 hOM K18
   replace hOV := own_keep0 hOV K18
   replace hRT := RowsE.keep hRT K18 (fun _ _ h => h)
   have Kb19 : Keeps (fun i => i = b1 ∨ ((Value.slice NA S.length nc)).ownBlock = some i ∨ ((Value.slice MA K.length mc)).ownBlock = some i ∨ ((Value.slice OA1 o.length oc1)).ownBlock = some i) w17 w17 := (Keeps.refl w17).mono (fun _ _ h => h.elim)
   refine ⟨fun wz => Keeps (fun i => i = b1 ∨ ((Value.slice NA S.length nc)).ownBlock = some i ∨ ((Value.slice MA K.length mc)).ownBlock = some i ∨ ((Value.slice OA1 o.length oc1)).ownBlock = some i) w17 wz, [], (SH.nil Kb19), ?_⟩
   refine skQ 17 [0, 1, 2] [(0, .slice OA l.length oc), (1, i64 ↑n), (4, .slice none 0 0), (5, ptr b1), (6, .slice OA1 o.length oc1), (7, i64 ↑ii), (21, .slice OA1 o.length oc1), (22, .slice OA l.length oc), (23, i64 ↑ii)] ?_
   refine stQ 3 (Value.pointer (some ⟨rb14, ro15 + ii * 7, none⟩)) 24 (fun wz hS => Runs.ixSliceE (k := IntKind.i64) (t := 47) (len := l.length) (cap := oc) (s := 7) (off' := ro15 + ii * 7) (i := ((ii : Nat) : Int)) hA16 (by kernel_rfl) (by kernel_rfl) (by omega) (by omega) (by omega)) rfl ?_
   refine stQ 4 (agg (Opm.cells x)) 25 (fun wz hS => Runs.load (t := 24) (a := ⟨rb14, ro15 + ii * 7, none⟩) (by kernel_rfl) (RdT.ld (f := Opm.cells) (x := x) Opm.seven (Rd.keep0 (by decide) hL (K8.trans hS (U := none_) (fun _ _ h => h) (fun i h1 h2 => by have h2 : i = b1 ∨ ((Value.slice NA S.length nc)).ownBlock = some i ∨ ((Value.slice MA K.length mc)).ownBlock = some i ∨ ((Value.slice OA1 o.length oc1)).ownBlock = some i := h2; rcases h2 with h2 | h2 | h2 | h2; (exfalso; omega); (exfalso; have := (World.ownsRow.lt hON i h2).1; omega); (exfalso; have := (World.ownsRow.lt hOM i h2).1; omega); (exfalso; have := (World.ownsRow.lt hOV i h2).1; omega)))) (by kernel_rfl) (by kernel_rfl) hA16 hx)) rfl ?_
   refine skQ 13 [5, 6] [(0, .slice OA l.length oc), (1, i64 ↑n), (4, .slice none 0 0), (5, ptr b1), (6, .slice OA1 o.length oc1), (7, i64 ↑ii), (21, .slice OA1 o.length oc1), (25, (agg (Opm.cells x))), (27, (i64 (IntKind.i64.wrap (2 * ((ii : Nat) : Int)))))] ?_
   rw [show IntKind.i64.wrap (2 * ((ii : Nat) : Int)) = ((2 * ii : Nat) : Int) from by rw [wrap_i64 (by omega) (by omega)]; omega]
   refine skQ 11 [7, 8] [(0, .slice OA l.length oc), (1, i64 ↑n), (4, .slice none 0 0), (5, ptr b1), (6, .slice OA1 o.length oc1), (7, i64 ↑ii), (21, .slice OA1 o.length oc1), (25, (agg (Opm.cells x))), (27, (i64 ((2 * ii : Nat) : Int))), (29, (i64 (IntKind.i64.wrap (2 * ((ii : Nat) : Int)))))] ?_
   rw [show IntKind.i64.wrap (2 * ((ii : Nat) : Int)) = ((2 * ii : Nat) : Int) from by rw [wrap_i64 (by omega) (by omega)]; omega]
   refine skQ 10 [9] [(0, .slice OA l.length oc), (1, i64 ↑n), (4, .slice none 0 0), (5, ptr b1), (6, .slice OA1 o.length oc1), (7, i64 ↑ii), (21, .slice OA1 o.length oc1), (25, (agg (Opm.cells x))), (27, (i64 ((2 * ii : Nat) : Int))), (30, (i64 (IntKind.i64.wrap (((2 * ii : Nat) : Int) + 1))))] ?_
   rw [show IntKind.i64.wrap (((2 * ii : Nat) : Int) + 1) = (((2 * ii) + 1 : Nat) : Int) from by rw [wrap_i64 (by omega) (by omega)]; omega]
   refine skQ 7 [10, 11, 12] [(0, .slice OA l.length oc), (1, i64 ↑n), (4, .slice none 0 0), (5, ptr b1), (6, .slice OA1 o.length oc1), (7, i64 ↑ii), (21, .slice OA1 o.length oc1), (25, (agg (Opm.cells x))), (27, (i64 ((2 * ii : Nat) : Int))), (30, i64 ↑((2 * ii) + 1)), (31, ptr b1), (32, .slice OA l.length oc), (33, i64 ↑ii)] ?_
   refine stQ 13 (Value.pointer (some ⟨rb14, ro15 + ii * 7, none⟩)) 34 (fun wz hS => Runs.ixSliceE (k := IntKind.i64) (t := 47) (len := l.length) (cap := oc) (s := 7) (off' := ro15 + ii * 7) (i := ((ii : Nat) : Int)) hA16 (by kernel_rfl) (by kernel_rfl) (by omega) (by omega) (by omega)) rfl ?_
   refine stQ 14 (agg (Opm.cells x)) 35 (fun wz hS => Runs.load (t := 24) (a := ⟨rb14, ro15 + ii * 7, none⟩) (by kernel_rfl) (RdT.ld (f := Opm.cells) (x := x) Opm.seven (Rd.keep0 (by decide) hL (K8.trans hS (U := none_) (fun _ _ h => h) (fun i h1 h2 => by have h2 : i = b1 ∨ ((Value.slice NA S.length nc)).ownBlock = some i ∨ ((Value.slice MA K.length mc)).ownBlock = some i ∨ ((Value.slice OA1 o.length oc1)).ownBlock = some i := h2; rcases h2 with h2 | h2 | h2 | h2; (exfalso; omega); (exfalso; have := (World.ownsRow.lt hON i h2).1; omega); (exfalso; have := (World.ownsRow.lt hOM i h2).1; omega); (exfalso; have := (World.ownsRow.lt hOV i h2).1; omega)))) (by kernel_rfl) (by kernel_rfl) hA16 hx)) rfl ?_
   refine soQ 15 ?_
   refine Dr1.call (by kernel_rfl) (d := (some 36)) (by kernel_rfl) (RDo_calls _ w.heap.size b1 NA nc S MA mc K x H9 hON hOM obNb1 obMb1 ooMN hLg.led (K8.size) hLg (by omega) (by first | omega | decide) (by first | omega | decide)) ?_
   rintro _ w39 ⟨A23, c24, B25, d26, A27, c28, rfl, K29, H30, hO31, hP32, hO33, hg34, hg35, oo36, oo37, oo38⟩
   have ob40 : ∀ i, ((Value.slice A23 ((doS S K x).length) c24)).ownBlock = some i → i ≠ b1 := fun i hi => by rcases hg34 i hi with h | h; (have := obNb1 i h; omega); (have := H9.lt; omega)
   have oo43 : ∀ i, ((Value.slice OA1 o.length oc1)).ownBlock = some i → ((Value.slice A23 ((doS S K x).length) c24)).ownBlock = some i → False := fun i hi hs => by rcases hg34 i hs with h | h; (exact ooNV i hi h); (have := (World.ownsRow.lt hOV i hi).2; omega)
   have oo44 : ∀ i, ((Value.slice A23 ((doS S K x).length) c24)).ownBlock = some i → ((Value.slice OA1 o.length oc1)).ownBlock = some i → False := fun i hi hs => oo43 i hs hi
   have oo45 : ∀ i, ((Value.slice A23 ((doS S K x).length) c24)).ownBlock = some i → T i → False := fun i hs hi => by rcases hg34 i hs with h | h; (exact hTN i h hi); (have := RowsE.lt hRT i hi; omega)
   have ob46 : ∀ i, ((Value.slice B25 ((doK S K x).length) d26)).ownBlock = some i → i ≠ b1 := fun i hi => by rcases hg35 i hi with h | h; (have := obMb1 i h; omega); (have := H9.lt; omega)
   have oo49 : ∀ i, ((Value.slice OA1 o.length oc1)).ownBlock = some i → ((Value.slice B25 ((doK S K x).length) d26)).ownBlock = some i → False := fun i hi hs => by rcases hg35 i hs with h | h; (exact ooMV i hi h); (have := (World.ownsRow.lt hOV i hi).2; omega)
   have oo50 : ∀ i, ((Value.slice B25 ((doK S K x).length) d26)).ownBlock = some i → ((Value.slice OA1 o.length oc1)).ownBlock = some i → False := fun i hi hs => oo49 i hs hi
   have oo51 : ∀ i, ((Value.slice B25 ((doK S K x).length) d26)).ownBlock = some i → T i → False := fun i hs hi => by rcases hg35 i hs with h | h; (exact hTM i h hi); (have := RowsE.lt hRT i hi; omega)
   have ob52 : ∀ i, ((Value.slice A27 ((doR S K x).rows.length) c28)).ownBlock = some i → i ≠ b1 := fun i hi => by have := (World.ownsRow.lt hO33 i hi).1; have := H9.lt; omega
   have oo57 : ∀ i, ((Value.slice OA1 o.length oc1)).ownBlock = some i → ((Value.slice A27 ((doR S K x).rows.length) c28)).ownBlock = some i → False := fun i hi hs => by have := (World.ownsRow.lt hO33 i hs).1; have := (World.ownsRow.lt hOV i hi).2; omega
   have oo58 : ∀ i, ((Value.slice A27 ((doR S K x).rows.length) c28)).ownBlock = some i → ((Value.slice OA1 o.length oc1)).ownBlock = some i → False := fun i hi hs => oo57 i hs hi
   have O59 := own_base hO33 K8.size
   replace K8 := K8.trans K29 (U := none_) (fun i h1 h2 => h2) (fun i h1 h2 => by have h2 : i = b1 ∨ ((Value.slice NA S.length nc)).ownBlock = some i ∨ ((Value.slice MA K.length mc)).ownBlock = some i := h2; rcases h2 with h2 | h2 | h2; (exfalso; omega); (exfalso; have := (World.ownsRow.lt hON i h2).1; omega); (exfalso; have := (World.ownsRow.lt hOM i h2).1; omega))
   clear hON
   clear hOM
   replace hOV := own_keep hOV K29 (fun i hi hs => by have hs : i = b1 ∨ ((Value.slice NA S.length nc)).ownBlock = some i ∨ ((Value.slice MA K.length mc)).ownBlock = some i := hs; rcases hs with hs | hs | hs; (have := obVb1 i hi; omega); (exact ooNV i hi hs); (exact ooMV i hi hs))
   replace hRT := RowsE.keep hRT K29 (fun i hi hs => by have hs : i = b1 ∨ ((Value.slice NA S.length nc)).ownBlock = some i ∨ ((Value.slice MA K.length mc)).ownBlock = some i := hs; rcases hs with hs | hs | hs; (have := hTr i hi; omega); (exact hTN i hs hi); (exact hTM i hs hi))
   have Kb60 := Kb19.trans K29 (U := (fun i => i = b1 ∨ ((Value.slice NA S.length nc)).ownBlock = some i ∨ ((Value.slice MA K.length mc)).ownBlock = some i ∨ ((Value.slice OA1 o.length oc1)).ownBlock = some i)) (fun _ _ h => h) (fun i h1 h2 => by have h2 : i = b1 ∨ ((Value.slice NA S.length nc)).ownBlock = some i ∨ ((Value.slice MA K.length mc)).ownBlock = some i := h2; rcases h2 with h2 | h2 | h2; (exact .inl h2); (exact .inr (.inl h2)); (exact .inr (.inr (.inl h2))))
   refine ⟨_, _, rfl, rfl, (SH.nil Kb60), ?_⟩
   refine skQ 3 [16] [(0, .slice OA l.length oc), (1, i64 ↑n), (4, .slice none 0 0), (5, ptr b1), (6, .slice OA1 o.length oc1), (7, i64 ↑ii), (21, .slice OA1 o.length oc1), (37, (agg [(i64 x.kind), (Value.string (str x.frm)), (Value.string (str x.to)), (i64 x.amount), (Value.string (str x.key)), (i64 x.slot), (i64 x.shard), (i64 ((2 * ii : Nat) : Int)), (i64 (((2 * ii) + 1 : Nat) : Int)), (Value.bool true), (i64 ((doR S K x).why)), (i64 ((doR S K x).amount)), (Value.slice A27 ((doR S K x).rows.length) c28)]))] ?_
   refine soQ 17 ?_
   refine Dr1.new (o := rowL [(i64 x.kind), (Value.string (str x.frm)), (Value.string (str x.to)), (i64 x.amount), (Value.string (str x.key)), (i64 x.slot), (i64 x.shard), (i64 ((2 * ii : Nat) : Int)), (i64 (((2 * ii) + 1 : Nat) : Int)), (Value.bool true), (i64 ((doR S K x).why)), (i64 ((doR S K x).amount)), (Value.slice A27 ((doR S K x).rows.length) c28)] 30) (V := fun b => (Value.slice (some ⟨b, 0, none⟩) 1 1)) (by kernel_rfl) (d := (some 38)) (by kernel_rfl) (fun b => rfl) (fun b61 w62 hb63 H64 K65 hs66 => ?_)
   have lb61b1 : b1 < b61 := by have := H30.lt; omega
   have nb61 : w.heap.size ≤ b61 := by have := K8.size; omega
   have xb61 : w17.heap.size ≤ b61 := by have := Kb60.size; omega
   replace K8 := K8.trans K65 (U := none_) (fun i h1 h2 => h2) (fun i h1 h2 => by exact h2)
   replace H30 := H30.kn K65
   replace hOV := own_keep0 hOV K65
   replace hRT := RowsE.keep hRT K65 (fun _ _ h => h)
   replace hO31 := own_keep0 hO31 K65
   replace hP32 := own_keep0 hP32 K65
   replace O59 := own_keep0 O59 K65
   have Kb72 := Kb60.trans K65 (U := (fun i => i = b1 ∨ ((Value.slice NA S.length nc)).ownBlock = some i ∨ ((Value.slice MA K.length mc)).ownBlock = some i ∨ ((Value.slice OA1 o.length oc1)).ownBlock = some i)) (fun _ _ h => h) (fun i h1 h2 => by exact h2.elim)
   refine ⟨(SH.nil Kb72), ?_⟩
   clear K65 hs66
   refine soQ 18 ?_
   obtain ⟨v73, w74, hr75, hO76, hK77, hg78⟩ := OwnT.app (ty := 22) HC.two HC.one tyHR hOV (show RdT _ 13 HC.cells _ [(⟨⟨x, ((2 * ii : Nat) : Int), ((2 * ii + 1 : Nat) : Int), true, doR S K x⟩, A27, c28⟩ : HC)] from Rd.lit H64 (n := 1) rfl (by decide)) (by simp only [List.length_cons, List.length_nil]; omega) (by simp only [List.length_cons, List.length_nil]; omega) (K8.size)
   obtain ⟨A80, c81, rfl⟩ := RdT.form HC.two (by decide) (OwnT.rd hO76)
   have ob82 : ∀ i, ((Value.slice A80 ((o ++ [(⟨⟨x, ((2 * ii : Nat) : Int), ((2 * ii + 1 : Nat) : Int), true, doR S K x⟩, A27, c28⟩ : HC)]).length) c81)).ownBlock = some i → i ≠ b1 := fun i hi => by rcases hg78 i hi with h | h; (have := obVb1 i h; omega); (have := H30.lt; omega)
   have oo84 : ∀ i, ((Value.slice A80 ((o ++ [(⟨⟨x, ((2 * ii : Nat) : Int), ((2 * ii + 1 : Nat) : Int), true, doR S K x⟩, A27, c28⟩ : HC)]).length) c81)).ownBlock = some i → T i → False := fun i hs hi => by rcases hg78 i hs with h | h; (exact hTV i h hi); (have := RowsE.lt hRT i hi; omega)
   have oo85 : ∀ i, ((Value.slice A23 ((doS S K x).length) c24)).ownBlock = some i → ((Value.slice A80 ((o ++ [(⟨⟨x, ((2 * ii : Nat) : Int), ((2 * ii + 1 : Nat) : Int), true, doR S K x⟩, A27, c28⟩ : HC)]).length) c81)).ownBlock = some i → False := fun i hi hs => by rcases hg78 i hs with h | h; (exact oo44 i hi h); (have := (World.ownsRow.lt hO31 i hi).2; omega)
   have oo86 : ∀ i, ((Value.slice A80 ((o ++ [(⟨⟨x, ((2 * ii : Nat) : Int), ((2 * ii + 1 : Nat) : Int), true, doR S K x⟩, A27, c28⟩ : HC)]).length) c81)).ownBlock = some i → ((Value.slice A23 ((doS S K x).length) c24)).ownBlock = some i → False := fun i hi hs => oo85 i hs hi
   have oo87 : ∀ i, ((Value.slice B25 ((doK S K x).length) d26)).ownBlock = some i → ((Value.slice A80 ((o ++ [(⟨⟨x, ((2 * ii : Nat) : Int), ((2 * ii + 1 : Nat) : Int), true, doR S K x⟩, A27, c28⟩ : HC)]).length) c81)).ownBlock = some i → False := fun i hi hs => by rcases hg78 i hs with h | h; (exact oo50 i hi h); (have := (World.ownsRow.lt hP32 i hi).2; omega)
   have oo88 : ∀ i, ((Value.slice A80 ((o ++ [(⟨⟨x, ((2 * ii : Nat) : Int), ((2 * ii + 1 : Nat) : Int), true, doR S K x⟩, A27, c28⟩ : HC)]).length) c81)).ownBlock = some i → ((Value.slice B25 ((doK S K x).length) d26)).ownBlock = some i → False := fun i hi hs => oo87 i hs hi
   have oo89 : ∀ i, ((Value.slice A27 ((doR S K x).rows.length) c28)).ownBlock = some i → ((Value.slice A80 ((o ++ [(⟨⟨x, ((2 * ii : Nat) : Int), ((2 * ii + 1 : Nat) : Int), true, doR S K x⟩, A27, c28⟩ : HC)]).length) c81)).ownBlock = some i → False := fun i hi hs => by rcases hg78 i hs with h | h; (exact oo58 i hi h); (have := (World.ownsRow.lt O59 i hi).2; omega)
   have K79 := hK77
   replace K8 := K8.trans K79 (U := none_) (fun i h1 h2 => h2) (fun i h1 h2 => by have h2 : ((Value.slice OA1 o.length oc1)).ownBlock = some i := h2; exfalso; have := (World.ownsRow.lt hOV i h2).1; omega)
   replace H30 := H30.keep K79 (by intro h; change ((Value.slice OA1 o.length oc1)).ownBlock = some b1 at h; have := obVb1 b1 h; omega)
   clear hOV
   replace hRT := RowsE.keep hRT K79 (fun i hi hs => by have hs : ((Value.slice OA1 o.length oc1)).ownBlock = some i := hs; exact hTV i hs hi)
   replace hO31 := own_keep hO31 K79 (fun i hi hs => by have hs : ((Value.slice OA1 o.length oc1)).ownBlock = some i := hs; exact oo44 i hi hs)
   replace hP32 := own_keep hP32 K79 (fun i hi hs => by have hs : ((Value.slice OA1 o.length oc1)).ownBlock = some i := hs; exact oo50 i hi hs)
   replace O59 := own_keep O59 K79 (fun i hi hs => by have hs : ((Value.slice OA1 o.length oc1)).ownBlock = some i := hs; exact oo58 i hi hs)
   have Kb91 := Kb72.trans K79 (U := (fun i => i = b1 ∨ ((Value.slice NA S.length nc)).ownBlock = some i ∨ ((Value.slice MA K.length mc)).ownBlock = some i ∨ ((Value.slice OA1 o.length oc1)).ownBlock = some i)) (fun _ _ h => h) (fun i h1 h2 => by have h2 : ((Value.slice OA1 o.length oc1)).ownBlock = some i := h2; exact .inr (.inr (.inr (h2))))
   refine Dr1.go (v := (Value.slice A80 ((o ++ [(⟨⟨x, ((2 * ii : Nat) : Int), ((2 * ii + 1 : Nat) : Int), true, doR S K x⟩, A27, c28⟩ : HC)]).length) c81)) (by kernel_rfl) (Runs.append (ts := #[22, 22]) (ty := 22) (vs := [(Value.slice OA1 o.length oc1), (Value.slice (some ⟨b61, 0, none⟩) 1 1)]) (by kernel_rfl) hr75) (d := (some 39)) (by kernel_rfl) rfl (SH.nil Kb91) ?_
   clear K79 hr75 hK77 hg78
   refine skQ 0 [19] [(0, .slice OA l.length oc), (1, i64 ↑n), (4, .slice none 0 0), (5, ptr b1), (6, (Value.slice A80 ((o ++ [(⟨⟨x, ((2 * ii : Nat) : Int), ((2 * ii + 1 : Nat) : Int), true, doR S K x⟩, A27, c28⟩ : HC)]).length) c81)), (7, i64 ↑ii)] ?_
   refine DrS.done (by kernel_rfl) ?_
   refine qg ?_
   refine og 2 [(0, .slice OA l.length oc), (1, i64 ↑n), (4, .slice none 0 0), (5, ptr b1), (6, (Value.slice A80 ((o ++ [(⟨⟨x, ((2 * ii : Nat) : Int), ((2 * ii + 1 : Nat) : Int), true, doR S K x⟩, A27, c28⟩ : HC)]).length) c81)), (7, i64 ↑ii), (20, (i64 (IntKind.i64.wrap (((ii : Nat) : Int) + 1))))] 2 ?_
   rw [show IntKind.i64.wrap (((ii : Nat) : Int) + 1) = ((ii + 1 : Nat) : Int) from by rw [wrap_i64 (by omega) (by omega)]; omega]
   refine og 1 [(0, .slice OA l.length oc), (1, i64 ↑n), (4, .slice none 0 0), (5, ptr b1), (6, (Value.slice A80 ((o ++ [(⟨⟨x, ((2 * ii : Nat) : Int), ((2 * ii + 1 : Nat) : Int), true, doR S K x⟩, A27, c28⟩ : HC)]).length) c81)), (7, i64 ↑(ii + 1))] 3 ?_
   refine ok_ [(0, .slice OA l.length oc), (1, i64 ↑n), (4, .slice none 0 0), (5, ptr b1), (6, (Value.slice A80 ((o ++ [(⟨⟨x, ((2 * ii : Nat) : Int), ((2 * ii + 1 : Nat) : Int), true, doR S K x⟩, A27, c28⟩ : HC)]).length) c81)), (7, i64 ↑(ii + 1))] ?_
   refine od ?_
   exact ⟨(ii + 1, (doS S K x), (doK S K x), A23, c24, B25, d26, (o ++ [(⟨⟨x, ((2 * ii : Nat) : Int), ((2 * ii + 1 : Nat) : Int), true, doR S K x⟩, A27, c28⟩ : HC)]), A80, c81, (fun j => T j ∨ (HC.rv (⟨⟨x, ((2 * ii : Nat) : Int), ((2 * ii + 1 : Nat) : Int), true, doR S K x⟩, A27, c28⟩ : HC)).ownBlock = some j)), ⟨rfl, hO31, ob40, (fun i h h2 => oo36 i h2 h), oo86, hP32, ob46, oo36, oo88, hO76, ob82, oo85, oo87, (by rw [oneA_take hx hE (by rw [List.length_map]; exact hol), List.map_append]; rfl), (hLg.do (by omega)), (by omega), (RowsE.addR (x := (⟨⟨x, ((2 * ii : Nat) : Int), ((2 * ii + 1 : Nat) : Int), true, doR S K x⟩, A27, c28⟩ : HC)) hRT (OwnT.rd O59) (fun j hj => (World.ownsRow.lt O59 j hj).2)), (fun j h => h.elim (hTw j) (fun h => (World.ownsRow.lt O59 j h).1)), (fun j h1 h2 => h2.elim (oo45 j h1) (fun h => oo37 j h h1)), (fun j h1 h2 => h2.elim (oo51 j h1) (fun h => oo38 j h h1)), (fun j h1 h2 => h2.elim (oo84 j h1) (fun h => oo89 j h h1)), (fun j h => h.elim (hTr j) (ob52 j)), (fun y hy => (List.mem_append.1 hy).elim (hoz y) (fun h => by rw [List.mem_singleton] at h; subst h; show (doR S K x).rows.length ≤ 1000; omega)), (by omega), (by omega), K8, H30⟩, (show l.length - (ii + 1) < l.length - ii from by omega)⟩
  ·rw [h12]
   have p93 := of_decide_eq_false h12
   refine q_exit (id := 0) (by kernel_rfl) ?_
   refine qsg ?_
   refine ogd 2 [(4, .slice OA1 o.length oc1)] ?_
   refine qtQ ?_
   refine ⟨(Value.slice OA1 o.length oc1), retv_tmp rfl rfl, ?_⟩
   have hlt : l.take ii = l.take n := by rcases Nat.lt_or_ge ii n with q | q; (rw [List.take_of_length_le (by omega), List.take_of_length_le (by omega)]); (rw [show ii = n from by omega])
   exact ⟨o, OA1, oc1, T, rfl, K8, hOV, hRT, hTw, hTV, by rw [← hlt, hE], hoz⟩
 ·rw [h10]
  have p94 := of_decide_eq_false h10
  refine ogd 4 [(0, .slice OA l.length oc), (1, i64 ↑n), (4, .slice none 0 0), (5, ptr b1), (6, .slice OA1 o.length oc1), (7, i64 ↑ii), (18, .bool false)] ?_
  refine q_else (o := .tmp 18) (by kernel_rfl) rfl ?_
  refine q_exit (id := 0) (by kernel_rfl) ?_
  refine qsg ?_
  refine ogd 2 [(4, .slice OA1 o.length oc1)] ?_
  refine qtQ ?_
  refine ⟨(Value.slice OA1 o.length oc1), retv_tmp rfl rfl, ?_⟩
  have hlt : l.take ii = l.take n := by rcases Nat.lt_or_ge ii n with q | q; (rw [List.take_of_length_le (by omega), List.take_of_length_le (by omega)]); (rw [show ii = n from by omega])
  exact ⟨o, OA1, oc1, T, rfl, K8, hOV, hRT, hTw, hTV, by rw [← hlt, hE], hoz⟩
end Go.Proofs.YtnbcghbgeiocbaaDoor
namespace Go.Q
open Go.RowKit
theorem seq_states : ∀ {l : List HCall} {s s' : LS_}, SeqL l s s' → ∃ st : Nat → LS_, st 0 = s ∧ ∀ i c, l[i]? = some c → stepH c (st i) = some (st (i + 1))
 | [], s, _, _ => ⟨fun _ => s, rfl, fun i c h => by cases h⟩
 | c :: l, s, s', ⟨s1, h1, h2⟩ => by
  obtain ⟨st, h0, hs⟩ := seq_states h2
  refine ⟨fun i => match i with | 0 => s | i + 1 => st i, rfl, fun i d hd => ?_⟩
  cases i with
  | zero => cases hd; show stepH c s = some (st 0); rw [h0]; exact h1
  | succ i => exact hs i d hd
theorem looked_all {l : List HCall} (h : ∀ c ∈ l, countsH c = true) : lookedH l = l.zipIdx := by
 unfold lookedH
 refine List.filter_eq_self.2 fun p hp => h p.1 ?_
 exact List.mem_of_getElem? (zip_mem hp)
theorem bit_two (i j : Nat) : (2 ^ i - 1).testBit j = decide (j < i) := Nat.testBit_two_pow_sub_one i j
theorem bit_next (i : Nat) : (2 ^ i - 1) ||| (1 <<< i) = 2 ^ (i + 1) - 1 := by
 apply Nat.eq_of_testBit_eq
 intro j
 rw [testBit_or, bit_two, bit_two]
 by_cases h : j < i
 ·rw [decide_eq_true h, decide_eq_true (show j < i + 1 by omega)]; rfl
 ·rw [decide_eq_false h]
  by_cases h2 : j = i
  ·subst h2; simp
  ·rw [decide_eq_false h2, decide_eq_false (show ¬ j < i + 1 by omega)]; rfl
theorem seq_sv {l : List HCall} {st : Nat → LS_} (hst : ∀ i c, l[i]? = some c → stepH c (st i) = some (st (i + 1))) (ht : ∀ c ∈ l, c.told = true) (hp : l.Pairwise (fun a b => aheadH b a = false)) : ∀ (k i : Nat), i + k = l.length → (probH l.zipIdx).sv (⟨List.range i, 2 ^ i - 1, ((k : Nat) : Int), st i⟩ : Sr LS_) = some (List.range l.length)
 | 0, i, h => by
  rw [Prob.sv_eq]
  rw [if_pos (by show ((0 : Nat) : Int) = 0; rfl)]
  show some (List.range i) = _
  rw [← h]; rfl
 | k + 1, i, h => by
  have hi : i < l.length := by omega
  have hc := List.getElem?_eq_getElem hi
  have hcz : l.zipIdx[i]? = some (l[i], i) := by rw [List.getElem?_zipIdx, hc]; simp
  have h1 : (probH l.zipIdx).one (⟨List.range i, 2 ^ i - 1, ((k + 1 : Nat) : Int), st i⟩ : Sr LS_) i = some ⟨List.range (i + 1), 2 ^ (i + 1) - 1, ((k : Nat) : Int), st (i + 1)⟩ := by
   refine (one_some hcz).2 ⟨by show (2 ^ i - 1).testBit i = false; rw [bit_two]; simp, fun j x hx hj hb => ?_, st (i + 1), hst i _ hc, ?_⟩
   ·have hb : (2 ^ i - 1).testBit j = false := hb
    rw [bit_two] at hb
    have hlt := of_decide_eq_false hb
    rw [List.getElem?_zipIdx] at hx
    obtain ⟨y, hy, e⟩ := Option.map_eq_some_iff.1 hx
    subst e
    have hjl := (List.getElem?_eq_some_iff.1 hy).1
    have hye : l[j] = y := (List.getElem?_eq_some_iff.1 hy).2
    show aheadH y l[i] = false
    rw [← hye]
    exact List.pairwise_iff_getElem.1 hp i j hi hjl (by omega)
   ·rw [if_pos (ht _ (List.mem_of_getElem? hc))]
    have e1 : List.range i ++ [i] = List.range (i + 1) := List.range_succ.symm
    have e2 : (((k + 1 : Nat) : Int) - 1) = ((k : Nat) : Int) := by omega
    show (⟨List.range (i + 1), 2 ^ (i + 1) - 1, ((k : Nat) : Int), st (i + 1)⟩ : Sr LS_) = ⟨List.range i ++ [i], (2 ^ i - 1) ||| (1 <<< i), ((k + 1 : Nat) : Int) - 1, st (i + 1)⟩
    rw [e1, e2, bit_next]
  rw [Prob.sv_eq, if_neg (by show ¬ ((k + 1 : Nat) : Int) = 0; omega)]
  have hn : (probH l.zipIdx).n = i + (1 + k) := by show l.zipIdx.length = _; rw [List.length_zipIdx]; omega
  have hr : List.range (probH l.zipIdx).n = List.range i ++ (i :: (List.range k).map (fun j => i + (1 + j))) := by
   rw [hn, List.range_add, List.range_add, List.map_append]
   simp
  unfold Prob.nexts
  rw [hr, List.filterMap_append, List.filterMap_cons, h1]
  have hz : (List.range i).filterMap ((probH l.zipIdx).one (⟨List.range i, 2 ^ i - 1, ((k + 1 : Nat) : Int), st i⟩ : Sr LS_)) = [] := by
   rw [List.filterMap_eq_nil_iff]
   intro j hj
   have hjl := List.mem_range.1 hj
   unfold Prob.one
   rw [if_pos (by show ((2 ^ i - 1).testBit j || _) = true; rw [bit_two, decide_eq_true hjl]; rfl)]
  rw [hz, List.nil_append]
  show List.findSome? _ (_ :: _) = _
  rw [List.findSome?_cons, seq_sv hst ht hp k (i + 1) (by omega)]
theorem serial_good {s : LS_} {h b : List HCall} (H : OneH s h) (hw : WideL h b) (hl : h.length ≤ 8) : goodH b := by
 have hc := H.wide hw
 have hf : b.filter countsH = b := List.filter_eq_self.2 fun c hb => (hc c hb).1
 refine ⟨by rw [hf, ← hw.1]; omega, ?_⟩
 rw [hf, List.any_eq_false]
 intro c hb q
 rw [Bool.and_eq_true] at q
 have := of_decide_eq_true q.2; have := (hc c hb).2
 omega
theorem serial_law {s : LS_} {h : List HCall} (H : OneH s h) (hl : h.length ≤ 8) : orderH h = (List.range h.length, true, 0) := by
 have hc := H.wide (WideL.refl h)
 obtain ⟨st, h0, hst⟩ := seq_states H.seq
 have ht : ∀ c ∈ h, c.told = true := fun c hm => by obtain ⟨i, hi⟩ := List.mem_iff_getElem?.1 hm; exact (H.at_ i c hi).2.2.1
 have hsv := seq_sv hst ht H.pair h.length 0 (by omega)
 rw [order_good (serial_good H (WideL.refl h) hl), looked_all fun c hm => (hc c hm).1]
 have hstart : startH h.zipIdx = (⟨List.range 0, 2 ^ 0 - 1, ((h.length : Nat) : Int), st 0⟩ : Sr LS_) := by
  unfold startH leftH
  rw [h0]
  have : h.zipIdx.countP (fun c => c.1.told) = h.length := by
   rw [List.countP_eq_length.2 (fun p hp => ht p.1 (List.mem_of_getElem? (zip_mem hp))), List.length_zipIdx]
  rw [this]; rfl
 rw [hstart, hsv]
theorem lin_force : ∀ {l : List HCall} {s : LS_}, Lin l s → (∀ c ∈ l, c.told = true) → l.Pairwise (fun a b => aheadH a b = true) → ∃ s', SeqL l s s'
 | [], s, _, _, _ => ⟨s, rfl⟩
 | c :: l, s, h, ht, hp => by
  cases h with
  | done h => exact absurd (ht c (List.mem_cons_self ..)) (by rw [h c (List.mem_cons_self ..)]; decide)
  | @step _ A B c' _ s1 e ha hs hl =>
   cases A with
   | nil =>
    injection e with e1 e2
    subst e1; subst e2
    obtain ⟨s', h'⟩ := lin_force (l := l) hl (fun d hd => ht d (List.mem_cons_of_mem _ hd)) (List.pairwise_cons.1 hp).2
    exact ⟨s', s1, hs, h'⟩
   | cons a A =>
    exfalso
    rw [List.cons_append] at e
    injection e with e1 e2
    subst e1
    have h1 := (List.pairwise_cons.1 hp).1 c' (by rw [e2]; exact List.mem_append_right _ (List.mem_cons_self ..))
    have h2 := ha c (List.mem_cons_self ..)
    rw [h1] at h2; cases h2
theorem step_det {c : HCall} {s s1 s2 : LS_} (h1 : stepH c s = some s1) (h2 : stepH c s = some s2) : s1 = s2 := by rw [h1] at h2; exact Option.some.inj h2
theorem step_told {c : HCall} {s s1 : LS_} (ht : c.told = true) (h : stepH c s = some s1) : doR s.1 s.2 c.op = c.rep := by
 unfold stepH at h
 split at h
 ·cases h
 ·rename_i q
  rw [ht, Bool.true_and] at q
  exact Decidable.byContradiction fun z => q (decide_eq_true z)
theorem other_law {s : LS_} {h : List HCall} (H : OneH s h) (hl : h.length ≤ 8) {k : Nat} {c : HCall} (hk : h[k]? = some c) {r : ReplyM} (hr : r.why ≠ 50) (ho : ∀ c ∈ h, -9223372036854775808 ≤ c.op.amount ∧ c.op.amount ≤ 9223372036854775807) :
  (orderH (h.set k ⟨c.op, c.bg, c.en, c.told, r⟩)).2 = (decide (r = c.rep), 0) := by
 have hkl := (List.getElem?_eq_some_iff.1 hk).1
 have hmem := List.mem_of_getElem? hk
 by_cases hq : r = c.rep
 ·have e : h.set k ⟨c.op, c.bg, c.en, c.told, r⟩ = h := by
   rw [hq]
   exact (List.getElem?_eq_some_iff.1 hk).2 ▸ List.set_getElem_self hkl
  rw [e, serial_law H hl, decide_eq_true hq]
 ·rw [decide_eq_false hq]
  have hat : ∀ i d, (h.set k ⟨c.op, c.bg, c.en, c.told, r⟩)[i]? = some d → ∃ d', h[i]? = some d' ∧ d.bg = d'.bg ∧ d.en = d'.en ∧ d.told = d'.told ∧ d.op = d'.op ∧ (i ≠ k → d = d') ∧ (i = k → d.rep = r) := fun i d hd => by
   rw [List.getElem?_set] at hd
   split at hd
   ·rename_i e
    subst e
    cases hd
    exact ⟨c, hk, rfl, rfl, rfl, rfl, fun q => absurd rfl q, fun _ => rfl⟩
   ·rename_i e
    exact ⟨d, hd, rfl, rfl, rfl, rfl, fun _ => rfl, fun q => absurd q.symm e⟩
  have hlen : (h.set k ⟨c.op, c.bg, c.en, c.told, r⟩).length = h.length := List.length_set
  have hall : ∀ d ∈ h.set k ⟨c.op, c.bg, c.en, c.told, r⟩, countsH d = true ∧ d.bg ≤ d.en ∧ d.told = true := fun d hd => by
   obtain ⟨i, hi⟩ := List.mem_iff_getElem?.1 hd
   obtain ⟨d', h1, h2, h3, h4, h5, h6, h7⟩ := hat i d hi
   have ha := H.at_ i d' h1
   refine ⟨?_, by omega, by rw [h4]; exact ha.2.2.1⟩
   rw [counts_told (by rw [h4]; exact ha.2.2.1)]
   by_cases e : i = k
   ·rw [h7 e]; exact bne_iff_ne.2 hr
   ·rw [h6 e]; exact bne_iff_ne.2 ha.2.2.2
  have hf : (h.set k ⟨c.op, c.bg, c.en, c.told, r⟩).filter countsH = h.set k ⟨c.op, c.bg, c.en, c.told, r⟩ := List.filter_eq_self.2 fun d hd => (hall d hd).1
  have hoo : ∀ d ∈ h.set k ⟨c.op, c.bg, c.en, c.told, r⟩, -9223372036854775808 ≤ d.op.amount ∧ d.op.amount ≤ 9223372036854775807 := fun d hd => by
   obtain ⟨i, hi⟩ := List.mem_iff_getElem?.1 hd
   obtain ⟨d', h1, _, _, _, h5, _⟩ := hat i d hi
   rw [h5]; exact ho d' (List.mem_of_getElem? h1)
  refine order_no hoo ⟨by rw [hf, hlen]; omega, ?_⟩ ?_
  ·rw [hf, List.any_eq_false]
   intro d hd q
   rw [Bool.and_eq_true] at q
   have := of_decide_eq_true q.2; have := (hall d hd).2.1
   omega
  ·intro hL
   have hL : Lin ((h.set k ⟨c.op, c.bg, c.en, c.told, r⟩).filter countsH) ([], []) := hL
   rw [hf] at hL
   obtain ⟨s', hS⟩ := lin_force hL (fun d hd => (hall d hd).2.2) (by
    rw [List.pairwise_iff_getElem]
    intro i j hi hj hij
    obtain ⟨d1, a1, a2, a3, a4, _⟩ := hat i _ (List.getElem?_eq_getElem hi)
    obtain ⟨d2, b1, b2, b3, b4, _⟩ := hat j _ (List.getElem?_eq_getElem hj)
    have h1 := H.at_ i d1 a1
    have h2 := H.at_ j d2 b1
    unfold aheadH
    rw [a4, h1.2.2.1, a3, h1.2.1, b2, h2.1, decide_eq_true (by omega)]; rfl)
   obtain ⟨st, h0, hst⟩ := seq_states H.seq
   obtain ⟨tt, g0, htt⟩ := seq_states hS
   have hsame : ∀ i, i ≤ k → tt i = st i := by
    intro i
    induction i with
    | zero => intro _; rw [h0, g0]
    | succ i ih =>
     intro hi
     have hil : i < h.length := by omega
     have e1 := hst i _ (List.getElem?_eq_getElem hil)
     have hx : (h.set k ⟨c.op, c.bg, c.en, c.told, r⟩)[i]? = some h[i] := by rw [List.getElem?_set_ne (by omega)]; exact List.getElem?_eq_getElem hil
     have e2 := htt i _ hx
     rw [ih (by omega)] at e2
     exact step_det e2 e1
   have e1 := hst k c hk
   have hx : (h.set k ⟨c.op, c.bg, c.en, c.told, r⟩)[k]? = some ⟨c.op, c.bg, c.en, c.told, r⟩ := by rw [List.getElem?_set_self hkl]
   have e2 := htt k _ hx
   rw [hsame k (Nat.le_refl _)] at e2
   have ht := (H.at_ k c hk).2.2.1
   have q1 := step_told ht e1
   have q2 := step_told (c := ⟨c.op, c.bg, c.en, c.told, r⟩) ht e2
   exact hq (q2.symm.trans q1)
theorem serial_fin {l : List Opm} {n : Nat} {o1 o3 : List HC} (hn : n ≤ 8) (hm : o1.map HC.c = (oneA (l.take n)).2) (h3 : o3.map HC.c = o1.map HC.c) : orderH (o3.map HC.c) = (List.range o1.length, true, 0) := by
 have e : o1.length = (oneA (l.take n)).2.length := by rw [← hm, List.length_map]
 rw [h3, hm, e]
 exact serial_law (oneA_one _) (by rw [oneA_len, List.length_take]; omega)
theorem other_fin {l : List Opm} {n : Nat} {o1 o2 o3 : List HC} {k : Nat} {x y Y : HC} {p : ReplyM} {t : Bool} (hlo : ∀ x ∈ l, x.Ok) (hn : n ≤ 8) (hm : o1.map HC.c = (oneA (l.take n)).2) (h2 : o2.map HC.c = o1.map HC.c) (hx : o1[k]? = some x) (hy : o2[k]? = some y) (hY : Y.c = ⟨y.c.op, y.c.bg, y.c.en, y.c.told, p⟩) (h3 : o3.map HC.c = (o2.set k Y).map HC.c) (hp : p.why ≠ 50) (ht : t = true ↔ Y.c = x.c) : (orderH (o3.map HC.c)).2 = (t, 0) := by
 have hxm : (oneA (l.take n)).2[k]? = some x.c := by rw [← hm, List.getElem?_map, hx]; rfl
 have hxy : y.c = x.c := by
  have h : (o2.map HC.c)[k]? = some y.c := by rw [List.getElem?_map, hy]; rfl
  rw [h2, hm, hxm] at h
  exact (Option.some.inj h).symm
 have hlen : (oneA (l.take n)).2.length ≤ 8 := by rw [oneA_len, List.length_take]; omega
 rw [h3, List.map_set, h2, hm, hY, hxy]
 rw [other_law (oneA_one _) hlen hxm hp (one_amt hlo n)]
 have e : decide (p = x.c.rep) = t := by
  rw [Bool.eq_iff_iff, decide_eq_true_eq, ht, hY, hxy]
  constructor
  ·intro h; rw [h]
  ·intro h; exact congrArg HCall.rep h
 rw [e]
theorem range_at {n i z : Nat} {o : List Nat} (ho : o = List.range n) (hz : o[i]? = some z) : z = i := by
 subst ho
 have hl := (List.getElem?_eq_some_iff.1 hz).1
 rw [List.length_range] at hl
 rw [List.getElem?_range hl] at hz
 exact (Option.some.inj hz).symm
section
open Go.ChangeShapes Go.WideShapes Go.ChangeAt Go.Deep
variable {H : Type} {enc : TypeId × Value → H} {P : Program} {w : World} {base : Nat} {spare : Nat → Bool} {held : Bool}
theorem open_replyW {e r t0 t1 t2 : TypeId} {fs rs : Array Field} {v : Value} {d : DataW H} {pl : List MemPlace} (he : P.underlying e = some (.struct fs)) (hC : P.cellsOf e = 3)
  (k0 : fieldAt? P fs 0 = some (0, 1, t0)) (k1 : fieldAt? P fs 1 = some (1, 1, t1)) (k2 : fieldAt? P fs 2 = some (2, 1, t2)) (u0 : P.underlying t0 = some (.int .i64)) (u1 : P.underlying t1 = some (.int .i64)) (u2 : P.underlying t2 = some (.slice r))
  (hr : P.underlying r = some (.struct rs)) (hrone : oneCellFields P rs = true) (hrC : P.cellsOf r = rs.size) (hr2 : rs.size = 2) (hrb : P.bytesOf r = 24)
  (j0 : fieldOf? P rs 0 = some .string) (j1 : fieldOf? P rs 1 = some (.int .i64)) (hv : Value.okWide P w .any 0 e v) (hz : ∀ k ∈ d.weights P e, k ≤ reachBytes) (h : DataW.Trod enc P w base spare held e v d pl) :
  ∃ (p : ReplyM) (A : Option Addr) (c : Nat), v = agg [i64 p.why, i64 p.amount, .slice A p.rows.length c] ∧ RdR w (.slice A p.rows.length c) p.rows ∧ p.rows.length * 24 ≤ 140737488351232 := by
 obtain ⟨cs0, rfl, hs⟩ := okWide_struct he hv
 obtain ⟨m, h⟩ := h
 have hl : cs0.toList.length = 3 := by rw [Array.length_toList, hs, hC]
 have h : DataW.trod enc P w base spare held m e cs0.toList = some (d, pl) := h
 obtain ⟨p, A, c, hpk, ep, hpR, hpz⟩ := dec_reply he k0 k1 k2 u0 u1 u2 hr hrone hrC hr2 hrb j0 j1 hl hz h
 exact ⟨p, A, c, by unfold agg; rw [← ep], hpR, hpz⟩
end
end Go.Q
namespace Go.Proofs.YtnbcghbgeiocbaaDoor
open Go.Q Go.RowKit
set_option maxHeartbeats 4000000 in
theorem Serial_calls (w : World) (OA : Option Addr) (oc : Nat) (l : List Opm) (a1 : Int) (p : ReplyM) (RA : Option Addr) (rc : Nat) (hL : RdT w 7 Opm.cells (.slice OA l.length oc) l) (hLo : ∀ x ∈ l, x.Ok) (hPR : RdR w (Value.slice RA p.rows.length rc) p.rows) (hPz : p.rows.length * 24 ≤ 140737488351232) : Calls Tryd.prog 4 ⟨[(Value.slice OA l.length oc), (i64 a1), (agg [(i64 p.why), (i64 p.amount), (Value.slice RA p.rows.length rc)])]⟩ w (fun e w' => e = .returned (.bool true) ∧ Keeps none_ w w') := by
 have hcap := RdT.len Opm.seven (by decide) hL
 have K0 : Keeps none_ w w := Keeps.refl w
 refine q_calls Tryd.func4 (by kernel_rfl) (by kernel_rfl) ?_
 refine qsg ?_
 refine onew (rowL [(i64 p.why), (i64 p.amount), (Value.slice RA p.rows.length rc)] 28) (fun b => (ptr b)) 5 (fun b => rfl) (fun b1 w2 hb3 H4 K5 hs6 => ?_)
 have nb1 : w.heap.size ≤ b1 := by have := K0.size; omega
 replace K0 := K0.t0 K5
 clear K5 hs6
 refine ogd 1 [(0, .slice OA l.length oc), (1, i64 a1), (5, ptr b1), (6, .bool false)] ?_
 refine qsg ?_
 refine og 1 [(1, i64 a1), (5, ptr b1), (6, .bool false), (16, .slice OA l.length oc)] 1 ?_
 refine ocQ 17 (one_calls _ OA oc l 8 (Rd.keep0 (by decide) hL K0) hLo (by decide)) ?_
 rintro _ w12 ⟨o7, OA8, oc9, T10, rfl, K11, hO13, hR14, hT15, hTV16, hm17, hoz18⟩
 have ob20 : ∀ i, ((Value.slice OA8 o7.length oc9)).ownBlock = some i → i ≠ b1 := fun i hi => by have := (World.ownsRow.lt hO13 i hi).1; have := H4.lt; omega
 have O19 := own_base hO13 K0.size
 refine ⟨_, _, rfl, rfl, ?_⟩
 replace K0 := K0.t0 K11
 replace H4 := H4.kn K11
 have hol : o7.length = (l.take 8).length := by have := congrArg List.length hm17; simpa only [List.length_map, oneA_len] using this
 rw [List.length_take] at hol
 refine ogd 1 [(1, i64 a1), (5, ptr b1), (6, .bool false), (7, .slice OA8 o7.length oc9)] ?_
 refine qsg ?_
 refine og 1 [(1, i64 a1), (5, ptr b1), (6, .bool false), (7, .slice OA8 o7.length oc9), (19, .slice OA8 o7.length oc9)] 1 ?_
 refine ocQ 20 (given_calls _ OA8 oc9 o7 (OwnT.rd O19) (fun y hy => ⟨hR14.1 y hy, by have := hoz18 y hy; omega⟩) (by omega)) ?_
 rintro _ w26 ⟨o21, OA22, oc23, T24, rfl, K25, hO27, hR28, h29, h30, hm31⟩
 refine ⟨_, _, rfl, rfl, ?_⟩
 replace K0 := K0.t0 K25
 replace H4 := H4.kn K25
 replace O19 := own_keep0 O19 K25
 replace hR14 := RowsE.keep hR14 K25 (fun _ _ h => h)
 have hx33 := OwnT.rd hO27
 have hz32 : o21.length = o7.length := by have := congrArg List.length hm31; simpa only [List.length_map] using this
 refine ocQ 21 (Order_calls _ OA22 oc23 o21 T24 hx33 hR28 (map_all (P := (fun c : HCall => -9223372036854775808 ≤ c.op.amount ∧ c.op.amount ≤ 9223372036854775807)) hm31 (one_amtO hLo hm17)) (by omega)) ?_
 rintro _ w40 ⟨o34, A35, c36, ok37, why38, rfl, K39, hR41, hE42⟩
 obtain ⟨ho45, e43⟩ := Prod.mk.inj (hE42.trans (serial_fin (by decide) hm17 hm31))
 obtain ⟨rfl, rfl⟩ := Prod.mk.inj e43
 have hlx46 : o34.length = o7.length := by rw [ho45, List.length_range]
 refine ⟨_, _, rfl, rfl, ?_⟩
 replace K0 := K0.t0 K39
 replace H4 := H4.kn K39
 replace O19 := own_keep0 O19 K39
 replace hR14 := RowsE.keep hR14 K39 (fun _ _ h => h)
 refine ogd 7 [(1, i64 a1), (5, ptr b1), (6, .bool false), (7, .slice OA8 o7.length oc9), (8, .slice A35 o34.length c36), (9, .bool true), (10, i64 0)] ?_
 refine qs ?_
 refine qsg ?_
 refine ogd 13 [(1, i64 a1), (5, ptr b1), (6, .bool false), (7, .slice OA8 o7.length oc9), (8, .slice A35 o34.length c36), (37, (Value.bool (((o34.length : Nat) : Int) != ((o7.length : Nat) : Int))))] ?_
 have h47 : (((o34.length : Nat) : Int) != ((o7.length : Nat) : Int)) = false := by rw [hlx46]; simp
 rw [h47]
 refine q_else (o := .tmp 37) (by kernel_rfl) rfl ?_
 refine qkQ ?_
 refine qs ?_
 refine qsg ?_
 refine ogd 1 [(1, i64 a1), (5, ptr b1), (6, .bool false), (7, .slice OA8 o7.length oc9), (8, .slice A35 o34.length c36), (11, i64 0)] ?_
 refine q_block (id := 0) (by kernel_rfl) ?_
 refine q_keep (R := [(1, i64 a1), (5, ptr b1), (7, .slice OA8 o7.length oc9), (8, .slice A35 o34.length c36), (11, i64 0)]) (by kernel_rfl) ?_
 refine q_loop (fun (ii : Nat) L (wx : World) => L = [(1, (i64 a1)), (5, (ptr b1)), (7, (Value.slice OA8 o7.length oc9)), (8, (Value.slice A35 o34.length c36)), (11, (i64 ((ii : Nat) : Int)))] ∧ OwnT wx w.heap.size 30 13 HC.cells ((Value.slice OA8 o7.length oc9)) o7 ∧ (∀ i, ((Value.slice OA8 o7.length oc9)).ownBlock = some i → i ≠ b1) ∧ RowsE wx HC.rv HC.rows T10 o7 ∧ RdT wx 1 iN (Value.slice A35 o34.length c36) o34 ∧ ii ≤ o34.length ∧ Keeps none_ w wx ∧ Has wx b1 (rowL [(i64 p.why), (i64 p.amount), (Value.slice RA p.rows.length rc)] 28)) (fun (ii : Nat) => o34.length - ii) 0 (by kernel_rfl) ⟨rfl, O19, ob20, hR14, hR41, Nat.zero_le _, K0, H4⟩ ?_
 clear H4 O19 hR14 hx33 hR28 hR41 K0
 rintro ii _ w48 ⟨rfl, hOV, obVb1, hRT9, hXR, hi, K49, H50⟩
 refine qs ?_
 refine qsg ?_
 refine ogd 4 [(1, i64 a1), (5, ptr b1), (7, .slice OA8 o7.length oc9), (8, .slice A35 o34.length c36), (11, i64 ↑ii), (41, (Value.bool (decide (((ii : Nat) : Int) < ((o34.length : Nat) : Int)))))] ?_
 refine qcQ 41 (decide (((ii : Nat) : Int) < ((o34.length : Nat) : Int))) rfl (fun h51 => ?_) (fun h51 => ?_)
 ·rw [h51]
  have p52 := of_decide_eq_true h51
  obtain ⟨rb53, ro54, z, hA55, hx56⟩ := RdT.open hXR rfl (k := ii) (by omega)
  have hzi : z = ii := range_at ho45 hx56
  refine qkQ ?_
  refine qs ?_
  refine q_block (id := 1) (by kernel_rfl) ?_
  refine qsg ?_
  refine og 2 [(1, i64 a1), (5, ptr b1), (7, .slice OA8 o7.length oc9), (8, .slice A35 o34.length c36), (11, i64 ↑ii), (44, .slice A35 o34.length c36), (45, i64 ↑ii)] 2 ?_
  refine Ops.go (by kernel_rfl) (Runs.ixSliceE (k := IntKind.i64) (t := 35) (len := o34.length) (cap := c36) (s := 1) (off' := ro54 + ii) (i := ((ii : Nat) : Int)) hA55 (by kernel_rfl) (by kernel_rfl) (by omega) (by omega) (by omega)) (d := (some 46)) (by kernel_rfl) rfl ?_
  refine ogo (i64 ((z : Nat) : Int)) 47 (Runs.load (t := 3) (a := ⟨rb53, ro54 + ii, none⟩) (by kernel_rfl) (RdT.ldu (f := iN) (x := z) iN_one hXR (by kernel_rfl) hA55 hx56 rfl)) rfl ?_
  refine ogd 2 [(1, i64 a1), (5, ptr b1), (7, .slice OA8 o7.length oc9), (8, .slice A35 o34.length c36), (11, i64 ↑ii), (49, (Value.bool (((z : Nat) : Int) != ((ii : Nat) : Int))))] ?_
  have h57 : (((z : Nat) : Int) != ((ii : Nat) : Int)) = false := by rw [hzi]; simp
  rw [h57]
  refine q_else (o := .tmp 49) (by kernel_rfl) rfl ?_
  refine qkQ ?_
  refine qg ?_
  refine og 2 [(1, i64 a1), (5, ptr b1), (7, .slice OA8 o7.length oc9), (8, .slice A35 o34.length c36), (11, i64 ↑ii), (43, (i64 (IntKind.i64.wrap (((ii : Nat) : Int) + 1))))] 2 ?_
  rw [show IntKind.i64.wrap (((ii : Nat) : Int) + 1) = ((ii + 1 : Nat) : Int) from by rw [wrap_i64 (by omega) (by omega)]; omega]
  refine og 1 [(1, i64 a1), (5, ptr b1), (7, .slice OA8 o7.length oc9), (8, .slice A35 o34.length c36), (11, i64 ↑(ii + 1))] 3 ?_
  refine ok_ [(1, i64 a1), (5, ptr b1), (7, .slice OA8 o7.length oc9), (8, .slice A35 o34.length c36), (11, i64 ↑(ii + 1))] ?_
  refine od ?_
  exact ⟨ii + 1, ⟨rfl, hOV, obVb1, hRT9, hXR, (by omega), K49, H50⟩, (show o34.length - (ii + 1) < o34.length - ii from by omega)⟩
 ·rw [h51]
  have p59 := of_decide_eq_false h51
  refine q_exit (id := 0) (by kernel_rfl) ?_
  refine qs ?_
  refine qsg ?_
  refine og 3 [(1, i64 a1), (5, ptr b1), (7, .slice OA8 o7.length oc9), (52, (Value.bool (decide (a1 < 0))))] 3 ?_
  refine Ops.split (decide (a1 < 0)) (fun h60 => ?_) (fun h60 => ?_)
  ·rw [h60]
   have p61 := of_decide_eq_true h60
   refine ogd 10 [(1, i64 a1), (5, ptr b1), (7, .slice OA8 o7.length oc9), (62, .bool true)] ?_
   refine q_then (o := .tmp 62) (by kernel_rfl) rfl ?_
   refine qsg ?_
   refine ocQ 63 (known_calls _) ?_
   rintro _ w63 ⟨rfl, K62⟩
   refine ⟨_, _, rfl, rfl, ?_⟩
   replace K49 := K49.trans K62 (U := none_) (fun i h1 h2 => h2) (fun i h1 h2 => by exact h2)
   refine ogd 1 [(1, i64 a1), (5, ptr b1), (6, .bool true), (7, .slice OA8 o7.length oc9)] ?_
   refine qtQ ?_
   refine ⟨(Value.bool true), retv_tmp rfl rfl, ?_⟩
   exact ⟨rfl, K49⟩
  ·rw [h60]
   have p64 := of_decide_eq_false h60
   refine og 6 [(1, i64 a1), (5, ptr b1), (7, .slice OA8 o7.length oc9), (58, (Value.bool (decide (a1 ≥ ((o7.length : Nat) : Int)))))] 9 ?_
   refine Ops.split (decide (a1 ≥ ((o7.length : Nat) : Int))) (fun h65 => ?_) (fun h65 => ?_)
   ·rw [h65]
    have p66 := of_decide_eq_true h65
    refine ogd 4 [(1, i64 a1), (5, ptr b1), (7, .slice OA8 o7.length oc9), (62, .bool true)] ?_
    refine q_then (o := .tmp 62) (by kernel_rfl) rfl ?_
    refine qsg ?_
    refine ocQ 63 (known_calls _) ?_
    rintro _ w68 ⟨rfl, K67⟩
    refine ⟨_, _, rfl, rfl, ?_⟩
    replace K49 := K49.trans K67 (U := none_) (fun i h1 h2 => h2) (fun i h1 h2 => by exact h2)
    refine ogd 1 [(1, i64 a1), (5, ptr b1), (6, .bool true), (7, .slice OA8 o7.length oc9)] ?_
    refine qtQ ?_
    refine ⟨(Value.bool true), retv_tmp rfl rfl, ?_⟩
    exact ⟨rfl, K49⟩
   ·rw [h65]
    have p69 := of_decide_eq_false h65
    refine og 1 [(1, i64 a1), (5, ptr b1), (7, .slice OA8 o7.length oc9), (58, .bool false), (59, ptr b1)] 10 ?_
    refine ogo (i64 p.why) 60 (rld 25 b1 0 H50) rfl ?_
    refine ogd 2 [(1, i64 a1), (5, ptr b1), (7, .slice OA8 o7.length oc9), (62, .bool (p.why == 50))] ?_
    refine qcQ 62 (p.why == 50) rfl (fun h70 => ?_) (fun h70 => ?_)
    ·rw [h70]
     have p71 := of_beq_t h70
     refine qsg ?_
     refine ocQ 63 (known_calls _) ?_
     rintro _ w73 ⟨rfl, K72⟩
     refine ⟨_, _, rfl, rfl, ?_⟩
     replace K49 := K49.trans K72 (U := none_) (fun i h1 h2 => h2) (fun i h1 h2 => by exact h2)
     refine ogd 1 [(1, i64 a1), (5, ptr b1), (6, .bool true), (7, .slice OA8 o7.length oc9)] ?_
     refine qtQ ?_
     refine ⟨(Value.bool true), retv_tmp rfl rfl, ?_⟩
     exact ⟨rfl, K49⟩
    ·rw [h70]
     have p74 := of_beq_f h70
     have hpw : p.why ≠ 50 := by omega
     obtain ⟨wn, rfl⟩ : ∃ n : Nat, a1 = ((n : Nat) : Int) := ⟨a1.toNat, by omega⟩
     refine qkQ ?_
     refine qsg ?_
     refine og 1 [(1, i64 ↑wn), (5, ptr b1), (7, .slice OA8 o7.length oc9), (64, .slice OA8 o7.length oc9)] 1 ?_
     refine ocQ 65 (Lent_calls _ OA8 oc9 o7 (OwnT.rd hOV) (fun y hy => ⟨hRT9.1 y hy, by have := hoz18 y hy; omega⟩) (by omega)) ?_
     rintro _ w80 ⟨o75, OA76, oc77, T78, rfl, K79, hO81, hR82, hT83, hTV84, hm85⟩
     have ob88 : ∀ i, ((Value.slice OA76 o75.length oc77)).ownBlock = some i → i ≠ b1 := fun i hi => by have := (World.ownsRow.lt hO81 i hi).1; have := H50.lt; omega
     have oo89 : ∀ i, ((Value.slice OA8 o7.length oc9)).ownBlock = some i → ((Value.slice OA76 o75.length oc77)).ownBlock = some i → False := fun i hi hs => by have := (World.ownsRow.lt hO81 i hs).1; have := (World.ownsRow.lt hOV i hi).2; omega
     have oo90 : ∀ i, ((Value.slice OA76 o75.length oc77)).ownBlock = some i → ((Value.slice OA8 o7.length oc9)).ownBlock = some i → False := fun i hi hs => oo89 i hs hi
     have O86 := own_base hO81 (K49.size)
     have oo91 : ∀ i, ((Value.slice OA76 o75.length oc77)).ownBlock = some i → T10 i → False := fun i hs hi => by have := (World.ownsRow.lt hO81 i hs).1; have := RowsE.lt hRT9 i hi; omega
     refine ⟨_, _, rfl, rfl, ?_⟩
     replace K49 := K49.trans K79 (U := none_) (fun i h1 h2 => h2) (fun i h1 h2 => by exact h2)
     replace H50 := H50.kn K79
     replace hOV := own_keep0 hOV K79
     replace hRT9 := RowsE.keep hRT9 K79 (fun _ _ h => h)
     have hz87 : o75.length = o7.length := by have := congrArg List.length hm85; simpa only [List.length_map] using this
     refine ogd 1 [(1, i64 ↑wn), (5, ptr b1), (7, .slice OA8 o7.length oc9), (12, .slice OA76 o75.length oc77)] ?_
     refine qsg ?_
     refine og 2 [(1, i64 ↑wn), (5, ptr b1), (7, .slice OA8 o7.length oc9), (12, .slice OA76 o75.length oc77), (66, .slice OA76 o75.length oc77), (67, i64 ↑wn)] 2 ?_
     refine ogo (agg [(i64 p.why), (i64 p.amount), (Value.slice RA p.rows.length rc)]) 68 (rld 28 b1 0 H50) rfl ?_
     obtain ⟨y, hy⟩ : ∃ y, o75[wn]? = some y := ⟨_, List.getElem?_eq_getElem (by omega)⟩
     obtain ⟨gb, pre, suf, hA, hgb, hp, HX0, hput⟩ := OwnT.mid HC.two (by decide) hy O86
     have ngb : w.heap.size ≤ gb := hgb
     have HX : Has w80 gb (rowL (pre ++ (HC.cells y) ++ suf) 30) := HX0
     have Hgl := HX.lt
     have dgbb1 : gb ≠ b1 := ob88 gb (by rw [hA]; rfl)
     have hTg_T10 : ∀ i, T10 i → i ≠ gb := fun i hi q => oo91 gb (by rw [hA]; rfl) (q ▸ hi)
     have hTg_T78 : ∀ i, T78 i → i ≠ gb := fun i hi q => hTV84 gb (by rw [hA]; rfl) (q ▸ hi)
     have hCg : ∀ i, ((Value.slice OA8 o7.length oc9)).ownBlock = some i → i ≠ gb := fun i hi q => oo90 gb (by rw [hA]; rfl) (q ▸ hi)
     refine Ops.go (by kernel_rfl) (Runs.ixSliceE (k := IntKind.i64) (t := 22) (len := o75.length) (cap := oc77) (s := 13) (off' := wn * 13) (i := ((wn : Nat) : Int)) hA (by kernel_rfl) (by kernel_rfl) (by omega) (by omega) (by omega)) (d := (some 69)) (by kernel_rfl) rfl ?_
     refine og 1 [(1, i64 ↑wn), (7, .slice OA8 o7.length oc9), (12, .slice OA76 o75.length oc77), (68, (agg [(i64 p.why), (i64 p.amount), (Value.slice RA p.rows.length rc)])), (70, .pointer (some ⟨gb, wn * 13 + 10, none⟩))] 5 ?_
     refine Ops.put (t := 28) (b := gb) (off := wn * 13 + 10) (v := (agg [(i64 p.why), (i64 p.amount), (Value.slice RA p.rows.length rc)])) (ys := (pre ++ [(i64 y.c.op.kind), (Value.string (str y.c.op.frm)), (Value.string (str y.c.op.to)), (i64 y.c.op.amount), (Value.string (str y.c.op.key)), (i64 y.c.op.slot), (i64 y.c.op.shard), (i64 y.c.bg), (i64 y.c.en), (Value.bool y.c.told), (i64 p.why), (i64 p.amount), (Value.slice RA p.rows.length rc)] ++ suf)) (by kernel_rfl) (by kernel_rfl) HX (storeCN (vs := [(i64 p.why), (i64 p.amount), (Value.slice RA p.rows.length rc)]) (by kernel_rfl) (by kernel_rfl) (mid_len (k := 10) (by have := hp; omega) (Nat.le_of_ble_eq_true (by kernel_rfl))) (mid_setN (k := 10) (by have := hp; omega) (Nat.le_of_ble_eq_true (by kernel_rfl)))) (d := none) (by kernel_rfl) rfl (fun w92 H93 K94 => ?_)
     clear HX
     replace K49 := K49.trans K94 (U := none_) (fun i h1 h2 => h2) (fun i h1 h2 => by have h2 : i = gb := h2; exfalso; omega)
     replace hOV := own_keep hOV K94 (fun i hi => by have := hCg i hi; omega)
     replace hRT9 := RowsE.keep hRT9 K94 (fun i hi hs => by have hs : i = gb := hs; have := hTg_T10 i hi; omega)
     clear hXR
     replace hR82 := RowsE.keep hR82 K94 (fun i hi hs => by have hs : i = gb := hs; have := hTg_T78 i hi; omega)
     refine od ?_
     refine qs ?_
     refine q_drawS 10 (by kernel_rfl) (by kernel_rfl) (by kernel_rfl) (fun w95 K96 _ _ => ?_)
     replace K49 := K49.trans K96 (U := none_) (fun i h1 h2 => h2) (fun i h1 h2 => by exact h2)
     replace H93 := H93.kn K96
     replace hOV := own_keep0 hOV K96
     replace hRT9 := RowsE.keep hRT9 K96 (fun _ _ h => h)
     replace hR82 := RowsE.keep hR82 K96 (fun _ _ h => h)
     have Kb97 : Keeps none_ w95 w95 := Keeps.refl w95
     refine ⟨fun wz => Keeps none_ w95 wz, [], (SH.nil Kb97), ?_⟩
     refine skQ 8 [0, 1] [(1, i64 ↑wn), (7, .slice OA8 o7.length oc9), (12, .slice OA76 o75.length oc77), (71, .slice OA76 o75.length oc77), (72, i64 ↑wn)] ?_
     refine stQ 2 (Value.pointer (some ⟨gb, wn * 13, none⟩)) 73 (fun wz hS => Runs.ixSliceE (k := IntKind.i64) (t := 22) (len := o75.length) (cap := oc77) (s := 13) (off' := wn * 13) (i := ((wn : Nat) : Int)) hA (by kernel_rfl) (by kernel_rfl) (by omega) (by omega) (by omega)) rfl ?_
     refine stQ 3 (agg [(i64 y.c.op.kind), (Value.string (str y.c.op.frm)), (Value.string (str y.c.op.to)), (i64 y.c.op.amount), (Value.string (str y.c.op.key)), (i64 y.c.op.slot), (i64 y.c.op.shard), (i64 y.c.bg), (i64 y.c.en), (Value.bool y.c.told), (i64 p.why), (i64 p.amount), (Value.slice RA p.rows.length rc)]) 74 (fun wz hS => Runs.load (t := 30) (a := ⟨gb, wn * 13, none⟩) (by kernel_rfl) ((H93.keep hS (fun h => h)).loads (loadCN (vs := [(i64 y.c.op.kind), (Value.string (str y.c.op.frm)), (Value.string (str y.c.op.to)), (i64 y.c.op.amount), (Value.string (str y.c.op.key)), (i64 y.c.op.slot), (i64 y.c.op.shard), (i64 y.c.bg), (i64 y.c.en), (Value.bool y.c.told), (i64 p.why), (i64 p.amount), (Value.slice RA p.rows.length rc)]) (by kernel_rfl) (by kernel_rfl) (midN (k := 0) (by have := hp; omega) (by kernel_rfl) (Nat.le_of_ble_eq_true (by kernel_rfl))) (mid_len (k := 0) (by have := hp; omega) (Nat.le_of_ble_eq_true (by kernel_rfl)))))) rfl ?_
     obtain ⟨x, hx⟩ : ∃ x, o7[wn]? = some x := ⟨_, List.getElem?_eq_getElem (by omega)⟩
     obtain ⟨rb98, ro99, hA100⟩ := Rd.addr (OwnT.rd hOV) (by omega)
     have hX101 : RdR w95 (Value.slice x.A x.c.rep.rows.length x.k) x.c.rep.rows := hRT9.1 x (List.mem_of_getElem? hx)
     refine skQ 4 [4, 5] [(12, .slice OA76 o75.length oc77), (74, (agg [(i64 y.c.op.kind), (Value.string (str y.c.op.frm)), (Value.string (str y.c.op.to)), (i64 y.c.op.amount), (Value.string (str y.c.op.key)), (i64 y.c.op.slot), (i64 y.c.op.shard), (i64 y.c.bg), (i64 y.c.en), (Value.bool y.c.told), (i64 p.why), (i64 p.amount), (Value.slice RA p.rows.length rc)])), (75, .slice OA8 o7.length oc9), (76, i64 ↑wn)] ?_
     refine stQ 6 (Value.pointer (some ⟨rb98, ro99 + wn * 13, none⟩)) 77 (fun wz hS => Runs.ixSliceE (k := IntKind.i64) (t := 22) (len := o7.length) (cap := oc9) (s := 13) (off' := ro99 + wn * 13) (i := ((wn : Nat) : Int)) hA100 (by kernel_rfl) (by kernel_rfl) (by omega) (by omega) (by omega)) rfl ?_
     refine stQ 7 (agg (HC.cells x)) 78 (fun wz hS => Runs.load (t := 30) (a := ⟨rb98, ro99 + wn * 13, none⟩) (by kernel_rfl) (RdT.ld (f := HC.cells) (x := x) HC.two (Rd.keep0 (by omega) (OwnT.rd hOV) hS) (by kernel_rfl) (by kernel_rfl) hA100 hx)) rfl ?_
     refine soQ 8 ?_
     refine Dr1.call (by kernel_rfl) (d := (some 79)) (by kernel_rfl) (SameC_calls _ (⟨⟨y.c.op, y.c.bg, y.c.en, y.c.told, p⟩, RA, rc⟩ : HC) x (Rd.keep0 (by omega) hPR K49) hX101) ?_
     rintro _ w104 ⟨t102, rfl, ht103, K105⟩
     replace K49 := K49.trans K105 (U := none_) (fun i h1 h2 => h2) (fun i h1 h2 => by exact h2)
     replace H93 := H93.kn K105
     replace hR82 := RowsE.keep hR82 K105 (fun _ _ h => h)
     have Kb106 := Kb97.trans K105 (U := none_) (fun _ _ h => h) (fun i h1 h2 => by exact h2.elim)
     refine ⟨_, _, rfl, rfl, (SH.nil Kb106), ?_⟩
     refine skQ 0 [9] [(12, .slice OA76 o75.length oc77), (13, .bool t102)] ?_
     refine DrS.done (by kernel_rfl) ?_
     refine qs ?_
     have hD107 : OwnT w104 w.heap.size 30 13 HC.cells ((Value.slice OA76 ((o75.set wn (⟨⟨y.c.op, y.c.bg, y.c.en, y.c.told, p⟩, RA, rc⟩ : HC)).length) oc77)) (o75.set wn (⟨⟨y.c.op, y.c.bg, y.c.en, y.c.told, p⟩, RA, rc⟩ : HC)) := by rw [List.length_set]; exact hput (⟨⟨y.c.op, y.c.bg, y.c.en, y.c.told, p⟩, RA, rc⟩ : HC) _ H93
     rw [show Value.slice OA76 o75.length oc77 = (Value.slice OA76 ((o75.set wn (⟨⟨y.c.op, y.c.bg, y.c.en, y.c.told, p⟩, RA, rc⟩ : HC)).length) oc77) from by rw [List.length_set]]
     refine qg ?_
     refine og 1 [(13, .bool t102), (81, (Value.slice OA76 ((o75.set wn (⟨⟨y.c.op, y.c.bg, y.c.en, y.c.told, p⟩, RA, rc⟩ : HC)).length) oc77))] 1 ?_
     refine ocQ 82 (given_calls _ OA76 oc77 (o75.set wn (⟨⟨y.c.op, y.c.bg, y.c.en, y.c.told, p⟩, RA, rc⟩ : HC)) (OwnT.rd hD107) (fun z hz => (List.mem_or_eq_of_mem_set hz).elim (fun h => ⟨hR82.1 z h, by have := (of_map (P := fun c => c.rep.rows.length ≤ 1000) (m := o7.map HC.c) hm85 (fun c hc => by obtain ⟨z, hz, rfl⟩ := List.mem_map.1 hc; exact hoz18 z hz)) z h; omega⟩) (fun h => by rw [h]; exact ⟨Rd.keep0 (by decide) hPR K49, hPz⟩)) (by rw [List.length_set]; omega)) ?_
     rintro _ w113 ⟨o108, OA109, oc110, T111, rfl, K112, hO114, hR115, h116, h117, hm118⟩
     refine ⟨_, _, rfl, rfl, ?_⟩
     replace K49 := K49.trans K112 (U := none_) (fun i h1 h2 => h2) (fun i h1 h2 => by exact h2)
     have hx120 := OwnT.rd hO114
     have hz119 : o108.length = (o75.set wn (⟨⟨y.c.op, y.c.bg, y.c.en, y.c.told, p⟩, RA, rc⟩ : HC)).length := by have := congrArg List.length hm118; simpa only [List.length_map] using this
     rw [List.length_set] at hz119
     refine ocQ 83 (Linear_calls _ OA109 oc110 o108 T111 hx120 hR115 (map_all (P := (fun c : HCall => -9223372036854775808 ≤ c.op.amount ∧ c.op.amount ≤ 9223372036854775807)) hm118 (fun z hz => (List.mem_or_eq_of_mem_set hz).elim (fun h => map_all (P := (fun c : HCall => -9223372036854775808 ≤ c.op.amount ∧ c.op.amount ≤ 9223372036854775807)) hm85 (one_amtO hLo hm17) z h) (fun h => by rw [h]; exact map_all (P := (fun c : HCall => -9223372036854775808 ≤ c.op.amount ∧ c.op.amount ≤ 9223372036854775807)) hm85 (one_amtO hLo hm17) y (List.mem_of_getElem? hy)))) (by omega)) ?_
     rintro _ w124 ⟨ok121, why122, rfl, K123, hE125⟩
     have e126 := Prod.mk.inj (hE125.trans (other_fin (Y := (⟨⟨y.c.op, y.c.bg, y.c.en, y.c.told, p⟩, RA, rc⟩ : HC)) hLo (by decide) hm17 hm85 hx hy rfl hm118 hpw ht103))
     obtain ⟨hot, rfl⟩ := e126
     refine ⟨_, _, rfl, rfl, ?_⟩
     replace K49 := K49.trans K123 (U := none_) (fun i h1 h2 => h2) (fun i h1 h2 => by exact h2)
     refine ogd 5 [(13, .bool t102), (14, .bool ok121), (15, i64 0)] ?_
     refine qsg ?_
     refine og 5 [(88, .bool true), (89, .bool ok121), (90, .bool t102)] 5 ?_
     refine Ops.split ok121 (fun h127 => ?_) (fun h127 => ?_)
     ·rw [h127]
      have p128 : ok121 = true := h127
      have h129 : t102 = true := hot.symm.trans h127
      rw [h129]
      refine og 3 [(93, .bool true)] 8 ?_
      refine ocQ 94 (known_calls _) ?_
      rintro _ w131 ⟨rfl, K130⟩
      refine ⟨_, _, rfl, rfl, ?_⟩
      replace K49 := K49.trans K130 (U := none_) (fun i h1 h2 => h2) (fun i h1 h2 => by exact h2)
      refine ogd 2 [(6, .bool true)] ?_
      refine qtQ ?_
      refine ⟨(Value.bool true), retv_tmp rfl rfl, ?_⟩
      exact ⟨rfl, K49⟩
     ·rw [h127]
      have p132 : ok121 = false := h127
      have h133 : t102 = false := hot.symm.trans h127
      rw [h133]
      refine og 3 [(93, .bool true)] 8 ?_
      refine ocQ 94 (known_calls _) ?_
      rintro _ w135 ⟨rfl, K134⟩
      refine ⟨_, _, rfl, rfl, ?_⟩
      replace K49 := K49.trans K134 (U := none_) (fun i h1 h2 => h2) (fun i h1 h2 => by exact h2)
      refine ogd 2 [(6, .bool true)] ?_
      refine qtQ ?_
      refine ⟨(Value.bool true), retv_tmp rfl rfl, ?_⟩
      exact ⟨rfl, K49⟩
end Go.Proofs.YtnbcghbgeiocbaaDoor
namespace Go.Q
open Go.ChangeShapes Go.WideShapes Go.ChangeAt Go.RowKit Go.Deep
variable {H : Type} {enc : TypeId × Value → H} {P : Program} {w : World} {spare : Nat → Bool} {held : Bool}
theorem open_ops {t e : TypeId} {fs : Array Field} {v : Value} {d : DataW H} {ps : List MemPlace} (ht : P.underlying t = some (.slice e)) (he : P.underlying e = some (.struct fs)) (hone : oneCellFields P fs = true) (hC : P.cellsOf e = fs.size) (h7 : fs.size = 7)
  (k0 : fieldOf? P fs 0 = some (.int .i64)) (k1 : fieldOf? P fs 1 = some .string) (k2 : fieldOf? P fs 2 = some .string) (k3 : fieldOf? P fs 3 = some (.int .i64)) (k4 : fieldOf? P fs 4 = some .string) (k5 : fieldOf? P fs 5 = some (.int .i64)) (k6 : fieldOf? P fs 6 = some (.int .i64))
  (hv : Value.okWide P w .any 0 t v) (h : DataW.Trod enc P w 0 spare held t v d ps) : ∃ (l : List Opm) (A : Option Addr) (c : Nat), v = .slice A l.length c ∧ RdT w 7 Opm.cells (.slice A l.length c) l ∧ ∀ x ∈ l, x.Ok := by
 obtain ⟨fuel, h⟩ := trod_fuel h (slice_form ht hv)
 obtain ⟨l, hR, hg, _, A, c, rfl⟩ := open_models Opm.cells Opm.Ok ht (sz := 7) (by rw [hC, h7]) (by decide) (slice_trod ht h) h fun m cs y hl h => dec_op he hone hC h7 k0 k1 k2 k3 k4 k5 k6 (hl.trans h7.symm) h
 exact ⟨l, A, c, rfl, hR, hg⟩
end Go.Q
