/- What the claim stands on, part 16: rules of the walk, contracts of the functions, plain laws. -/
import Derived.Test.YtnbcghbgeiocbaaDoorProg
import Derived.Test.YtnbcghbgeiocbaaDoorKHSound15
import Derived.Test.YtnbcghbgeiocbaaDoorKHSound8
import Derived.Test.YtnbcghbgeiocbaaDoorKHSound6
import Derived.Test.YtnbcghbgeiocbaaDoorKHSound11
import Derived.Test.YtnbcghbgeiocbaaDoorKHSound13
set_option linter.unusedVariables false
namespace Go.Proofs.YtnbcghbgeiocbaaDoor
open Go.Q Go.RowKit
set_option maxHeartbeats 4000000 in
theorem Order_calls (w : World) (LA : Option Addr) (lc : Nat) (l : List HC) (G : Nat → Prop) (hL : RdT w 13 HC.cells (Value.slice LA l.length lc) l) (hG : RowsE w HC.rv HC.rows G l) (ho : ∀ x ∈ l, -9223372036854775808 ≤ x.c.op.amount ∧ x.c.op.amount ≤ 9223372036854775807) (hl : l.length ≤ 2000) : Calls Tryd.prog 12 ⟨[(Value.slice LA l.length lc)]⟩ w (fun e w' => ∃ (o : List Nat) (A : Option Addr) (c : Nat) (ok : Bool) (why : Int), e = .returned (.tuple #[.slice A o.length c, .bool ok, i64 why]) ∧ Keeps none_ w w' ∧ RdT w' 1 iN (.slice A o.length c) o ∧ (o, ok, why) = orderH (l.map HC.c)) := by
 have K0 : Keeps none_ w w := Keeps.refl w
 refine qr_calls 11 Tryd.func12 (by kernel_rfl) (by kernel_rfl) ?_
 refine rsg Open.wide ?_
 refine ogd 3 [(0, .slice LA l.length lc), (2, .slice none 0 0), (3, .bool false), (4, i64 0)] ?_
 refine rsg Open.wide ?_
 refine onew (rowL [(Value.slice none 0 0), (Value.slice none 0 0)] 68) (fun b => (ptr b)) 5 (fun b => rfl) (fun b1 w2 hb3 H4 K5 hs6 => ?_)
 have nb1 : w.heap.size ≤ b1 := by have := K0.size; omega
 replace K0 := K0.t0 K5
 clear K5 hs6
 refine od ?_
 refine rsg Open.wide ?_
 refine ocQ 16 (New_calls _) ?_
 rintro _ w10 ⟨b7, mb8, kb9, rfl, K11, H12, Hm13, Hk14, hb15, hb16, hb17, hb18, hb19, hb20⟩
 have lb7b1 : b1 < b7 := by have := H4.lt; omega
 have lmb8b1 : b1 < mb8 := by have := H4.lt; omega
 have lkb9b1 : b1 < kb9 := by have := H4.lt; omega
 have nb7 : w.heap.size ≤ b7 := by have := K0.size; omega
 have nmb8 : w.heap.size ≤ mb8 := by have := K0.size; omega
 have nkb9 : w.heap.size ≤ kb9 := by have := K0.size; omega
 refine ⟨_, _, rfl, rfl, ?_⟩
 replace K0 := K0.t0 K11
 replace H4 := H4.kn K11
 refine og 1 [(0, .slice LA l.length lc), (2, .slice none 0 0), (3, .bool false), (4, i64 0), (5, ptr b1), (17, (agg [(Value.slice none 0 0), (Value.int IntKind.u64 0), (i64 0), (ptr b7)]))] 2 ?_
 refine onew (rowL [(Value.slice none 0 0), (Value.int IntKind.u64 0), (i64 0), (Value.pointer none)] 73) (fun b => (ptr b)) 6 (fun b => rfl) (fun b21 w22 hb23 H24 K25 hs26 => ?_)
 have lb21b1 : b1 < b21 := by have := H4.lt; omega
 have lb21b7 : b7 < b21 := by have := H12.lt; omega
 have lb21mb8 : mb8 < b21 := by have := Hm13.lt; omega
 have lb21kb9 : kb9 < b21 := by have := Hk14.lt; omega
 have nb21 : w.heap.size ≤ b21 := by have := K0.size; omega
 replace K0 := K0.t0 K25
 replace H4 := H4.kn K25
 replace H12 := H12.kn K25
 replace Hm13 := Hm13.kn K25
 replace Hk14 := Hk14.kn K25
 clear K25 hs26
 refine oput 73 b21 [(Value.slice none 0 0), (Value.int IntKind.u64 0), (i64 0), (ptr b7)] H24 rfl (fun w27 H28 K29 => ?_)
 replace K0 := K0.trans K29 (U := none_) (fun i h1 h2 => h2) (fun i h1 h2 => by have h2 : i = b21 := h2; exfalso; omega)
 replace H4 := H4.k1 K29 (by omega)
 replace H12 := H12.k1 K29 (by omega)
 replace Hm13 := Hm13.k1 K29 (by omega)
 replace Hk14 := Hk14.k1 K29 (by omega)
 refine od ?_
 refine rsg Open.wide ?_
 refine ogd 1 [(0, .slice LA l.length lc), (2, .slice none 0 0), (3, .bool false), (4, i64 0), (5, ptr b1), (6, ptr b21), (7, i64 0)] ?_
 refine rsQ ?_
 refine rsg Open.wide ?_
 refine ogd 3 [(2, .slice none 0 0), (3, .bool false), (4, i64 0), (5, ptr b1), (6, ptr b21), (7, i64 0), (18, .slice LA l.length lc), (19, i64 ↑l.length), (20, i64 0)] ?_
 refine qr_block (id := 0) (by kernel_rfl) ?_
 refine qr_keep (R := [(2, .slice none 0 0), (3, .bool false), (4, i64 0), (5, ptr b1), (6, ptr b21), (7, i64 0), (18, .slice LA l.length lc), (19, i64 ↑l.length), (20, i64 0)]) (by kernel_rfl) ?_
 refine qr_loop (fun (gs : Nat × (Option Addr) × Nat × (List HC) × (Option Addr) × Nat × (List Nat) × Nat × Int) (ds : List Deferred) L (wx : World) => match gs with | (ii, A1, c1, LX, A2, c2, nu, n, why) => ds = [] ∧ L = [(2, (Value.slice none 0 0)), (3, (Value.bool false)), (4, (i64 0)), (5, (ptr b1)), (6, (ptr b21)), (7, (i64 why)), (18, (Value.slice LA l.length lc)), (19, (i64 ((l.length : Nat) : Int))), (20, (i64 ((ii : Nat) : Int)))] ∧ OwnT wx w.heap.size 43 13 HC.cells ((Value.slice A1 LX.length c1)) LX ∧ (∀ i, ((Value.slice A1 LX.length c1)).ownBlock = some i → i ≠ b1) ∧ (∀ i, ((Value.slice A1 LX.length c1)).ownBlock = some i → i ≠ b7) ∧ (∀ i, ((Value.slice A1 LX.length c1)).ownBlock = some i → i ≠ mb8) ∧ (∀ i, ((Value.slice A1 LX.length c1)).ownBlock = some i → i ≠ kb9) ∧ (∀ i, ((Value.slice A1 LX.length c1)).ownBlock = some i → i ≠ b21) ∧ (∀ i, ((Value.slice A2 nu.length c2)).ownBlock = some i → ((Value.slice A1 LX.length c1)).ownBlock = some i → False) ∧ OwnT wx w.heap.size 3 1 iN ((Value.slice A2 nu.length c2)) nu ∧ (∀ i, ((Value.slice A2 nu.length c2)).ownBlock = some i → i ≠ b1) ∧ (∀ i, ((Value.slice A2 nu.length c2)).ownBlock = some i → i ≠ b7) ∧ (∀ i, ((Value.slice A2 nu.length c2)).ownBlock = some i → i ≠ mb8) ∧ (∀ i, ((Value.slice A2 nu.length c2)).ownBlock = some i → i ≠ kb9) ∧ (∀ i, ((Value.slice A2 nu.length c2)).ownBlock = some i → i ≠ b21) ∧ (∀ i, ((Value.slice A1 LX.length c1)).ownBlock = some i → ((Value.slice A2 nu.length c2)).ownBlock = some i → False) ∧ XS LX nu = lookedH ((l.map HC.c).take ii) ∧ nu.length = LX.length ∧ (∀ z ∈ LX, z ∈ l) ∧ n = (XS LX nu).countP (fun c => c.1.told) ∧ (why = if (XS LX nu).any (fun c => badH c.1) = true then 1 else 0) ∧ ii ≤ l.length ∧ LX.length ≤ ii ∧ Keeps none_ w wx ∧ Has wx b1 (rowL [(Value.slice A1 LX.length c1), (Value.slice A2 nu.length c2)] 68) ∧ Has wx b7 (rowL [(Value.map (some mb8)), (Value.map (some kb9))] 110) ∧ HasMap wx mb8 kstr ki64 [] ∧ HasMap wx kb9 kpair keptv (([] : List KeptM).map KeptM.kv) ∧ Has wx b21 (rowL [(Value.slice none 0 0), (Value.int IntKind.u64 0), (i64 ((n : Nat) : Int)), (ptr b7)] 73)) (fun (gs : Nat × (Option Addr) × Nat × (List HC) × (Option Addr) × Nat × (List Nat) × Nat × Int) => match gs with | (ii, A1, c1, LX, A2, c2, nu, n, why) => l.length - ii) (0, none, 0, [], none, 0, [], 0, 0) (by kernel_rfl) ⟨rfl, rfl, (OwnT.nil _ _ _ _ _), (fun i hi => by cases hi), (fun i hi => by cases hi), (fun i hi => by cases hi), (fun i hi => by cases hi), (fun i hi => by cases hi), (fun _ _ h => by cases h), (OwnT.nil _ _ _ _ _), (fun i hi => by cases hi), (fun i hi => by cases hi), (fun i hi => by cases hi), (fun i hi => by cases hi), (fun i hi => by cases hi), (fun _ _ h => by cases h), rfl, rfl, (fun z hz => by cases hz), rfl, rfl, Nat.zero_le _, Nat.zero_le _, K0, H4, H12, Hm13, Hk14, H28⟩ ?_
 clear H4 H12 Hm13 Hk14 H28 K0
 rintro ⟨ii, A1, c1, LX, A2, c2, nu, n, why⟩ _ _ w30 ⟨rfl, rfl, hOP, obPb1, obPb7, obPmb8, obPkb9, obPb21, ooPQ, hOQ, obQb1, obQb7, obQmb8, obQkb9, obQb21, ooQP, hX, hnl, hsub, hn, hw, hi, hLl, K31, H32, H33, H34, H35, H36⟩
 have hnle : n ≤ LX.length := by rw [hn]; exact Nat.le_trans List.countP_le_length (by rw [xs_len hnl]; exact Nat.le_refl _)
 refine rsg Open.wide ?_
 refine ogd 1 [(2, .slice none 0 0), (3, .bool false), (4, i64 0), (5, ptr b1), (6, ptr b21), (7, i64 why), (18, .slice LA l.length lc), (19, i64 ↑l.length), (20, i64 ↑ii), (21, (Value.bool (decide (((ii : Nat) : Int) < ((l.length : Nat) : Int)))))] ?_
 refine rsQ ?_
 refine rcQ 21 (decide (((ii : Nat) : Int) < ((l.length : Nat) : Int))) rfl (fun h37 => ?_) (fun h37 => ?_)
 ·rw [h37]
  have p38 := of_decide_eq_true h37
  refine rkQ ?_
  refine rsQ ?_
  refine qr_block (id := 1) (by kernel_rfl) ?_
  refine rsg Open.wide ?_
  refine og 1 [(2, .slice none 0 0), (3, .bool false), (4, i64 0), (5, ptr b1), (6, ptr b21), (7, i64 why), (18, .slice LA l.length lc), (19, i64 ↑l.length), (20, i64 ↑ii), (22, i64 ↑ii)] 1 ?_
  obtain ⟨x, hx⟩ : ∃ x, l[ii]? = some x := ⟨_, List.getElem?_eq_getElem (by omega)⟩
  obtain ⟨rb39, ro40, hA41⟩ := Rd.addr (Rd.keep0 (by decide) hL K31) (by omega)
  refine Ops.go (by kernel_rfl) (Runs.ixSliceE (k := IntKind.i64) (t := 33) (len := l.length) (cap := lc) (s := 13) (off' := ro40 + ii * 13) (i := ((ii : Nat) : Int)) hA41 (by kernel_rfl) (by kernel_rfl) (by omega) (by omega) (by omega)) (d := (some 23)) (by kernel_rfl) rfl ?_
  refine ogo (agg (HC.cells x)) 24 (Runs.load (t := 43) (a := ⟨rb39, ro40 + ii * 13, none⟩) (by kernel_rfl) (RdT.ld (f := HC.cells) (x := x) HC.two (Rd.keep0 (by decide) hL K31) (by kernel_rfl) (by kernel_rfl) hA41 hx)) rfl ?_
  refine onew (rowL [(i64 0), (Value.string ByteArray.empty), (Value.string ByteArray.empty), (i64 0), (Value.string ByteArray.empty), (i64 0), (i64 0), (i64 0), (i64 0), (Value.bool false), (i64 0), (i64 0), (Value.slice none 0 0)] 43) (fun b => (ptr b)) 9 (fun b => rfl) (fun b42 w43 hb44 H45 K46 hs47 => ?_)
  have lb42b1 : b1 < b42 := by have := H32.lt; omega
  have lb42b7 : b7 < b42 := by have := H33.lt; omega
  have lb42mb8 : mb8 < b42 := by have := H34.lt; omega
  have lb42kb9 : kb9 < b42 := by have := H35.lt; omega
  have lb42b21 : b21 < b42 := by have := H36.lt; omega
  have nb42 : w.heap.size ≤ b42 := by have := K31.size; omega
  have ob48 : ∀ i, ((Value.slice A1 LX.length c1)).ownBlock = some i → i < b42 := fun i hi => by have := (World.ownsRow.lt hOP i hi).2; omega
  have ob49 : ∀ i, ((Value.slice A2 nu.length c2)).ownBlock = some i → i < b42 := fun i hi => by have := (World.ownsRow.lt hOQ i hi).2; omega
  replace K31 := K31.trans K46 (U := none_) (fun i h1 h2 => h2) (fun i h1 h2 => by exact h2)
  replace H32 := H32.kn K46
  replace H33 := H33.kn K46
  replace H34 := H34.kn K46
  replace H35 := H35.kn K46
  replace H36 := H36.kn K46
  replace hOP := own_keep0 hOP K46
  replace hOQ := own_keep0 hOQ K46
  clear K46 hs47
  refine og 1 [(2, .slice none 0 0), (3, .bool false), (4, i64 0), (5, ptr b1), (6, ptr b21), (7, i64 why), (8, i64 ↑ii), (9, ptr b42), (18, .slice LA l.length lc), (19, i64 ↑l.length), (20, i64 ↑ii), (24, (agg (HC.cells x)))] 5 ?_
  refine oput 43 b42 (HC.cells x) H45 rfl (fun w50 H51 K52 => ?_)
  replace K31 := K31.trans K52 (U := none_) (fun i h1 h2 => h2) (fun i h1 h2 => by have h2 : i = b42 := h2; exfalso; omega)
  replace H32 := H32.k1 K52 (by omega)
  replace H33 := H33.k1 K52 (by omega)
  replace H34 := H34.k1 K52 (by omega)
  replace H35 := H35.k1 K52 (by omega)
  replace H36 := H36.k1 K52 (by omega)
  replace hOP := own_keep hOP K52 (fun i hi => by have := ob48 i hi; omega)
  replace hOQ := own_keep hOQ K52 (fun i hi => by have := ob49 i hi; omega)
  refine od ?_
  refine rsQ ?_
  refine rsg Open.wide ?_
  refine ogo (agg (HC.cells x)) 25 (rld 43 b42 0 H51) rfl ?_
  refine ocQ 26 (countsP_calls _ x) ?_
  rintro _ w53 ⟨rfl, K54⟩
  refine ⟨_, _, rfl, rfl, ?_⟩
  replace K31 := K31.trans K54 (U := none_) (fun i h1 h2 => h2) (fun i h1 h2 => by exact h2)
  replace H32 := H32.kn K54
  replace H33 := H33.kn K54
  replace H34 := H34.kn K54
  replace H35 := H35.kn K54
  replace H36 := H36.kn K54
  replace H51 := H51.kn K54
  replace hOP := own_keep0 hOP K54
  replace hOQ := own_keep0 hOQ K54
  refine ogd 1 [(2, .slice none 0 0), (3, .bool false), (4, i64 0), (5, ptr b1), (6, ptr b21), (7, i64 why), (8, i64 ↑ii), (9, ptr b42), (18, .slice LA l.length lc), (19, i64 ↑l.length), (20, i64 ↑ii), (27, (Value.bool (!(countsH x.c))))] ?_
  refine rcQ 27 (!(countsH x.c)) rfl (fun h55 => ?_) (fun h55 => ?_)
  ·rw [h55]
   have p56 := bnot_true h55
   have hstep := looked_step (m := l.map HC.c) (i := ii) (c := x.c) (by rw [List.getElem?_map, hx]; rfl)
   have hcx : countsH x.c = false := (bnot_true h55)
   rw [hcx, if_neg (by decide), List.append_nil] at hstep
   refine qr_exit (id := 1) (by kernel_rfl) ?_
   refine rgQ Open.wide ?_
   refine og 1 [(2, .slice none 0 0), (3, .bool false), (4, i64 0), (5, ptr b1), (6, ptr b21), (7, i64 why), (18, .slice LA l.length lc), (19, i64 ↑l.length), (20, i64 ↑ii), (51, (i64 (IntKind.i64.wrap (((ii : Nat) : Int) + 1))))] 1 ?_
   rw [show IntKind.i64.wrap (((ii : Nat) : Int) + 1) = ((ii + 1 : Nat) : Int) from by rw [wrap_i64 (by omega) (by omega)]; omega]
   refine og 1 [(2, .slice none 0 0), (3, .bool false), (4, i64 0), (5, ptr b1), (6, ptr b21), (7, i64 why), (18, .slice LA l.length lc), (19, i64 ↑l.length), (20, i64 ↑(ii + 1))] 2 ?_
   refine ok_ [(2, .slice none 0 0), (3, .bool false), (4, i64 0), (5, ptr b1), (6, ptr b21), (7, i64 why), (18, .slice LA l.length lc), (19, i64 ↑l.length), (20, i64 ↑(ii + 1))] ?_
   refine od ?_
   exact ⟨(ii + 1, A1, c1, LX, A2, c2, nu, n, why), ⟨rfl, rfl, hOP, obPb1, obPb7, obPmb8, obPkb9, obPb21, ooPQ, hOQ, obQb1, obQb7, obQmb8, obQkb9, obQb21, ooQP, (by rw [hstep]; exact hX), hnl, hsub, hn, hw, (by omega), (by omega), K31, H32, H33, H34, H35, H36⟩, (show l.length - (ii + 1) < l.length - ii from by omega)⟩
  ·rw [h55]
   have p58 := bnot_false h55
   have hstep := looked_step (m := l.map HC.c) (i := ii) (c := x.c) (by rw [List.getElem?_map, hx]; rfl)
   have hcx : countsH x.c = true := (bnot_false h55)
   rw [hcx, if_pos rfl] at hstep
   refine rkQ ?_
   refine rsQ ?_
   refine qr_drawS Open.wide 14 (by kernel_rfl) (by kernel_rfl) (by kernel_rfl) (by kernel_rfl) (fun w59 K60 _ _ => ?_)
   replace K31 := K31.trans K60 (U := none_) (fun i h1 h2 => h2) (fun i h1 h2 => by exact h2)
   replace H32 := H32.kn K60
   replace H33 := H33.kn K60
   replace H34 := H34.kn K60
   replace H35 := H35.kn K60
   replace H36 := H36.kn K60
   replace H51 := H51.kn K60
   replace hOP := own_keep0 hOP K60
   replace hOQ := own_keep0 hOQ K60
   have Kb61 : Keeps (fun i => i = b1 ∨ ((Value.slice A1 LX.length c1)).ownBlock = some i ∨ ((Value.slice A2 nu.length c2)).ownBlock = some i) w59 w59 := (Keeps.refl w59).mono (fun _ _ h => h.elim)
   refine ⟨fun wz => Keeps (fun i => i = b1 ∨ ((Value.slice A1 LX.length c1)).ownBlock = some i ∨ ((Value.slice A2 nu.length c2)).ownBlock = some i) w59 wz, [(11, fun wz => Loads Tryd.prog wz 33 ⟨b1, 0, none⟩ (Value.slice A1 LX.length c1)), (13, fun wz => Loads Tryd.prog wz 35 ⟨b1, 1, none⟩ (Value.slice A2 nu.length c2))], (SH.cons (SH.cons (SH.nil Kb61) (.inr (H32.loads (by kernel_rfl)))) (.inr (H32.loads (by kernel_rfl)))), ?_⟩
   refine skQ 13 [0] [(2, .slice none 0 0), (3, .bool false), (4, i64 0), (5, ptr b1), (6, ptr b21), (7, i64 why), (8, i64 ↑ii), (9, ptr b42), (18, .slice LA l.length lc), (19, i64 ↑l.length), (20, i64 ↑ii), (28, ptr b1)] ?_
   refine DrS.takeH (s := 11) (.head _) (i := 1) (v := (Value.slice A1 LX.length c1)) (by kernel_rfl) (by kernel_rfl) (by kernel_rfl) (fun wz hB hp => Runs.load (t := 33) (a := ⟨b1, 0, none⟩) (by kernel_rfl) hp) (d := (some 29)) (by kernel_rfl) rfl ?_
   refine stQ 2 (agg (HC.cells x)) 30 (fun wz hS => rld 43 b42 0 (H51.keep hS (by intro h; change b42 = b1 ∨ ((Value.slice A1 LX.length c1)).ownBlock = some b42 ∨ ((Value.slice A2 nu.length c2)).ownBlock = some b42 at h; rcases h with h | h | h; (omega); (have := ob48 b42 h; omega); (have := ob49 b42 h; omega)))) rfl ?_
   refine skQ 10 [5] [(2, .slice none 0 0), (3, .bool false), (4, i64 0), (5, ptr b1), (6, ptr b21), (7, i64 why), (8, i64 ↑ii), (9, ptr b42), (18, .slice LA l.length lc), (19, i64 ↑l.length), (20, i64 ↑ii), (29, .slice A1 LX.length c1), (30, (agg (HC.cells x))), (33, .pointer (some ⟨b1, 1, none⟩))] ?_
   refine DrS.takeH (s := 13) (.tail _ (.head _)) (i := 6) (v := (Value.slice A2 nu.length c2)) (by kernel_rfl) (by kernel_rfl) (by kernel_rfl) (fun wz hB hp => Runs.load (t := 35) (a := ⟨b1, 1, none⟩) (by kernel_rfl) hp) (d := (some 34)) (by kernel_rfl) rfl ?_
   refine skQ 8 [7] [(2, .slice none 0 0), (3, .bool false), (4, i64 0), (5, ptr b1), (6, ptr b21), (7, i64 why), (9, ptr b42), (18, .slice LA l.length lc), (19, i64 ↑l.length), (20, i64 ↑ii), (29, .slice A1 LX.length c1), (30, (agg (HC.cells x))), (34, .slice A2 nu.length c2), (35, i64 ↑ii)] ?_
   refine DrS.two (i := 3) (j := 8) (by kernel_rfl) ?_ ?_
   ·skip
    refine Dr1.new (o := rowL (HC.cells x) 43) (V := fun b => (Value.slice (some ⟨b, 0, none⟩) 1 1)) (by kernel_rfl) (d := (some 31)) (by kernel_rfl) (fun b => rfl) (fun b62 w63 hb64 H65 K66 hs67 => ?_)
    have lb62b1 : b1 < b62 := by have := H32.lt; omega
    have lb62b7 : b7 < b62 := by have := H33.lt; omega
    have lb62mb8 : mb8 < b62 := by have := H34.lt; omega
    have lb62kb9 : kb9 < b62 := by have := H35.lt; omega
    have lb62b21 : b21 < b62 := by have := H36.lt; omega
    have lb62b42 : b42 < b62 := by have := H51.lt; omega
    have nb62 : w.heap.size ≤ b62 := by have := K31.size; omega
    have ob68 : ∀ i, ((Value.slice A1 LX.length c1)).ownBlock = some i → i < b62 := fun i hi => by have := (World.ownsRow.lt hOP i hi).2; omega
    have xb62 : w59.heap.size ≤ b62 := by have := Kb61.size; omega
    replace K31 := K31.trans K66 (U := none_) (fun i h1 h2 => h2) (fun i h1 h2 => by exact h2)
    replace H32 := H32.kn K66
    replace H33 := H33.kn K66
    replace H34 := H34.kn K66
    replace H35 := H35.kn K66
    replace H36 := H36.kn K66
    replace H51 := H51.kn K66
    replace hOP := own_keep0 hOP K66
    replace hOQ := own_keep0 hOQ K66
    have Kb70 := Kb61.trans K66 (U := (fun i => i = b1 ∨ ((Value.slice A1 LX.length c1)).ownBlock = some i ∨ ((Value.slice A2 nu.length c2)).ownBlock = some i)) (fun _ _ h => h) (fun i h1 h2 => by exact h2.elim)
    refine ⟨(SH.cons (SH.cons (SH.nil Kb70) (.inr (H32.loads (by kernel_rfl)))) (.inr (H32.loads (by kernel_rfl)))), ?_⟩
    clear K66 hs67
    refine DrS.two (i := 4) (j := 8) (by kernel_rfl) ?_ ?_
    ·skip
     obtain ⟨v71, w72, hr73, hO74, hK75, hg76⟩ := OwnT.app (ty := 33) HC.two HC.one tyH hOP (show RdT _ 13 HC.cells _ [x] from Rd.lit H65 (n := 1) rfl (by decide)) (by simp only [List.length_cons, List.length_nil]; omega) (by simp only [List.length_cons, List.length_nil]; omega) K31.size
     obtain ⟨A78, c79, rfl⟩ := RdT.form HC.two (by decide) (OwnT.rd hO74)
     have ob80 : ∀ i, ((Value.slice A78 ((LX ++ [x]).length) c79)).ownBlock = some i → i ≠ b1 := fun i hi => by rcases hg76 i hi with h | h; (have := obPb1 i h; omega); (have := H32.lt; omega)
     have ob81 : ∀ i, ((Value.slice A78 ((LX ++ [x]).length) c79)).ownBlock = some i → i ≠ b7 := fun i hi => by rcases hg76 i hi with h | h; (have := obPb7 i h; omega); (have := H33.lt; omega)
     have ob82 : ∀ i, ((Value.slice A78 ((LX ++ [x]).length) c79)).ownBlock = some i → i ≠ mb8 := fun i hi => by rcases hg76 i hi with h | h; (have := obPmb8 i h; omega); (have := H34.lt; omega)
     have ob83 : ∀ i, ((Value.slice A78 ((LX ++ [x]).length) c79)).ownBlock = some i → i ≠ kb9 := fun i hi => by rcases hg76 i hi with h | h; (have := obPkb9 i h; omega); (have := H35.lt; omega)
     have ob84 : ∀ i, ((Value.slice A78 ((LX ++ [x]).length) c79)).ownBlock = some i → i ≠ b21 := fun i hi => by rcases hg76 i hi with h | h; (have := obPb21 i h; omega); (have := H36.lt; omega)
     have oo87 : ∀ i, ((Value.slice A2 nu.length c2)).ownBlock = some i → ((Value.slice A78 ((LX ++ [x]).length) c79)).ownBlock = some i → False := fun i hi hs => by rcases hg76 i hs with h | h; (exact ooPQ i hi h); (have := (World.ownsRow.lt hOQ i hi).2; omega)
     have oo88 : ∀ i, ((Value.slice A78 ((LX ++ [x]).length) c79)).ownBlock = some i → ((Value.slice A2 nu.length c2)).ownBlock = some i → False := fun i hi hs => oo87 i hs hi
     have K77 := hK75
     replace K31 := K31.trans K77 (U := none_) (fun i h1 h2 => h2) (fun i h1 h2 => by have h2 : ((Value.slice A1 LX.length c1)).ownBlock = some i := h2; exfalso; have := (World.ownsRow.lt hOP i h2).1; omega)
     replace H32 := H32.keep K77 (by intro h; change ((Value.slice A1 LX.length c1)).ownBlock = some b1 at h; have := obPb1 b1 h; omega)
     replace H33 := H33.keep K77 (by intro h; change ((Value.slice A1 LX.length c1)).ownBlock = some b7 at h; have := obPb7 b7 h; omega)
     replace H34 := H34.keep K77 (by intro h; change ((Value.slice A1 LX.length c1)).ownBlock = some mb8 at h; have := obPmb8 mb8 h; omega)
     replace H35 := H35.keep K77 (by intro h; change ((Value.slice A1 LX.length c1)).ownBlock = some kb9 at h; have := obPkb9 kb9 h; omega)
     replace H36 := H36.keep K77 (by intro h; change ((Value.slice A1 LX.length c1)).ownBlock = some b21 at h; have := obPb21 b21 h; omega)
     replace H51 := H51.keep K77 (by intro h; change ((Value.slice A1 LX.length c1)).ownBlock = some b42 at h; have := ob48 b42 h; omega)
     replace H65 := H65.keep K77 (by intro h; change ((Value.slice A1 LX.length c1)).ownBlock = some b62 at h; have := ob68 b62 h; omega)
     clear hOP
     replace hOQ := own_keep hOQ K77 (fun i hi hs => by have hs : ((Value.slice A1 LX.length c1)).ownBlock = some i := hs; exact ooPQ i hi hs)
     have Kb89 := Kb70.trans K77 (U := (fun i => i = b1 ∨ ((Value.slice A1 LX.length c1)).ownBlock = some i ∨ ((Value.slice A2 nu.length c2)).ownBlock = some i)) (fun _ _ h => h) (fun i h1 h2 => by have h2 : ((Value.slice A1 LX.length c1)).ownBlock = some i := h2; exact .inr (.inl h2))
     refine Dr1.go (v := (Value.slice A78 ((LX ++ [x]).length) c79)) (by kernel_rfl) (Runs.append (ts := #[33, 33]) (ty := 33) (vs := [(Value.slice A1 LX.length c1), (Value.slice (some ⟨b62, 0, none⟩) 1 1)]) (by kernel_rfl) hr73) (d := (some 32)) (by kernel_rfl) rfl (SH.cons (SH.cons (SH.nil Kb89) (.inr (H32.loads (by kernel_rfl)))) (.inr (H32.loads (by kernel_rfl)))) ?_
     clear K77 hr73 hK75 hg76
     refine skQ 5 [10] [(2, .slice none 0 0), (3, .bool false), (4, i64 0), (5, ptr b1), (6, ptr b21), (7, i64 why), (9, ptr b42), (18, .slice LA l.length lc), (19, i64 ↑l.length), (20, i64 ↑ii), (32, (Value.slice A78 ((LX ++ [x]).length) c79)), (34, .slice A2 nu.length c2), (35, i64 ↑ii), (38, ptr b1)] ?_
     refine soQ 8 ?_
     refine Dr1.new (o := rowL [(i64 ((ii : Nat) : Int))] 3) (V := fun b => (Value.slice (some ⟨b, 0, none⟩) 1 1)) (by kernel_rfl) (d := (some 36)) (by kernel_rfl) (fun b => rfl) (fun b90 w91 hb92 H93 K94 hs95 => ?_)
     have lb90b1 : b1 < b90 := by have := H32.lt; omega
     have lb90b7 : b7 < b90 := by have := H33.lt; omega
     have lb90mb8 : mb8 < b90 := by have := H34.lt; omega
     have lb90kb9 : kb9 < b90 := by have := H35.lt; omega
     have lb90b21 : b21 < b90 := by have := H36.lt; omega
     have lb90b42 : b42 < b90 := by have := H51.lt; omega
     have lb90b62 : b62 < b90 := by have := H65.lt; omega
     have nb90 : w.heap.size ≤ b90 := by have := K31.size; omega
     have xb90 : w59.heap.size ≤ b90 := by have := Kb89.size; omega
     replace K31 := K31.trans K94 (U := none_) (fun i h1 h2 => h2) (fun i h1 h2 => by exact h2)
     replace H32 := H32.kn K94
     replace H33 := H33.kn K94
     replace H34 := H34.kn K94
     replace H35 := H35.kn K94
     replace H36 := H36.kn K94
     replace H51 := H51.kn K94
     replace hOQ := own_keep0 hOQ K94
     replace hO74 := own_keep0 hO74 K94
     have Kb98 := Kb89.trans K94 (U := (fun i => i = b1 ∨ ((Value.slice A1 LX.length c1)).ownBlock = some i ∨ ((Value.slice A2 nu.length c2)).ownBlock = some i)) (fun _ _ h => h) (fun i h1 h2 => by exact h2.elim)
     refine ⟨(SH.cons (SH.cons (SH.nil Kb98) (.inr (H32.loads (by kernel_rfl)))) (.inr (H32.loads (by kernel_rfl)))), ?_⟩
     clear K94 hs95
     refine soQ 9 ?_
     obtain ⟨v99, w100, hr101, hO102, hK103, hg104⟩ := OwnT.app (ty := 35) iN_one iN_cells tyI hOQ (show RdT _ 1 iN _ [ii] from Rd.lit H93 (n := 1) rfl (by decide)) (by simp only [List.length_cons, List.length_nil]; omega) (by simp only [List.length_cons, List.length_nil]; omega) K31.size
     obtain ⟨A106, c107, rfl⟩ := RdT.form iN_one (by decide) (OwnT.rd hO102)
     have ob108 : ∀ i, ((Value.slice A106 ((nu ++ [ii]).length) c107)).ownBlock = some i → i ≠ b1 := fun i hi => by rcases hg104 i hi with h | h; (have := obQb1 i h; omega); (have := H32.lt; omega)
     have ob109 : ∀ i, ((Value.slice A106 ((nu ++ [ii]).length) c107)).ownBlock = some i → i ≠ b7 := fun i hi => by rcases hg104 i hi with h | h; (have := obQb7 i h; omega); (have := H33.lt; omega)
     have ob110 : ∀ i, ((Value.slice A106 ((nu ++ [ii]).length) c107)).ownBlock = some i → i ≠ mb8 := fun i hi => by rcases hg104 i hi with h | h; (have := obQmb8 i h; omega); (have := H34.lt; omega)
     have ob111 : ∀ i, ((Value.slice A106 ((nu ++ [ii]).length) c107)).ownBlock = some i → i ≠ kb9 := fun i hi => by rcases hg104 i hi with h | h; (have := obQkb9 i h; omega); (have := H35.lt; omega)
     have ob112 : ∀ i, ((Value.slice A106 ((nu ++ [ii]).length) c107)).ownBlock = some i → i ≠ b21 := fun i hi => by rcases hg104 i hi with h | h; (have := obQb21 i h; omega); (have := H36.lt; omega)
     have oo116 : ∀ i, ((Value.slice A78 ((LX ++ [x]).length) c79)).ownBlock = some i → ((Value.slice A106 ((nu ++ [ii]).length) c107)).ownBlock = some i → False := fun i hi hs => by rcases hg104 i hs with h | h; (exact oo88 i hi h); (have := (World.ownsRow.lt hO74 i hi).2; omega)
     have oo117 : ∀ i, ((Value.slice A106 ((nu ++ [ii]).length) c107)).ownBlock = some i → ((Value.slice A78 ((LX ++ [x]).length) c79)).ownBlock = some i → False := fun i hi hs => oo116 i hs hi
     have K105 := hK103
     replace K31 := K31.trans K105 (U := none_) (fun i h1 h2 => h2) (fun i h1 h2 => by have h2 : ((Value.slice A2 nu.length c2)).ownBlock = some i := h2; exfalso; have := (World.ownsRow.lt hOQ i h2).1; omega)
     replace H32 := H32.keep K105 (by intro h; change ((Value.slice A2 nu.length c2)).ownBlock = some b1 at h; have := obQb1 b1 h; omega)
     replace H33 := H33.keep K105 (by intro h; change ((Value.slice A2 nu.length c2)).ownBlock = some b7 at h; have := obQb7 b7 h; omega)
     replace H34 := H34.keep K105 (by intro h; change ((Value.slice A2 nu.length c2)).ownBlock = some mb8 at h; have := obQmb8 mb8 h; omega)
     replace H35 := H35.keep K105 (by intro h; change ((Value.slice A2 nu.length c2)).ownBlock = some kb9 at h; have := obQkb9 kb9 h; omega)
     replace H36 := H36.keep K105 (by intro h; change ((Value.slice A2 nu.length c2)).ownBlock = some b21 at h; have := obQb21 b21 h; omega)
     replace H51 := H51.keep K105 (by intro h; change ((Value.slice A2 nu.length c2)).ownBlock = some b42 at h; have := ob49 b42 h; omega)
     clear hOQ
     replace hO74 := own_keep hO74 K105 (fun i hi hs => by have hs : ((Value.slice A2 nu.length c2)).ownBlock = some i := hs; exact oo88 i hi hs)
     have Kb118 := Kb98.trans K105 (U := (fun i => i = b1 ∨ ((Value.slice A1 LX.length c1)).ownBlock = some i ∨ ((Value.slice A2 nu.length c2)).ownBlock = some i)) (fun _ _ h => h) (fun i h1 h2 => by have h2 : ((Value.slice A2 nu.length c2)).ownBlock = some i := h2; exact .inr (.inr (h2)))
     refine Dr1.go (v := (Value.slice A106 ((nu ++ [ii]).length) c107)) (by kernel_rfl) (Runs.append (ts := #[35, 35]) (ty := 35) (vs := [(Value.slice A2 nu.length c2), (Value.slice (some ⟨b90, 0, none⟩) 1 1)]) (by kernel_rfl) hr101) (d := (some 37)) (by kernel_rfl) rfl (SH.cons (SH.cons (SH.nil Kb118) (.inr (H32.loads (by kernel_rfl)))) (.inr (H32.loads (by kernel_rfl)))) ?_
     clear K105 hr101 hK103 hg104
     refine soQ 11 ?_
     refine Dr1.put (t := 33) (b := b1) (off := 0) (v := (Value.slice A78 ((LX ++ [x]).length) c79)) (ys := [(Value.slice A78 ((LX ++ [x]).length) c79), (Value.slice A2 nu.length c2)]) (by kernel_rfl) (by kernel_rfl) H32 (by kernel_rfl) (d := none) (by kernel_rfl) rfl (fun w119 H120 K121 => ?_)
     replace K31 := K31.trans K121 (U := none_) (fun i h1 h2 => h2) (fun i h1 h2 => by have h2 : i = b1 := h2; exfalso; omega)
     replace H33 := H33.k1 K121 (by omega)
     replace H34 := H34.k1 K121 (by omega)
     replace H35 := H35.k1 K121 (by omega)
     replace H36 := H36.k1 K121 (by omega)
     replace H51 := H51.k1 K121 (by omega)
     replace hO74 := own_keep hO74 K121 (fun i hi => by have := ob80 i hi; omega)
     replace hO102 := own_keep hO102 K121 (fun i hi => by have := ob108 i hi; omega)
     have Kb122 := Kb118.trans K121 (U := (fun i => i = b1 ∨ ((Value.slice A1 LX.length c1)).ownBlock = some i ∨ ((Value.slice A2 nu.length c2)).ownBlock = some i)) (fun _ _ h => h) (fun i h1 h2 => by have h2 : i = b1 := h2; exact .inl h2)
     refine ⟨(SH.cons (SH.cons (SH.nil Kb122) (.inr (H120.loads (by kernel_rfl)))) (.inl (by kernel_rfl))), ?_⟩
     refine skQ 1 [12] [(2, .slice none 0 0), (3, .bool false), (4, i64 0), (5, ptr b1), (6, ptr b21), (7, i64 why), (9, ptr b42), (18, .slice LA l.length lc), (19, i64 ↑l.length), (20, i64 ↑ii), (37, (Value.slice A106 ((nu ++ [ii]).length) c107)), (39, .pointer (some ⟨b1, 1, none⟩))] ?_
     refine soQ 13 ?_
     refine Dr1.put (t := 35) (b := b1) (off := 1) (v := (Value.slice A106 ((nu ++ [ii]).length) c107)) (ys := [(Value.slice A78 ((LX ++ [x]).length) c79), (Value.slice A106 ((nu ++ [ii]).length) c107)]) (by kernel_rfl) (by kernel_rfl) H120 (by kernel_rfl) (d := none) (by kernel_rfl) rfl (fun w123 H124 K125 => ?_)
     replace K31 := K31.trans K125 (U := none_) (fun i h1 h2 => h2) (fun i h1 h2 => by have h2 : i = b1 := h2; exfalso; omega)
     replace H33 := H33.k1 K125 (by omega)
     replace H34 := H34.k1 K125 (by omega)
     replace H35 := H35.k1 K125 (by omega)
     replace H36 := H36.k1 K125 (by omega)
     replace H51 := H51.k1 K125 (by omega)
     replace hO74 := own_keep hO74 K125 (fun i hi => by have := ob80 i hi; omega)
     replace hO102 := own_keep hO102 K125 (fun i hi => by have := ob108 i hi; omega)
     have Kb126 := Kb122.trans K125 (U := (fun i => i = b1 ∨ ((Value.slice A1 LX.length c1)).ownBlock = some i ∨ ((Value.slice A2 nu.length c2)).ownBlock = some i)) (fun _ _ h => h) (fun i h1 h2 => by have h2 : i = b1 := h2; exact .inl h2)
     refine ⟨(SH.cons (SH.cons (SH.nil Kb126) (.inl (by kernel_rfl))) (.inl (by kernel_rfl))), ?_⟩
     refine DrS.done (by kernel_rfl) ?_
     refine rsg Open.wide ?_
     refine og 1 [(2, .slice none 0 0), (3, .bool false), (4, i64 0), (5, ptr b1), (6, ptr b21), (7, i64 why), (9, ptr b42), (18, .slice LA l.length lc), (19, i64 ↑l.length), (20, i64 ↑ii), (40, .pointer (some ⟨b42, 9, none⟩))] 1 ?_
     refine ogo (Value.bool x.c.told) 41 (rld 4 b42 9 H51) rfl ?_
     refine od ?_
     refine rcQ 41 x.c.told rfl (fun h127 => ?_) (fun h127 => ?_)
     ·rw [h127]
      have p128 : x.c.told = true := h127
      refine rsg Open.wide ?_
      refine og 1 [(2, .slice none 0 0), (3, .bool false), (4, i64 0), (5, ptr b1), (6, ptr b21), (7, i64 why), (9, ptr b42), (18, .slice LA l.length lc), (19, i64 ↑l.length), (20, i64 ↑ii), (42, .pointer (some ⟨b21, 2, none⟩))] 1 ?_
      refine ogo (i64 ((n : Nat) : Int)) 43 (rld 3 b21 2 H36) rfl ?_
      refine og 1 [(2, .slice none 0 0), (3, .bool false), (4, i64 0), (5, ptr b1), (6, ptr b21), (7, i64 why), (9, ptr b42), (18, .slice LA l.length lc), (19, i64 ↑l.length), (20, i64 ↑ii), (44, (i64 (IntKind.i64.wrap (((n : Nat) : Int) + 1))))] 3 ?_
      rw [show IntKind.i64.wrap (((n : Nat) : Int) + 1) = ((n + 1 : Nat) : Int) from by rw [wrap_i64 (by omega) (by omega)]; omega]
      refine og 1 [(2, .slice none 0 0), (3, .bool false), (4, i64 0), (5, ptr b1), (6, ptr b21), (7, i64 why), (9, ptr b42), (18, .slice LA l.length lc), (19, i64 ↑l.length), (20, i64 ↑ii), (44, i64 ↑(n + 1)), (45, .pointer (some ⟨b21, 2, none⟩))] 4 ?_
      refine Ops.put (t := 3) (b := b21) (off := 2) (v := (i64 ((n + 1 : Nat) : Int))) (ys := [(Value.slice none 0 0), (Value.int IntKind.u64 0), (i64 ((n + 1 : Nat) : Int)), (ptr b7)]) (by kernel_rfl) (by kernel_rfl) H36 (by kernel_rfl) (d := none) (by kernel_rfl) rfl (fun w130 H131 K132 => ?_)
      replace K31 := K31.trans K132 (U := none_) (fun i h1 h2 => h2) (fun i h1 h2 => by have h2 : i = b21 := h2; exfalso; omega)
      replace H124 := H124.k1 K132 (by omega)
      replace H33 := H33.k1 K132 (by omega)
      replace H34 := H34.k1 K132 (by omega)
      replace H35 := H35.k1 K132 (by omega)
      replace H51 := H51.k1 K132 (by omega)
      replace hO74 := own_keep hO74 K132 (fun i hi => by have := ob84 i hi; omega)
      replace hO102 := own_keep hO102 K132 (fun i hi => by have := ob112 i hi; omega)
      refine od ?_
      refine rsg Open.wide ?_
      refine og 1 [(2, .slice none 0 0), (3, .bool false), (4, i64 0), (5, ptr b1), (6, ptr b21), (7, i64 why), (9, ptr b42), (18, .slice LA l.length lc), (19, i64 ↑l.length), (20, i64 ↑ii), (46, .pointer (some ⟨b42, 8, none⟩))] 1 ?_
      refine ogo (i64 x.c.en) 47 (rld 3 b42 8 H51) rfl ?_
      refine og 1 [(2, .slice none 0 0), (3, .bool false), (4, i64 0), (5, ptr b1), (6, ptr b21), (7, i64 why), (18, .slice LA l.length lc), (19, i64 ↑l.length), (20, i64 ↑ii), (47, i64 x.c.en), (48, .pointer (some ⟨b42, 7, none⟩))] 3 ?_
      refine ogo (i64 x.c.bg) 49 (rld 3 b42 7 H51) rfl ?_
      refine ogd 1 [(2, .slice none 0 0), (3, .bool false), (4, i64 0), (5, ptr b1), (6, ptr b21), (7, i64 why), (18, .slice LA l.length lc), (19, i64 ↑l.length), (20, i64 ↑ii), (50, (Value.bool (decide (x.c.en < x.c.bg))))] ?_
      refine rcQ 50 (decide (x.c.en < x.c.bg)) rfl (fun h133 => ?_) (fun h133 => ?_)
      ·rw [h133]
       have p134 := of_decide_eq_true h133
       have hbx : badH x.c = true := by unfold badH; rw [h127, decide_eq_true (by omega)]; rfl
       refine rgQ Open.wide ?_
       refine ogd 1 [(2, .slice none 0 0), (3, .bool false), (4, i64 0), (5, ptr b1), (6, ptr b21), (7, i64 1), (18, .slice LA l.length lc), (19, i64 ↑l.length), (20, i64 ↑ii)] ?_
       refine rgQ Open.wide ?_
       refine og 1 [(2, .slice none 0 0), (3, .bool false), (4, i64 0), (5, ptr b1), (6, ptr b21), (7, i64 1), (18, .slice LA l.length lc), (19, i64 ↑l.length), (20, i64 ↑ii), (51, (i64 (IntKind.i64.wrap (((ii : Nat) : Int) + 1))))] 1 ?_
       rw [show IntKind.i64.wrap (((ii : Nat) : Int) + 1) = ((ii + 1 : Nat) : Int) from by rw [wrap_i64 (by omega) (by omega)]; omega]
       refine og 1 [(2, .slice none 0 0), (3, .bool false), (4, i64 0), (5, ptr b1), (6, ptr b21), (7, i64 1), (18, .slice LA l.length lc), (19, i64 ↑l.length), (20, i64 ↑(ii + 1))] 2 ?_
       refine ok_ [(2, .slice none 0 0), (3, .bool false), (4, i64 0), (5, ptr b1), (6, ptr b21), (7, i64 1), (18, .slice LA l.length lc), (19, i64 ↑l.length), (20, i64 ↑(ii + 1))] ?_
       refine od ?_
       exact ⟨(ii + 1, A78, c79, (LX ++ [x]), A106, c107, (nu ++ [ii]), n + 1, 1), ⟨rfl, rfl, hO74, ob80, ob81, ob82, ob83, ob84, oo117, hO102, ob108, ob109, ob110, ob111, ob112, oo116, (by rw [xs_snoc hnl, hstep, hX]), (by rw [List.length_append, List.length_append, hnl]; rfl), (fun z hz => by rcases List.mem_append.1 hz with hz | hz; exact hsub z hz; rw [List.mem_singleton.1 hz]; exact List.mem_of_getElem? hx), (by rw [xs_snoc hnl, left_snoc, if_pos h127, ← hn]), (by rw [xs_snoc hnl, any_snoc, hbx, Bool.or_true]; rfl), (by omega), (by rw [List.length_append]; have : ([x] : List HC).length = 1 := rfl; omega), K31, H124, H33, H34, H35, H131⟩, (show l.length - (ii + 1) < l.length - ii from by omega)⟩
      ·rw [h133]
       have p136 := of_decide_eq_false h133
       have hbx : badH x.c = false := by unfold badH; rw [h127, decide_eq_false (by omega)]; rfl
       refine rkQ ?_
       refine rgQ Open.wide ?_
       refine og 1 [(2, .slice none 0 0), (3, .bool false), (4, i64 0), (5, ptr b1), (6, ptr b21), (7, i64 why), (18, .slice LA l.length lc), (19, i64 ↑l.length), (20, i64 ↑ii), (51, (i64 (IntKind.i64.wrap (((ii : Nat) : Int) + 1))))] 1 ?_
       rw [show IntKind.i64.wrap (((ii : Nat) : Int) + 1) = ((ii + 1 : Nat) : Int) from by rw [wrap_i64 (by omega) (by omega)]; omega]
       refine og 1 [(2, .slice none 0 0), (3, .bool false), (4, i64 0), (5, ptr b1), (6, ptr b21), (7, i64 why), (18, .slice LA l.length lc), (19, i64 ↑l.length), (20, i64 ↑(ii + 1))] 2 ?_
       refine ok_ [(2, .slice none 0 0), (3, .bool false), (4, i64 0), (5, ptr b1), (6, ptr b21), (7, i64 why), (18, .slice LA l.length lc), (19, i64 ↑l.length), (20, i64 ↑(ii + 1))] ?_
       refine od ?_
       exact ⟨(ii + 1, A78, c79, (LX ++ [x]), A106, c107, (nu ++ [ii]), n + 1, why), ⟨rfl, rfl, hO74, ob80, ob81, ob82, ob83, ob84, oo117, hO102, ob108, ob109, ob110, ob111, ob112, oo116, (by rw [xs_snoc hnl, hstep, hX]), (by rw [List.length_append, List.length_append, hnl]; rfl), (fun z hz => by rcases List.mem_append.1 hz with hz | hz; exact hsub z hz; rw [List.mem_singleton.1 hz]; exact List.mem_of_getElem? hx), (by rw [xs_snoc hnl, left_snoc, if_pos h127, ← hn]), (by rw [xs_snoc hnl, any_snoc, hbx, Bool.or_false]; exact hw), (by omega), (by rw [List.length_append]; have : ([x] : List HC).length = 1 := rfl; omega), K31, H124, H33, H34, H35, H131⟩, (show l.length - (ii + 1) < l.length - ii from by omega)⟩
     ·rw [h127]
      have p138 : x.c.told = false := h127
      have hbx : badH x.c = false := by unfold badH; rw [h127]; rfl
      refine rkQ ?_
      refine rgQ Open.wide ?_
      refine og 1 [(2, .slice none 0 0), (3, .bool false), (4, i64 0), (5, ptr b1), (6, ptr b21), (7, i64 why), (18, .slice LA l.length lc), (19, i64 ↑l.length), (20, i64 ↑ii), (51, (i64 (IntKind.i64.wrap (((ii : Nat) : Int) + 1))))] 1 ?_
      rw [show IntKind.i64.wrap (((ii : Nat) : Int) + 1) = ((ii + 1 : Nat) : Int) from by rw [wrap_i64 (by omega) (by omega)]; omega]
      refine og 1 [(2, .slice none 0 0), (3, .bool false), (4, i64 0), (5, ptr b1), (6, ptr b21), (7, i64 why), (18, .slice LA l.length lc), (19, i64 ↑l.length), (20, i64 ↑(ii + 1))] 2 ?_
      refine ok_ [(2, .slice none 0 0), (3, .bool false), (4, i64 0), (5, ptr b1), (6, ptr b21), (7, i64 why), (18, .slice LA l.length lc), (19, i64 ↑l.length), (20, i64 ↑(ii + 1))] ?_
      refine od ?_
      exact ⟨(ii + 1, A78, c79, (LX ++ [x]), A106, c107, (nu ++ [ii]), n, why), ⟨rfl, rfl, hO74, ob80, ob81, ob82, ob83, ob84, oo117, hO102, ob108, ob109, ob110, ob111, ob112, oo116, (by rw [xs_snoc hnl, hstep, hX]), (by rw [List.length_append, List.length_append, hnl]; rfl), (fun z hz => by rcases List.mem_append.1 hz with hz | hz; exact hsub z hz; rw [List.mem_singleton.1 hz]; exact List.mem_of_getElem? hx), (by rw [xs_snoc hnl, left_snoc, if_neg (by rw [h127]; decide), ← hn]; exact (Nat.add_zero n).symm), (by rw [xs_snoc hnl, any_snoc, hbx, Bool.or_false]; exact hw), (by omega), (by rw [List.length_append]; have : ([x] : List HC).length = 1 := rfl; omega), K31, H124, H33, H34, H35, H36⟩, (show l.length - (ii + 1) < l.length - ii from by omega)⟩
    ·skip
     refine Dr1.new (o := rowL [(i64 ((ii : Nat) : Int))] 3) (V := fun b => (Value.slice (some ⟨b, 0, none⟩) 1 1)) (by kernel_rfl) (d := (some 36)) (by kernel_rfl) (fun b => rfl) (fun b140 w141 hb142 H143 K144 hs145 => ?_)
     have lb140b1 : b1 < b140 := by have := H32.lt; omega
     have lb140b7 : b7 < b140 := by have := H33.lt; omega
     have lb140mb8 : mb8 < b140 := by have := H34.lt; omega
     have lb140kb9 : kb9 < b140 := by have := H35.lt; omega
     have lb140b21 : b21 < b140 := by have := H36.lt; omega
     have lb140b42 : b42 < b140 := by have := H51.lt; omega
     have lb140b62 : b62 < b140 := by have := H65.lt; omega
     have nb140 : w.heap.size ≤ b140 := by have := K31.size; omega
     have ob146 : ∀ i, ((Value.slice A1 LX.length c1)).ownBlock = some i → i < b140 := fun i hi => by have := (World.ownsRow.lt hOP i hi).2; omega
     have xb140 : w59.heap.size ≤ b140 := by have := Kb70.size; omega
     replace K31 := K31.trans K144 (U := none_) (fun i h1 h2 => h2) (fun i h1 h2 => by exact h2)
     replace H32 := H32.kn K144
     replace H33 := H33.kn K144
     replace H34 := H34.kn K144
     replace H35 := H35.kn K144
     replace H36 := H36.kn K144
     replace H51 := H51.kn K144
     replace H65 := H65.kn K144
     replace hOP := own_keep0 hOP K144
     replace hOQ := own_keep0 hOQ K144
     have Kb148 := Kb70.trans K144 (U := (fun i => i = b1 ∨ ((Value.slice A1 LX.length c1)).ownBlock = some i ∨ ((Value.slice A2 nu.length c2)).ownBlock = some i)) (fun _ _ h => h) (fun i h1 h2 => by exact h2.elim)
     refine ⟨(SH.cons (SH.cons (SH.nil Kb148) (.inr (H32.loads (by kernel_rfl)))) (.inr (H32.loads (by kernel_rfl)))), ?_⟩
     clear K144 hs145
     refine soQ 4 ?_
     obtain ⟨v149, w150, hr151, hO152, hK153, hg154⟩ := OwnT.app (ty := 33) HC.two HC.one tyH hOP (show RdT _ 13 HC.cells _ [x] from Rd.lit H65 (n := 1) rfl (by decide)) (by simp only [List.length_cons, List.length_nil]; omega) (by simp only [List.length_cons, List.length_nil]; omega) K31.size
     obtain ⟨A156, c157, rfl⟩ := RdT.form HC.two (by decide) (OwnT.rd hO152)
     have ob158 : ∀ i, ((Value.slice A156 ((LX ++ [x]).length) c157)).ownBlock = some i → i ≠ b1 := fun i hi => by rcases hg154 i hi with h | h; (have := obPb1 i h; omega); (have := H32.lt; omega)
     have ob159 : ∀ i, ((Value.slice A156 ((LX ++ [x]).length) c157)).ownBlock = some i → i ≠ b7 := fun i hi => by rcases hg154 i hi with h | h; (have := obPb7 i h; omega); (have := H33.lt; omega)
     have ob160 : ∀ i, ((Value.slice A156 ((LX ++ [x]).length) c157)).ownBlock = some i → i ≠ mb8 := fun i hi => by rcases hg154 i hi with h | h; (have := obPmb8 i h; omega); (have := H34.lt; omega)
     have ob161 : ∀ i, ((Value.slice A156 ((LX ++ [x]).length) c157)).ownBlock = some i → i ≠ kb9 := fun i hi => by rcases hg154 i hi with h | h; (have := obPkb9 i h; omega); (have := H35.lt; omega)
     have ob162 : ∀ i, ((Value.slice A156 ((LX ++ [x]).length) c157)).ownBlock = some i → i ≠ b21 := fun i hi => by rcases hg154 i hi with h | h; (have := obPb21 i h; omega); (have := H36.lt; omega)
     have oo166 : ∀ i, ((Value.slice A2 nu.length c2)).ownBlock = some i → ((Value.slice A156 ((LX ++ [x]).length) c157)).ownBlock = some i → False := fun i hi hs => by rcases hg154 i hs with h | h; (exact ooPQ i hi h); (have := (World.ownsRow.lt hOQ i hi).2; omega)
     have oo167 : ∀ i, ((Value.slice A156 ((LX ++ [x]).length) c157)).ownBlock = some i → ((Value.slice A2 nu.length c2)).ownBlock = some i → False := fun i hi hs => oo166 i hs hi
     have K155 := hK153
     replace K31 := K31.trans K155 (U := none_) (fun i h1 h2 => h2) (fun i h1 h2 => by have h2 : ((Value.slice A1 LX.length c1)).ownBlock = some i := h2; exfalso; have := (World.ownsRow.lt hOP i h2).1; omega)
     replace H32 := H32.keep K155 (by intro h; change ((Value.slice A1 LX.length c1)).ownBlock = some b1 at h; have := obPb1 b1 h; omega)
     replace H33 := H33.keep K155 (by intro h; change ((Value.slice A1 LX.length c1)).ownBlock = some b7 at h; have := obPb7 b7 h; omega)
     replace H34 := H34.keep K155 (by intro h; change ((Value.slice A1 LX.length c1)).ownBlock = some mb8 at h; have := obPmb8 mb8 h; omega)
     replace H35 := H35.keep K155 (by intro h; change ((Value.slice A1 LX.length c1)).ownBlock = some kb9 at h; have := obPkb9 kb9 h; omega)
     replace H36 := H36.keep K155 (by intro h; change ((Value.slice A1 LX.length c1)).ownBlock = some b21 at h; have := obPb21 b21 h; omega)
     replace H51 := H51.keep K155 (by intro h; change ((Value.slice A1 LX.length c1)).ownBlock = some b42 at h; have := ob48 b42 h; omega)
     replace H143 := H143.keep K155 (by intro h; change ((Value.slice A1 LX.length c1)).ownBlock = some b140 at h; have := ob146 b140 h; omega)
     clear hOP
     replace hOQ := own_keep hOQ K155 (fun i hi hs => by have hs : ((Value.slice A1 LX.length c1)).ownBlock = some i := hs; exact ooPQ i hi hs)
     have Kb168 := Kb148.trans K155 (U := (fun i => i = b1 ∨ ((Value.slice A1 LX.length c1)).ownBlock = some i ∨ ((Value.slice A2 nu.length c2)).ownBlock = some i)) (fun _ _ h => h) (fun i h1 h2 => by have h2 : ((Value.slice A1 LX.length c1)).ownBlock = some i := h2; exact .inr (.inl h2))
     refine Dr1.go (v := (Value.slice A156 ((LX ++ [x]).length) c157)) (by kernel_rfl) (Runs.append (ts := #[33, 33]) (ty := 33) (vs := [(Value.slice A1 LX.length c1), (Value.slice (some ⟨b62, 0, none⟩) 1 1)]) (by kernel_rfl) hr151) (d := (some 32)) (by kernel_rfl) rfl (SH.cons (SH.cons (SH.nil Kb168) (.inr (H32.loads (by kernel_rfl)))) (.inr (H32.loads (by kernel_rfl)))) ?_
     clear K155 hr151 hK153 hg154
     refine skQ 4 [10] [(2, .slice none 0 0), (3, .bool false), (4, i64 0), (5, ptr b1), (6, ptr b21), (7, i64 why), (9, ptr b42), (18, .slice LA l.length lc), (19, i64 ↑l.length), (20, i64 ↑ii), (32, (Value.slice A156 ((LX ++ [x]).length) c157)), (34, .slice A2 nu.length c2), (36, .slice (some ⟨b140, 0, none⟩) 1 1), (38, ptr b1)] ?_
     refine soQ 9 ?_
     obtain ⟨v169, w170, hr171, hO172, hK173, hg174⟩ := OwnT.app (ty := 35) iN_one iN_cells tyI hOQ (show RdT _ 1 iN _ [ii] from Rd.lit H143 (n := 1) rfl (by decide)) (by simp only [List.length_cons, List.length_nil]; omega) (by simp only [List.length_cons, List.length_nil]; omega) K31.size
     obtain ⟨A176, c177, rfl⟩ := RdT.form iN_one (by decide) (OwnT.rd hO172)
     have ob178 : ∀ i, ((Value.slice A176 ((nu ++ [ii]).length) c177)).ownBlock = some i → i ≠ b1 := fun i hi => by rcases hg174 i hi with h | h; (have := obQb1 i h; omega); (have := H32.lt; omega)
     have ob179 : ∀ i, ((Value.slice A176 ((nu ++ [ii]).length) c177)).ownBlock = some i → i ≠ b7 := fun i hi => by rcases hg174 i hi with h | h; (have := obQb7 i h; omega); (have := H33.lt; omega)
     have ob180 : ∀ i, ((Value.slice A176 ((nu ++ [ii]).length) c177)).ownBlock = some i → i ≠ mb8 := fun i hi => by rcases hg174 i hi with h | h; (have := obQmb8 i h; omega); (have := H34.lt; omega)
     have ob181 : ∀ i, ((Value.slice A176 ((nu ++ [ii]).length) c177)).ownBlock = some i → i ≠ kb9 := fun i hi => by rcases hg174 i hi with h | h; (have := obQkb9 i h; omega); (have := H35.lt; omega)
     have ob182 : ∀ i, ((Value.slice A176 ((nu ++ [ii]).length) c177)).ownBlock = some i → i ≠ b21 := fun i hi => by rcases hg174 i hi with h | h; (have := obQb21 i h; omega); (have := H36.lt; omega)
     have oo186 : ∀ i, ((Value.slice A156 ((LX ++ [x]).length) c157)).ownBlock = some i → ((Value.slice A176 ((nu ++ [ii]).length) c177)).ownBlock = some i → False := fun i hi hs => by rcases hg174 i hs with h | h; (exact oo167 i hi h); (have := (World.ownsRow.lt hO152 i hi).2; omega)
     have oo187 : ∀ i, ((Value.slice A176 ((nu ++ [ii]).length) c177)).ownBlock = some i → ((Value.slice A156 ((LX ++ [x]).length) c157)).ownBlock = some i → False := fun i hi hs => oo186 i hs hi
     have K175 := hK173
     replace K31 := K31.trans K175 (U := none_) (fun i h1 h2 => h2) (fun i h1 h2 => by have h2 : ((Value.slice A2 nu.length c2)).ownBlock = some i := h2; exfalso; have := (World.ownsRow.lt hOQ i h2).1; omega)
     replace H32 := H32.keep K175 (by intro h; change ((Value.slice A2 nu.length c2)).ownBlock = some b1 at h; have := obQb1 b1 h; omega)
     replace H33 := H33.keep K175 (by intro h; change ((Value.slice A2 nu.length c2)).ownBlock = some b7 at h; have := obQb7 b7 h; omega)
     replace H34 := H34.keep K175 (by intro h; change ((Value.slice A2 nu.length c2)).ownBlock = some mb8 at h; have := obQmb8 mb8 h; omega)
     replace H35 := H35.keep K175 (by intro h; change ((Value.slice A2 nu.length c2)).ownBlock = some kb9 at h; have := obQkb9 kb9 h; omega)
     replace H36 := H36.keep K175 (by intro h; change ((Value.slice A2 nu.length c2)).ownBlock = some b21 at h; have := obQb21 b21 h; omega)
     replace H51 := H51.keep K175 (by intro h; change ((Value.slice A2 nu.length c2)).ownBlock = some b42 at h; have := ob49 b42 h; omega)
     clear hOQ
     replace hO152 := own_keep hO152 K175 (fun i hi hs => by have hs : ((Value.slice A2 nu.length c2)).ownBlock = some i := hs; exact oo167 i hi hs)
     have Kb188 := Kb168.trans K175 (U := (fun i => i = b1 ∨ ((Value.slice A1 LX.length c1)).ownBlock = some i ∨ ((Value.slice A2 nu.length c2)).ownBlock = some i)) (fun _ _ h => h) (fun i h1 h2 => by have h2 : ((Value.slice A2 nu.length c2)).ownBlock = some i := h2; exact .inr (.inr (h2)))
     refine Dr1.go (v := (Value.slice A176 ((nu ++ [ii]).length) c177)) (by kernel_rfl) (Runs.append (ts := #[35, 35]) (ty := 35) (vs := [(Value.slice A2 nu.length c2), (Value.slice (some ⟨b140, 0, none⟩) 1 1)]) (by kernel_rfl) hr171) (d := (some 37)) (by kernel_rfl) rfl (SH.cons (SH.cons (SH.nil Kb188) (.inr (H32.loads (by kernel_rfl)))) (.inr (H32.loads (by kernel_rfl)))) ?_
     clear K175 hr171 hK173 hg174
     refine soQ 11 ?_
     refine Dr1.put (t := 33) (b := b1) (off := 0) (v := (Value.slice A156 ((LX ++ [x]).length) c157)) (ys := [(Value.slice A156 ((LX ++ [x]).length) c157), (Value.slice A2 nu.length c2)]) (by kernel_rfl) (by kernel_rfl) H32 (by kernel_rfl) (d := none) (by kernel_rfl) rfl (fun w189 H190 K191 => ?_)
     replace K31 := K31.trans K191 (U := none_) (fun i h1 h2 => h2) (fun i h1 h2 => by have h2 : i = b1 := h2; exfalso; omega)
     replace H33 := H33.k1 K191 (by omega)
     replace H34 := H34.k1 K191 (by omega)
     replace H35 := H35.k1 K191 (by omega)
     replace H36 := H36.k1 K191 (by omega)
     replace H51 := H51.k1 K191 (by omega)
     replace hO152 := own_keep hO152 K191 (fun i hi => by have := ob158 i hi; omega)
     replace hO172 := own_keep hO172 K191 (fun i hi => by have := ob178 i hi; omega)
     have Kb192 := Kb188.trans K191 (U := (fun i => i = b1 ∨ ((Value.slice A1 LX.length c1)).ownBlock = some i ∨ ((Value.slice A2 nu.length c2)).ownBlock = some i)) (fun _ _ h => h) (fun i h1 h2 => by have h2 : i = b1 := h2; exact .inl h2)
     refine ⟨(SH.cons (SH.cons (SH.nil Kb192) (.inr (H190.loads (by kernel_rfl)))) (.inl (by kernel_rfl))), ?_⟩
     refine skQ 1 [12] [(2, .slice none 0 0), (3, .bool false), (4, i64 0), (5, ptr b1), (6, ptr b21), (7, i64 why), (9, ptr b42), (18, .slice LA l.length lc), (19, i64 ↑l.length), (20, i64 ↑ii), (37, (Value.slice A176 ((nu ++ [ii]).length) c177)), (39, .pointer (some ⟨b1, 1, none⟩))] ?_
     refine soQ 13 ?_
     refine Dr1.put (t := 35) (b := b1) (off := 1) (v := (Value.slice A176 ((nu ++ [ii]).length) c177)) (ys := [(Value.slice A156 ((LX ++ [x]).length) c157), (Value.slice A176 ((nu ++ [ii]).length) c177)]) (by kernel_rfl) (by kernel_rfl) H190 (by kernel_rfl) (d := none) (by kernel_rfl) rfl (fun w193 H194 K195 => ?_)
     replace K31 := K31.trans K195 (U := none_) (fun i h1 h2 => h2) (fun i h1 h2 => by have h2 : i = b1 := h2; exfalso; omega)
     replace H33 := H33.k1 K195 (by omega)
     replace H34 := H34.k1 K195 (by omega)
     replace H35 := H35.k1 K195 (by omega)
     replace H36 := H36.k1 K195 (by omega)
     replace H51 := H51.k1 K195 (by omega)
     replace hO152 := own_keep hO152 K195 (fun i hi => by have := ob158 i hi; omega)
     replace hO172 := own_keep hO172 K195 (fun i hi => by have := ob178 i hi; omega)
     have Kb196 := Kb192.trans K195 (U := (fun i => i = b1 ∨ ((Value.slice A1 LX.length c1)).ownBlock = some i ∨ ((Value.slice A2 nu.length c2)).ownBlock = some i)) (fun _ _ h => h) (fun i h1 h2 => by have h2 : i = b1 := h2; exact .inl h2)
     refine ⟨(SH.cons (SH.cons (SH.nil Kb196) (.inl (by kernel_rfl))) (.inl (by kernel_rfl))), ?_⟩
     refine DrS.done (by kernel_rfl) ?_
     refine rsg Open.wide ?_
     refine og 1 [(2, .slice none 0 0), (3, .bool false), (4, i64 0), (5, ptr b1), (6, ptr b21), (7, i64 why), (9, ptr b42), (18, .slice LA l.length lc), (19, i64 ↑l.length), (20, i64 ↑ii), (40, .pointer (some ⟨b42, 9, none⟩))] 1 ?_
     refine ogo (Value.bool x.c.told) 41 (rld 4 b42 9 H51) rfl ?_
     refine od ?_
     refine rcQ 41 x.c.told rfl (fun h197 => ?_) (fun h197 => ?_)
     ·rw [h197]
      have p198 : x.c.told = true := h197
      refine rsg Open.wide ?_
      refine og 1 [(2, .slice none 0 0), (3, .bool false), (4, i64 0), (5, ptr b1), (6, ptr b21), (7, i64 why), (9, ptr b42), (18, .slice LA l.length lc), (19, i64 ↑l.length), (20, i64 ↑ii), (42, .pointer (some ⟨b21, 2, none⟩))] 1 ?_
      refine ogo (i64 ((n : Nat) : Int)) 43 (rld 3 b21 2 H36) rfl ?_
      refine og 1 [(2, .slice none 0 0), (3, .bool false), (4, i64 0), (5, ptr b1), (6, ptr b21), (7, i64 why), (9, ptr b42), (18, .slice LA l.length lc), (19, i64 ↑l.length), (20, i64 ↑ii), (44, (i64 (IntKind.i64.wrap (((n : Nat) : Int) + 1))))] 3 ?_
      rw [show IntKind.i64.wrap (((n : Nat) : Int) + 1) = ((n + 1 : Nat) : Int) from by rw [wrap_i64 (by omega) (by omega)]; omega]
      refine og 1 [(2, .slice none 0 0), (3, .bool false), (4, i64 0), (5, ptr b1), (6, ptr b21), (7, i64 why), (9, ptr b42), (18, .slice LA l.length lc), (19, i64 ↑l.length), (20, i64 ↑ii), (44, i64 ↑(n + 1)), (45, .pointer (some ⟨b21, 2, none⟩))] 4 ?_
      refine Ops.put (t := 3) (b := b21) (off := 2) (v := (i64 ((n + 1 : Nat) : Int))) (ys := [(Value.slice none 0 0), (Value.int IntKind.u64 0), (i64 ((n + 1 : Nat) : Int)), (ptr b7)]) (by kernel_rfl) (by kernel_rfl) H36 (by kernel_rfl) (d := none) (by kernel_rfl) rfl (fun w200 H201 K202 => ?_)
      replace K31 := K31.trans K202 (U := none_) (fun i h1 h2 => h2) (fun i h1 h2 => by have h2 : i = b21 := h2; exfalso; omega)
      replace H194 := H194.k1 K202 (by omega)
      replace H33 := H33.k1 K202 (by omega)
      replace H34 := H34.k1 K202 (by omega)
      replace H35 := H35.k1 K202 (by omega)
      replace H51 := H51.k1 K202 (by omega)
      replace hO152 := own_keep hO152 K202 (fun i hi => by have := ob162 i hi; omega)
      replace hO172 := own_keep hO172 K202 (fun i hi => by have := ob182 i hi; omega)
      refine od ?_
      refine rsg Open.wide ?_
      refine og 1 [(2, .slice none 0 0), (3, .bool false), (4, i64 0), (5, ptr b1), (6, ptr b21), (7, i64 why), (9, ptr b42), (18, .slice LA l.length lc), (19, i64 ↑l.length), (20, i64 ↑ii), (46, .pointer (some ⟨b42, 8, none⟩))] 1 ?_
      refine ogo (i64 x.c.en) 47 (rld 3 b42 8 H51) rfl ?_
      refine og 1 [(2, .slice none 0 0), (3, .bool false), (4, i64 0), (5, ptr b1), (6, ptr b21), (7, i64 why), (18, .slice LA l.length lc), (19, i64 ↑l.length), (20, i64 ↑ii), (47, i64 x.c.en), (48, .pointer (some ⟨b42, 7, none⟩))] 3 ?_
      refine ogo (i64 x.c.bg) 49 (rld 3 b42 7 H51) rfl ?_
      refine ogd 1 [(2, .slice none 0 0), (3, .bool false), (4, i64 0), (5, ptr b1), (6, ptr b21), (7, i64 why), (18, .slice LA l.length lc), (19, i64 ↑l.length), (20, i64 ↑ii), (50, (Value.bool (decide (x.c.en < x.c.bg))))] ?_
      refine rcQ 50 (decide (x.c.en < x.c.bg)) rfl (fun h203 => ?_) (fun h203 => ?_)
      ·rw [h203]
       have p204 := of_decide_eq_true h203
       have hbx : badH x.c = true := by unfold badH; rw [h197, decide_eq_true (by omega)]; rfl
       refine rgQ Open.wide ?_
       refine ogd 1 [(2, .slice none 0 0), (3, .bool false), (4, i64 0), (5, ptr b1), (6, ptr b21), (7, i64 1), (18, .slice LA l.length lc), (19, i64 ↑l.length), (20, i64 ↑ii)] ?_
       refine rgQ Open.wide ?_
       refine og 1 [(2, .slice none 0 0), (3, .bool false), (4, i64 0), (5, ptr b1), (6, ptr b21), (7, i64 1), (18, .slice LA l.length lc), (19, i64 ↑l.length), (20, i64 ↑ii), (51, (i64 (IntKind.i64.wrap (((ii : Nat) : Int) + 1))))] 1 ?_
       rw [show IntKind.i64.wrap (((ii : Nat) : Int) + 1) = ((ii + 1 : Nat) : Int) from by rw [wrap_i64 (by omega) (by omega)]; omega]
       refine og 1 [(2, .slice none 0 0), (3, .bool false), (4, i64 0), (5, ptr b1), (6, ptr b21), (7, i64 1), (18, .slice LA l.length lc), (19, i64 ↑l.length), (20, i64 ↑(ii + 1))] 2 ?_
       refine ok_ [(2, .slice none 0 0), (3, .bool false), (4, i64 0), (5, ptr b1), (6, ptr b21), (7, i64 1), (18, .slice LA l.length lc), (19, i64 ↑l.length), (20, i64 ↑(ii + 1))] ?_
       refine od ?_
       exact ⟨(ii + 1, A156, c157, (LX ++ [x]), A176, c177, (nu ++ [ii]), n + 1, 1), ⟨rfl, rfl, hO152, ob158, ob159, ob160, ob161, ob162, oo187, hO172, ob178, ob179, ob180, ob181, ob182, oo186, (by rw [xs_snoc hnl, hstep, hX]), (by rw [List.length_append, List.length_append, hnl]; rfl), (fun z hz => by rcases List.mem_append.1 hz with hz | hz; exact hsub z hz; rw [List.mem_singleton.1 hz]; exact List.mem_of_getElem? hx), (by rw [xs_snoc hnl, left_snoc, if_pos h197, ← hn]), (by rw [xs_snoc hnl, any_snoc, hbx, Bool.or_true]; rfl), (by omega), (by rw [List.length_append]; have : ([x] : List HC).length = 1 := rfl; omega), K31, H194, H33, H34, H35, H201⟩, (show l.length - (ii + 1) < l.length - ii from by omega)⟩
      ·rw [h203]
       have p206 := of_decide_eq_false h203
       have hbx : badH x.c = false := by unfold badH; rw [h197, decide_eq_false (by omega)]; rfl
       refine rkQ ?_
       refine rgQ Open.wide ?_
       refine og 1 [(2, .slice none 0 0), (3, .bool false), (4, i64 0), (5, ptr b1), (6, ptr b21), (7, i64 why), (18, .slice LA l.length lc), (19, i64 ↑l.length), (20, i64 ↑ii), (51, (i64 (IntKind.i64.wrap (((ii : Nat) : Int) + 1))))] 1 ?_
       rw [show IntKind.i64.wrap (((ii : Nat) : Int) + 1) = ((ii + 1 : Nat) : Int) from by rw [wrap_i64 (by omega) (by omega)]; omega]
       refine og 1 [(2, .slice none 0 0), (3, .bool false), (4, i64 0), (5, ptr b1), (6, ptr b21), (7, i64 why), (18, .slice LA l.length lc), (19, i64 ↑l.length), (20, i64 ↑(ii + 1))] 2 ?_
       refine ok_ [(2, .slice none 0 0), (3, .bool false), (4, i64 0), (5, ptr b1), (6, ptr b21), (7, i64 why), (18, .slice LA l.length lc), (19, i64 ↑l.length), (20, i64 ↑(ii + 1))] ?_
       refine od ?_
       exact ⟨(ii + 1, A156, c157, (LX ++ [x]), A176, c177, (nu ++ [ii]), n + 1, why), ⟨rfl, rfl, hO152, ob158, ob159, ob160, ob161, ob162, oo187, hO172, ob178, ob179, ob180, ob181, ob182, oo186, (by rw [xs_snoc hnl, hstep, hX]), (by rw [List.length_append, List.length_append, hnl]; rfl), (fun z hz => by rcases List.mem_append.1 hz with hz | hz; exact hsub z hz; rw [List.mem_singleton.1 hz]; exact List.mem_of_getElem? hx), (by rw [xs_snoc hnl, left_snoc, if_pos h197, ← hn]), (by rw [xs_snoc hnl, any_snoc, hbx, Bool.or_false]; exact hw), (by omega), (by rw [List.length_append]; have : ([x] : List HC).length = 1 := rfl; omega), K31, H194, H33, H34, H35, H201⟩, (show l.length - (ii + 1) < l.length - ii from by omega)⟩
     ·rw [h197]
      have p208 : x.c.told = false := h197
      have hbx : badH x.c = false := by unfold badH; rw [h197]; rfl
      refine rkQ ?_
      refine rgQ Open.wide ?_
      refine og 1 [(2, .slice none 0 0), (3, .bool false), (4, i64 0), (5, ptr b1), (6, ptr b21), (7, i64 why), (18, .slice LA l.length lc), (19, i64 ↑l.length), (20, i64 ↑ii), (51, (i64 (IntKind.i64.wrap (((ii : Nat) : Int) + 1))))] 1 ?_
      rw [show IntKind.i64.wrap (((ii : Nat) : Int) + 1) = ((ii + 1 : Nat) : Int) from by rw [wrap_i64 (by omega) (by omega)]; omega]
      refine og 1 [(2, .slice none 0 0), (3, .bool false), (4, i64 0), (5, ptr b1), (6, ptr b21), (7, i64 why), (18, .slice LA l.length lc), (19, i64 ↑l.length), (20, i64 ↑(ii + 1))] 2 ?_
      refine ok_ [(2, .slice none 0 0), (3, .bool false), (4, i64 0), (5, ptr b1), (6, ptr b21), (7, i64 why), (18, .slice LA l.length lc), (19, i64 ↑l.length), (20, i64 ↑(ii + 1))] ?_
      refine od ?_
      exact ⟨(ii + 1, A156, c157, (LX ++ [x]), A176, c177, (nu ++ [ii]), n, why), ⟨rfl, rfl, hO152, ob158, ob159, ob160, ob161, ob162, oo187, hO172, ob178, ob179, ob180, ob181, ob182, oo186, (by rw [xs_snoc hnl, hstep, hX]), (by rw [List.length_append, List.length_append, hnl]; rfl), (fun z hz => by rcases List.mem_append.1 hz with hz | hz; exact hsub z hz; rw [List.mem_singleton.1 hz]; exact List.mem_of_getElem? hx), (by rw [xs_snoc hnl, left_snoc, if_neg (by rw [h197]; decide), ← hn]; exact (Nat.add_zero n).symm), (by rw [xs_snoc hnl, any_snoc, hbx, Bool.or_false]; exact hw), (by omega), (by rw [List.length_append]; have : ([x] : List HC).length = 1 := rfl; omega), K31, H194, H33, H34, H35, H36⟩, (show l.length - (ii + 1) < l.length - ii from by omega)⟩
   ·skip
    refine Dr1.new (o := rowL [(i64 ((ii : Nat) : Int))] 3) (V := fun b => (Value.slice (some ⟨b, 0, none⟩) 1 1)) (by kernel_rfl) (d := (some 36)) (by kernel_rfl) (fun b => rfl) (fun b210 w211 hb212 H213 K214 hs215 => ?_)
    have lb210b1 : b1 < b210 := by have := H32.lt; omega
    have lb210b7 : b7 < b210 := by have := H33.lt; omega
    have lb210mb8 : mb8 < b210 := by have := H34.lt; omega
    have lb210kb9 : kb9 < b210 := by have := H35.lt; omega
    have lb210b21 : b21 < b210 := by have := H36.lt; omega
    have lb210b42 : b42 < b210 := by have := H51.lt; omega
    have nb210 : w.heap.size ≤ b210 := by have := K31.size; omega
    have ob216 : ∀ i, ((Value.slice A1 LX.length c1)).ownBlock = some i → i < b210 := fun i hi => by have := (World.ownsRow.lt hOP i hi).2; omega
    have xb210 : w59.heap.size ≤ b210 := by have := Kb61.size; omega
    replace K31 := K31.trans K214 (U := none_) (fun i h1 h2 => h2) (fun i h1 h2 => by exact h2)
    replace H32 := H32.kn K214
    replace H33 := H33.kn K214
    replace H34 := H34.kn K214
    replace H35 := H35.kn K214
    replace H36 := H36.kn K214
    replace H51 := H51.kn K214
    replace hOP := own_keep0 hOP K214
    replace hOQ := own_keep0 hOQ K214
    have Kb218 := Kb61.trans K214 (U := (fun i => i = b1 ∨ ((Value.slice A1 LX.length c1)).ownBlock = some i ∨ ((Value.slice A2 nu.length c2)).ownBlock = some i)) (fun _ _ h => h) (fun i h1 h2 => by exact h2.elim)
    refine ⟨(SH.cons (SH.cons (SH.nil Kb218) (.inr (H32.loads (by kernel_rfl)))) (.inr (H32.loads (by kernel_rfl)))), ?_⟩
    clear K214 hs215
    refine soQ 3 ?_
    refine Dr1.new (o := rowL (HC.cells x) 43) (V := fun b => (Value.slice (some ⟨b, 0, none⟩) 1 1)) (by kernel_rfl) (d := (some 31)) (by kernel_rfl) (fun b => rfl) (fun b219 w220 hb221 H222 K223 hs224 => ?_)
    have lb219b1 : b1 < b219 := by have := H32.lt; omega
    have lb219b7 : b7 < b219 := by have := H33.lt; omega
    have lb219mb8 : mb8 < b219 := by have := H34.lt; omega
    have lb219kb9 : kb9 < b219 := by have := H35.lt; omega
    have lb219b21 : b21 < b219 := by have := H36.lt; omega
    have lb219b42 : b42 < b219 := by have := H51.lt; omega
    have lb219b210 : b210 < b219 := by have := H213.lt; omega
    have nb219 : w.heap.size ≤ b219 := by have := K31.size; omega
    have xb219 : w59.heap.size ≤ b219 := by have := Kb218.size; omega
    replace K31 := K31.trans K223 (U := none_) (fun i h1 h2 => h2) (fun i h1 h2 => by exact h2)
    replace H32 := H32.kn K223
    replace H33 := H33.kn K223
    replace H34 := H34.kn K223
    replace H35 := H35.kn K223
    replace H36 := H36.kn K223
    replace H51 := H51.kn K223
    replace H213 := H213.kn K223
    replace hOP := own_keep0 hOP K223
    replace hOQ := own_keep0 hOQ K223
    have Kb227 := Kb218.trans K223 (U := (fun i => i = b1 ∨ ((Value.slice A1 LX.length c1)).ownBlock = some i ∨ ((Value.slice A2 nu.length c2)).ownBlock = some i)) (fun _ _ h => h) (fun i h1 h2 => by exact h2.elim)
    refine ⟨(SH.cons (SH.cons (SH.nil Kb227) (.inr (H32.loads (by kernel_rfl)))) (.inr (H32.loads (by kernel_rfl)))), ?_⟩
    clear K223 hs224
    refine soQ 4 ?_
    obtain ⟨v228, w229, hr230, hO231, hK232, hg233⟩ := OwnT.app (ty := 33) HC.two HC.one tyH hOP (show RdT _ 13 HC.cells _ [x] from Rd.lit H222 (n := 1) rfl (by decide)) (by simp only [List.length_cons, List.length_nil]; omega) (by simp only [List.length_cons, List.length_nil]; omega) K31.size
    obtain ⟨A235, c236, rfl⟩ := RdT.form HC.two (by decide) (OwnT.rd hO231)
    have ob237 : ∀ i, ((Value.slice A235 ((LX ++ [x]).length) c236)).ownBlock = some i → i ≠ b1 := fun i hi => by rcases hg233 i hi with h | h; (have := obPb1 i h; omega); (have := H32.lt; omega)
    have ob238 : ∀ i, ((Value.slice A235 ((LX ++ [x]).length) c236)).ownBlock = some i → i ≠ b7 := fun i hi => by rcases hg233 i hi with h | h; (have := obPb7 i h; omega); (have := H33.lt; omega)
    have ob239 : ∀ i, ((Value.slice A235 ((LX ++ [x]).length) c236)).ownBlock = some i → i ≠ mb8 := fun i hi => by rcases hg233 i hi with h | h; (have := obPmb8 i h; omega); (have := H34.lt; omega)
    have ob240 : ∀ i, ((Value.slice A235 ((LX ++ [x]).length) c236)).ownBlock = some i → i ≠ kb9 := fun i hi => by rcases hg233 i hi with h | h; (have := obPkb9 i h; omega); (have := H35.lt; omega)
    have ob241 : ∀ i, ((Value.slice A235 ((LX ++ [x]).length) c236)).ownBlock = some i → i ≠ b21 := fun i hi => by rcases hg233 i hi with h | h; (have := obPb21 i h; omega); (have := H36.lt; omega)
    have oo245 : ∀ i, ((Value.slice A2 nu.length c2)).ownBlock = some i → ((Value.slice A235 ((LX ++ [x]).length) c236)).ownBlock = some i → False := fun i hi hs => by rcases hg233 i hs with h | h; (exact ooPQ i hi h); (have := (World.ownsRow.lt hOQ i hi).2; omega)
    have oo246 : ∀ i, ((Value.slice A235 ((LX ++ [x]).length) c236)).ownBlock = some i → ((Value.slice A2 nu.length c2)).ownBlock = some i → False := fun i hi hs => oo245 i hs hi
    have K234 := hK232
    replace K31 := K31.trans K234 (U := none_) (fun i h1 h2 => h2) (fun i h1 h2 => by have h2 : ((Value.slice A1 LX.length c1)).ownBlock = some i := h2; exfalso; have := (World.ownsRow.lt hOP i h2).1; omega)
    replace H32 := H32.keep K234 (by intro h; change ((Value.slice A1 LX.length c1)).ownBlock = some b1 at h; have := obPb1 b1 h; omega)
    replace H33 := H33.keep K234 (by intro h; change ((Value.slice A1 LX.length c1)).ownBlock = some b7 at h; have := obPb7 b7 h; omega)
    replace H34 := H34.keep K234 (by intro h; change ((Value.slice A1 LX.length c1)).ownBlock = some mb8 at h; have := obPmb8 mb8 h; omega)
    replace H35 := H35.keep K234 (by intro h; change ((Value.slice A1 LX.length c1)).ownBlock = some kb9 at h; have := obPkb9 kb9 h; omega)
    replace H36 := H36.keep K234 (by intro h; change ((Value.slice A1 LX.length c1)).ownBlock = some b21 at h; have := obPb21 b21 h; omega)
    replace H51 := H51.keep K234 (by intro h; change ((Value.slice A1 LX.length c1)).ownBlock = some b42 at h; have := ob48 b42 h; omega)
    replace H213 := H213.keep K234 (by intro h; change ((Value.slice A1 LX.length c1)).ownBlock = some b210 at h; have := ob216 b210 h; omega)
    clear hOP
    replace hOQ := own_keep hOQ K234 (fun i hi hs => by have hs : ((Value.slice A1 LX.length c1)).ownBlock = some i := hs; exact ooPQ i hi hs)
    have Kb247 := Kb227.trans K234 (U := (fun i => i = b1 ∨ ((Value.slice A1 LX.length c1)).ownBlock = some i ∨ ((Value.slice A2 nu.length c2)).ownBlock = some i)) (fun _ _ h => h) (fun i h1 h2 => by have h2 : ((Value.slice A1 LX.length c1)).ownBlock = some i := h2; exact .inr (.inl h2))
    refine Dr1.go (v := (Value.slice A235 ((LX ++ [x]).length) c236)) (by kernel_rfl) (Runs.append (ts := #[33, 33]) (ty := 33) (vs := [(Value.slice A1 LX.length c1), (Value.slice (some ⟨b219, 0, none⟩) 1 1)]) (by kernel_rfl) hr230) (d := (some 32)) (by kernel_rfl) rfl (SH.cons (SH.cons (SH.nil Kb247) (.inr (H32.loads (by kernel_rfl)))) (.inr (H32.loads (by kernel_rfl)))) ?_
    clear K234 hr230 hK232 hg233
    refine skQ 4 [10] [(2, .slice none 0 0), (3, .bool false), (4, i64 0), (5, ptr b1), (6, ptr b21), (7, i64 why), (9, ptr b42), (18, .slice LA l.length lc), (19, i64 ↑l.length), (20, i64 ↑ii), (32, (Value.slice A235 ((LX ++ [x]).length) c236)), (34, .slice A2 nu.length c2), (36, .slice (some ⟨b210, 0, none⟩) 1 1), (38, ptr b1)] ?_
    refine soQ 9 ?_
    obtain ⟨v248, w249, hr250, hO251, hK252, hg253⟩ := OwnT.app (ty := 35) iN_one iN_cells tyI hOQ (show RdT _ 1 iN _ [ii] from Rd.lit H213 (n := 1) rfl (by decide)) (by simp only [List.length_cons, List.length_nil]; omega) (by simp only [List.length_cons, List.length_nil]; omega) K31.size
    obtain ⟨A255, c256, rfl⟩ := RdT.form iN_one (by decide) (OwnT.rd hO251)
    have ob257 : ∀ i, ((Value.slice A255 ((nu ++ [ii]).length) c256)).ownBlock = some i → i ≠ b1 := fun i hi => by rcases hg253 i hi with h | h; (have := obQb1 i h; omega); (have := H32.lt; omega)
    have ob258 : ∀ i, ((Value.slice A255 ((nu ++ [ii]).length) c256)).ownBlock = some i → i ≠ b7 := fun i hi => by rcases hg253 i hi with h | h; (have := obQb7 i h; omega); (have := H33.lt; omega)
    have ob259 : ∀ i, ((Value.slice A255 ((nu ++ [ii]).length) c256)).ownBlock = some i → i ≠ mb8 := fun i hi => by rcases hg253 i hi with h | h; (have := obQmb8 i h; omega); (have := H34.lt; omega)
    have ob260 : ∀ i, ((Value.slice A255 ((nu ++ [ii]).length) c256)).ownBlock = some i → i ≠ kb9 := fun i hi => by rcases hg253 i hi with h | h; (have := obQkb9 i h; omega); (have := H35.lt; omega)
    have ob261 : ∀ i, ((Value.slice A255 ((nu ++ [ii]).length) c256)).ownBlock = some i → i ≠ b21 := fun i hi => by rcases hg253 i hi with h | h; (have := obQb21 i h; omega); (have := H36.lt; omega)
    have oo265 : ∀ i, ((Value.slice A235 ((LX ++ [x]).length) c236)).ownBlock = some i → ((Value.slice A255 ((nu ++ [ii]).length) c256)).ownBlock = some i → False := fun i hi hs => by rcases hg253 i hs with h | h; (exact oo246 i hi h); (have := (World.ownsRow.lt hO231 i hi).2; omega)
    have oo266 : ∀ i, ((Value.slice A255 ((nu ++ [ii]).length) c256)).ownBlock = some i → ((Value.slice A235 ((LX ++ [x]).length) c236)).ownBlock = some i → False := fun i hi hs => oo265 i hs hi
    have K254 := hK252
    replace K31 := K31.trans K254 (U := none_) (fun i h1 h2 => h2) (fun i h1 h2 => by have h2 : ((Value.slice A2 nu.length c2)).ownBlock = some i := h2; exfalso; have := (World.ownsRow.lt hOQ i h2).1; omega)
    replace H32 := H32.keep K254 (by intro h; change ((Value.slice A2 nu.length c2)).ownBlock = some b1 at h; have := obQb1 b1 h; omega)
    replace H33 := H33.keep K254 (by intro h; change ((Value.slice A2 nu.length c2)).ownBlock = some b7 at h; have := obQb7 b7 h; omega)
    replace H34 := H34.keep K254 (by intro h; change ((Value.slice A2 nu.length c2)).ownBlock = some mb8 at h; have := obQmb8 mb8 h; omega)
    replace H35 := H35.keep K254 (by intro h; change ((Value.slice A2 nu.length c2)).ownBlock = some kb9 at h; have := obQkb9 kb9 h; omega)
    replace H36 := H36.keep K254 (by intro h; change ((Value.slice A2 nu.length c2)).ownBlock = some b21 at h; have := obQb21 b21 h; omega)
    replace H51 := H51.keep K254 (by intro h; change ((Value.slice A2 nu.length c2)).ownBlock = some b42 at h; have := ob49 b42 h; omega)
    clear hOQ
    replace hO231 := own_keep hO231 K254 (fun i hi hs => by have hs : ((Value.slice A2 nu.length c2)).ownBlock = some i := hs; exact oo246 i hi hs)
    have Kb267 := Kb247.trans K254 (U := (fun i => i = b1 ∨ ((Value.slice A1 LX.length c1)).ownBlock = some i ∨ ((Value.slice A2 nu.length c2)).ownBlock = some i)) (fun _ _ h => h) (fun i h1 h2 => by have h2 : ((Value.slice A2 nu.length c2)).ownBlock = some i := h2; exact .inr (.inr (h2)))
    refine Dr1.go (v := (Value.slice A255 ((nu ++ [ii]).length) c256)) (by kernel_rfl) (Runs.append (ts := #[35, 35]) (ty := 35) (vs := [(Value.slice A2 nu.length c2), (Value.slice (some ⟨b210, 0, none⟩) 1 1)]) (by kernel_rfl) hr250) (d := (some 37)) (by kernel_rfl) rfl (SH.cons (SH.cons (SH.nil Kb267) (.inr (H32.loads (by kernel_rfl)))) (.inr (H32.loads (by kernel_rfl)))) ?_
    clear K254 hr250 hK252 hg253
    refine soQ 11 ?_
    refine Dr1.put (t := 33) (b := b1) (off := 0) (v := (Value.slice A235 ((LX ++ [x]).length) c236)) (ys := [(Value.slice A235 ((LX ++ [x]).length) c236), (Value.slice A2 nu.length c2)]) (by kernel_rfl) (by kernel_rfl) H32 (by kernel_rfl) (d := none) (by kernel_rfl) rfl (fun w268 H269 K270 => ?_)
    replace K31 := K31.trans K270 (U := none_) (fun i h1 h2 => h2) (fun i h1 h2 => by have h2 : i = b1 := h2; exfalso; omega)
    replace H33 := H33.k1 K270 (by omega)
    replace H34 := H34.k1 K270 (by omega)
    replace H35 := H35.k1 K270 (by omega)
    replace H36 := H36.k1 K270 (by omega)
    replace H51 := H51.k1 K270 (by omega)
    replace hO231 := own_keep hO231 K270 (fun i hi => by have := ob237 i hi; omega)
    replace hO251 := own_keep hO251 K270 (fun i hi => by have := ob257 i hi; omega)
    have Kb271 := Kb267.trans K270 (U := (fun i => i = b1 ∨ ((Value.slice A1 LX.length c1)).ownBlock = some i ∨ ((Value.slice A2 nu.length c2)).ownBlock = some i)) (fun _ _ h => h) (fun i h1 h2 => by have h2 : i = b1 := h2; exact .inl h2)
    refine ⟨(SH.cons (SH.cons (SH.nil Kb271) (.inr (H269.loads (by kernel_rfl)))) (.inl (by kernel_rfl))), ?_⟩
    refine skQ 1 [12] [(2, .slice none 0 0), (3, .bool false), (4, i64 0), (5, ptr b1), (6, ptr b21), (7, i64 why), (9, ptr b42), (18, .slice LA l.length lc), (19, i64 ↑l.length), (20, i64 ↑ii), (37, (Value.slice A255 ((nu ++ [ii]).length) c256)), (39, .pointer (some ⟨b1, 1, none⟩))] ?_
    refine soQ 13 ?_
    refine Dr1.put (t := 35) (b := b1) (off := 1) (v := (Value.slice A255 ((nu ++ [ii]).length) c256)) (ys := [(Value.slice A235 ((LX ++ [x]).length) c236), (Value.slice A255 ((nu ++ [ii]).length) c256)]) (by kernel_rfl) (by kernel_rfl) H269 (by kernel_rfl) (d := none) (by kernel_rfl) rfl (fun w272 H273 K274 => ?_)
    replace K31 := K31.trans K274 (U := none_) (fun i h1 h2 => h2) (fun i h1 h2 => by have h2 : i = b1 := h2; exfalso; omega)
    replace H33 := H33.k1 K274 (by omega)
    replace H34 := H34.k1 K274 (by omega)
    replace H35 := H35.k1 K274 (by omega)
    replace H36 := H36.k1 K274 (by omega)
    replace H51 := H51.k1 K274 (by omega)
    replace hO231 := own_keep hO231 K274 (fun i hi => by have := ob237 i hi; omega)
    replace hO251 := own_keep hO251 K274 (fun i hi => by have := ob257 i hi; omega)
    have Kb275 := Kb271.trans K274 (U := (fun i => i = b1 ∨ ((Value.slice A1 LX.length c1)).ownBlock = some i ∨ ((Value.slice A2 nu.length c2)).ownBlock = some i)) (fun _ _ h => h) (fun i h1 h2 => by have h2 : i = b1 := h2; exact .inl h2)
    refine ⟨(SH.cons (SH.cons (SH.nil Kb275) (.inl (by kernel_rfl))) (.inl (by kernel_rfl))), ?_⟩
    refine DrS.done (by kernel_rfl) ?_
    refine rsg Open.wide ?_
    refine og 1 [(2, .slice none 0 0), (3, .bool false), (4, i64 0), (5, ptr b1), (6, ptr b21), (7, i64 why), (9, ptr b42), (18, .slice LA l.length lc), (19, i64 ↑l.length), (20, i64 ↑ii), (40, .pointer (some ⟨b42, 9, none⟩))] 1 ?_
    refine ogo (Value.bool x.c.told) 41 (rld 4 b42 9 H51) rfl ?_
    refine od ?_
    refine rcQ 41 x.c.told rfl (fun h276 => ?_) (fun h276 => ?_)
    ·rw [h276]
     have p277 : x.c.told = true := h276
     refine rsg Open.wide ?_
     refine og 1 [(2, .slice none 0 0), (3, .bool false), (4, i64 0), (5, ptr b1), (6, ptr b21), (7, i64 why), (9, ptr b42), (18, .slice LA l.length lc), (19, i64 ↑l.length), (20, i64 ↑ii), (42, .pointer (some ⟨b21, 2, none⟩))] 1 ?_
     refine ogo (i64 ((n : Nat) : Int)) 43 (rld 3 b21 2 H36) rfl ?_
     refine og 1 [(2, .slice none 0 0), (3, .bool false), (4, i64 0), (5, ptr b1), (6, ptr b21), (7, i64 why), (9, ptr b42), (18, .slice LA l.length lc), (19, i64 ↑l.length), (20, i64 ↑ii), (44, (i64 (IntKind.i64.wrap (((n : Nat) : Int) + 1))))] 3 ?_
     rw [show IntKind.i64.wrap (((n : Nat) : Int) + 1) = ((n + 1 : Nat) : Int) from by rw [wrap_i64 (by omega) (by omega)]; omega]
     refine og 1 [(2, .slice none 0 0), (3, .bool false), (4, i64 0), (5, ptr b1), (6, ptr b21), (7, i64 why), (9, ptr b42), (18, .slice LA l.length lc), (19, i64 ↑l.length), (20, i64 ↑ii), (44, i64 ↑(n + 1)), (45, .pointer (some ⟨b21, 2, none⟩))] 4 ?_
     refine Ops.put (t := 3) (b := b21) (off := 2) (v := (i64 ((n + 1 : Nat) : Int))) (ys := [(Value.slice none 0 0), (Value.int IntKind.u64 0), (i64 ((n + 1 : Nat) : Int)), (ptr b7)]) (by kernel_rfl) (by kernel_rfl) H36 (by kernel_rfl) (d := none) (by kernel_rfl) rfl (fun w279 H280 K281 => ?_)
     replace K31 := K31.trans K281 (U := none_) (fun i h1 h2 => h2) (fun i h1 h2 => by have h2 : i = b21 := h2; exfalso; omega)
     replace H273 := H273.k1 K281 (by omega)
     replace H33 := H33.k1 K281 (by omega)
     replace H34 := H34.k1 K281 (by omega)
     replace H35 := H35.k1 K281 (by omega)
     replace H51 := H51.k1 K281 (by omega)
     replace hO231 := own_keep hO231 K281 (fun i hi => by have := ob241 i hi; omega)
     replace hO251 := own_keep hO251 K281 (fun i hi => by have := ob261 i hi; omega)
     refine od ?_
     refine rsg Open.wide ?_
     refine og 1 [(2, .slice none 0 0), (3, .bool false), (4, i64 0), (5, ptr b1), (6, ptr b21), (7, i64 why), (9, ptr b42), (18, .slice LA l.length lc), (19, i64 ↑l.length), (20, i64 ↑ii), (46, .pointer (some ⟨b42, 8, none⟩))] 1 ?_
     refine ogo (i64 x.c.en) 47 (rld 3 b42 8 H51) rfl ?_
     refine og 1 [(2, .slice none 0 0), (3, .bool false), (4, i64 0), (5, ptr b1), (6, ptr b21), (7, i64 why), (18, .slice LA l.length lc), (19, i64 ↑l.length), (20, i64 ↑ii), (47, i64 x.c.en), (48, .pointer (some ⟨b42, 7, none⟩))] 3 ?_
     refine ogo (i64 x.c.bg) 49 (rld 3 b42 7 H51) rfl ?_
     refine ogd 1 [(2, .slice none 0 0), (3, .bool false), (4, i64 0), (5, ptr b1), (6, ptr b21), (7, i64 why), (18, .slice LA l.length lc), (19, i64 ↑l.length), (20, i64 ↑ii), (50, (Value.bool (decide (x.c.en < x.c.bg))))] ?_
     refine rcQ 50 (decide (x.c.en < x.c.bg)) rfl (fun h282 => ?_) (fun h282 => ?_)
     ·rw [h282]
      have p283 := of_decide_eq_true h282
      have hbx : badH x.c = true := by unfold badH; rw [h276, decide_eq_true (by omega)]; rfl
      refine rgQ Open.wide ?_
      refine ogd 1 [(2, .slice none 0 0), (3, .bool false), (4, i64 0), (5, ptr b1), (6, ptr b21), (7, i64 1), (18, .slice LA l.length lc), (19, i64 ↑l.length), (20, i64 ↑ii)] ?_
      refine rgQ Open.wide ?_
      refine og 1 [(2, .slice none 0 0), (3, .bool false), (4, i64 0), (5, ptr b1), (6, ptr b21), (7, i64 1), (18, .slice LA l.length lc), (19, i64 ↑l.length), (20, i64 ↑ii), (51, (i64 (IntKind.i64.wrap (((ii : Nat) : Int) + 1))))] 1 ?_
      rw [show IntKind.i64.wrap (((ii : Nat) : Int) + 1) = ((ii + 1 : Nat) : Int) from by rw [wrap_i64 (by omega) (by omega)]; omega]
      refine og 1 [(2, .slice none 0 0), (3, .bool false), (4, i64 0), (5, ptr b1), (6, ptr b21), (7, i64 1), (18, .slice LA l.length lc), (19, i64 ↑l.length), (20, i64 ↑(ii + 1))] 2 ?_
      refine ok_ [(2, .slice none 0 0), (3, .bool false), (4, i64 0), (5, ptr b1), (6, ptr b21), (7, i64 1), (18, .slice LA l.length lc), (19, i64 ↑l.length), (20, i64 ↑(ii + 1))] ?_
      refine od ?_
      exact ⟨(ii + 1, A235, c236, (LX ++ [x]), A255, c256, (nu ++ [ii]), n + 1, 1), ⟨rfl, rfl, hO231, ob237, ob238, ob239, ob240, ob241, oo266, hO251, ob257, ob258, ob259, ob260, ob261, oo265, (by rw [xs_snoc hnl, hstep, hX]), (by rw [List.length_append, List.length_append, hnl]; rfl), (fun z hz => by rcases List.mem_append.1 hz with hz | hz; exact hsub z hz; rw [List.mem_singleton.1 hz]; exact List.mem_of_getElem? hx), (by rw [xs_snoc hnl, left_snoc, if_pos h276, ← hn]), (by rw [xs_snoc hnl, any_snoc, hbx, Bool.or_true]; rfl), (by omega), (by rw [List.length_append]; have : ([x] : List HC).length = 1 := rfl; omega), K31, H273, H33, H34, H35, H280⟩, (show l.length - (ii + 1) < l.length - ii from by omega)⟩
     ·rw [h282]
      have p285 := of_decide_eq_false h282
      have hbx : badH x.c = false := by unfold badH; rw [h276, decide_eq_false (by omega)]; rfl
      refine rkQ ?_
      refine rgQ Open.wide ?_
      refine og 1 [(2, .slice none 0 0), (3, .bool false), (4, i64 0), (5, ptr b1), (6, ptr b21), (7, i64 why), (18, .slice LA l.length lc), (19, i64 ↑l.length), (20, i64 ↑ii), (51, (i64 (IntKind.i64.wrap (((ii : Nat) : Int) + 1))))] 1 ?_
      rw [show IntKind.i64.wrap (((ii : Nat) : Int) + 1) = ((ii + 1 : Nat) : Int) from by rw [wrap_i64 (by omega) (by omega)]; omega]
      refine og 1 [(2, .slice none 0 0), (3, .bool false), (4, i64 0), (5, ptr b1), (6, ptr b21), (7, i64 why), (18, .slice LA l.length lc), (19, i64 ↑l.length), (20, i64 ↑(ii + 1))] 2 ?_
      refine ok_ [(2, .slice none 0 0), (3, .bool false), (4, i64 0), (5, ptr b1), (6, ptr b21), (7, i64 why), (18, .slice LA l.length lc), (19, i64 ↑l.length), (20, i64 ↑(ii + 1))] ?_
      refine od ?_
      exact ⟨(ii + 1, A235, c236, (LX ++ [x]), A255, c256, (nu ++ [ii]), n + 1, why), ⟨rfl, rfl, hO231, ob237, ob238, ob239, ob240, ob241, oo266, hO251, ob257, ob258, ob259, ob260, ob261, oo265, (by rw [xs_snoc hnl, hstep, hX]), (by rw [List.length_append, List.length_append, hnl]; rfl), (fun z hz => by rcases List.mem_append.1 hz with hz | hz; exact hsub z hz; rw [List.mem_singleton.1 hz]; exact List.mem_of_getElem? hx), (by rw [xs_snoc hnl, left_snoc, if_pos h276, ← hn]), (by rw [xs_snoc hnl, any_snoc, hbx, Bool.or_false]; exact hw), (by omega), (by rw [List.length_append]; have : ([x] : List HC).length = 1 := rfl; omega), K31, H273, H33, H34, H35, H280⟩, (show l.length - (ii + 1) < l.length - ii from by omega)⟩
    ·rw [h276]
     have p287 : x.c.told = false := h276
     have hbx : badH x.c = false := by unfold badH; rw [h276]; rfl
     refine rkQ ?_
     refine rgQ Open.wide ?_
     refine og 1 [(2, .slice none 0 0), (3, .bool false), (4, i64 0), (5, ptr b1), (6, ptr b21), (7, i64 why), (18, .slice LA l.length lc), (19, i64 ↑l.length), (20, i64 ↑ii), (51, (i64 (IntKind.i64.wrap (((ii : Nat) : Int) + 1))))] 1 ?_
     rw [show IntKind.i64.wrap (((ii : Nat) : Int) + 1) = ((ii + 1 : Nat) : Int) from by rw [wrap_i64 (by omega) (by omega)]; omega]
     refine og 1 [(2, .slice none 0 0), (3, .bool false), (4, i64 0), (5, ptr b1), (6, ptr b21), (7, i64 why), (18, .slice LA l.length lc), (19, i64 ↑l.length), (20, i64 ↑(ii + 1))] 2 ?_
     refine ok_ [(2, .slice none 0 0), (3, .bool false), (4, i64 0), (5, ptr b1), (6, ptr b21), (7, i64 why), (18, .slice LA l.length lc), (19, i64 ↑l.length), (20, i64 ↑(ii + 1))] ?_
     refine od ?_
     exact ⟨(ii + 1, A235, c236, (LX ++ [x]), A255, c256, (nu ++ [ii]), n, why), ⟨rfl, rfl, hO231, ob237, ob238, ob239, ob240, ob241, oo266, hO251, ob257, ob258, ob259, ob260, ob261, oo265, (by rw [xs_snoc hnl, hstep, hX]), (by rw [List.length_append, List.length_append, hnl]; rfl), (fun z hz => by rcases List.mem_append.1 hz with hz | hz; exact hsub z hz; rw [List.mem_singleton.1 hz]; exact List.mem_of_getElem? hx), (by rw [xs_snoc hnl, left_snoc, if_neg (by rw [h276]; decide), ← hn]; exact (Nat.add_zero n).symm), (by rw [xs_snoc hnl, any_snoc, hbx, Bool.or_false]; exact hw), (by omega), (by rw [List.length_append]; have : ([x] : List HC).length = 1 := rfl; omega), K31, H273, H33, H34, H35, H36⟩, (show l.length - (ii + 1) < l.length - ii from by omega)⟩
 ·rw [h37]
  have p289 := of_decide_eq_false h37
  have hXm : XS LX nu = lookedH (l.map HC.c) := by rw [List.take_of_length_le (by rw [List.length_map]; omega)] at hX; exact hX
  refine qr_exit (id := 0) (by kernel_rfl) ?_
  refine rsQ ?_
  refine qr_block (id := 2) (by kernel_rfl) ?_
  refine rsg Open.wide ?_
  refine og 1 [(2, .slice none 0 0), (3, .bool false), (4, i64 0), (5, ptr b1), (6, ptr b21), (7, i64 why), (53, ptr b1)] 1 ?_
  refine ogo (Value.slice A1 LX.length c1) 54 (rld 33 b1 0 H32) rfl ?_
  refine ogd 3 [(2, .slice none 0 0), (3, .bool false), (4, i64 0), (5, ptr b1), (6, ptr b21), (7, i64 why), (52, (Value.bool (decide (((LX.length : Nat) : Int) > 8))))] ?_
  refine rcQ 52 (decide (((LX.length : Nat) : Int) > 8)) rfl (fun h290 => ?_) (fun h290 => ?_)
  ·rw [h290]
   have p291 := of_decide_eq_true h290
   refine rsg Open.wide ?_
   refine ogd 3 [(2, .slice none 0 0), (3, .bool false), (4, i64 3), (5, ptr b1), (6, ptr b21), (7, i64 why)] ?_
   refine rtQ ?_
   refine retR_none (v := (Value.tuple #[(Value.slice none 0 0), (Value.bool false), (i64 3)])) (retv_tmp3 rfl rfl rfl rfl) ?_
   exact ⟨[], none, 0, false, 3, rfl, K31, Rd.nil _ _, order_size (by rw [← hXm, xs_len hnl]; omega)⟩
  ·rw [h290]
   have p292 := of_decide_eq_false h290
   refine rsg Open.wide ?_
   refine ogd 3 [(2, .slice none 0 0), (3, .bool false), (4, i64 0), (5, ptr b1), (6, ptr b21), (7, i64 why), (57, .bool (why != 0))] ?_
   refine rcQ 57 (why != 0) rfl (fun h293 => ?_) (fun h293 => ?_)
   ·rw [h293]
    have p294 := of_bne_t h293
    have hany : (XS LX nu).any (fun c => badH c.1) = true := by cases hq : (XS LX nu).any (fun c => badH c.1) with | true => rfl | false => rw [hq, if_neg (by decide)] at hw; omega
    refine rsg Open.wide ?_
    refine ogd 4 [(2, .slice none 0 0), (3, .bool false), (4, i64 why), (5, ptr b1), (6, ptr b21)] ?_
    refine rtQ ?_
    refine retR_none (v := (Value.tuple #[(Value.slice none 0 0), (Value.bool false), (i64 why)])) (retv_tmp3 rfl rfl rfl rfl) ?_
    have hw1 : why = 1 := by rw [hany, if_pos rfl] at hw; exact hw
    exact ⟨[], none, 0, false, why, rfl, K31, Rd.nil _ _, by rw [hw1]; exact order_bad (by rw [← hXm, xs_len hnl]; omega) (by rw [← hXm]; exact hany)⟩
   ·rw [h293]
    have p295 := of_bne_f h293
    have hany : (XS LX nu).any (fun c => badH c.1) = false := by cases hq : (XS LX nu).any (fun c => badH c.1) with | true => rw [hq, if_pos rfl] at hw; omega | false => rfl
    refine rkQ ?_
    refine qr_keep (R := [(5, ptr b1), (6, ptr b21)]) (by kernel_rfl) ?_
    obtain ⟨f0, R0, hf0, hrun0, hR0⟩ := order_end hXm hnl (fun c hc => by obtain ⟨z, hz, e⟩ := List.mem_map.1 hc; rw [← e]; exact ho z hz) (by omega) (by rw [← hXm]; exact hany)
    have hs0 : startH (XS LX nu) = StC.m (⟨[], none, 0, 0, ((n : Nat) : Int), b7, ([], [])⟩ : StC) := by unfold startH leftH StC.m; rw [← hn]
    have hnb : b7 ≠ mb8 ∧ b7 ≠ kb9 ∧ mb8 ≠ kb9 := by omega
    have hI0 : Imm w30 110 68 73 (fun i => i < w30.heap.size) b1 A1 c1 LX A2 c2 nu true (⟨[], none, 0, 0, ((n : Nat) : Int), b7, ([], [])⟩ : StC) b21 [(⟨[], none, 0, 0, ((n : Nat) : Int), b7, ([], [])⟩ : StC)] ([] : List Nat) := { pool := ⟨fun z hz => by rw [List.mem_singleton.1 hz]; exact ⟨Rd.nil _ _, fun i hi => (by cases hi), mb8, kb9, [], H33, H34, H35, hnb, LBook.nil, H33.lt, H34.lt, H35.lt⟩, fun i hi => hi⟩, h5 := H32, f5 := H32.lt, rl := OwnT.rd hOP, fl := fun i hi => (World.ownsRow.lt hOP i hi).2, ra := OwnT.rd hOQ, fa := fun i hi => (World.ownsRow.lt hOQ i hi).2, rows := ⟨G, ⟨fun z hz => (RowsE.keep hG K31 (fun _ _ h => h)).1 z (hsub z hz), fun z hz => hG.2.1 z (hsub z hz), (RowsE.keep hG K31 (fun _ _ h => h)).2.2⟩, (RowsE.keep hG K31 (fun _ _ h => h)).2.2⟩, tcell := fun _ => H36, ft := H36.lt, defs := DefsW.nil _, fd := fun D h => (by cases h) }
    exact Order_tail w w30 b1 b21 b7 f0 A1 c1 LX A2 c2 nu _ R0 _ K31 hI0 hnl (fun z hz => ho z (hsub z hz)) (by omega) (by rw [← hs0]; exact SrOk.start _) hf0 (by rw [← hs0]; exact hrun0) (fun e w' ⟨o, A, c, ok, he, hk, hr, hR⟩ => ⟨o, A, c, ok, 0, he, hk, hr, hR0 o ok hR⟩)
end Go.Proofs.YtnbcghbgeiocbaaDoor
namespace Go.Proofs.YtnbcghbgeiocbaaDoor
open Go.Q Go.RowKit
theorem Linear_calls (w : World) (LA : Option Addr) (lc : Nat) (l : List HC) (G : Nat → Prop) (hL : RdT w 13 HC.cells (Value.slice LA l.length lc) l) (hG : RowsE w HC.rv HC.rows G l) (ho : ∀ x ∈ l, -9223372036854775808 ≤ x.c.op.amount ∧ x.c.op.amount ≤ 9223372036854775807) (hl : l.length ≤ 2000) : Calls Tryd.prog 14 ⟨[(Value.slice LA l.length lc)]⟩ w (fun e w' => ∃ (ok : Bool) (why : Int), e = .returned (.tuple #[.bool ok, i64 why]) ∧ Keeps none_ w w' ∧ (ok, why) = (orderH (l.map HC.c)).2) := by
 have K0 : Keeps none_ w w := Keeps.refl w
 refine q_calls Tryd.func14 (by kernel_rfl) (by kernel_rfl) ?_
 refine qsg ?_
 refine ogd 2 [(0, .slice LA l.length lc), (2, .bool false), (3, i64 0)] ?_
 refine qsg ?_
 refine og 1 [(2, .bool false), (3, i64 0), (8, .slice LA l.length lc)] 1 ?_
 refine ocQ 9 (Order_calls _ LA lc l G (Rd.keep0 (by decide) hL K0) (RowsE.keep hG K0 (fun _ _ h => h)) ho hl) ?_
 rintro _ w7 ⟨o1, A2, c3, ok4, why5, rfl, K6, hR8, hE9⟩
 refine ⟨_, _, rfl, rfl, ?_⟩
 replace K0 := K0.t0 K6
 clear K6
 refine ogd 7 [(2, .bool false), (3, i64 0), (5, .bool ok4), (6, i64 why5)] ?_
 refine qsg ?_
 refine ogd 4 [(2, .bool ok4), (3, i64 why5)] ?_
 refine qtQ ?_
 refine ⟨(Value.tuple #[(Value.bool ok4), (i64 why5)]), retv_tmp2 rfl rfl rfl, ?_⟩
 exact ⟨ok4, why5, rfl, K0, by rw [← hE9]⟩
end Go.Proofs.YtnbcghbgeiocbaaDoor
namespace Go.Proofs.YtnbcghbgeiocbaaDoor
open Go.Q Go.RowKit
theorem known_calls (w : World)   : Calls Tryd.prog 10 ⟨[]⟩ w (fun e w' => e = .returned (.bool true) ∧ Keeps none_ w w') := by
 have K0 : Keeps none_ w w := Keeps.refl w
 refine q_calls Tryd.func10 (by kernel_rfl) (by kernel_rfl) ?_
 refine qsg ?_
 refine ogd 1 [(0, .bool false)] ?_
 refine qsg ?_
 refine og 1 [(0, .bool false), (12, (agg [(i64 1), (Value.string (str [97, 110, 110])), (Value.string ByteArray.empty), (i64 0), (Value.string (str [107])), (i64 0), (i64 0)]))] 1 ?_
 refine onew (rowL [(i64 0), (Value.string ByteArray.empty), (Value.string ByteArray.empty), (i64 0), (Value.string ByteArray.empty), (i64 0), (i64 0)] 24) (fun b => (ptr b)) 1 (fun b => rfl) (fun b1 w2 hb3 H4 K5 hs6 => ?_)
 have nb1 : w.heap.size ≤ b1 := by have := K0.size; omega
 replace K0 := K0.t0 K5
 clear K5 hs6
 refine oput 24 b1 [(i64 1), (Value.string (str [97, 110, 110])), (Value.string ByteArray.empty), (i64 0), (Value.string (str [107])), (i64 0), (i64 0)] H4 rfl (fun w7 H8 K9 => ?_)
 clear H4
 replace K0 := K0.trans K9 (U := none_) (fun i h1 h2 => h2) (fun i h1 h2 => by have h2 : i = b1 := h2; exfalso; omega)
 clear K9
 refine od ?_
 refine qsg ?_
 refine og 1 [(0, .bool false), (1, ptr b1), (13, (agg [(i64 5), (Value.string (str [97, 110, 110])), (Value.string ByteArray.empty), (i64 0), (Value.string ByteArray.empty), (i64 0), (i64 0)]))] 1 ?_
 refine onew (rowL [(i64 0), (Value.string ByteArray.empty), (Value.string ByteArray.empty), (i64 0), (Value.string ByteArray.empty), (i64 0), (i64 0)] 24) (fun b => (ptr b)) 2 (fun b => rfl) (fun b10 w11 hb12 H13 K14 hs15 => ?_)
 have lb10b1 : b1 < b10 := by have := H8.lt; omega
 have nb10 : w.heap.size ≤ b10 := by have := K0.size; omega
 replace K0 := K0.t0 K14
 replace H8 := H8.kn K14
 clear K14 hs15
 refine oput 24 b10 [(i64 5), (Value.string (str [97, 110, 110])), (Value.string ByteArray.empty), (i64 0), (Value.string ByteArray.empty), (i64 0), (i64 0)] H13 rfl (fun w16 H17 K18 => ?_)
 replace K0 := K0.trans K18 (U := none_) (fun i h1 h2 => h2) (fun i h1 h2 => by have h2 : i = b10 := h2; exfalso; omega)
 replace H8 := H8.k1 K18 (by omega)
 refine od ?_
 refine qsg ?_
 refine og 1 [(0, .bool false), (1, ptr b1), (2, ptr b10), (14, (agg [(i64 40), (i64 0), (Value.slice none 0 0)]))] 1 ?_
 refine onew (rowL [(i64 0), (i64 0), (Value.slice none 0 0)] 28) (fun b => (ptr b)) 3 (fun b => rfl) (fun b19 w20 hb21 H22 K23 hs24 => ?_)
 have lb19b1 : b1 < b19 := by have := H8.lt; omega
 have lb19b10 : b10 < b19 := by have := H17.lt; omega
 have nb19 : w.heap.size ≤ b19 := by have := K0.size; omega
 replace K0 := K0.t0 K23
 replace H8 := H8.kn K23
 replace H17 := H17.kn K23
 clear K23 hs24
 refine oput 28 b19 [(i64 40), (i64 0), (Value.slice none 0 0)] H22 rfl (fun w25 H26 K27 => ?_)
 replace K0 := K0.trans K27 (U := none_) (fun i h1 h2 => h2) (fun i h1 h2 => by have h2 : i = b19 := h2; exfalso; omega)
 replace H8 := H8.k1 K27 (by omega)
 replace H17 := H17.k1 K27 (by omega)
 refine od ?_
 refine qsg ?_
 refine ogo (agg [(i64 1), (Value.string (str [97, 110, 110])), (Value.string ByteArray.empty), (i64 0), (Value.string (str [107])), (i64 0), (i64 0)]) 16 (rld 24 b1 0 H8) rfl ?_
 refine og 1 [(0, .bool false), (1, ptr b1), (2, ptr b10), (3, ptr b19), (17, (agg [(i64 1), (Value.string (str [97, 110, 110])), (Value.string ByteArray.empty), (i64 0), (Value.string (str [107])), (i64 0), (i64 0), (i64 1), (i64 2), (Value.bool true), (i64 0), (i64 0), (Value.slice none 0 0)]))] 2 ?_
 refine ogo (agg [(i64 5), (Value.string (str [97, 110, 110])), (Value.string ByteArray.empty), (i64 0), (Value.string ByteArray.empty), (i64 0), (i64 0)]) 18 (rld 24 b10 0 H17) rfl ?_
 refine og 1 [(0, .bool false), (1, ptr b1), (2, ptr b10), (3, ptr b19), (17, (agg [(i64 1), (Value.string (str [97, 110, 110])), (Value.string ByteArray.empty), (i64 0), (Value.string (str [107])), (i64 0), (i64 0), (i64 1), (i64 2), (Value.bool true), (i64 0), (i64 0), (Value.slice none 0 0)])), (19, (agg [(i64 5), (Value.string (str [97, 110, 110])), (Value.string ByteArray.empty), (i64 0), (Value.string ByteArray.empty), (i64 0), (i64 0), (i64 3), (i64 4), (Value.bool true), (i64 0), (i64 0), (Value.slice none 0 0)]))] 4 ?_
 refine onew (rowL [(i64 1), (Value.string (str [97, 110, 110])), (Value.string ByteArray.empty), (i64 0), (Value.string (str [107])), (i64 0), (i64 0), (i64 1), (i64 2), (Value.bool true), (i64 0), (i64 0), (Value.slice none 0 0), (i64 5), (Value.string (str [97, 110, 110])), (Value.string ByteArray.empty), (i64 0), (Value.string ByteArray.empty), (i64 0), (i64 0), (i64 3), (i64 4), (Value.bool true), (i64 0), (i64 0), (Value.slice none 0 0)] 43) (fun b => (Value.slice (some ⟨b, 0, none⟩) 2 2)) 20 (fun b => rfl) (fun b28 w29 hb30 H31 K32 hs33 => ?_)
 have lb28b1 : b1 < b28 := by have := H8.lt; omega
 have lb28b10 : b10 < b28 := by have := H17.lt; omega
 have lb28b19 : b19 < b28 := by have := H26.lt; omega
 have nb28 : w.heap.size ≤ b28 := by have := K0.size; omega
 replace K0 := K0.t0 K32
 replace H8 := H8.kn K32
 replace H17 := H17.kn K32
 replace H26 := H26.kn K32
 clear K32 hs33
 have hk45 : orderH (List.map HC.c [(⟨⟨(⟨1, [97, 110, 110], ([] : List UInt8), 0, [107], 0, 0⟩ : Opm), 1, 2, true, ⟨0, 0, []⟩⟩, none, 0⟩ : HC), (⟨⟨(⟨5, [97, 110, 110], ([] : List UInt8), 0, ([] : List UInt8), 0, 0⟩ : Opm), 3, 4, true, ⟨0, 0, []⟩⟩, none, 0⟩ : HC)]) = ([0, 1], true, 0) := by kernel_rfl
 refine ocQ 21 (Order_calls _ (some ⟨b28, 0, none⟩) 2 [(⟨⟨(⟨1, [97, 110, 110], ([] : List UInt8), 0, [107], 0, 0⟩ : Opm), 1, 2, true, ⟨0, 0, []⟩⟩, none, 0⟩ : HC), (⟨⟨(⟨5, [97, 110, 110], ([] : List UInt8), 0, ([] : List UInt8), 0, 0⟩ : Opm), 3, 4, true, ⟨0, 0, []⟩⟩, none, 0⟩ : HC)] none_ (show RdT _ 13 HC.cells _ _ from Rd.lit H31 (n := 2) rfl (by decide)) (rowsE_nil (fun x hx => by rcases List.mem_cons.1 hx with rfl | hx; (exact ⟨rfl, rfl, rfl⟩); (rcases List.mem_cons.1 hx with rfl | hx; (exact ⟨rfl, rfl, rfl⟩); (cases hx)))) (fun x hx => by rcases List.mem_cons.1 hx with rfl | hx; (decide); (rcases List.mem_cons.1 hx with rfl | hx; (decide); (cases hx))) (by decide)) ?_
 rintro _ w42 ⟨o36, A37, c38, ok39, why40, rfl, K41, hR43, hE44⟩
 obtain ⟨rfl, e46⟩ := Prod.mk.inj (hE44.trans hk45)
 obtain ⟨rfl, rfl⟩ := Prod.mk.inj e46
 refine ⟨_, _, rfl, rfl, ?_⟩
 replace K0 := K0.t0 K41
 replace H8 := H8.kn K41
 replace H17 := H17.kn K41
 replace H26 := H26.kn K41
 replace H31 := H31.kn K41
 refine ogd 7 [(0, .bool false), (1, ptr b1), (2, ptr b10), (3, ptr b19), (4, (Value.slice A37 (([0, 1] : List Nat).length) c38)), (5, .bool true), (6, i64 0)] ?_
 refine qsg ?_
 refine ogo (agg [(i64 5), (Value.string (str [97, 110, 110])), (Value.string ByteArray.empty), (i64 0), (Value.string ByteArray.empty), (i64 0), (i64 0)]) 26 (rld 24 b10 0 H17) rfl ?_
 refine ogo (agg [(i64 40), (i64 0), (Value.slice none 0 0)]) 27 (rld 28 b19 0 H26) rfl ?_
 refine og 1 [(0, .bool false), (1, ptr b1), (2, ptr b10), (3, ptr b19), (4, (Value.slice A37 (([0, 1] : List Nat).length) c38)), (5, .bool true), (6, i64 0), (28, (agg [(i64 5), (Value.string (str [97, 110, 110])), (Value.string ByteArray.empty), (i64 0), (Value.string ByteArray.empty), (i64 0), (i64 0), (i64 1), (i64 4), (Value.bool true), (i64 40), (i64 0), (Value.slice none 0 0)]))] 3 ?_
 refine ogo (agg [(i64 1), (Value.string (str [97, 110, 110])), (Value.string ByteArray.empty), (i64 0), (Value.string (str [107])), (i64 0), (i64 0)]) 29 (rld 24 b1 0 H8) rfl ?_
 refine og 1 [(0, .bool false), (1, ptr b1), (2, ptr b10), (3, ptr b19), (4, (Value.slice A37 (([0, 1] : List Nat).length) c38)), (5, .bool true), (6, i64 0), (28, (agg [(i64 5), (Value.string (str [97, 110, 110])), (Value.string ByteArray.empty), (i64 0), (Value.string ByteArray.empty), (i64 0), (i64 0), (i64 1), (i64 4), (Value.bool true), (i64 40), (i64 0), (Value.slice none 0 0)])), (30, (agg [(i64 1), (Value.string (str [97, 110, 110])), (Value.string ByteArray.empty), (i64 0), (Value.string (str [107])), (i64 0), (i64 0), (i64 2), (i64 3), (Value.bool true), (i64 0), (i64 0), (Value.slice none 0 0)]))] 5 ?_
 refine onew (rowL [(i64 5), (Value.string (str [97, 110, 110])), (Value.string ByteArray.empty), (i64 0), (Value.string ByteArray.empty), (i64 0), (i64 0), (i64 1), (i64 4), (Value.bool true), (i64 40), (i64 0), (Value.slice none 0 0), (i64 1), (Value.string (str [97, 110, 110])), (Value.string ByteArray.empty), (i64 0), (Value.string (str [107])), (i64 0), (i64 0), (i64 2), (i64 3), (Value.bool true), (i64 0), (i64 0), (Value.slice none 0 0)] 43) (fun b => (Value.slice (some ⟨b, 0, none⟩) 2 2)) 31 (fun b => rfl) (fun b47 w48 hb49 H50 K51 hs52 => ?_)
 have lb47b1 : b1 < b47 := by have := H8.lt; omega
 have lb47b10 : b10 < b47 := by have := H17.lt; omega
 have lb47b19 : b19 < b47 := by have := H26.lt; omega
 have lb47b28 : b28 < b47 := by have := H31.lt; omega
 have nb47 : w.heap.size ≤ b47 := by have := K0.size; omega
 replace K0 := K0.t0 K51
 replace H8 := H8.kn K51
 replace H17 := H17.kn K51
 replace H26 := H26.kn K51
 replace H31 := H31.kn K51
 replace hR43 := (Rd.keep0 (by omega) hR43 K51)
 clear K51 hs52
 have hk64 : orderH (List.map HC.c [(⟨⟨(⟨5, [97, 110, 110], ([] : List UInt8), 0, ([] : List UInt8), 0, 0⟩ : Opm), 1, 4, true, ⟨40, 0, []⟩⟩, none, 0⟩ : HC), (⟨⟨(⟨1, [97, 110, 110], ([] : List UInt8), 0, [107], 0, 0⟩ : Opm), 2, 3, true, ⟨0, 0, []⟩⟩, none, 0⟩ : HC)]) = ([0, 1], true, 0) := by kernel_rfl
 refine ocQ 32 (Order_calls _ (some ⟨b47, 0, none⟩) 2 [(⟨⟨(⟨5, [97, 110, 110], ([] : List UInt8), 0, ([] : List UInt8), 0, 0⟩ : Opm), 1, 4, true, ⟨40, 0, []⟩⟩, none, 0⟩ : HC), (⟨⟨(⟨1, [97, 110, 110], ([] : List UInt8), 0, [107], 0, 0⟩ : Opm), 2, 3, true, ⟨0, 0, []⟩⟩, none, 0⟩ : HC)] none_ (show RdT _ 13 HC.cells _ _ from Rd.lit H50 (n := 2) rfl (by decide)) (rowsE_nil (fun x hx => by rcases List.mem_cons.1 hx with rfl | hx; (exact ⟨rfl, rfl, rfl⟩); (rcases List.mem_cons.1 hx with rfl | hx; (exact ⟨rfl, rfl, rfl⟩); (cases hx)))) (fun x hx => by rcases List.mem_cons.1 hx with rfl | hx; (decide); (rcases List.mem_cons.1 hx with rfl | hx; (decide); (cases hx))) (by decide)) ?_
 rintro _ w61 ⟨o55, A56, c57, ok58, why59, rfl, K60, hR62, hE63⟩
 obtain ⟨rfl, e65⟩ := Prod.mk.inj (hE63.trans hk64)
 obtain ⟨rfl, rfl⟩ := Prod.mk.inj e65
 refine ⟨_, _, rfl, rfl, ?_⟩
 replace K0 := K0.t0 K60
 replace H8 := H8.kn K60
 replace H17 := H17.kn K60
 replace H26 := H26.kn K60
 replace H31 := H31.kn K60
 replace H50 := H50.kn K60
 replace hR43 := (Rd.keep0 (by omega) hR43 K60)
 refine ogd 7 [(0, .bool false), (1, ptr b1), (2, ptr b10), (3, ptr b19), (4, (Value.slice A37 (([0, 1] : List Nat).length) c38)), (5, .bool true), (6, i64 0), (7, (Value.slice A56 (([0, 1] : List Nat).length) c57)), (8, .bool true), (9, i64 0)] ?_
 refine qsg ?_
 refine ogo (agg [(i64 1), (Value.string (str [97, 110, 110])), (Value.string ByteArray.empty), (i64 0), (Value.string (str [107])), (i64 0), (i64 0)]) 37 (rld 24 b1 0 H8) rfl ?_
 refine og 1 [(0, .bool false), (2, ptr b10), (3, ptr b19), (4, (Value.slice A37 (([0, 1] : List Nat).length) c38)), (5, .bool true), (6, i64 0), (7, (Value.slice A56 (([0, 1] : List Nat).length) c57)), (8, .bool true), (9, i64 0), (38, (agg [(i64 1), (Value.string (str [97, 110, 110])), (Value.string ByteArray.empty), (i64 0), (Value.string (str [107])), (i64 0), (i64 0), (i64 1), (i64 2), (Value.bool true), (i64 0), (i64 0), (Value.slice none 0 0)]))] 2 ?_
 refine ogo (agg [(i64 5), (Value.string (str [97, 110, 110])), (Value.string ByteArray.empty), (i64 0), (Value.string ByteArray.empty), (i64 0), (i64 0)]) 39 (rld 24 b10 0 H17) rfl ?_
 refine ogo (agg [(i64 40), (i64 0), (Value.slice none 0 0)]) 40 (rld 28 b19 0 H26) rfl ?_
 refine og 1 [(0, .bool false), (4, (Value.slice A37 (([0, 1] : List Nat).length) c38)), (5, .bool true), (6, i64 0), (7, (Value.slice A56 (([0, 1] : List Nat).length) c57)), (8, .bool true), (9, i64 0), (38, (agg [(i64 1), (Value.string (str [97, 110, 110])), (Value.string ByteArray.empty), (i64 0), (Value.string (str [107])), (i64 0), (i64 0), (i64 1), (i64 2), (Value.bool true), (i64 0), (i64 0), (Value.slice none 0 0)])), (41, (agg [(i64 5), (Value.string (str [97, 110, 110])), (Value.string ByteArray.empty), (i64 0), (Value.string ByteArray.empty), (i64 0), (i64 0), (i64 3), (i64 4), (Value.bool true), (i64 40), (i64 0), (Value.slice none 0 0)]))] 5 ?_
 refine onew (rowL [(i64 1), (Value.string (str [97, 110, 110])), (Value.string ByteArray.empty), (i64 0), (Value.string (str [107])), (i64 0), (i64 0), (i64 1), (i64 2), (Value.bool true), (i64 0), (i64 0), (Value.slice none 0 0), (i64 5), (Value.string (str [97, 110, 110])), (Value.string ByteArray.empty), (i64 0), (Value.string ByteArray.empty), (i64 0), (i64 0), (i64 3), (i64 4), (Value.bool true), (i64 40), (i64 0), (Value.slice none 0 0)] 43) (fun b => (Value.slice (some ⟨b, 0, none⟩) 2 2)) 42 (fun b => rfl) (fun b66 w67 hb68 H69 K70 hs71 => ?_)
 have lb66b1 : b1 < b66 := by have := H8.lt; omega
 have lb66b10 : b10 < b66 := by have := H17.lt; omega
 have lb66b19 : b19 < b66 := by have := H26.lt; omega
 have lb66b28 : b28 < b66 := by have := H31.lt; omega
 have lb66b47 : b47 < b66 := by have := H50.lt; omega
 have nb66 : w.heap.size ≤ b66 := by have := K0.size; omega
 replace K0 := K0.t0 K70
 replace H8 := H8.kn K70
 replace H17 := H17.kn K70
 replace H26 := H26.kn K70
 replace H31 := H31.kn K70
 replace H50 := H50.kn K70
 replace hR43 := (Rd.keep0 (by omega) hR43 K70)
 replace hR62 := (Rd.keep0 (by omega) hR62 K70)
 clear K70 hs71
 have hk79 : orderH (List.map HC.c [(⟨⟨(⟨1, [97, 110, 110], ([] : List UInt8), 0, [107], 0, 0⟩ : Opm), 1, 2, true, ⟨0, 0, []⟩⟩, none, 0⟩ : HC), (⟨⟨(⟨5, [97, 110, 110], ([] : List UInt8), 0, ([] : List UInt8), 0, 0⟩ : Opm), 3, 4, true, ⟨40, 0, []⟩⟩, none, 0⟩ : HC)]) = ([], false, 0) := by kernel_rfl
 refine ocQ 43 (Linear_calls _ (some ⟨b66, 0, none⟩) 2 [(⟨⟨(⟨1, [97, 110, 110], ([] : List UInt8), 0, [107], 0, 0⟩ : Opm), 1, 2, true, ⟨0, 0, []⟩⟩, none, 0⟩ : HC), (⟨⟨(⟨5, [97, 110, 110], ([] : List UInt8), 0, ([] : List UInt8), 0, 0⟩ : Opm), 3, 4, true, ⟨40, 0, []⟩⟩, none, 0⟩ : HC)] none_ (show RdT _ 13 HC.cells _ _ from Rd.lit H69 (n := 2) rfl (by decide)) (rowsE_nil (fun x hx => by rcases List.mem_cons.1 hx with rfl | hx; (exact ⟨rfl, rfl, rfl⟩); (rcases List.mem_cons.1 hx with rfl | hx; (exact ⟨rfl, rfl, rfl⟩); (cases hx)))) (fun x hx => by rcases List.mem_cons.1 hx with rfl | hx; (decide); (rcases List.mem_cons.1 hx with rfl | hx; (decide); (cases hx))) (by decide)) ?_
 rintro _ w77 ⟨ok74, why75, rfl, K76, hE78⟩
 obtain ⟨rfl, rfl⟩ := Prod.mk.inj (hE78.trans (congrArg Prod.snd hk79))
 refine ⟨_, _, rfl, rfl, ?_⟩
 replace K0 := K0.t0 K76
 replace H8 := H8.kn K76
 replace H17 := H17.kn K76
 replace H26 := H26.kn K76
 replace H31 := H31.kn K76
 replace H50 := H50.kn K76
 replace H69 := H69.kn K76
 replace hR43 := (Rd.keep0 (by omega) hR43 K76)
 replace hR62 := (Rd.keep0 (by omega) hR62 K76)
 refine ogd 5 [(0, .bool false), (4, (Value.slice A37 (([0, 1] : List Nat).length) c38)), (5, .bool true), (6, i64 0), (7, (Value.slice A56 (([0, 1] : List Nat).length) c57)), (8, .bool true), (9, i64 0), (10, .bool false), (11, i64 0)] ?_
 refine qsg ?_
 refine og 7 [(0, .bool false), (7, (Value.slice A56 (([0, 1] : List Nat).length) c57)), (8, .bool true), (9, i64 0), (10, .bool false), (11, i64 0), (51, .bool true), (52, (Value.slice A37 (([0, 1] : List Nat).length) c38))] 7 ?_
 refine onew (rowL [(i64 0), (i64 1)] 3) (fun b => (Value.slice (some ⟨b, 0, none⟩) 2 2)) 53 (fun b => rfl) (fun b80 w81 hb82 H83 K84 hs85 => ?_)
 have lb80b1 : b1 < b80 := by have := H8.lt; omega
 have lb80b10 : b10 < b80 := by have := H17.lt; omega
 have lb80b19 : b19 < b80 := by have := H26.lt; omega
 have lb80b28 : b28 < b80 := by have := H31.lt; omega
 have lb80b47 : b47 < b80 := by have := H50.lt; omega
 have lb80b66 : b66 < b80 := by have := H69.lt; omega
 have nb80 : w.heap.size ≤ b80 := by have := K0.size; omega
 replace K0 := K0.t0 K84
 replace H8 := H8.kn K84
 replace H17 := H17.kn K84
 replace H26 := H26.kn K84
 replace H31 := H31.kn K84
 replace H50 := H50.kn K84
 replace H69 := H69.kn K84
 replace hR43 := (Rd.keep0 (by omega) hR43 K84)
 replace hR62 := (Rd.keep0 (by omega) hR62 K84)
 clear K84 hs85
 refine ocQ 54 (sameN_calls _ A37 c38 ([0, 1] : List Nat) (some ⟨b80, 0, none⟩) 2 [0, 1] hR43 (show RdT _ 1 iN _ [0, 1] from Rd.lit H83 (n := 2) rfl (by decide))) ?_
 rintro _ w89 ⟨t86, rfl, ht87, K88⟩
 refine ⟨_, _, rfl, rfl, ?_⟩
 replace K0 := K0.t0 K88
 replace H8 := H8.kn K88
 replace H17 := H17.kn K88
 replace H26 := H26.kn K88
 replace H31 := H31.kn K88
 replace H50 := H50.kn K88
 replace H69 := H69.kn K88
 replace H83 := H83.kn K88
 replace hR62 := (Rd.keep0 (by omega) hR62 K88)
 refine og 2 [(0, .bool false), (7, (Value.slice A56 (([0, 1] : List Nat).length) c57)), (8, .bool true), (9, i64 0), (10, .bool false), (11, i64 0), (56, .bool t86)] 11 ?_
 have h90 : t86 = true := ht87.2 rfl
 rw [h90]
 refine og 8 [(0, .bool false), (10, .bool false), (11, i64 0), (63, .bool true), (64, (Value.slice A56 (([0, 1] : List Nat).length) c57))] 19 ?_
 refine onew (rowL [(i64 0), (i64 1)] 3) (fun b => (Value.slice (some ⟨b, 0, none⟩) 2 2)) 65 (fun b => rfl) (fun b91 w92 hb93 H94 K95 hs96 => ?_)
 have lb91b1 : b1 < b91 := by have := H8.lt; omega
 have lb91b10 : b10 < b91 := by have := H17.lt; omega
 have lb91b19 : b19 < b91 := by have := H26.lt; omega
 have lb91b28 : b28 < b91 := by have := H31.lt; omega
 have lb91b47 : b47 < b91 := by have := H50.lt; omega
 have lb91b66 : b66 < b91 := by have := H69.lt; omega
 have lb91b80 : b80 < b91 := by have := H83.lt; omega
 have nb91 : w.heap.size ≤ b91 := by have := K0.size; omega
 replace K0 := K0.t0 K95
 replace hR62 := (Rd.keep0 (by omega) hR62 K95)
 clear K95 hs96
 refine ocQ 66 (sameN_calls _ A56 c57 ([0, 1] : List Nat) (some ⟨b91, 0, none⟩) 2 [0, 1] hR62 (show RdT _ 1 iN _ [0, 1] from Rd.lit H94 (n := 2) rfl (by decide))) ?_
 rintro _ w100 ⟨t97, rfl, ht98, K99⟩
 refine ⟨_, _, rfl, rfl, ?_⟩
 replace K0 := K0.t0 K99
 refine og 2 [(0, .bool false), (10, .bool false), (11, i64 0), (68, .bool t97)] 23 ?_
 have h101 : t97 = true := ht98.2 rfl
 rw [h101]
 refine ogd 8 [(0, .bool true)] ?_
 refine qtQ ?_
 refine ⟨(Value.bool true), retv_tmp rfl rfl, ?_⟩
 exact ⟨rfl, K0⟩
theorem hard_calls (w : World) (LA : Option Addr) (lc : Nat) (l : List HC) (hL : RdT w 13 HC.cells (Value.slice LA l.length lc) l) : Calls Tryd.prog 9 ⟨[(Value.slice LA l.length lc)]⟩ w (fun e w' => ∃ t, e = .returned (.bool t) ∧ (t = false → l.length ≤ 40) ∧ Keeps none_ w w') := by
 have hcap := (RdT.len HC.two (by decide) hL).2
 unfold maxLen at hcap
 have K0 : Keeps none_ w w := Keeps.refl w
 refine q_calls Tryd.func9 (by kernel_rfl) (by kernel_rfl) ?_
 refine qsg ?_
 refine ogd 1 [(0, .slice LA l.length lc), (2, .bool false)] ?_
 refine qsg ?_
 refine ogd 1 [(0, .slice LA l.length lc), (2, .bool false), (3, i64 0)] ?_
 refine qs ?_
 refine qsg ?_
 refine ogd 1 [(0, .slice LA l.length lc), (2, .bool false), (3, i64 0), (4, i64 0)] ?_
 refine q_block (id := 0) (by kernel_rfl) ?_
 refine q_keep (R := [(0, .slice LA l.length lc), (2, .bool false), (3, i64 0), (4, i64 0)]) (by kernel_rfl) ?_
 refine q_loop (fun (gs : Nat × Nat) L (wx : World) => match gs with | (ii, n) => L = [(0, (Value.slice LA l.length lc)), (2, (Value.bool false)), (3, (i64 ((n : Nat) : Int))), (4, (i64 ((ii : Nat) : Int)))] ∧ n ≤ ii ∧ ii ≤ l.length ∧ Keeps none_ w wx) (fun (gs : Nat × Nat) => match gs with | (ii, n) => l.length - ii) (0, 0) (by kernel_rfl) ⟨rfl, Nat.zero_le _, Nat.zero_le _, K0⟩ ?_
 clear K0
 rintro ⟨ii, n⟩ _ w1 ⟨rfl, hn, hi, K2⟩
 refine qs ?_
 refine qsg ?_
 refine ogd 4 [(0, .slice LA l.length lc), (2, .bool false), (3, i64 ↑n), (4, i64 ↑ii), (8, (Value.bool (decide (((ii : Nat) : Int) < ((l.length : Nat) : Int)))))] ?_
 refine qcQ 8 (decide (((ii : Nat) : Int) < ((l.length : Nat) : Int))) rfl (fun h3 => ?_) (fun h3 => ?_)
 ·rw [h3]
  have p4 := of_decide_eq_true h3
  refine qkQ ?_
  refine qs ?_
  refine q_block (id := 1) (by kernel_rfl) ?_
  refine qsg ?_
  refine og 2 [(0, .slice LA l.length lc), (2, .bool false), (3, i64 ↑n), (4, i64 ↑ii), (11, .slice LA l.length lc), (12, i64 ↑ii)] 2 ?_
  obtain ⟨x, hx⟩ : ∃ x, l[ii]? = some x := ⟨_, List.getElem?_eq_getElem (by omega)⟩
  obtain ⟨rb5, ro6, hA7⟩ := Rd.addr (Rd.keep0 (by decide) hL K2) (by omega)
  refine Ops.go (by kernel_rfl) (Runs.ixSliceE (k := IntKind.i64) (t := 22) (len := l.length) (cap := lc) (s := 13) (off' := ro6 + ii * 13) (i := ((ii : Nat) : Int)) hA7 (by kernel_rfl) (by kernel_rfl) (by omega) (by omega) (by omega)) (d := (some 13)) (by kernel_rfl) rfl ?_
  refine og 1 [(0, .slice LA l.length lc), (2, .bool false), (3, i64 ↑n), (4, i64 ↑ii), (14, .pointer (some ⟨rb5, ro6 + ii * 13 + 9, none⟩))] 4 ?_
  refine ogo (Value.bool x.c.told) 15 (Runs.load (t := 4) (a := ⟨rb5, ro6 + ii * 13 + 9, none⟩) (by kernel_rfl) (RdT.ldf (f := HC.cells) (x := x) (o := 9) HC.two (Rd.keep0 (by decide) hL K2) (by kernel_rfl) hA7 hx rfl)) rfl ?_
  refine og 2 [(0, .slice LA l.length lc), (2, .bool false), (3, i64 ↑n), (4, i64 ↑ii), (17, .bool (!x.c.told))] 7 ?_
  refine Ops.split (!x.c.told) (fun h8 => ?_) (fun h8 => ?_)
  ·rw [h8]
   have p9 := bnot_true h8
   refine ogd 8 [(0, .slice LA l.length lc), (2, .bool false), (3, i64 ↑n), (4, i64 ↑ii), (25, .bool true)] ?_
   refine q_then (o := .tmp 25) (by kernel_rfl) rfl ?_
   refine qg ?_
   refine og 2 [(0, .slice LA l.length lc), (2, .bool false), (3, i64 ↑n), (4, i64 ↑ii), (27, (i64 (IntKind.i64.wrap (((n : Nat) : Int) + 1))))] 2 ?_
   rw [show IntKind.i64.wrap (((n : Nat) : Int) + 1) = ((n + 1 : Nat) : Int) from by rw [wrap_i64 (by omega) (by omega)]; omega]
   refine ogd 1 [(0, .slice LA l.length lc), (2, .bool false), (3, i64 ↑(n + 1)), (4, i64 ↑ii)] ?_
   refine qg ?_
   refine og 2 [(0, .slice LA l.length lc), (2, .bool false), (3, i64 ↑(n + 1)), (4, i64 ↑ii), (10, (i64 (IntKind.i64.wrap (((ii : Nat) : Int) + 1))))] 2 ?_
   rw [show IntKind.i64.wrap (((ii : Nat) : Int) + 1) = ((ii + 1 : Nat) : Int) from by rw [wrap_i64 (by omega) (by omega)]; omega]
   refine og 1 [(0, .slice LA l.length lc), (2, .bool false), (3, i64 ↑(n + 1)), (4, i64 ↑(ii + 1))] 3 ?_
   refine ok_ [(0, .slice LA l.length lc), (2, .bool false), (3, i64 ↑(n + 1)), (4, i64 ↑(ii + 1))] ?_
   refine od ?_
   exact ⟨(ii + 1, n + 1), ⟨rfl, (by omega), (by omega), K2⟩, (show l.length - (ii + 1) < l.length - ii from by omega)⟩
  ·rw [h8]
   have p12 := bnot_false h8
   refine og 2 [(0, .slice LA l.length lc), (2, .bool false), (3, i64 ↑n), (4, i64 ↑ii), (17, .bool false), (18, .slice LA l.length lc), (19, i64 ↑ii)] 9 ?_
   refine Ops.go (by kernel_rfl) (Runs.ixSliceE (k := IntKind.i64) (t := 22) (len := l.length) (cap := lc) (s := 13) (off' := ro6 + ii * 13) (i := ((ii : Nat) : Int)) hA7 (by kernel_rfl) (by kernel_rfl) (by omega) (by omega) (by omega)) (d := (some 20)) (by kernel_rfl) rfl ?_
   refine og 2 [(0, .slice LA l.length lc), (2, .bool false), (3, i64 ↑n), (4, i64 ↑ii), (17, .bool false), (22, .pointer (some ⟨rb5, ro6 + ii * 13 + 10, none⟩))] 12 ?_
   refine ogo (i64 x.c.rep.why) 23 (Runs.load (t := 25) (a := ⟨rb5, ro6 + ii * 13 + 10, none⟩) (by kernel_rfl) (RdT.ldf (f := HC.cells) (x := x) (o := 10) HC.two (Rd.keep0 (by decide) hL K2) (by kernel_rfl) hA7 hx rfl)) rfl ?_
   refine ogd 2 [(0, .slice LA l.length lc), (2, .bool false), (3, i64 ↑n), (4, i64 ↑ii), (25, .bool (x.c.rep.why != 50))] ?_
   refine qcQ 25 (x.c.rep.why != 50) rfl (fun h13 => ?_) (fun h13 => ?_)
   ·rw [h13]
    have p14 := of_bne_t h13
    refine qg ?_
    refine og 2 [(0, .slice LA l.length lc), (2, .bool false), (3, i64 ↑n), (4, i64 ↑ii), (27, (i64 (IntKind.i64.wrap (((n : Nat) : Int) + 1))))] 2 ?_
    rw [show IntKind.i64.wrap (((n : Nat) : Int) + 1) = ((n + 1 : Nat) : Int) from by rw [wrap_i64 (by omega) (by omega)]; omega]
    refine ogd 1 [(0, .slice LA l.length lc), (2, .bool false), (3, i64 ↑(n + 1)), (4, i64 ↑ii)] ?_
    refine qg ?_
    refine og 2 [(0, .slice LA l.length lc), (2, .bool false), (3, i64 ↑(n + 1)), (4, i64 ↑ii), (10, (i64 (IntKind.i64.wrap (((ii : Nat) : Int) + 1))))] 2 ?_
    rw [show IntKind.i64.wrap (((ii : Nat) : Int) + 1) = ((ii + 1 : Nat) : Int) from by rw [wrap_i64 (by omega) (by omega)]; omega]
    refine og 1 [(0, .slice LA l.length lc), (2, .bool false), (3, i64 ↑(n + 1)), (4, i64 ↑(ii + 1))] 3 ?_
    refine ok_ [(0, .slice LA l.length lc), (2, .bool false), (3, i64 ↑(n + 1)), (4, i64 ↑(ii + 1))] ?_
    refine od ?_
    exact ⟨(ii + 1, n + 1), ⟨rfl, (by omega), (by omega), K2⟩, (show l.length - (ii + 1) < l.length - ii from by omega)⟩
   ·rw [h13]
    have p17 := of_bne_f h13
    refine qkQ ?_
    refine qg ?_
    refine og 2 [(0, .slice LA l.length lc), (2, .bool false), (3, i64 ↑n), (4, i64 ↑ii), (10, (i64 (IntKind.i64.wrap (((ii : Nat) : Int) + 1))))] 2 ?_
    rw [show IntKind.i64.wrap (((ii : Nat) : Int) + 1) = ((ii + 1 : Nat) : Int) from by rw [wrap_i64 (by omega) (by omega)]; omega]
    refine og 1 [(0, .slice LA l.length lc), (2, .bool false), (3, i64 ↑n), (4, i64 ↑(ii + 1))] 3 ?_
    refine ok_ [(0, .slice LA l.length lc), (2, .bool false), (3, i64 ↑n), (4, i64 ↑(ii + 1))] ?_
    refine od ?_
    exact ⟨(ii + 1, n), ⟨rfl, (by omega), (by omega), K2⟩, (show l.length - (ii + 1) < l.length - ii from by omega)⟩
 ·rw [h3]
  have p19 := of_decide_eq_false h3
  refine q_exit (id := 0) (by kernel_rfl) ?_
  refine qsg ?_
  refine og 4 [(0, .slice LA l.length lc), (2, .bool false), (3, i64 ↑n), (31, (Value.bool (decide (((l.length : Nat) : Int) > 40))))] 4 ?_
  refine Ops.split (decide (((l.length : Nat) : Int) > 40)) (fun h20 => ?_) (fun h20 => ?_)
  ·rw [h20]
   have p21 := of_decide_eq_true h20
   refine ogd 13 [(2, .bool true)] ?_
   refine qtQ ?_
   refine ⟨(Value.bool true), retv_tmp rfl rfl, ?_⟩
   exact ⟨_, rfl, fun h => (by cases h), K2⟩
  ·rw [h20]
   have p22 := of_decide_eq_false h20
   refine og 3 [(0, .slice LA l.length lc), (2, .bool false), (3, i64 ↑n), (31, .bool false), (34, (Value.bool (decide (((n : Nat) : Int) > 6))))] 7 ?_
   refine Ops.split (decide (((n : Nat) : Int) > 6)) (fun h23 => ?_) (fun h23 => ?_)
   ·rw [h23]
    have p24 := of_decide_eq_true h23
    refine og 4 [(0, .slice LA l.length lc), (2, .bool false), (31, .bool false), (38, (Value.bool (decide (((n : Nat) : Int) ≤ 8))))] 11 ?_
    refine Ops.split (decide (((n : Nat) : Int) ≤ 8)) (fun h25 => ?_) (fun h25 => ?_)
    ·rw [h25]
     have p26 := of_decide_eq_true h25
     refine ogd 6 [(2, (Value.bool (decide (((l.length : Nat) : Int) > 12))))] ?_
     refine qtQ ?_
     refine ⟨(Value.bool (decide (((l.length : Nat) : Int) > 12))), retv_tmp rfl rfl, ?_⟩
     exact ⟨_, rfl, fun h => (by have h := h; simp at h; omega), K2⟩
    ·rw [h25]
     have p27 := of_decide_eq_false h25
     refine ogd 6 [(2, .bool false)] ?_
     refine qtQ ?_
     refine ⟨(Value.bool false), retv_tmp rfl rfl, ?_⟩
     exact ⟨_, rfl, fun h => (by omega), K2⟩
   ·rw [h23]
    have p28 := of_decide_eq_false h23
    refine ogd 10 [(2, .bool false)] ?_
    refine qtQ ?_
    refine ⟨(Value.bool false), retv_tmp rfl rfl, ?_⟩
    exact ⟨_, rfl, fun h => (by omega), K2⟩
end Go.Proofs.YtnbcghbgeiocbaaDoor
namespace Go.Q
open Go.RowKit
inductive Lin : List HCall → LS_ → Prop
 | done {U : List HCall} {s : LS_} : (∀ c ∈ U, c.told = false) → Lin U s
 | step {U A B : List HCall} {c : HCall} {s s' : LS_} : U = A ++ c :: B → (∀ d ∈ A ++ B, aheadH d c = false) → stepH c s = some s' → Lin (A ++ B) s' → Lin U s
theorem perm_split {α : Type} {A B A' B' : List α} {c : α} (h : (A ++ c :: B).Perm (A' ++ c :: B')) : (A ++ B).Perm (A' ++ B') :=
 ((List.perm_middle.symm.trans h).trans List.perm_middle).cons_inv
theorem Lin.perm {U V : List HCall} {s : LS_} (h : Lin U s) (hp : U.Perm V) : Lin V s := by
 induction h generalizing V with
 | done h => exact .done fun c hc => h c (hp.mem_iff.2 hc)
 | @step U A B c s s' e ha hs hl ih =>
  subst e
  obtain ⟨A', B', rfl⟩ := List.append_of_mem (hp.mem_iff.1 (List.mem_append_right _ (List.mem_cons_self ..)))
  have hq := perm_split hp
  exact .step rfl (fun d hd => ha d (hq.mem_iff.2 hd)) hs (ih hq)
theorem Lin.map {f : HCall → HCall} (ht : ∀ c, (f c).told = c.told) (hs : ∀ c s, stepH (f c) s = stepH c s) {U : List HCall} {s : LS_} (h : Lin U s) (hU : ∀ c ∈ U, ∀ d ∈ U, aheadH d c = false → aheadH (f d) (f c) = false) : Lin (U.map f) s := by
 induction h with
 | done h => exact .done fun c hc => by obtain ⟨x, hx, rfl⟩ := List.mem_map.1 hc; rw [ht]; exact h x hx
 | @step U A B c s s' e ha hst hl ih =>
  subst e
  have hin : ∀ d ∈ A ++ B, d ∈ A ++ c :: B := fun d hd => by
   rcases List.mem_append.1 hd with h | h
   ·exact List.mem_append_left _ h
   ·exact List.mem_append_right _ (List.mem_cons_of_mem _ h)
  refine .step (A := A.map f) (B := B.map f) (c := f c) (by rw [List.map_append, List.map_cons]) (fun d hd => ?_) (by rw [hs]; exact hst) (by rw [← List.map_append]; exact ih fun c hc d hd => hU c (hin c hc) d (hin d hd))
  rw [← List.map_append] at hd
  obtain ⟨x, hx, rfl⟩ := List.mem_map.1 hd
  exact hU c (List.mem_append_right _ (List.mem_cons_self ..)) x (hin x hx) (ha x hx)
def undH (X : List (HCall × Nat)) (d : Nat) : List HCall := (X.zipIdx.filter fun p => !d.testBit p.2).map fun p => p.1.1
theorem one_some {X : List (HCall × Nat)} {t : Sr LS_} {i : Nat} {c : HCall × Nat} (hc : X[i]? = some c) {t' : Sr LS_} : (probH X).one t i = some t' ↔ t.done.testBit i = false ∧ (∀ j x, X[j]? = some x → j ≠ i → t.done.testBit j = false → aheadH x.1 c.1 = false) ∧ ∃ s', stepH c.1 t.s = some s' ∧ t' = ⟨t.order ++ [c.2], t.done ||| (1 <<< i), if c.1.told then t.left - 1 else t.left, s'⟩ := by
 have hw : (probH X).wait t.done i = X.zipIdx.any fun p => decide (p.2 ≠ i) && !t.done.testBit p.2 && aheadH p.1.1 c.1 := by
  show (match X[i]? with | some c => X.zipIdx.any fun p => decide (p.2 ≠ i) && !t.done.testBit p.2 && aheadH p.1.1 c.1 | none => true) = _
  rw [hc]
 have hs : (probH X).step i t.s = stepH c.1 t.s := by show (match X[i]? with | some c => stepH c.1 t.s | none => none) = _; rw [hc]
 have hn : (probH X).num i = c.2 := by show (match X[i]? with | some c => c.2 | none => 0) = _; rw [hc]
 have ht : (probH X).told i = c.1.told := by show (match X[i]? with | some c => c.1.told | none => false) = _; rw [hc]
 unfold Prob.one
 rw [hw, hs, hn, ht]
 constructor
 ·intro h
  split at h
  ·cases h
  ·rename_i hb
   rw [Bool.or_eq_true, not_or] at hb
   obtain ⟨s', hs', rfl⟩ := Option.map_eq_some_iff.1 h
   refine ⟨by simpa using hb.1, fun j x hx hj hbj => ?_, s', hs', rfl⟩
   cases hq : aheadH x.1 c.1 with
   | false => rfl
   | true =>
    exfalso
    apply hb.2
    rw [List.any_eq_true]
    exact ⟨(x, j), List.mem_of_getElem? (i := j) (by rw [List.getElem?_zipIdx, hx]; simp), by simp [hj, hbj, hq]⟩
 ·rintro ⟨h1, h2, s', h3, rfl⟩
  have hany : (X.zipIdx.any fun p => decide (p.2 ≠ i) && !t.done.testBit p.2 && aheadH p.1.1 c.1) = false := by
   rw [List.any_eq_false]
   intro p hp hq
   rw [Bool.and_eq_true, Bool.and_eq_true] at hq
   have := h2 p.2 p.1 (zip_mem hp) (of_decide_eq_true hq.1.1) (by simpa using hq.1.2)
   rw [this] at hq
   cases hq.2
  rw [h1, hany, h3]
  rfl
theorem looked_fst (l : List HCall) : (lookedH l).map Prod.fst = l.filter countsH := by
 unfold lookedH
 have h := List.filter_map (f := Prod.fst) (p := countsH) (l := l.zipIdx)
 rw [List.zipIdx_map_fst] at h
 rw [h]; rfl
def linH (l : List HCall) : Prop := Lin (l.filter countsH) ([], [])
def goodH (l : List HCall) : Prop := ¬ 8 < (l.filter countsH).length ∧ (l.filter countsH).any (fun c => c.told && decide (c.en < c.bg)) = false
def scaleH (k : Int) (c : HCall) : HCall := ⟨c.op, c.bg * k, c.en * k, c.told, c.rep⟩
end Go.Q
namespace Go.Q
open Go.ChangeShapes Go.WideShapes Go.ChangeAt Go.RowKit Go.Deep Go.Op
section
variable {H : Type} {enc : TypeId × Value → H} {P : Program} {w : World} {base : Nat} {spare : Nat → Bool} {held : Bool}
def HC.Rng (x : HC) : Prop := (-9223372036854775808 ≤ x.c.op.amount ∧ x.c.op.amount ≤ 9223372036854775807) ∧ (-9223372036854775808 ≤ x.c.bg ∧ x.c.bg ≤ 9223372036854775807) ∧ (-9223372036854775808 ≤ x.c.en ∧ x.c.en ≤ 9223372036854775807)
theorem dec_call {e ti tb to tr r t0 t1 t2 : TypeId} {fs os ps rs : Array Field} {m : Nat} {cs : List Value} {y : DataW H × List MemPlace} (he : P.underlying e = some (.struct fs))
  (k0 : fieldAt? P fs 0 = some (0, 7, to)) (k1 : fieldAt? P fs 1 = some (7, 1, ti)) (k2 : fieldAt? P fs 2 = some (8, 1, ti)) (k3 : fieldAt? P fs 3 = some (9, 1, tb)) (k4 : fieldAt? P fs 4 = some (10, 3, tr))
  (u1 : P.underlying ti = some (.int .i64)) (u3 : P.underlying tb = some .bool)
  (ho : P.underlying to = some (.struct os)) (oone : oneCellFields P os = true) (oC : P.cellsOf to = os.size) (o7 : os.size = 7)
  (o0 : fieldOf? P os 0 = some (.int .i64)) (o1 : fieldOf? P os 1 = some .string) (o2 : fieldOf? P os 2 = some .string) (o3 : fieldOf? P os 3 = some (.int .i64)) (o4 : fieldOf? P os 4 = some .string) (o5 : fieldOf? P os 5 = some (.int .i64)) (o6 : fieldOf? P os 6 = some (.int .i64))
  (hp : P.underlying tr = some (.struct ps)) (p0 : fieldAt? P ps 0 = some (0, 1, t0)) (p1 : fieldAt? P ps 1 = some (1, 1, t1)) (p2 : fieldAt? P ps 2 = some (2, 1, t2)) (v0 : P.underlying t0 = some (.int .i64)) (v1 : P.underlying t1 = some (.int .i64)) (v2 : P.underlying t2 = some (.slice r))
  (hr : P.underlying r = some (.struct rs)) (hrone : oneCellFields P rs = true) (hrC : P.cellsOf r = rs.size) (hr2 : rs.size = 2) (hrb : P.bytesOf r = 24)
  (j0 : fieldOf? P rs 0 = some .string) (j1 : fieldOf? P rs 1 = some (.int .i64)) (hl : cs.length = 13) (hz : ∀ k ∈ y.1.weights P e, k ≤ reachBytes) (htr : DataW.trod enc P w base spare held m e cs = some y) :
  ∃ x : HC, (x.In w ∧ x.Rng) ∧ cs = x.cells := by
 match cs, hl with
 | [c0, c1, c2, c3, c4, c5, c6, c7, c8, c9, c10, c11, c12], _ =>
  obtain ⟨m0, z0, s0, _⟩ := trod_field he htr k0
  obtain ⟨m1, z1, s1, _⟩ := trod_field he htr k1
  obtain ⟨m2, z2, s2, _⟩ := trod_field he htr k2
  obtain ⟨m3, z3, s3, _⟩ := trod_field he htr k3
  obtain ⟨m4, z4, s4, w4⟩ := trod_field he htr k4
  obtain ⟨n1, e1, _, w1⟩ := DataW.trod_int u1 s1
  obtain ⟨n2, e2, _, w2⟩ := DataW.trod_int u1 s2
  obtain ⟨b3, e3, _⟩ := DataW.trod_bool u3 s3
  obtain ⟨o, hok, eo⟩ := dec_op ho oone oC o7 o0 o1 o2 o3 o4 o5 o6 (by rw [o7]; rfl) s0
  obtain ⟨p, A, c, hpk, ep, hpR, hpz⟩ := dec_reply hp p0 p1 p2 v0 v1 v2 hr hrone hrC hr2 hrb j0 j1 rfl (fun k hk => hz k (w4 k hk)) s4
  simp only [List.drop_succ_cons, List.drop_zero, List.take_succ_cons, List.take_zero, List.cons.injEq, and_true] at e1 e2 e3 eo ep
  have eo2 : [c0, c1, c2, c3, c4, c5, c6] = o.cells := eo
  have ep2 : [c10, c11, c12] = [i64 p.why, i64 p.amount, .slice A p.rows.length c] := by simpa using ep
  unfold Opm.cells at eo2
  simp only [List.cons.injEq, and_true] at eo2 ep2
  obtain ⟨rfl, rfl, rfl, rfl, rfl, rfl, rfl⟩ := eo2
  obtain ⟨rfl, rfl, rfl⟩ := ep2
  subst e1; subst e2; subst e3
  exact ⟨⟨⟨o, n1, n2, b3, p⟩, A, c⟩, ⟨⟨hpR, hpz⟩, hok.amount, wf_i64 w1, wf_i64 w2⟩, rfl⟩
theorem open_calls {s e ti tb to tr r t0 t1 t2 : TypeId} {fs os ps rs : Array Field} {v : Value} {d : DataW H} {pl : List MemPlace} (hs : P.underlying s = some (.slice e)) (he : P.underlying e = some (.struct fs)) (hC : P.cellsOf e = 13)
  (k0 : fieldAt? P fs 0 = some (0, 7, to)) (k1 : fieldAt? P fs 1 = some (7, 1, ti)) (k2 : fieldAt? P fs 2 = some (8, 1, ti)) (k3 : fieldAt? P fs 3 = some (9, 1, tb)) (k4 : fieldAt? P fs 4 = some (10, 3, tr))
  (u1 : P.underlying ti = some (.int .i64)) (u3 : P.underlying tb = some .bool)
  (ho : P.underlying to = some (.struct os)) (oone : oneCellFields P os = true) (oC : P.cellsOf to = os.size) (o7 : os.size = 7)
  (o0 : fieldOf? P os 0 = some (.int .i64)) (o1 : fieldOf? P os 1 = some .string) (o2 : fieldOf? P os 2 = some .string) (o3 : fieldOf? P os 3 = some (.int .i64)) (o4 : fieldOf? P os 4 = some .string) (o5 : fieldOf? P os 5 = some (.int .i64)) (o6 : fieldOf? P os 6 = some (.int .i64))
  (hp : P.underlying tr = some (.struct ps)) (p0 : fieldAt? P ps 0 = some (0, 1, t0)) (p1 : fieldAt? P ps 1 = some (1, 1, t1)) (p2 : fieldAt? P ps 2 = some (2, 1, t2)) (v0 : P.underlying t0 = some (.int .i64)) (v1 : P.underlying t1 = some (.int .i64)) (v2 : P.underlying t2 = some (.slice r))
  (hr : P.underlying r = some (.struct rs)) (hrone : oneCellFields P rs = true) (hrC : P.cellsOf r = rs.size) (hr2 : rs.size = 2) (hrb : P.bytesOf r = 24)
  (j0 : fieldOf? P rs 0 = some .string) (j1 : fieldOf? P rs 1 = some (.int .i64))
  (hv : Value.okWide P w .any 0 s v) (hz : ∀ k ∈ d.weights P s, k ≤ reachBytes) (h : DataW.Trod enc P w base spare held s v d pl) :
  ∃ (l : List HC) (A : Option Addr) (c : Nat), v = .slice A l.length c ∧ RdT w 13 HC.cells (.slice A l.length c) l ∧ ∀ x ∈ l, x.In w ∧ x.Rng := by
 obtain ⟨fuel, h⟩ := trod_fuel h (slice_form hs hv)
 obtain ⟨css, hR, hc, _, A, c, hA⟩ := open_rows_w (sz := 13) (fun cs z => (∀ k ∈ z.weights P e, k ≤ reachBytes) → ∃ x : HC, (x.In w ∧ x.Rng) ∧ cs = x.cells) hs hC (by decide) h fun m cs y hl htr hz =>
  dec_call he k0 k1 k2 k3 k4 u1 u3 ho oone oC o7 o0 o1 o2 o3 o4 o5 o6 hp p0 p1 p2 v0 v1 v2 hr hrone hrC hr2 hrb j0 j1 hl hz htr
 obtain ⟨l, hb, hl2, hg⟩ := flat_models (f := HC.cells) (Good := fun x => x.In w ∧ x.Rng) (css := css) fun cs hcs => by
  obtain ⟨z, h1, h2⟩ := hc cs hcs
  exact h1 fun k hk => hz k (h2 k hk)
 rw [← hl2] at hA
 subst hA
 exact ⟨l, A, c, rfl, by unfold RdT; rw [← hb]; exact hR, hg⟩
end
section
def rotI (t : Int) (n : Nat) : Nat := (t.tmod ((n : Nat) : Int) + ((n : Nat) : Int)).toNat % n
def rotL (t : Int) (l : List HC) : List HC := l.drop (rotI t l.length) ++ l.take (rotI t l.length)
theorem map_all {P : HCall → Prop} {o q : List HC} (h : o.map HC.c = q.map HC.c) (hq : ∀ x ∈ q, P x.c) : ∀ x ∈ o, P x.c := by
 intro x hx
 have : x.c ∈ q.map HC.c := by rw [← h]; exact List.mem_map_of_mem hx
 obtain ⟨y, hy, e⟩ := List.mem_map.1 this
 rw [← e]; exact hq y hy
theorem HC.In.keep {w w' : World} {x : HC} (h : x.In w) (K : Keeps none_ w w') : x.In w' := ⟨Rd.keep0 (by decide) h.rows K, h.rlen⟩
end
end Go.Q
namespace Go.Q
open Go.RowKit
theorem oneK_len (S : List RowM) (K : List KeptM) (o : Opm) : (doK S K o).length ≤ K.length + 1 := by
 unfold doK
 split
 ·rw [List.length_append]; exact Nat.le_refl _
 ·omega
theorem oneR_rows (S : List RowM) (K : List KeptM) (o : Opm) : (doR S K o).rows.length ≤ S.length := by
 unfold doR
 repeat' split
 all_goals first | exact Nat.zero_le _ | exact Nat.le_refl _
def oneStep (x : LS_ × List HCall) (o : Opm) : LS_ × List HCall := ((doS x.1.1 x.1.2 o, doK x.1.1 x.1.2 o), x.2 ++ [⟨o, ((2 * x.2.length : Nat) : Int), ((2 * x.2.length + 1 : Nat) : Int), true, doR x.1.1 x.1.2 o⟩])
def oneA (l : List Opm) : LS_ × List HCall := l.foldl oneStep (([], []), [])
def SeqL : List HCall → LS_ → LS_ → Prop
 | [], s, s' => s = s'
 | c :: l, s, s' => ∃ s1, stepH c s = some s1 ∧ SeqL l s1 s'
theorem SeqL.snoc : ∀ {l : List HCall} {s s' : LS_} {c : HCall} {s2 : LS_}, SeqL l s s' → stepH c s' = some s2 → SeqL (l ++ [c]) s s2
 | [], _, _, c, s2, h, hc => by cases h; exact ⟨s2, hc, rfl⟩
 | x :: l, s, s', c, s2, ⟨s1, h1, h2⟩, hc => ⟨s1, h1, h2.snoc hc⟩
theorem wrongE_50 (o : Opm) : wrongE o ≠ 50 := by
 unfold wrongE
 repeat' split
 all_goals decide
theorem actE_50 (S : List RowM) (o : Opm) : actE S o ≠ 50 := by
 unfold actE
 repeat' split
 all_goals decide
theorem doR_50 {S : List RowM} {K : List KeptM} (hK : ∀ k ∈ K, k.why ≠ 50) (o : Opm) : (doR S K o).why ≠ 50 := by
 unfold doR
 split
 ·exact wrongE_50 o
 ·split
  ·show (0 : Int) ≠ 50; decide
  ·split
   ·show (0 : Int) ≠ 50; decide
   ·split
    ·split
     ·show (40 : Int) ≠ 50; decide
     ·show (0 : Int) ≠ 50; decide
    ·split
     ·rename_i k hk
      split
      ·show (45 : Int) ≠ 50; decide
      ·exact hK k (findK_some hk).1
     ·exact actE_50 S (plainE o)
theorem doK_50 {S : List RowM} {K : List KeptM} (hK : ∀ k ∈ K, k.why ≠ 50) (o : Opm) : ∀ k ∈ doK S K o, k.why ≠ 50 := by
 intro k hk
 unfold doK at hk
 split at hk
 ·rcases List.mem_append.1 hk with hk | hk
  ·exact hK k hk
  ·rw [List.mem_singleton.1 hk]; exact actE_50 S (plainE o)
 ·exact hK k hk
theorem stepH_self (c : HCall) (s : LS_) (h : c.rep = doR s.1 s.2 c.op) : stepH c s = some (doS s.1 s.2 c.op, doK s.1 s.2 c.op) := by
 unfold stepH
 rw [if_neg (by rw [h]; simp)]
structure OneH (s : LS_) (h : List HCall) : Prop where
 seq : SeqL h ([], []) s
 at_ : ∀ i c, h[i]? = some c → c.bg = ((2 * i : Nat) : Int) ∧ c.en = ((2 * i + 1 : Nat) : Int) ∧ c.told = true ∧ c.rep.why ≠ 50
 why : ∀ k ∈ s.2, k.why ≠ 50
theorem OneH.step {s : LS_} {h : List HCall} (H : OneH s h) (o : Opm) : OneH (oneStep (s, h) o).1 (oneStep (s, h) o).2 where
 seq := H.seq.snoc (stepH_self _ _ rfl)
 at_ i c hc := by
  have hc : (h ++ [(⟨o, ((2 * h.length : Nat) : Int), ((2 * h.length + 1 : Nat) : Int), true, doR s.1 s.2 o⟩ : HCall)])[i]? = some c := hc
  rw [List.getElem?_append] at hc
  split at hc
  ·exact H.at_ i c hc
  ·rename_i hi
   have hi2 : i - h.length = 0 := by
    have := (List.getElem?_eq_some_iff.1 hc).1
    simp only [List.length_cons, List.length_nil] at this; omega
   rw [hi2] at hc
   simp only [List.getElem?_cons_zero, Option.some.injEq] at hc
   subst hc
   have hi3 : i = h.length := by omega
   subst hi3
   exact ⟨rfl, rfl, rfl, doR_50 H.why o⟩
 why := doK_50 H.why o
def Wide (a b : HCall) : Prop := b.op = a.op ∧ b.told = a.told ∧ b.rep = a.rep ∧ b.bg ≤ a.bg ∧ a.en ≤ b.en
theorem Wide.refl (a : HCall) : Wide a a := ⟨rfl, rfl, rfl, Int.le_refl _, Int.le_refl _⟩
theorem Wide.step {a b : HCall} (h : Wide a b) (s : LS_) : stepH b s = stepH a s := by unfold stepH; rw [h.1, h.2.1, h.2.2.1]
theorem Wide.ahead {a b c d : HCall} (h : Wide a b) (k : Wide c d) (q : aheadH a c = false) : aheadH b d = false := by
 unfold aheadH at q ⊢
 rw [h.2.1]
 cases ht : a.told with
 | false => rfl
 | true =>
  rw [ht] at q
  have := of_decide_eq_false (show decide (a.en < c.bg) = false from q)
  show decide (b.en < d.bg) = false
  have h1 := h.2.2.2.2; have h2 := k.2.2.2.1
  exact decide_eq_false (by omega)
def WideL (a b : List HCall) : Prop := a.length = b.length ∧ ∀ (i : Nat) (x y : HCall), a[i]? = some x → b[i]? = some y → Wide x y
theorem WideL.refl (a : List HCall) : WideL a a := ⟨rfl, fun i x y h k => by rw [h] at k; cases k; exact Wide.refl x⟩
theorem WideL.set {a b : List HCall} (h : WideL a b) {i : Nat} {x z : HCall} (hx : a[i]? = some x) (hz : Wide x z) : WideL a (b.set i z) := by
 refine ⟨by rw [List.length_set]; exact h.1, fun j u v hu hv => ?_⟩
 rw [List.getElem?_set] at hv
 split at hv
 ·rename_i hij
  subst hij
  split at hv
  ·cases hv; rw [hx] at hu; cases hu; exact hz
  ·cases hv
 ·exact h.2 j u v hu hv
theorem WideL.cons {x y : HCall} {a b : List HCall} (h : WideL (x :: a) (y :: b)) : Wide x y ∧ WideL a b := ⟨h.2 0 x y rfl rfl, by have := h.1; simp only [List.length_cons] at this; omega, fun i u v hu hv => h.2 (i + 1) u v hu hv⟩
theorem OneH.pair {s : LS_} {h : List HCall} (H : OneH s h) : h.Pairwise (fun a b => aheadH b a = false) := by
 rw [List.pairwise_iff_getElem]
 intro i j hi hj hij
 have h1 := H.at_ i h[i] (List.getElem?_eq_getElem hi)
 have h2 := H.at_ j h[j] (List.getElem?_eq_getElem hj)
 unfold aheadH
 rw [h2.2.1, h1.1, decide_eq_false (by omega), Bool.and_false]
theorem OneH.wide {s : LS_} {h b : List HCall} (H : OneH s h) (hw : WideL h b) : ∀ c ∈ b, countsH c = true ∧ c.bg ≤ c.en := by
 intro c hc
 obtain ⟨i, hi⟩ := List.mem_iff_getElem?.1 hc
 have hl := (List.getElem?_eq_some_iff.1 hi).1
 have e := hw.1
 have hx := List.getElem?_eq_getElem (show i < h.length by omega)
 have w := hw.2 i _ c hx hi
 have h1 := H.at_ i _ hx
 refine ⟨?_, ?_⟩
 ·rw [counts_told (by rw [w.2.1]; exact h1.2.2.1), w.2.2.1]
  exact bne_iff_ne.2 h1.2.2.2
 ·have h3 := w.2.2.2.1; have h4 := w.2.2.2.2; have h5 := h1.1; have h6 := h1.2.1
  omega
theorem Lin.more {U : List HCall} {s : LS_} (h : Lin U s) {x : HCall} (hx : x.told = false) : Lin (U ++ [x]) s := by
 induction h with
 | done h => exact .done fun c hc => by rcases List.mem_append.1 hc with hc | hc; exact h c hc; rw [List.mem_singleton.1 hc]; exact hx
 | @step U A B c s s' e ha hst hl ih =>
  subst e
  refine .step (A := A) (B := B ++ [x]) (c := c) (by rw [List.append_assoc, List.cons_append]) (fun d hd => ?_) hst (by rw [← List.append_assoc]; exact ih)
  rw [← List.append_assoc] at hd
  rcases List.mem_append.1 hd with hd | hd
  ·exact ha d hd
  ·rw [List.mem_singleton.1 hd]; exact ahead_not hx
theorem of_map {P : HCall → Prop} {o : List HC} {m : List HCall} (h : o.map HC.c = m) (hm : ∀ c ∈ m, P c) : ∀ x ∈ o, P x.c := fun x hx => hm _ (by rw [← h]; exact List.mem_map_of_mem hx)
end Go.Q
namespace Go.Proofs.YtnbcghbgeiocbaaDoor
open Go.Q Go.RowKit
end Go.Proofs.YtnbcghbgeiocbaaDoor
namespace Go.Q
open Go.RowKit
theorem step_told {c : HCall} {s s1 : LS_} (ht : c.told = true) (h : stepH c s = some s1) : doR s.1 s.2 c.op = c.rep := by
 unfold stepH at h
 split at h
 ·cases h
 ·rename_i q
  rw [ht, Bool.true_and] at q
  exact Decidable.byContradiction fun z => q (decide_eq_true z)
section
open Go.ChangeShapes Go.WideShapes Go.ChangeAt Go.Deep
variable {H : Type} {enc : TypeId × Value → H} {P : Program} {w : World} {base : Nat} {spare : Nat → Bool} {held : Bool}
end
end Go.Q
namespace Go.Q
open Go.RowKit
inductive PathH (X : List (HCall × Nat)) : Nat → LS_ → Int → List Nat → Prop
 | nil {d : Nat} {s : LS_} {left : Int} : left = 0 → PathH X d s left []
 | cons {d : Nat} {s s' : LS_} {left : Int} {i : Nat} {p : List Nat} {c : HCall × Nat} : left ≠ 0 → X[i]? = some c → d.testBit i = false → (∀ j x, X[j]? = some x → j ≠ i → d.testBit j = false → aheadH x.1 c.1 = false) → stepH c.1 s = some s' → PathH X (d ||| (1 <<< i)) s' (if c.1.told then left - 1 else left) p → PathH X d s left (i :: p)
def numX (X : List (HCall × Nat)) (i : Nat) : Nat := match X[i]? with | some c => c.2 | none => 0
theorem sv_path {X : List (HCall × Nat)} (hX : ∀ c ∈ X, -9223372036854775808 ≤ c.1.op.amount ∧ c.1.op.amount ≤ 9223372036854775807) {o : List Nat} : ∀ (k : Nat) (t : Sr LS_), X.length - (probH X).pc t.done = k → (probH X).V t → (probH X).sv t = some o → ∃ p, o = t.order ++ p.map (numX X) ∧ PathH X t.done t.s t.left p ∧ p.length + (probH X).pc t.done ≤ X.length := by
 intro k
 induction k using Nat.strongRecOn with
 | _ k ih =>
  intro t hk hV h
  rw [Prob.sv_eq] at h
  split at h
  ·rename_i h0
   cases h
   exact ⟨[], by simp, .nil h0, by have := (probH X).pc_le t.done; have hn : (probH X).n = X.length := rfl; simp only [List.length_nil]; omega⟩
  ·rename_i h0
   obtain ⟨t', ht', h⟩ := List.exists_of_findSome?_eq_some h
   obtain ⟨i, hi, h1⟩ := List.mem_filterMap.1 ht'
   have hi : i < X.length := List.mem_range.1 hi
   have hp := (Prob.one_pc (P := probH X) hi h1).1
   have hle := (probH X).pc_le t'.done
   have hn : (probH X).n = X.length := rfl
   obtain ⟨p, ho, hpth, hlen⟩ := ih _ (by omega) t' rfl (Prob.one_V (probH_like hX) hi h1 hV) h
   have hc := List.getElem?_eq_getElem hi
   obtain ⟨hb, hw, s', hs', rfl⟩ := (one_some hc).1 h1
   refine ⟨i :: p, ?_, .cons h0 hc hb hw hs' hpth, by rw [List.length_cons]; omega⟩
   rw [ho]
   show (t.order ++ [X[i].2]) ++ _ = _
   rw [List.append_assoc, List.map_cons]
   have : numX X i = X[i].2 := by unfold numX; rw [hc]
   rw [this]; rfl
theorem PathH.fresh {X : List (HCall × Nat)} {d : Nat} {s : LS_} {left : Int} {p : List Nat} (h : PathH X d s left p) : ∀ i ∈ p, d.testBit i = false ∧ i < X.length := by
 induction h with
 | nil _ => intro i hi; cases hi
 | @cons d s s' left i p c h0 hc hb hw hs hp ih =>
  intro j hj
  rcases List.mem_cons.1 hj with rfl | hj
  ·exact ⟨hb, (List.getElem?_eq_some_iff.1 hc).1⟩
  ·have h1 := ih j hj
   refine ⟨?_, h1.2⟩
   have h2 := h1.1
   rw [testBit_or, Bool.or_eq_false_iff] at h2
   exact h2.1
theorem PathH.ne {X : List (HCall × Nat)} {d : Nat} {s : LS_} {left : Int} {i : Nat} {p : List Nat} (h : PathH X (d ||| (1 <<< i)) s left p) : i ∉ p := by
 intro hi
 have := (h.fresh i hi).1
 rw [testBit_or, Bool.or_eq_false_iff] at this
 simp at this
theorem PathH.nodup {X : List (HCall × Nat)} {d : Nat} {s : LS_} {left : Int} {p : List Nat} (h : PathH X d s left p) : p.Nodup := by
 induction h with
 | nil _ => exact List.nodup_nil
 | cons h0 hc hb hw hs hp ih => exact List.nodup_cons.2 ⟨hp.ne, ih⟩
theorem PathH.apart {X : List (HCall × Nat)} {d : Nat} {s : LS_} {left : Int} {p : List Nat} (h : PathH X d s left p) : p.Pairwise (fun a b => ∀ x y, X[a]? = some x → X[b]? = some y → aheadH y.1 x.1 = false) := by
 induction h with
 | nil _ => exact List.Pairwise.nil
 | @cons d s s' left i p c h0 hc hb hw hs hp ih =>
  refine List.pairwise_cons.2 ⟨fun b hb2 x y hx hy => ?_, ih⟩
  rw [hc] at hx; cases hx
  have h1 := (hp.fresh b hb2).1
  rw [testBit_or, Bool.or_eq_false_iff] at h1
  exact hw b y hy (fun q => hp.ne (q ▸ hb2)) h1.1
theorem PathH.seq {X : List (HCall × Nat)} {d : Nat} {s : LS_} {left : Int} {p : List Nat} (h : PathH X d s left p) : ∃ s', SeqL (p.filterMap fun i => (X[i]?).map Prod.fst) s s' := by
 induction h with
 | @nil d s left _ => exact ⟨s, rfl⟩
 | @cons d s s' left i p c h0 hc hb hw hs hp ih =>
  obtain ⟨s2, h2⟩ := ih
  refine ⟨s2, ?_⟩
  rw [List.filterMap_cons, hc]
  exact ⟨s', hs, h2⟩
theorem PathH.count {X : List (HCall × Nat)} {d : Nat} {s : LS_} {left : Int} {p : List Nat} (h : PathH X d s left p) : left = (((p.filterMap fun i => (X[i]?).map Prod.fst).countP (fun c => c.told) : Nat) : Int) := by
 induction h with
 | nil h => rw [h]; rfl
 | @cons d s s' left i p c h0 hc hb hw hs hp ih =>
  rw [List.filterMap_cons, hc]
  show left = (((c.1 :: _).countP (fun c => c.told) : Nat) : Int)
  rw [List.countP_cons]
  cases ht : c.1.told with
  | true => rw [ht, if_pos rfl] at ih; rw [if_pos rfl]; omega
  | false => rw [ht, if_neg (by decide)] at ih; rw [if_neg (by decide)]; omega
theorem PathH.last {X : List (HCall × Nat)} {d : Nat} {s : LS_} {left : Int} {p : List Nat} (h : PathH X d s left p) : ∀ i x, p.getLast? = some i → X[i]? = some x → x.1.told = true := by
 induction h with
 | nil _ => intro i x hi; cases hi
 | @cons d s s' left i p c h0 hc hb hw hs hp ih =>
  intro j x hj hx
  cases hp with
  | nil h =>
   have hj : some i = some j := hj
   cases hj
   rw [hc] at hx; cases hx
   cases ht : c.1.told with
   | true => rfl
   | false => rw [ht, if_neg (by decide)] at h; exact absurd h h0
  | cons a1 a2 a3 a4 a5 a6 =>
   refine ih j x ?_ hx
   rw [List.getLast?_cons_cons] at hj
   exact hj
structure SoundH (m : List HCall) (o : List Nat) : Prop where
 len : o.length ≤ 8
 lt : ∀ k ∈ o, k < m.length
 nodup : o.Nodup
 apart : o.Pairwise (fun a b => ∀ x y, m[a]? = some x → m[b]? = some y → aheadH y x = false)
 seq : ∃ s', SeqL (o.filterMap fun i => m[i]?) ([], []) s'
 count : (o.filterMap fun i => m[i]?).countP (fun c => c.told) = m.countP (fun c => c.told && decide (c.rep.why ≠ 50))
 last : ∀ i x, o.getLast? = some i → m[i]? = some x → x.told = true
theorem num_at {m : List HCall} {i : Nat} {x : HCall × Nat} (h : (lookedH m)[i]? = some x) : numX (lookedH m) i = x.2 ∧ m[x.2]? = some x.1 := by
 refine ⟨by unfold numX; rw [h], ?_⟩
 exact (looked_mem (List.mem_of_getElem? h)).1
theorem looked_nodup' (m : List HCall) : ((lookedH m).map Prod.snd).Nodup := by
 unfold lookedH
 refine List.Sublist.nodup (List.Sublist.map Prod.snd List.filter_sublist) ?_
 rw [List.zipIdx_map_snd]
 exact List.nodup_range'
theorem filterMap_same {α β : Type} {f g : α → Option β} : ∀ {l : List α}, (∀ a ∈ l, f a = g a) → l.filterMap f = l.filterMap g
 | [], _ => rfl
 | a :: l, h => by
  rw [List.filterMap_cons, List.filterMap_cons, h a (List.mem_cons_self ..), filterMap_same fun b hb => h b (List.mem_cons_of_mem _ hb)]
theorem sound_law {m : List HCall} (hm : ∀ c ∈ m, -9223372036854775808 ≤ c.op.amount ∧ c.op.amount ≤ 9223372036854775807) {o : List Nat} (h : orderH m = (o, true, 0)) : SoundH m o := by
 have h8 : ¬ 8 < (lookedH m).length := fun q => by unfold orderH at h; rw [if_pos q] at h; cases h
 have hsv : (probH (lookedH m)).sv (startH (lookedH m)) = some o := by
  unfold orderH at h
  split at h
  ·cases h
  ·split at h
   ·cases h
   ·split at h
    ·rename_i q hq
     rw [hq]
     rw [Prod.mk.injEq] at h
     rw [h.1]
    ·cases h
 obtain ⟨p, ho, hp, hplen⟩ := sv_path (fun c hc => hm c.1 (List.mem_of_getElem? (looked_mem hc).1)) _ (startH (lookedH m)) rfl (startH_V _) hsv
 have ho : o = p.map (numX (lookedH m)) := by rw [ho]; rfl
 have hget : ∀ i ∈ p, ∃ x, (lookedH m)[i]? = some x ∧ numX (lookedH m) i = x.2 ∧ m[x.2]? = some x.1 := fun i hi => by
  have h1 := List.getElem?_eq_getElem (hp.fresh i hi).2
  exact ⟨_, h1, num_at h1⟩
 have hfm : (o.filterMap fun i => m[i]?) = p.filterMap fun i => ((lookedH m)[i]?).map Prod.fst := by
  rw [ho, List.filterMap_map]
  refine filterMap_same fun i hi => ?_
  obtain ⟨x, h1, h2, h3⟩ := hget i hi
  show m[numX (lookedH m) i]? = _
  rw [h2, h3, h1]; rfl
 refine ⟨by rw [ho, List.length_map]; omega, fun k hk => ?_, ?_, ?_, ?_, ?_, fun i x hi hx => ?_⟩
 ·rw [ho] at hk
  obtain ⟨i, hi, rfl⟩ := List.mem_map.1 hk
  obtain ⟨x, h1, h2, h3⟩ := hget i hi
  rw [h2]
  exact (List.getElem?_eq_some_iff.1 h3).1
 ·rw [ho]
  refine List.pairwise_map.2 (List.Pairwise.imp_of_mem ?_ hp.nodup)
  intro a b ha hb hne hab
  refine hne ?_
  obtain ⟨x, h1, h2, _⟩ := hget a ha
  obtain ⟨y, k1, k2, _⟩ := hget b hb
  have hn := looked_nodup' m
  have e1 : ((lookedH m).map Prod.snd)[a]? = some x.2 := by rw [List.getElem?_map, h1]; rfl
  have e2 : ((lookedH m).map Prod.snd)[b]? = some x.2 := by rw [List.getElem?_map, k1]; show some y.2 = _; rw [← k2, ← hab, h2]
  have ha1 := (List.getElem?_eq_some_iff.1 e1)
  have hb1 := (List.getElem?_eq_some_iff.1 e2)
  exact (List.getElem_inj hn).1 (ha1.2.trans hb1.2.symm)
 ·rw [ho, List.pairwise_map]
  refine List.Pairwise.imp_of_mem ?_ hp.apart
  intro a b ha hb hq x y hx hy
  obtain ⟨u, h1, h2, h3⟩ := hget a ha
  obtain ⟨v, k1, k2, k3⟩ := hget b hb
  rw [h2, h3] at hx; rw [k2, k3] at hy
  cases hx; cases hy
  exact hq u v h1 k1
 ·rw [hfm]; exact hp.seq
 ·rw [hfm]
  have hc := hp.count
  have e : (startH (lookedH m)).left = (((m.countP fun c => c.told && decide (c.rep.why ≠ 50)) : Nat) : Int) := by
   show leftH (lookedH m) = _
   unfold leftH
   have h1 : (lookedH m).countP (fun c => c.1.told) = ((lookedH m).map Prod.fst).countP (fun c => c.told) := by rw [List.countP_map]; rfl
   rw [h1, looked_fst, List.countP_filter]
   congr 1
   refine List.countP_congr fun c _ => ?_
   unfold countsH
   cases c.told <;> simp
  rw [e] at hc
  omega
 ·rw [ho, List.getLast?_map] at hi
  obtain ⟨j, hj, rfl⟩ := Option.map_eq_some_iff.1 hi
  obtain ⟨u, h1, h2, h3⟩ := hget j (List.mem_of_getLast? hj)
  rw [h2, h3] at hx
  cases hx
  exact hp.last j u hj h1
theorem step_is {c : HCall} {s s1 : LS_} (h : stepH c s = some s1) : s1 = (doS s.1 s.2 c.op, doK s.1 s.2 c.op) := by
 unfold stepH at h
 split at h
 ·cases h
 ·exact (Option.some.inj h).symm
theorem sound_round {m : List HCall} {o : List Nat} {ii z : Nat} {c : HCall} {S : List RowM} {K : List KeptM} (hS : ∃ s', SeqL ((o.drop ii).filterMap fun i => m[i]?) (S, K) s') (hz : o[ii]? = some z) (hc : m[z]? = some c) :
  stepH c (S, K) = some (doS S K c.op, doK S K c.op) ∧ ∃ s', SeqL ((o.drop (ii + 1)).filterMap fun i => m[i]?) (doS S K c.op, doK S K c.op) s' := by
 obtain ⟨s', h⟩ := hS
 obtain ⟨hl, he⟩ := List.getElem?_eq_some_iff.1 hz
 rw [List.drop_eq_getElem_cons hl, he, List.filterMap_cons, hc] at h
 obtain ⟨s1, h1, h2⟩ := h
 have := step_is h1
 subst this
 exact ⟨h1, s', h2⟩
theorem sound_count {m : List HCall} {o : List Nat} {ii z : Nat} {c : HCall} (hz : o[ii]? = some z) (hc : m[z]? = some c) :
  ((o.take (ii + 1)).filterMap fun i => m[i]?).countP (fun c => c.told) = ((o.take ii).filterMap fun i => m[i]?).countP (fun c => c.told) + (if c.told = true then 1 else 0) := by
 rw [List.take_add_one, hz, List.filterMap_append, List.countP_append]
 congr 1
 show ([z].filterMap _).countP _ = _
 rw [List.filterMap_cons, hc, List.filterMap_nil, List.countP_cons, List.countP_nil, Nat.zero_add]
theorem sound_same {c : HCall} {s s1 : LS_} (ht : c.told = true) (h : stepH c s = some s1) : (⟨c.op, c.bg, c.en, c.told, doR s.1 s.2 c.op⟩ : HCall) = c := by
 have := step_told ht h
 cases c
 simp only at this ⊢
 rw [this]
theorem SoundH.ne {m : List HCall} {o : List Nat} (h : SoundH m o) {i j a b : Nat} (hij : j < i) (ha : o[i]? = some a) (hb : o[j]? = some b) : b ≠ a := by
 obtain ⟨hi, e1⟩ := List.getElem?_eq_some_iff.1 ha
 obtain ⟨hj, e2⟩ := List.getElem?_eq_some_iff.1 hb
 have := List.pairwise_iff_getElem.1 h.nodup j i hj hi hij
 rw [e1, e2] at this
 exact this
theorem SoundH.not {m : List HCall} {o : List Nat} (h : SoundH m o) {i j a b : Nat} {x y : HCall} (hij : j < i) (ha : o[i]? = some a) (hb : o[j]? = some b) (hx : m[a]? = some x) (hy : m[b]? = some y) : aheadH x y = false := by
 obtain ⟨hi, e1⟩ := List.getElem?_eq_some_iff.1 ha
 obtain ⟨hj, e2⟩ := List.getElem?_eq_some_iff.1 hb
 have := List.pairwise_iff_getElem.1 h.apart j i hj hi hij y x
 rw [e1, e2] at this
 exact this hy hx
theorem sound_end {m : List HCall} {o : List Nat} (h : SoundH m o) (h0 : o ≠ []) {a : Nat} {x : HCall} (ha : o[o.length - 1]? = some a) (hx : m[a]? = some x) : x.told = true :=
 h.last a x (by rw [List.getLast?_eq_getElem?]; exact ha) hx
theorem cnt_take {m : List HCall} {p : HCall → Bool} {i : Nat} {c : HCall} (h : m[i]? = some c) : (m.take (i + 1)).countP p = (m.take i).countP p + (if p c = true then 1 else 0) := by
 rw [List.take_add_one, h, List.countP_append]
 congr 1
 show [c].countP p = _
 rw [List.countP_cons, List.countP_nil, Nat.zero_add]
theorem order_cases {m : List HCall} {o : List Nat} {ok : Bool} {why : Int} (h : (o, ok, why) = orderH m) : (ok = true ∧ why = 0) ∨ (o = [] ∧ ok = false) := by
 unfold orderH at h
 split at h
 ·cases h; exact .inr ⟨rfl, rfl⟩
 ·split at h
  ·cases h; exact .inr ⟨rfl, rfl⟩
  ·split at h
   ·cases h; exact .inl ⟨rfl, rfl⟩
   ·cases h; exact .inr ⟨rfl, rfl⟩
end Go.Q
namespace Go.Proofs.YtnbcghbgeiocbaaDoor
open Go.Q Go.RowKit
set_option maxHeartbeats 4000000 in
theorem Sound_calls (w : World) (LA : Option Addr) (lc : Nat) (l : List HC) (hL : RdT w 13 HC.cells (Value.slice LA l.length lc) l) (hI : ∀ x ∈ l, x.In w ∧ x.Rng) : Calls Tryd.prog 6 ⟨[(Value.slice LA l.length lc)]⟩ w (fun e w' => e = .returned (.bool true) ∧ Keeps none_ w w') := by
 have hLi : ∀ x ∈ l, x.In w := fun x hx => (hI x hx).1
 have hcap := (RdT.len HC.two (by decide) hL).2
 unfold maxLen at hcap
 have K0 : Keeps none_ w w := Keeps.refl w
 refine q_calls Tryd.func6 (by kernel_rfl) (by kernel_rfl) ?_
 refine qsg ?_
 refine ogd 1 [(0, .slice LA l.length lc), (2, .bool false)] ?_
 refine qs ?_
 refine qsg ?_
 refine og 1 [(0, .slice LA l.length lc), (2, .bool false), (14, .slice LA l.length lc)] 1 ?_
 refine ocQ 15 (hard_calls _ LA lc l (Rd.keep0 (by decide) hL K0)) ?_
 rintro _ w4 ⟨t1, rfl, ht2, K3⟩
 refine ⟨_, _, rfl, rfl, ?_⟩
 replace K0 := K0.t0 K3
 clear K3
 refine od ?_
 refine qcQ 15 t1 rfl (fun h5 => ?_) (fun h5 => ?_)
 ·rw [h5]
  have p6 : t1 = true := h5
  refine qsg ?_
  refine ocQ 16 (known_calls _) ?_
  rintro _ w8 ⟨rfl, K7⟩
  refine ⟨_, _, rfl, rfl, ?_⟩
  replace K0 := K0.t0 K7
  clear K7
  refine ogd 1 [(0, .slice LA l.length lc), (2, .bool true)] ?_
  refine qtQ ?_
  refine ⟨(Value.bool true), retv_tmp rfl rfl, ?_⟩
  exact ⟨rfl, K0⟩
 ·rw [h5]
  have p9 : t1 = false := h5
  have hl40 := ht2 h5
  refine qkQ ?_
  refine qsg ?_
  refine og 1 [(0, .slice LA l.length lc), (2, .bool false), (17, .slice LA l.length lc)] 1 ?_
  refine ocQ 18 (given_calls _ LA lc l (Rd.keep0 (by decide) hL K0) (fun x hx => (hLi x hx).keep K0) (by omega)) ?_
  rintro _ w15 ⟨o10, OA11, oc12, T13, rfl, K14, hO16, hR17, h18, h19, hm20⟩
  refine ⟨_, _, rfl, rfl, ?_⟩
  replace K0 := K0.t0 K14
  have hx22 := OwnT.rd hO16
  have hz21 : o10.length = l.length := by have := congrArg List.length hm20; simpa only [List.length_map] using this
  refine ogd 1 [(0, .slice LA l.length lc), (2, .bool false), (3, .slice OA11 o10.length oc12)] ?_
  refine qsg ?_
  refine og 1 [(0, .slice LA l.length lc), (2, .bool false), (3, .slice OA11 o10.length oc12), (20, .slice OA11 o10.length oc12)] 1 ?_
  refine ocQ 21 (Order_calls _ OA11 oc12 o10 T13 hx22 hR17 (map_all (P := (fun c : HCall => -9223372036854775808 ≤ c.op.amount ∧ c.op.amount ≤ 9223372036854775807)) hm20 (fun x hx => (hI x hx).2.1)) (by omega)) ?_
  rintro _ w29 ⟨o23, A24, c25, ok26, why27, rfl, K28, hR30, hE31⟩
  have hE32 : (o23, ok26, why27) = orderH (l.map HC.c) := by rw [← hm20]; exact hE31
  refine ⟨_, _, rfl, rfl, ?_⟩
  replace K0 := K0.t0 K28
  replace hx22 := (Rd.keep0 (by omega) hx22 K28)
  refine ogd 7 [(0, .slice LA l.length lc), (2, .bool false), (3, .slice OA11 o10.length oc12), (4, .slice A24 o23.length c25), (5, .bool ok26), (6, i64 why27)] ?_
  refine qs ?_
  refine qsg ?_
  refine og 3 [(0, .slice LA l.length lc), (2, .bool false), (3, .slice OA11 o10.length oc12), (4, .slice A24 o23.length c25), (5, .bool ok26), (27, .bool (why27 != 0))] 3 ?_
  refine Ops.split (why27 != 0) (fun h33 => ?_) (fun h33 => ?_)
  ·rw [h33]
   have p34 := of_bne_t h33
   have hwy : why27 = 0 ∨ why27 ≠ 0 := by omega
   have hoe : o23 = [] := (order_cases hE32).elim (fun h => absurd h.2 (by omega)) (fun h => h.1)
   refine ogd 3 [(0, .slice LA l.length lc), (2, .bool false), (3, .slice OA11 o10.length oc12), (4, .slice A24 o23.length c25), (30, .bool true)] ?_
   refine q_then (o := .tmp 30) (by kernel_rfl) rfl ?_
   refine qsg ?_
   refine og 4 [(0, .slice LA l.length lc), (2, .bool false), (3, .slice OA11 o10.length oc12), (4, .slice A24 o23.length c25), (34, (Value.bool (((o23.length : Nat) : Int) == 0)))] 4 ?_
   have h35 : (((o23.length : Nat) : Int) == 0) = true := by rw [hoe]; rfl
   rw [h35]
   refine ocQ 35 (known_calls _) ?_
   rintro _ w37 ⟨rfl, K36⟩
   refine ⟨_, _, rfl, rfl, ?_⟩
   replace K0 := K0.t0 K36
   refine ogd 2 [(0, .slice LA l.length lc), (2, .bool true), (3, .slice OA11 o10.length oc12), (4, .slice A24 o23.length c25)] ?_
   refine qtQ ?_
   refine ⟨(Value.bool true), retv_tmp rfl rfl, ?_⟩
   exact ⟨rfl, K0⟩
  ·rw [h33]
   have p38 := of_bne_f h33
   have hwy : why27 = 0 ∨ why27 ≠ 0 := by omega
   refine ogd 3 [(0, .slice LA l.length lc), (2, .bool false), (3, .slice OA11 o10.length oc12), (4, .slice A24 o23.length c25), (30, .bool (!ok26))] ?_
   refine qcQ 30 (!ok26) rfl (fun h39 => ?_) (fun h39 => ?_)
   ·rw [h39]
    have p40 := bnot_true h39
    try rw [p40]
    have hok9 := (bnot_true h39)
    have hoe : o23 = [] := (order_cases hE32).elim (fun h => by rw [h.1] at hok9; cases hok9) (fun h => h.1)
    refine qsg ?_
    refine og 4 [(0, .slice LA l.length lc), (2, .bool false), (3, .slice OA11 o10.length oc12), (4, .slice A24 o23.length c25), (34, (Value.bool (((o23.length : Nat) : Int) == 0)))] 4 ?_
    have h41 : (((o23.length : Nat) : Int) == 0) = true := by rw [hoe]; rfl
    rw [h41]
    refine ocQ 35 (known_calls _) ?_
    rintro _ w43 ⟨rfl, K42⟩
    refine ⟨_, _, rfl, rfl, ?_⟩
    replace K0 := K0.t0 K42
    refine ogd 2 [(0, .slice LA l.length lc), (2, .bool true), (3, .slice OA11 o10.length oc12), (4, .slice A24 o23.length c25)] ?_
    refine qtQ ?_
    refine ⟨(Value.bool true), retv_tmp rfl rfl, ?_⟩
    exact ⟨rfl, K0⟩
   ·rw [h39]
    have p44 := bnot_false h39
    try rw [p44]
    have hSd : SoundH (l.map HC.c) o23 := sound_law (fun c hc => by obtain ⟨z, hz, rfl⟩ := List.mem_map.1 hc; exact (hI z hz).2.1) (by rw [← hE32, (bnot_false h39), show why27 = 0 from by omega])
    have hol8 := hSd.len
    have hWw : w.heap.size ≤ w29.heap.size := K0.size
    have hXR9 := hR30
    have hOR9 := hx22
    have hcx : Keeps none_ w29 w29 := Keeps.refl _
    refine qkQ ?_
    refine qsg ?_
    refine og 1 [(0, .slice LA l.length lc), (2, .bool false), (3, .slice OA11 o10.length oc12), (4, .slice A24 o23.length c25), (37, (agg [(Value.slice none 0 0), (Value.slice none 0 0)]))] 1 ?_
    refine onew (rowL [(Value.slice none 0 0), (Value.slice none 0 0)] 55) (fun b => (ptr b)) 38 (fun b => rfl) (fun b45 w46 hb47 H48 K49 hs50 => ?_)
    have nb45 : w.heap.size ≤ b45 := by have := K0.size; omega
    have ox51 : w29.heap.size ≤ b45 := by have := hcx.size; omega
    replace K0 := K0.t0 K49
    replace hcx := hcx.trans K49 (fun _ _ h => h) (fun _ _ h => h)
    clear K49 hs50
    refine ogd 1 [(0, .slice LA l.length lc), (2, .bool false), (3, .slice OA11 o10.length oc12), (4, .slice A24 o23.length c25), (7, ptr b45)] ?_
    refine qsg ?_
    refine ogd 1 [(0, .slice LA l.length lc), (2, .bool false), (3, .slice OA11 o10.length oc12), (4, .slice A24 o23.length c25), (7, ptr b45), (8, i64 0)] ?_
    refine qs ?_
    refine qsg ?_
    refine ogd 1 [(0, .slice LA l.length lc), (2, .bool false), (3, .slice OA11 o10.length oc12), (4, .slice A24 o23.length c25), (7, ptr b45), (8, i64 0), (9, i64 0)] ?_
    refine q_block (id := 0) (by kernel_rfl) ?_
    refine q_keep (R := [(0, .slice LA l.length lc), (3, .slice OA11 o10.length oc12), (4, .slice A24 o23.length c25), (7, ptr b45), (8, i64 0), (9, i64 0)]) (by kernel_rfl) ?_
    refine q_loop (fun (gs : Nat × Nat × (List RowM) × (List KeptM) × (Option Addr) × Nat × (Option Addr) × Nat) L (wx : World) => match gs with | (ii, tn, S, K, NA, nc, MA, mc) => L = [(0, (Value.slice LA l.length lc)), (3, (Value.slice OA11 o10.length oc12)), (4, (Value.slice A24 o23.length c25)), (7, (ptr b45)), (8, (i64 ((tn : Nat) : Int))), (9, (i64 ((ii : Nat) : Int)))] ∧ OwnT wx w29.heap.size 98 2 RowM.cells (Value.slice NA S.length nc) S ∧ (∀ i, ((Value.slice NA S.length nc)).ownBlock = some i → i ≠ b45) ∧ (∀ i, ((Value.slice MA K.length mc)).ownBlock = some i → ((Value.slice NA S.length nc)).ownBlock = some i → False) ∧ OwnT wx w29.heap.size 101 10 kref (Value.slice MA K.length mc) K ∧ (∀ i, ((Value.slice MA K.length mc)).ownBlock = some i → i ≠ b45) ∧ (∀ i, ((Value.slice NA S.length nc)).ownBlock = some i → ((Value.slice MA K.length mc)).ownBlock = some i → False) ∧ Keeps none_ w29 wx ∧ (∃ s', SeqL ((o23.drop ii).filterMap fun i => (l.map HC.c)[i]?) (S, K) s') ∧ Ledg S K ∧ K.length ≤ ii ∧ tn = ((o23.take ii).filterMap fun i => (l.map HC.c)[i]?).countP (fun c => c.told) ∧ ii ≤ o23.length ∧ Keeps none_ w wx ∧ Has wx b45 (rowL [(Value.slice NA S.length nc), (Value.slice MA K.length mc)] 55)) (fun (gs : Nat × Nat × (List RowM) × (List KeptM) × (Option Addr) × Nat × (Option Addr) × Nat) => match gs with | (ii, tn, S, K, NA, nc, MA, mc) => o23.length - ii) (0, 0, [], [], none, 0, none, 0) (by kernel_rfl) ⟨rfl, (OwnT.nil _ _ _ _ _), (fun i hi => by cases hi), (fun _ _ h => by cases h), (OwnT.nil _ _ _ _ _), (fun i hi => by cases hi), (fun _ _ h => by cases h), hcx, (by rw [List.drop_zero]; exact hSd.seq), LBook.nil.ledg, (Nat.le_refl _), rfl, Nat.zero_le _, K0, H48⟩ ?_
    clear H48 hcx K0
    rintro ⟨ii, tn, S, K, NA, nc, MA, mc⟩ _ w52 ⟨rfl, hON, obNb45, ooNM, hOM, obMb45, ooMN, hcx, hSq, hLg, hKl, htn, hi, K53, H54⟩
    have hcN : ∀ i, ((Value.slice NA S.length nc)).ownBlock = some i → w29.heap.size ≤ i := fun i hi => (World.ownsRow.lt hON i hi).1
    have hcM : ∀ i, ((Value.slice MA K.length mc)).ownBlock = some i → w29.heap.size ≤ i := fun i hi => (World.ownsRow.lt hOM i hi).1
    have hSle := hLg.le
    have htl8 : tn ≤ ii := by rw [htn]; exact Nat.le_trans List.countP_le_length (Nat.le_trans (List.length_filterMap_le _ _) (by rw [List.length_take]; omega))
    refine qs ?_
    refine qsg ?_
    refine ogd 4 [(0, .slice LA l.length lc), (3, .slice OA11 o10.length oc12), (4, .slice A24 o23.length c25), (7, ptr b45), (8, i64 ↑tn), (9, i64 ↑ii), (42, (Value.bool (decide (((ii : Nat) : Int) < ((o23.length : Nat) : Int)))))] ?_
    refine qcQ 42 (decide (((ii : Nat) : Int) < ((o23.length : Nat) : Int))) rfl (fun h55 => ?_) (fun h55 => ?_)
    ·rw [h55]
     have p56 := of_decide_eq_true h55
     refine qkQ ?_
     refine qs ?_
     refine q_block (id := 1) (by kernel_rfl) ?_
     refine qsg ?_
     refine og 2 [(0, .slice LA l.length lc), (3, .slice OA11 o10.length oc12), (4, .slice A24 o23.length c25), (7, ptr b45), (8, i64 ↑tn), (9, i64 ↑ii), (45, .slice A24 o23.length c25), (46, i64 ↑ii)] 2 ?_
     obtain ⟨z, hz⟩ : ∃ z, o23[ii]? = some z := ⟨_, List.getElem?_eq_getElem (by omega)⟩
     have hzl : z < l.length := by have := hSd.lt z (List.mem_of_getElem? hz); rw [List.length_map] at this; exact this
     obtain ⟨rb57, ro58, hA59⟩ := Rd.addr (Rd.keep0 (by decide) hXR9 hcx) (by omega)
     refine Ops.go (by kernel_rfl) (Runs.ixSliceE (k := IntKind.i64) (t := 35) (len := o23.length) (cap := c25) (s := 1) (off' := ro58 + ii) (i := ((ii : Nat) : Int)) hA59 (by kernel_rfl) (by kernel_rfl) (by omega) (by omega) (by omega)) (d := (some 47)) (by kernel_rfl) rfl ?_
     refine ogo (i64 ((z : Nat) : Int)) 48 (Runs.load (t := 3) (a := ⟨rb57, ro58 + ii, none⟩) (by kernel_rfl) (RdT.ldu (f := iN) (x := z) iN_one (Rd.keep0 (by decide) hXR9 hcx) (by kernel_rfl) hA59 hz rfl)) rfl ?_
     refine ogd 1 [(0, .slice LA l.length lc), (3, .slice OA11 o10.length oc12), (4, .slice A24 o23.length c25), (7, ptr b45), (8, i64 ↑tn), (9, i64 ↑ii), (10, i64 ↑z)] ?_
     refine qs ?_
     refine qsg ?_
     refine og 3 [(0, .slice LA l.length lc), (3, .slice OA11 o10.length oc12), (4, .slice A24 o23.length c25), (7, ptr b45), (8, i64 ↑tn), (9, i64 ↑ii), (10, i64 ↑z), (51, (Value.bool (decide (((z : Nat) : Int) < 0))))] 3 ?_
     have h60 : (decide (((z : Nat) : Int) < 0)) = false := decide_eq_false (by omega)
     rw [h60]
     refine ogd 5 [(0, .slice LA l.length lc), (3, .slice OA11 o10.length oc12), (4, .slice A24 o23.length c25), (7, ptr b45), (8, i64 ↑tn), (9, i64 ↑ii), (10, i64 ↑z), (56, (Value.bool (decide (((z : Nat) : Int) ≥ ((l.length : Nat) : Int)))))] ?_
     have h61 : (decide (((z : Nat) : Int) ≥ ((l.length : Nat) : Int))) = false := decide_eq_false (by omega)
     rw [h61]
     refine q_else (o := .tmp 56) (by kernel_rfl) rfl ?_
     refine qkQ ?_
     refine qs ?_
     refine qsg ?_
     refine ogd 1 [(0, .slice LA l.length lc), (3, .slice OA11 o10.length oc12), (4, .slice A24 o23.length c25), (7, ptr b45), (8, i64 ↑tn), (9, i64 ↑ii), (10, i64 ↑z), (11, i64 0)] ?_
     refine q_block (id := 2) (by kernel_rfl) ?_
     refine q_keep (R := [(0, .slice LA l.length lc), (3, .slice OA11 o10.length oc12), (4, .slice A24 o23.length c25), (7, ptr b45), (8, i64 ↑tn), (9, i64 ↑ii), (10, i64 ↑z), (11, i64 0)]) (by kernel_rfl) ?_
     refine q_loop (fun (jj : Nat) L (wx : World) => L = [(0, (Value.slice LA l.length lc)), (3, (Value.slice OA11 o10.length oc12)), (4, (Value.slice A24 o23.length c25)), (7, (ptr b45)), (8, (i64 ((tn : Nat) : Int))), (9, (i64 ((ii : Nat) : Int))), (10, (i64 ((z : Nat) : Int))), (11, (i64 ((jj : Nat) : Int)))] ∧ OwnT wx w29.heap.size 98 2 RowM.cells (Value.slice NA S.length nc) S ∧ (∀ i, ((Value.slice NA S.length nc)).ownBlock = some i → i ≠ b45) ∧ (∀ i, ((Value.slice MA K.length mc)).ownBlock = some i → ((Value.slice NA S.length nc)).ownBlock = some i → False) ∧ OwnT wx w29.heap.size 101 10 kref (Value.slice MA K.length mc) K ∧ (∀ i, ((Value.slice MA K.length mc)).ownBlock = some i → i ≠ b45) ∧ (∀ i, ((Value.slice NA S.length nc)).ownBlock = some i → ((Value.slice MA K.length mc)).ownBlock = some i → False) ∧ Keeps none_ w29 wx ∧ jj ≤ ii ∧ Keeps none_ w wx ∧ Has wx b45 (rowL [(Value.slice NA S.length nc), (Value.slice MA K.length mc)] 55)) (fun (jj : Nat) => ii - jj) 0 (by kernel_rfl) ⟨rfl, hON, obNb45, ooNM, hOM, obMb45, ooMN, hcx, Nat.zero_le _, K53, H54⟩ ?_
     clear H54 hON hOM hcx K53
     rintro jj _ w62 ⟨rfl, hON, obNb45, ooNM, hOM, obMb45, ooMN, hcx, hj, K63, H64⟩
     have hcN : ∀ i, ((Value.slice NA S.length nc)).ownBlock = some i → w29.heap.size ≤ i := fun i hi => (World.ownsRow.lt hON i hi).1
     have hcM : ∀ i, ((Value.slice MA K.length mc)).ownBlock = some i → w29.heap.size ≤ i := fun i hi => (World.ownsRow.lt hOM i hi).1
     have hSle := hLg.le
     refine qs ?_
     refine qsg ?_
     refine ogd 3 [(0, .slice LA l.length lc), (3, .slice OA11 o10.length oc12), (4, .slice A24 o23.length c25), (7, ptr b45), (8, i64 ↑tn), (9, i64 ↑ii), (10, i64 ↑z), (11, i64 ↑jj), (59, (Value.bool (decide (((jj : Nat) : Int) < ((ii : Nat) : Int)))))] ?_
     refine qcQ 59 (decide (((jj : Nat) : Int) < ((ii : Nat) : Int))) rfl (fun h65 => ?_) (fun h65 => ?_)
     ·rw [h65]
      have p66 := of_decide_eq_true h65
      refine qkQ ?_
      refine qs ?_
      refine q_block (id := 3) (by kernel_rfl) ?_
      refine qs ?_
      refine q_drawS 20 (by kernel_rfl) (by kernel_rfl) (by kernel_rfl) (fun w67 K68 _ _ => ?_)
      replace K63 := K63.trans K68 (U := none_) (fun i h1 h2 => h2) (fun i h1 h2 => by exact h2)
      replace H64 := H64.kn K68
      replace hON := own_keep0 hON K68
      replace hOM := own_keep0 hOM K68
      replace hcx := hcx.trans K68 (fun _ _ h => h) (fun _ _ h => h)
      have Kb69 : Keeps none_ w67 w67 := Keeps.refl w67
      refine ⟨fun wz => Keeps none_ w67 wz, [], (SH.nil Kb69), ?_⟩
      obtain ⟨zj, hzj⟩ : ∃ z, o23[jj]? = some z := ⟨_, List.getElem?_eq_getElem (by omega)⟩
      have hzjl : zj < l.length := by have := hSd.lt zj (List.mem_of_getElem? hzj); rw [List.length_map] at this; exact this
      obtain ⟨rb70, ro71, hA72⟩ := Rd.addr (Rd.keep0 (by decide) hXR9 hcx) (by omega)
      refine skQ 18 [0, 1] [(0, .slice LA l.length lc), (3, .slice OA11 o10.length oc12), (4, .slice A24 o23.length c25), (7, ptr b45), (8, i64 ↑tn), (9, i64 ↑ii), (10, i64 ↑z), (11, i64 ↑jj), (62, .slice A24 o23.length c25), (63, i64 ↑jj)] ?_
      refine stQ 2 (Value.pointer (some ⟨rb70, ro71 + jj, none⟩)) 64 (fun wz hS => Runs.ixSliceE (k := IntKind.i64) (t := 35) (len := o23.length) (cap := c25) (s := 1) (off' := ro71 + jj) (i := ((jj : Nat) : Int)) hA72 (by kernel_rfl) (by kernel_rfl) (by omega) (by omega) (by omega)) rfl ?_
      refine stQ 3 (i64 ((zj : Nat) : Int)) 65 (fun wz hS => Runs.load (t := 3) (a := ⟨rb70, ro71 + jj, none⟩) (by kernel_rfl) (RdT.ldu (f := iN) (x := zj) iN_one (Rd.keep0 (by decide) hXR9 (hcx.trans hS (fun _ _ h => h) (fun _ _ h => h))) (by kernel_rfl) hA72 hzj rfl)) rfl ?_
      refine skQ 13 [4, 5, 6] [(0, .slice LA l.length lc), (3, .slice OA11 o10.length oc12), (4, .slice A24 o23.length c25), (7, ptr b45), (8, i64 ↑tn), (9, i64 ↑ii), (10, i64 ↑z), (11, i64 ↑jj), (68, (Value.bool (((zj : Nat) : Int) == ((z : Nat) : Int))))] ?_
      have h73 : (((zj : Nat) : Int) == ((z : Nat) : Int)) = false := beq_eq_false_iff_ne.2 (fun q => hSd.ne (i := ii) (j := jj) (by omega) hz hzj (by omega))
      rw [h73]
      obtain ⟨y, hy⟩ : ∃ x, o10[z]? = some x := ⟨_, List.getElem?_eq_getElem (by omega)⟩
      have hym : (l.map HC.c)[z]? = some y.c := by rw [← hm20, List.getElem?_map, hy]; rfl
      obtain ⟨rb74, ro75, hA76⟩ := Rd.addr (Rd.keep0 (by decide) hOR9 hcx) (by omega)
      refine skQ 11 [7, 8] [(0, .slice LA l.length lc), (3, .slice OA11 o10.length oc12), (4, .slice A24 o23.length c25), (7, ptr b45), (8, i64 ↑tn), (9, i64 ↑ii), (10, i64 ↑z), (11, i64 ↑jj), (68, .bool false), (69, .slice OA11 o10.length oc12), (70, i64 ↑z)] ?_
      refine stQ 9 (Value.pointer (some ⟨rb74, ro75 + z * 13, none⟩)) 71 (fun wz hS => Runs.ixSliceE (k := IntKind.i64) (t := 33) (len := o10.length) (cap := oc12) (s := 13) (off' := ro75 + z * 13) (i := ((z : Nat) : Int)) hA76 (by kernel_rfl) (by kernel_rfl) (by omega) (by omega) (by omega)) rfl ?_
      refine stQ 10 (agg (HC.cells y)) 72 (fun wz hS => Runs.load (t := 43) (a := ⟨rb74, ro75 + z * 13, none⟩) (by kernel_rfl) (RdT.ld (f := HC.cells) (x := y) HC.two (Rd.keep0 (by decide) hOR9 (hcx.trans hS (fun _ _ h => h) (fun _ _ h => h))) (by kernel_rfl) (by kernel_rfl) hA76 hy)) rfl ?_
      refine skQ 6 [11, 12, 13] [(0, .slice LA l.length lc), (3, .slice OA11 o10.length oc12), (4, .slice A24 o23.length c25), (7, ptr b45), (8, i64 ↑tn), (9, i64 ↑ii), (10, i64 ↑z), (11, i64 ↑jj), (68, .bool false), (72, (agg (HC.cells y))), (73, .slice OA11 o10.length oc12), (74, .slice A24 o23.length c25), (75, i64 ↑jj)] ?_
      refine stQ 14 (Value.pointer (some ⟨rb70, ro71 + jj, none⟩)) 76 (fun wz hS => Runs.ixSliceE (k := IntKind.i64) (t := 35) (len := o23.length) (cap := c25) (s := 1) (off' := ro71 + jj) (i := ((jj : Nat) : Int)) hA72 (by kernel_rfl) (by kernel_rfl) (by omega) (by omega) (by omega)) rfl ?_
      refine stQ 15 (i64 ((zj : Nat) : Int)) 77 (fun wz hS => Runs.load (t := 3) (a := ⟨rb70, ro71 + jj, none⟩) (by kernel_rfl) (RdT.ldu (f := iN) (x := zj) iN_one (Rd.keep0 (by decide) hXR9 (hcx.trans hS (fun _ _ h => h) (fun _ _ h => h))) (by kernel_rfl) hA72 hzj rfl)) rfl ?_
      obtain ⟨u, hu⟩ : ∃ x, o10[zj]? = some x := ⟨_, List.getElem?_eq_getElem (by omega)⟩
      have hum : (l.map HC.c)[zj]? = some u.c := by rw [← hm20, List.getElem?_map, hu]; rfl
      obtain ⟨rb77, ro78, hA79⟩ := Rd.addr (Rd.keep0 (by decide) hOR9 hcx) (by omega)
      refine stQ 16 (Value.pointer (some ⟨rb77, ro78 + zj * 13, none⟩)) 78 (fun wz hS => Runs.ixSliceE (k := IntKind.i64) (t := 33) (len := o10.length) (cap := oc12) (s := 13) (off' := ro78 + zj * 13) (i := ((zj : Nat) : Int)) hA79 (by kernel_rfl) (by kernel_rfl) (by omega) (by omega) (by omega)) rfl ?_
      refine stQ 17 (agg (HC.cells u)) 79 (fun wz hS => Runs.load (t := 43) (a := ⟨rb77, ro78 + zj * 13, none⟩) (by kernel_rfl) (RdT.ld (f := HC.cells) (x := u) HC.two (Rd.keep0 (by decide) hOR9 (hcx.trans hS (fun _ _ h => h) (fun _ _ h => h))) (by kernel_rfl) (by kernel_rfl) hA79 hu)) rfl ?_
      refine soQ 18 ?_
      refine Dr1.call (by kernel_rfl) (d := (some 80)) (by kernel_rfl) (AheadP_calls _ y u) ?_
      rintro _ w80 ⟨rfl, K81⟩
      replace K63 := K63.trans K81 (U := none_) (fun i h1 h2 => h2) (fun i h1 h2 => by exact h2)
      replace H64 := H64.kn K81
      replace hON := own_keep0 hON K81
      replace hOM := own_keep0 hOM K81
      replace hcx := hcx.trans K81 (fun _ _ h => h) (fun _ _ h => h)
      have Kb82 := Kb69.trans K81 (U := none_) (fun _ _ h => h) (fun i h1 h2 => by exact h2.elim)
      refine ⟨_, _, rfl, rfl, (SH.nil Kb82), ?_⟩
      refine skQ 0 [19] [(0, .slice LA l.length lc), (3, .slice OA11 o10.length oc12), (4, .slice A24 o23.length c25), (7, ptr b45), (8, i64 ↑tn), (9, i64 ↑ii), (10, i64 ↑z), (11, i64 ↑jj), (81, .bool (aheadH y.c u.c))] ?_
      refine DrS.done (by kernel_rfl) ?_
      have h83 : (aheadH y.c u.c) = false := hSd.not (i := ii) (j := jj) (by omega) hz hzj hym hum
      rw [h83]
      refine q_else (o := .tmp 81) (by kernel_rfl) rfl ?_
      refine qkQ ?_
      refine qg ?_
      refine og 2 [(0, .slice LA l.length lc), (3, .slice OA11 o10.length oc12), (4, .slice A24 o23.length c25), (7, ptr b45), (8, i64 ↑tn), (9, i64 ↑ii), (10, i64 ↑z), (11, i64 ↑jj), (61, (i64 (IntKind.i64.wrap (((jj : Nat) : Int) + 1))))] 2 ?_
      rw [show IntKind.i64.wrap (((jj : Nat) : Int) + 1) = ((jj + 1 : Nat) : Int) from by rw [wrap_i64 (by omega) (by omega)]; omega]
      refine og 1 [(0, .slice LA l.length lc), (3, .slice OA11 o10.length oc12), (4, .slice A24 o23.length c25), (7, ptr b45), (8, i64 ↑tn), (9, i64 ↑ii), (10, i64 ↑z), (11, i64 ↑(jj + 1))] 3 ?_
      refine ok_ [(0, .slice LA l.length lc), (3, .slice OA11 o10.length oc12), (4, .slice A24 o23.length c25), (7, ptr b45), (8, i64 ↑tn), (9, i64 ↑ii), (10, i64 ↑z), (11, i64 ↑(jj + 1))] ?_
      refine od ?_
      exact ⟨jj + 1, ⟨rfl, hON, obNb45, ooNM, hOM, obMb45, ooMN, hcx, (by omega), K63, H64⟩, (show ii - (jj + 1) < ii - jj from by omega)⟩
     ·rw [h65]
      have p85 := of_decide_eq_false h65
      refine q_exit (id := 2) (by kernel_rfl) ?_
      refine qsg ?_
      refine og 2 [(0, .slice LA l.length lc), (3, .slice OA11 o10.length oc12), (4, .slice A24 o23.length c25), (7, ptr b45), (8, i64 ↑tn), (9, i64 ↑ii), (10, i64 ↑z), (11, i64 ↑jj), (82, .slice LA l.length lc), (83, i64 ↑z)] 2 ?_
      obtain ⟨x, hx⟩ : ∃ x, l[z]? = some x := ⟨_, List.getElem?_eq_getElem (by omega)⟩
      have hxm : (l.map HC.c)[z]? = some x.c := by rw [List.getElem?_map, hx]; rfl
      have hxi := hI x (List.mem_of_getElem? hx)
      have hxa := hxi.2.1
      have hkl9 := oneK_len S K x.c.op
      have hrl9 := oneR_rows S K x.c.op
      have hsl9 := (hLg.do (o := x.c.op) (by omega)).le
      obtain ⟨rb86, ro87, hA88⟩ := Rd.addr (Rd.keep0 (by decide) hL K63) (by omega)
      refine Ops.go (by kernel_rfl) (Runs.ixSliceE (k := IntKind.i64) (t := 22) (len := l.length) (cap := lc) (s := 13) (off' := ro87 + z * 13) (i := ((z : Nat) : Int)) hA88 (by kernel_rfl) (by kernel_rfl) (by omega) (by omega) (by omega)) (d := (some 84)) (by kernel_rfl) rfl ?_
      refine ogo (agg (HC.cells x)) 85 (Runs.load (t := 30) (a := ⟨rb86, ro87 + z * 13, none⟩) (by kernel_rfl) (RdT.ld (f := HC.cells) (x := x) HC.two (Rd.keep0 (by decide) hL K63) (by kernel_rfl) (by kernel_rfl) hA88 hx)) rfl ?_
      refine onew (rowL [(i64 0), (Value.string ByteArray.empty), (Value.string ByteArray.empty), (i64 0), (Value.string ByteArray.empty), (i64 0), (i64 0), (i64 0), (i64 0), (Value.bool false), (i64 0), (i64 0), (Value.slice none 0 0)] 30) (fun b => (ptr b)) 12 (fun b => rfl) (fun b89 w90 hb91 H92 K93 hs94 => ?_)
      have lb89b45 : b45 < b89 := by have := H64.lt; omega
      have nb89 : w.heap.size ≤ b89 := by have := K63.size; omega
      have ob95 : ∀ i, ((Value.slice NA S.length nc)).ownBlock = some i → i < b89 := fun i hi => by have := (World.ownsRow.lt hON i hi).2; omega
      have ob96 : ∀ i, ((Value.slice MA K.length mc)).ownBlock = some i → i < b89 := fun i hi => by have := (World.ownsRow.lt hOM i hi).2; omega
      have ox97 : w29.heap.size ≤ b89 := by have := hcx.size; omega
      replace K63 := K63.trans K93 (U := none_) (fun i h1 h2 => h2) (fun i h1 h2 => by exact h2)
      replace H64 := H64.kn K93
      replace hON := own_keep0 hON K93
      replace hOM := own_keep0 hOM K93
      replace hcx := hcx.trans K93 (fun _ _ h => h) (fun _ _ h => h)
      clear K93 hs94
      refine oput 30 b89 (HC.cells x) H92 rfl (fun w98 H99 K100 => ?_)
      replace K63 := K63.trans K100 (U := none_) (fun i h1 h2 => h2) (fun i h1 h2 => by have h2 : i = b89 := h2; exfalso; omega)
      replace H64 := H64.k1 K100 (by omega)
      replace hON := own_keep hON K100 (fun i hi => by have := ob95 i hi; omega)
      replace hOM := own_keep hOM K100 (fun i hi => by have := ob96 i hi; omega)
      replace hcx := Keeps.trans hcx K100 (U := none_) (fun _ _ h => h) (fun i hi hs => by have hs : i = b89 := hs; exfalso; have := ox97; omega)
      refine od ?_
      refine qsg ?_
      refine og 2 [(0, .slice LA l.length lc), (3, .slice OA11 o10.length oc12), (4, .slice A24 o23.length c25), (7, ptr b45), (8, i64 ↑tn), (9, i64 ↑ii), (10, i64 ↑z), (11, i64 ↑jj), (12, ptr b89), (86, ptr b45), (87, ptr b89)] 2 ?_
      refine ogo (agg (Opm.cells x.c.op)) 88 (rld 24 b89 0 H99) rfl ?_
      refine ocQ 89 (RDo_calls _ w29.heap.size b45 NA nc S MA mc K x.c.op H64 hON hOM obNb45 obMb45 ooMN hLg.led (hcx.size) hLg (by omega) (by first | omega | decide) (by first | omega | decide)) ?_
      rintro _ w117 ⟨A101, c102, B103, d104, A105, c106, rfl, K107, H108, hO109, hP110, hO111, hg112, hg113, oo114, oo115, oo116⟩
      have ob118 : ∀ i, ((Value.slice A101 ((doS S K x.c.op).length) c102)).ownBlock = some i → i ≠ b45 := fun i hi => by rcases hg112 i hi with h | h; (have := obNb45 i h; omega); (have := H64.lt; omega)
      have ob119 : ∀ i, ((Value.slice A101 ((doS S K x.c.op).length) c102)).ownBlock = some i → i ≠ b89 := fun i hi => by rcases hg112 i hi with h | h; (have := ob95 i h; omega); (have := H99.lt; omega)
      have ob122 : ∀ i, ((Value.slice B103 ((doK S K x.c.op).length) d104)).ownBlock = some i → i ≠ b45 := fun i hi => by rcases hg113 i hi with h | h; (have := obMb45 i h; omega); (have := H64.lt; omega)
      have ob123 : ∀ i, ((Value.slice B103 ((doK S K x.c.op).length) d104)).ownBlock = some i → i ≠ b89 := fun i hi => by rcases hg113 i hi with h | h; (have := ob96 i h; omega); (have := H99.lt; omega)
      have ob127 : ∀ i, ((Value.slice A105 ((doR S K x.c.op).rows.length) c106)).ownBlock = some i → i ≠ b89 := fun i hi => by have := (World.ownsRow.lt hO111 i hi).1; have := H99.lt; omega
      have O132 := own_base hO111 K63.size
      refine ⟨_, _, rfl, rfl, ?_⟩
      replace K63 := K63.trans K107 (U := none_) (fun i h1 h2 => h2) (fun i h1 h2 => by have h2 : i = b45 ∨ ((Value.slice NA S.length nc)).ownBlock = some i ∨ ((Value.slice MA K.length mc)).ownBlock = some i := h2; rcases h2 with h2 | h2 | h2; (exfalso; omega); (exfalso; have := (World.ownsRow.lt hON i h2).1; omega); (exfalso; have := (World.ownsRow.lt hOM i h2).1; omega))
      replace H99 := H99.keep K107 (by intro h; change b89 = b45 ∨ ((Value.slice NA S.length nc)).ownBlock = some b89 ∨ ((Value.slice MA K.length mc)).ownBlock = some b89 at h; rcases h with h | h | h; (omega); (have := ob95 b89 h; omega); (have := ob96 b89 h; omega))
      clear hON
      clear hOM
      replace hcx := Keeps.trans hcx K107 (U := none_) (fun _ _ h => h) (fun i hi hs => by have hs : i = b45 ∨ ((Value.slice NA S.length nc)).ownBlock = some i ∨ ((Value.slice MA K.length mc)).ownBlock = some i := hs; rcases hs with hs | hs | hs; (exfalso; have := ox51; omega); (exfalso; have := hcN i hs; omega); (exfalso; have := hcM i hs; omega))
      refine og 1 [(0, .slice LA l.length lc), (3, .slice OA11 o10.length oc12), (4, .slice A24 o23.length c25), (7, ptr b45), (8, i64 ↑tn), (9, i64 ↑ii), (10, i64 ↑z), (11, i64 ↑jj), (12, ptr b89), (89, (agg [(i64 ((doR S K x.c.op).why)), (i64 ((doR S K x.c.op).amount)), (Value.slice A105 ((doR S K x.c.op).rows.length) c106)])), (90, .pointer (some ⟨b89, 10, none⟩))] 5 ?_
      refine Ops.put (t := 28) (b := b89) (off := 10) (v := (agg [(i64 ((doR S K x.c.op).why)), (i64 ((doR S K x.c.op).amount)), (Value.slice A105 ((doR S K x.c.op).rows.length) c106)])) (ys := [(i64 x.c.op.kind), (Value.string (str x.c.op.frm)), (Value.string (str x.c.op.to)), (i64 x.c.op.amount), (Value.string (str x.c.op.key)), (i64 x.c.op.slot), (i64 x.c.op.shard), (i64 x.c.bg), (i64 x.c.en), (Value.bool x.c.told), (i64 ((doR S K x.c.op).why)), (i64 ((doR S K x.c.op).amount)), (Value.slice A105 ((doR S K x.c.op).rows.length) c106)]) (by kernel_rfl) (by kernel_rfl) H99 (by kernel_rfl) (d := none) (by kernel_rfl) rfl (fun w133 H134 K135 => ?_)
      replace K63 := K63.trans K135 (U := none_) (fun i h1 h2 => h2) (fun i h1 h2 => by have h2 : i = b89 := h2; exfalso; omega)
      replace H108 := H108.k1 K135 (by omega)
      replace hcx := Keeps.trans hcx K135 (U := none_) (fun _ _ h => h) (fun i hi hs => by have hs : i = b89 := hs; exfalso; have := ox97; omega)
      replace hO109 := own_keep hO109 K135 (fun i hi => by have := ob119 i hi; omega)
      replace hP110 := own_keep hP110 K135 (fun i hi => by have := ob123 i hi; omega)
      replace O132 := own_keep O132 K135 (fun i hi => by have := ob127 i hi; omega)
      refine od ?_
      refine qsg ?_
      refine og 2 [(0, .slice LA l.length lc), (3, .slice OA11 o10.length oc12), (4, .slice A24 o23.length c25), (7, ptr b45), (8, i64 ↑tn), (9, i64 ↑ii), (10, i64 ↑z), (11, i64 ↑jj), (12, ptr b89), (91, .slice LA l.length lc), (92, i64 ↑z)] 2 ?_
      refine Ops.go (by kernel_rfl) (Runs.ixSliceE (k := IntKind.i64) (t := 22) (len := l.length) (cap := lc) (s := 13) (off' := ro87 + z * 13) (i := ((z : Nat) : Int)) hA88 (by kernel_rfl) (by kernel_rfl) (by omega) (by omega) (by omega)) (d := (some 93)) (by kernel_rfl) rfl ?_
      refine og 1 [(0, .slice LA l.length lc), (3, .slice OA11 o10.length oc12), (4, .slice A24 o23.length c25), (7, ptr b45), (8, i64 ↑tn), (9, i64 ↑ii), (10, i64 ↑z), (11, i64 ↑jj), (12, ptr b89), (94, .pointer (some ⟨rb86, ro87 + z * 13 + 9, none⟩))] 4 ?_
      refine ogo (Value.bool x.c.told) 95 (Runs.load (t := 4) (a := ⟨rb86, ro87 + z * 13 + 9, none⟩) (by kernel_rfl) (RdT.ldf (f := HC.cells) (x := x) (o := 9) HC.two (Rd.keep0 (by decide) hL K63) (by kernel_rfl) hA88 hx rfl)) rfl ?_
      refine od ?_
      refine qcQ 95 x.c.told rfl (fun h136 => ?_) (fun h136 => ?_)
      ·rw [h136]
       have p137 : x.c.told = true := h136
       obtain ⟨hst, hSq2⟩ := sound_round hSq hz hxm
       have hcnt := sound_count hz hxm
       rw [if_pos h136] at hcnt
       refine qsg ?_
       refine og 2 [(0, .slice LA l.length lc), (3, .slice OA11 o10.length oc12), (4, .slice A24 o23.length c25), (7, ptr b45), (8, i64 ↑tn), (9, i64 ↑ii), (10, i64 ↑z), (11, i64 ↑jj), (12, ptr b89), (97, (i64 (IntKind.i64.wrap (((tn : Nat) : Int) + 1))))] 2 ?_
       rw [show IntKind.i64.wrap (((tn : Nat) : Int) + 1) = ((tn + 1 : Nat) : Int) from by rw [wrap_i64 (by omega) (by omega)]; omega]
       refine ogd 1 [(0, .slice LA l.length lc), (3, .slice OA11 o10.length oc12), (4, .slice A24 o23.length c25), (7, ptr b45), (8, i64 ↑(tn + 1)), (9, i64 ↑ii), (10, i64 ↑z), (11, i64 ↑jj), (12, ptr b89)] ?_
       refine qs ?_
       refine q_drawS 7 (by kernel_rfl) (by kernel_rfl) (by kernel_rfl) (fun w139 K140 _ _ => ?_)
       replace K63 := K63.trans K140 (U := none_) (fun i h1 h2 => h2) (fun i h1 h2 => by exact h2)
       replace H108 := H108.kn K140
       replace H134 := H134.kn K140
       replace hcx := hcx.trans K140 (fun _ _ h => h) (fun _ _ h => h)
       replace hO109 := own_keep0 hO109 K140
       replace hP110 := own_keep0 hP110 K140
       replace O132 := own_keep0 O132 K140
       have Kb141 : Keeps none_ w139 w139 := Keeps.refl w139
       refine ⟨fun wz => Keeps none_ w139 wz, [], (SH.nil Kb141), ?_⟩
       refine stQ 0 (agg [(i64 x.c.op.kind), (Value.string (str x.c.op.frm)), (Value.string (str x.c.op.to)), (i64 x.c.op.amount), (Value.string (str x.c.op.key)), (i64 x.c.op.slot), (i64 x.c.op.shard), (i64 x.c.bg), (i64 x.c.en), (Value.bool x.c.told), (i64 ((doR S K x.c.op).why)), (i64 ((doR S K x.c.op).amount)), (Value.slice A105 ((doR S K x.c.op).rows.length) c106)]) 98 (fun wz hS => rld 30 b89 0 (H134.keep hS (fun h => h))) rfl ?_
       refine skQ 4 [1, 2] [(0, .slice LA l.length lc), (3, .slice OA11 o10.length oc12), (4, .slice A24 o23.length c25), (7, ptr b45), (8, i64 ↑(tn + 1)), (9, i64 ↑ii), (11, i64 ↑jj), (98, (agg [(i64 x.c.op.kind), (Value.string (str x.c.op.frm)), (Value.string (str x.c.op.to)), (i64 x.c.op.amount), (Value.string (str x.c.op.key)), (i64 x.c.op.slot), (i64 x.c.op.shard), (i64 x.c.bg), (i64 x.c.en), (Value.bool x.c.told), (i64 ((doR S K x.c.op).why)), (i64 ((doR S K x.c.op).amount)), (Value.slice A105 ((doR S K x.c.op).rows.length) c106)])), (99, .slice LA l.length lc), (100, i64 ↑z)] ?_
       refine stQ 3 (Value.pointer (some ⟨rb86, ro87 + z * 13, none⟩)) 101 (fun wz hS => Runs.ixSliceE (k := IntKind.i64) (t := 22) (len := l.length) (cap := lc) (s := 13) (off' := ro87 + z * 13) (i := ((z : Nat) : Int)) hA88 (by kernel_rfl) (by kernel_rfl) (by omega) (by omega) (by omega)) rfl ?_
       refine stQ 4 (agg (HC.cells x)) 102 (fun wz hS => Runs.load (t := 30) (a := ⟨rb86, ro87 + z * 13, none⟩) (by kernel_rfl) (RdT.ld (f := HC.cells) (x := x) HC.two (Rd.keep0 (by decide) hL (K63.trans hS (fun _ _ h => h) (fun _ _ h => h))) (by kernel_rfl) (by kernel_rfl) hA88 hx)) rfl ?_
       refine soQ 5 ?_
       refine Dr1.call (by kernel_rfl) (d := (some 103)) (by kernel_rfl) (SameC_calls _ (⟨⟨x.c.op, x.c.bg, x.c.en, x.c.told, doR S K x.c.op⟩, A105, c106⟩ : HC) x (OwnT.rd O132) (Rd.keep0 (by omega) hxi.1.rows K63)) ?_
       rintro _ w144 ⟨t142, rfl, ht143, K145⟩
       replace K63 := K63.trans K145 (U := none_) (fun i h1 h2 => h2) (fun i h1 h2 => by exact h2)
       replace H108 := H108.kn K145
       replace hcx := hcx.trans K145 (fun _ _ h => h) (fun _ _ h => h)
       replace hO109 := own_keep0 hO109 K145
       replace hP110 := own_keep0 hP110 K145
       have Kb146 := Kb141.trans K145 (U := none_) (fun _ _ h => h) (fun i h1 h2 => by exact h2.elim)
       refine ⟨_, _, rfl, rfl, (SH.nil Kb146), ?_⟩
       refine skQ 0 [6] [(0, .slice LA l.length lc), (3, .slice OA11 o10.length oc12), (4, .slice A24 o23.length c25), (7, ptr b45), (8, i64 ↑(tn + 1)), (9, i64 ↑ii), (11, i64 ↑jj), (104, .bool (!t142))] ?_
       refine DrS.done (by kernel_rfl) ?_
       have h147 : (!t142) = false := by rw [show t142 = true from ht143.2 (sound_same h136 hst)]; rfl
       rw [h147]
       refine q_else (o := .tmp 104) (by kernel_rfl) rfl ?_
       refine qkQ ?_
       refine qg ?_
       refine og 2 [(0, .slice LA l.length lc), (3, .slice OA11 o10.length oc12), (4, .slice A24 o23.length c25), (7, ptr b45), (8, i64 ↑(tn + 1)), (9, i64 ↑ii), (11, i64 ↑jj), (44, (i64 (IntKind.i64.wrap (((ii : Nat) : Int) + 1))))] 2 ?_
       rw [show IntKind.i64.wrap (((ii : Nat) : Int) + 1) = ((ii + 1 : Nat) : Int) from by rw [wrap_i64 (by omega) (by omega)]; omega]
       refine og 1 [(0, .slice LA l.length lc), (3, .slice OA11 o10.length oc12), (4, .slice A24 o23.length c25), (7, ptr b45), (8, i64 ↑(tn + 1)), (9, i64 ↑(ii + 1)), (11, i64 ↑jj)] 3 ?_
       refine ok_ [(0, .slice LA l.length lc), (3, .slice OA11 o10.length oc12), (4, .slice A24 o23.length c25), (7, ptr b45), (8, i64 ↑(tn + 1)), (9, i64 ↑(ii + 1))] ?_
       refine od ?_
       exact ⟨(ii + 1, tn + 1, (doS S K x.c.op), (doK S K x.c.op), A101, c102, B103, d104), ⟨rfl, hO109, ob118, (fun i h h2 => oo114 i h2 h), hP110, ob122, oo114, hcx, hSq2, (hLg.do (by omega)), (by omega), (by rw [hcnt, ← htn]), (by omega), K63, H108⟩, (show o23.length - (ii + 1) < o23.length - ii from by omega)⟩
      ·rw [h136]
       have p149 : x.c.told = false := h136
       obtain ⟨hst, hSq2⟩ := sound_round hSq hz hxm
       have hcnt := sound_count hz hxm
       rw [if_neg (by rw [h136]; decide)] at hcnt
       refine qkQ ?_
       refine qg ?_
       refine og 2 [(0, .slice LA l.length lc), (3, .slice OA11 o10.length oc12), (4, .slice A24 o23.length c25), (7, ptr b45), (8, i64 ↑tn), (9, i64 ↑ii), (11, i64 ↑jj), (44, (i64 (IntKind.i64.wrap (((ii : Nat) : Int) + 1))))] 2 ?_
       rw [show IntKind.i64.wrap (((ii : Nat) : Int) + 1) = ((ii + 1 : Nat) : Int) from by rw [wrap_i64 (by omega) (by omega)]; omega]
       refine og 1 [(0, .slice LA l.length lc), (3, .slice OA11 o10.length oc12), (4, .slice A24 o23.length c25), (7, ptr b45), (8, i64 ↑tn), (9, i64 ↑(ii + 1)), (11, i64 ↑jj)] 3 ?_
       refine ok_ [(0, .slice LA l.length lc), (3, .slice OA11 o10.length oc12), (4, .slice A24 o23.length c25), (7, ptr b45), (8, i64 ↑tn), (9, i64 ↑(ii + 1))] ?_
       refine od ?_
       exact ⟨(ii + 1, tn, (doS S K x.c.op), (doK S K x.c.op), A101, c102, B103, d104), ⟨rfl, hO109, ob118, (fun i h h2 => oo114 i h2 h), hP110, ob122, oo114, hcx, hSq2, (hLg.do (by omega)), (by omega), (by rw [hcnt, ← htn]; rfl), (by omega), K63, H108⟩, (show o23.length - (ii + 1) < o23.length - ii from by omega)⟩
    ·rw [h55]
     have p151 := of_decide_eq_false h55
     refine q_exit (id := 0) (by kernel_rfl) ?_
     refine qs ?_
     refine qsg ?_
     refine ogd 1 [(0, .slice LA l.length lc), (4, .slice A24 o23.length c25), (8, i64 ↑tn), (13, i64 0)] ?_
     refine q_block (id := 4) (by kernel_rfl) ?_
     have htn9 : tn = (l.map HC.c).countP (fun c => c.told && decide (c.rep.why ≠ 50)) := by rw [List.take_of_length_le (by omega)] at htn; rw [htn, hSd.count]
     have htl : tn ≤ l.length := by rw [htn9]; exact Nat.le_trans List.countP_le_length (by rw [List.length_map]; exact Nat.le_refl _)
     refine q_keep (R := [(0, .slice LA l.length lc), (4, .slice A24 o23.length c25), (8, i64 ↑tn), (13, i64 0)]) (by kernel_rfl) ?_
     refine q_loop (fun (gs : Nat × Int) L (wx : World) => match gs with | (i3, q3) => L = [(0, (Value.slice LA l.length lc)), (4, (Value.slice A24 o23.length c25)), (8, (i64 q3)), (13, (i64 ((i3 : Nat) : Int)))] ∧ Keeps none_ w29 wx ∧ q3 = ((tn : Nat) : Int) - ((((l.map HC.c).take i3).countP (fun c => c.told && decide (c.rep.why ≠ 50)) : Nat) : Int) ∧ i3 ≤ l.length ∧ Keeps none_ w wx) (fun (gs : Nat × Int) => match gs with | (i3, q3) => l.length - i3) (0, ((tn : Nat) : Int)) (by kernel_rfl) ⟨rfl, hcx, (by rw [List.take_zero, List.countP_nil]; omega), Nat.zero_le _, K53⟩ ?_
     clear hON hOM hcx K53
     rintro ⟨i3, q3⟩ _ w152 ⟨rfl, hcx, hq, hi3, K153⟩
     have hcl : ((l.map HC.c).take i3).countP (fun c => c.told && decide (c.rep.why ≠ 50)) ≤ i3 := Nat.le_trans List.countP_le_length (by rw [List.length_take]; omega)
     refine qs ?_
     refine qsg ?_
     refine ogd 4 [(0, .slice LA l.length lc), (4, .slice A24 o23.length c25), (8, i64 q3), (13, i64 ↑i3), (108, (Value.bool (decide (((i3 : Nat) : Int) < ((l.length : Nat) : Int)))))] ?_
     refine qcQ 108 (decide (((i3 : Nat) : Int) < ((l.length : Nat) : Int))) rfl (fun h154 => ?_) (fun h154 => ?_)
     ·rw [h154]
      have p155 := of_decide_eq_true h154
      refine qkQ ?_
      refine qs ?_
      refine q_block (id := 5) (by kernel_rfl) ?_
      refine qsg ?_
      refine og 2 [(0, .slice LA l.length lc), (4, .slice A24 o23.length c25), (8, i64 q3), (13, i64 ↑i3), (111, .slice LA l.length lc), (112, i64 ↑i3)] 2 ?_
      obtain ⟨x3, hx3⟩ : ∃ x, l[i3]? = some x := ⟨_, List.getElem?_eq_getElem (by omega)⟩
      have hx3m : (l.map HC.c)[i3]? = some x3.c := by rw [List.getElem?_map, hx3]; rfl
      have hx3i := hI x3 (List.mem_of_getElem? hx3)
      have hx3a := hx3i.2.1
      obtain ⟨rb156, ro157, hA158⟩ := Rd.addr (Rd.keep0 (by decide) hL K153) (by omega)
      refine Ops.go (by kernel_rfl) (Runs.ixSliceE (k := IntKind.i64) (t := 22) (len := l.length) (cap := lc) (s := 13) (off' := ro157 + i3 * 13) (i := ((i3 : Nat) : Int)) hA158 (by kernel_rfl) (by kernel_rfl) (by omega) (by omega) (by omega)) (d := (some 113)) (by kernel_rfl) rfl ?_
      refine og 1 [(0, .slice LA l.length lc), (4, .slice A24 o23.length c25), (8, i64 q3), (13, i64 ↑i3), (114, .pointer (some ⟨rb156, ro157 + i3 * 13 + 9, none⟩))] 4 ?_
      refine ogo (Value.bool x3.c.told) 115 (Runs.load (t := 4) (a := ⟨rb156, ro157 + i3 * 13 + 9, none⟩) (by kernel_rfl) (RdT.ldf (f := HC.cells) (x := x3) (o := 9) HC.two (Rd.keep0 (by decide) hL K153) (by kernel_rfl) hA158 hx3 rfl)) rfl ?_
      refine og 1 [(0, .slice LA l.length lc), (4, .slice A24 o23.length c25), (8, i64 q3), (13, i64 ↑i3), (116, .bool x3.c.told)] 6 ?_
      refine Ops.split x3.c.told (fun h159 => ?_) (fun h159 => ?_)
      ·rw [h159]
       have p160 : x3.c.told = true := h159
       refine og 2 [(0, .slice LA l.length lc), (4, .slice A24 o23.length c25), (8, i64 q3), (13, i64 ↑i3), (116, .bool true), (117, .slice LA l.length lc), (118, i64 ↑i3)] 8 ?_
       refine Ops.go (by kernel_rfl) (Runs.ixSliceE (k := IntKind.i64) (t := 22) (len := l.length) (cap := lc) (s := 13) (off' := ro157 + i3 * 13) (i := ((i3 : Nat) : Int)) hA158 (by kernel_rfl) (by kernel_rfl) (by omega) (by omega) (by omega)) (d := (some 119)) (by kernel_rfl) rfl ?_
       refine og 2 [(0, .slice LA l.length lc), (4, .slice A24 o23.length c25), (8, i64 q3), (13, i64 ↑i3), (116, .bool true), (121, .pointer (some ⟨rb156, ro157 + i3 * 13 + 10, none⟩))] 11 ?_
       refine ogo (i64 x3.c.rep.why) 122 (Runs.load (t := 25) (a := ⟨rb156, ro157 + i3 * 13 + 10, none⟩) (by kernel_rfl) (RdT.ldf (f := HC.cells) (x := x3) (o := 10) HC.two (Rd.keep0 (by decide) hL K153) (by kernel_rfl) hA158 hx3 rfl)) rfl ?_
       refine ogd 2 [(0, .slice LA l.length lc), (4, .slice A24 o23.length c25), (8, i64 q3), (13, i64 ↑i3), (124, .bool (x3.c.rep.why != 50))] ?_
       refine qcQ 124 (x3.c.rep.why != 50) rfl (fun h161 => ?_) (fun h161 => ?_)
       ·rw [h161]
        have p162 := of_bne_t h161
        have hpc : (x3.c.told && decide (x3.c.rep.why ≠ 50)) = true := by rw [h159, decide_eq_true (by omega)]; rfl
        refine qg ?_
        refine og 2 [(0, .slice LA l.length lc), (4, .slice A24 o23.length c25), (8, i64 q3), (13, i64 ↑i3), (126, (i64 (IntKind.i64.wrap (q3 - 1))))] 2 ?_
        have e163 : IntKind.i64.wrap (q3 - 1) = q3 - 1 := wrap_i64 (by omega) (by omega)
        rw [e163]
        refine ogd 1 [(0, .slice LA l.length lc), (4, .slice A24 o23.length c25), (8, (i64 (q3 - 1))), (13, i64 ↑i3)] ?_
        refine qg ?_
        refine og 2 [(0, .slice LA l.length lc), (4, .slice A24 o23.length c25), (8, (i64 (q3 - 1))), (13, i64 ↑i3), (110, (i64 (IntKind.i64.wrap (((i3 : Nat) : Int) + 1))))] 2 ?_
        rw [show IntKind.i64.wrap (((i3 : Nat) : Int) + 1) = ((i3 + 1 : Nat) : Int) from by rw [wrap_i64 (by omega) (by omega)]; omega]
        refine og 1 [(0, .slice LA l.length lc), (4, .slice A24 o23.length c25), (8, (i64 (q3 - 1))), (13, i64 ↑(i3 + 1))] 3 ?_
        refine ok_ [(0, .slice LA l.length lc), (4, .slice A24 o23.length c25), (8, (i64 (q3 - 1))), (13, i64 ↑(i3 + 1))] ?_
        refine od ?_
        exact ⟨(i3 + 1, q3 - 1), ⟨rfl, hcx, (by rw [cnt_take hx3m, hpc]; first | (rw [if_pos rfl]; omega) | (rw [if_neg (by decide)]; omega)), (by omega), K153⟩, (show l.length - (i3 + 1) < l.length - i3 from by omega)⟩
       ·rw [h161]
        have p165 := of_bne_f h161
        have hpc : (x3.c.told && decide (x3.c.rep.why ≠ 50)) = false := by rw [h159, decide_eq_false (by omega)]; rfl
        refine qkQ ?_
        refine qg ?_
        refine og 2 [(0, .slice LA l.length lc), (4, .slice A24 o23.length c25), (8, i64 q3), (13, i64 ↑i3), (110, (i64 (IntKind.i64.wrap (((i3 : Nat) : Int) + 1))))] 2 ?_
        rw [show IntKind.i64.wrap (((i3 : Nat) : Int) + 1) = ((i3 + 1 : Nat) : Int) from by rw [wrap_i64 (by omega) (by omega)]; omega]
        refine og 1 [(0, .slice LA l.length lc), (4, .slice A24 o23.length c25), (8, i64 q3), (13, i64 ↑(i3 + 1))] 3 ?_
        refine ok_ [(0, .slice LA l.length lc), (4, .slice A24 o23.length c25), (8, i64 q3), (13, i64 ↑(i3 + 1))] ?_
        refine od ?_
        exact ⟨(i3 + 1, q3), ⟨rfl, hcx, (by rw [cnt_take hx3m, hpc]; first | (rw [if_pos rfl]; omega) | (rw [if_neg (by decide)]; omega)), (by omega), K153⟩, (show l.length - (i3 + 1) < l.length - i3 from by omega)⟩
      ·rw [h159]
       have p167 : x3.c.told = false := h159
       have hpc : (x3.c.told && decide (x3.c.rep.why ≠ 50)) = false := by rw [h159]; rfl
       refine ogd 8 [(0, .slice LA l.length lc), (4, .slice A24 o23.length c25), (8, i64 q3), (13, i64 ↑i3), (124, .bool false)] ?_
       refine q_else (o := .tmp 124) (by kernel_rfl) rfl ?_
       refine qkQ ?_
       refine qg ?_
       refine og 2 [(0, .slice LA l.length lc), (4, .slice A24 o23.length c25), (8, i64 q3), (13, i64 ↑i3), (110, (i64 (IntKind.i64.wrap (((i3 : Nat) : Int) + 1))))] 2 ?_
       rw [show IntKind.i64.wrap (((i3 : Nat) : Int) + 1) = ((i3 + 1 : Nat) : Int) from by rw [wrap_i64 (by omega) (by omega)]; omega]
       refine og 1 [(0, .slice LA l.length lc), (4, .slice A24 o23.length c25), (8, i64 q3), (13, i64 ↑(i3 + 1))] 3 ?_
       refine ok_ [(0, .slice LA l.length lc), (4, .slice A24 o23.length c25), (8, i64 q3), (13, i64 ↑(i3 + 1))] ?_
       refine od ?_
       exact ⟨(i3 + 1, q3), ⟨rfl, hcx, (by rw [cnt_take hx3m, hpc]; first | (rw [if_pos rfl]; omega) | (rw [if_neg (by decide)]; omega)), (by omega), K153⟩, (show l.length - (i3 + 1) < l.length - i3 from by omega)⟩
     ·rw [h154]
      have p169 := of_decide_eq_false h154
      refine q_exit (id := 4) (by kernel_rfl) ?_
      refine qs ?_
      have hq0 : q3 = 0 := by rw [List.take_of_length_le (by rw [List.length_map]; omega)] at hq; omega
      refine qg ?_
      refine og 3 [(0, .slice LA l.length lc), (4, .slice A24 o23.length c25), (129, .bool (q3 == 0))] 3 ?_
      have h170 : (q3 == 0) = true := by rw [hq0]; rfl
      rw [h170]
      refine og 4 [(0, .slice LA l.length lc), (4, .slice A24 o23.length c25), (129, .bool true), (133, (Value.bool (((o23.length : Nat) : Int) == 0)))] 7 ?_
      refine Ops.split (((o23.length : Nat) : Int) == 0) (fun h171 => ?_) (fun h171 => ?_)
      ·rw [h171]
       have p172 := of_beq_t h171
       refine og 13 [(146, .bool true)] 20 ?_
       refine ocQ 147 (known_calls _) ?_
       rintro _ w174 ⟨rfl, K173⟩
       refine ⟨_, _, rfl, rfl, ?_⟩
       replace K153 := K153.trans K173 (U := none_) (fun i h1 h2 => h2) (fun i h1 h2 => by exact h2)
       refine ogd 2 [(2, .bool true)] ?_
       refine qtQ ?_
       refine ⟨(Value.bool true), retv_tmp rfl rfl, ?_⟩
       exact ⟨rfl, K153⟩
      ·rw [h171]
       have p175 := of_beq_f h171
       obtain ⟨n9, hn9⟩ : ∃ n, o23.length = n + 1 := ⟨o23.length - 1, by omega⟩
       refine og 5 [(129, .bool true), (133, .bool false), (134, .slice LA l.length lc), (135, .slice A24 o23.length c25), (138, (i64 (IntKind.i64.wrap (((o23.length : Nat) : Int) - 1))))] 12 ?_
       have e176 : IntKind.i64.wrap (((o23.length : Nat) : Int) - 1) = ((n9 : Nat) : Int) := by rw [wrap_i64 (by omega) (by omega)]; omega
       rw [e176]
       obtain ⟨z4, hz4⟩ : ∃ z, o23[n9]? = some z := ⟨_, List.getElem?_eq_getElem (by omega)⟩
       have hz4l : z4 < l.length := by have := hSd.lt z4 (List.mem_of_getElem? hz4); rw [List.length_map] at this; exact this
       obtain ⟨rb177, ro178, hA179⟩ := Rd.addr (Rd.keep0 (by decide) hXR9 hcx) (by omega)
       refine Ops.go (by kernel_rfl) (Runs.ixSliceE (k := IntKind.i64) (t := 35) (len := o23.length) (cap := c25) (s := 1) (off' := ro178 + n9) (i := ((n9 : Nat) : Int)) hA179 (by kernel_rfl) (by kernel_rfl) (by omega) (by omega) (by omega)) (d := (some 139)) (by kernel_rfl) rfl ?_
       refine ogo (i64 ((z4 : Nat) : Int)) 140 (Runs.load (t := 3) (a := ⟨rb177, ro178 + n9, none⟩) (by kernel_rfl) (RdT.ldu (f := iN) (x := z4) iN_one (Rd.keep0 (by decide) hXR9 hcx) (by kernel_rfl) hA179 hz4 rfl)) rfl ?_
       obtain ⟨x4, hx4⟩ : ∃ x, l[z4]? = some x := ⟨_, List.getElem?_eq_getElem (by omega)⟩
       have hx4m : (l.map HC.c)[z4]? = some x4.c := by rw [List.getElem?_map, hx4]; rfl
       have hx4i := hI x4 (List.mem_of_getElem? hx4)
       have hx4a := hx4i.2.1
       obtain ⟨rb180, ro181, hA182⟩ := Rd.addr (Rd.keep0 (by decide) hL K153) (by omega)
       refine Ops.go (by kernel_rfl) (Runs.ixSliceE (k := IntKind.i64) (t := 22) (len := l.length) (cap := lc) (s := 13) (off' := ro181 + z4 * 13) (i := ((z4 : Nat) : Int)) hA182 (by kernel_rfl) (by kernel_rfl) (by omega) (by omega) (by omega)) (d := (some 141)) (by kernel_rfl) rfl ?_
       refine og 1 [(129, .bool true), (133, .bool false), (142, .pointer (some ⟨rb180, ro181 + z4 * 13 + 9, none⟩))] 16 ?_
       refine ogo (Value.bool x4.c.told) 143 (Runs.load (t := 4) (a := ⟨rb180, ro181 + z4 * 13 + 9, none⟩) (by kernel_rfl) (RdT.ldf (f := HC.cells) (x := x4) (o := 9) HC.two (Rd.keep0 (by decide) hL K153) (by kernel_rfl) hA182 hx4 rfl)) rfl ?_
       refine og 3 [(146, .bool x4.c.told)] 20 ?_
       have h183 : x4.c.told = true := sound_end hSd (by intro q; rw [q] at hn9; cases hn9) (by rw [show o23.length - 1 = n9 from by omega]; exact hz4) hx4m
       rw [h183]
       refine ocQ 147 (known_calls _) ?_
       rintro _ w185 ⟨rfl, K184⟩
       refine ⟨_, _, rfl, rfl, ?_⟩
       replace K153 := K153.trans K184 (U := none_) (fun i h1 h2 => h2) (fun i h1 h2 => by exact h2)
       refine ogd 2 [(2, .bool true)] ?_
       refine qtQ ?_
       refine ⟨(Value.bool true), retv_tmp rfl rfl, ?_⟩
       exact ⟨rfl, K153⟩
end Go.Proofs.YtnbcghbgeiocbaaDoor
