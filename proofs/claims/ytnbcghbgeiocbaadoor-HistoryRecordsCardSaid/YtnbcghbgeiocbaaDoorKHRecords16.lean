/- What the claim stands on, part 16: rules of the walk, contracts of the functions, plain laws. -/
import Derived.Test.YtnbcghbgeiocbaaDoorProg
import Derived.Test.YtnbcghbgeiocbaaDoorKHRecords15
import Derived.Test.YtnbcghbgeiocbaaDoorKHRecords8
import Derived.Test.YtnbcghbgeiocbaaDoorKHRecords6
import Derived.Test.YtnbcghbgeiocbaaDoorKHRecords11
set_option linter.unusedVariables false
namespace Go.Proofs.YtnbcghbgeiocbaaDoor
open Go.Q Go.RowKit
set_option maxHeartbeats 4000000 in
theorem Order_calls (w : World) (LA : Option Addr) (lc : Nat) (l : List HC) (G : Nat → Prop) (hL : RdT w 13 HC.cells (Value.slice LA l.length lc) l) (hG : RowsE w HC.rv HC.rows G l) (ho : ∀ x ∈ l, -9223372036854775808 ≤ x.c.op.amount ∧ x.c.op.amount ≤ 9223372036854775807) (hl : l.length ≤ 2000) : Calls Tryd.prog 12 ⟨[(Value.slice LA l.length lc)]⟩ w (fun e w' => ∃ (o : List Nat) (A : Option Addr) (c : Nat) (ok : Bool) (why : Int), e = .returned (.tuple #[.slice A o.length c, .bool ok, i64 why]) ∧ Keeps none_ w w' ∧ RdT w' 1 iN (.slice A o.length c) o ∧ (o, ok, why) = orderH (l.map HC.c)) := by
 have K0 : Keeps none_ w w := Keeps.refl w
 refine qr_calls 11 Tryd.func12 (by kernel_rfl) (by kernel_rfl) ?_
 refine rsg Open.wide ?_
 refine ogd 3 [(0, .slice LA l.length lc), (2, .slice none 0 0), (3, .bool false), (4, i64 0)] ?_
 refine rsg Open.wide ?_
 refine onew (rowL [(Value.slice none 0 0), (Value.slice none 0 0)] 68) (fun b => (ptr b)) 5 (fun b => rfl) (fun b1 w2 hb3 H4 K5 hs6 => ?_)
 have nb1 : w.heap.size ≤ b1 := by have := K0.size; omega
 replace K0 := K0.t0 K5
 clear K5 hs6
 refine od ?_
 refine rsg Open.wide ?_
 refine ocQ 16 (New_calls _) ?_
 rintro _ w10 ⟨b7, mb8, kb9, rfl, K11, H12, Hm13, Hk14, hb15, hb16, hb17, hb18, hb19, hb20⟩
 have lb7b1 : b1 < b7 := by have := H4.lt; omega
 have lmb8b1 : b1 < mb8 := by have := H4.lt; omega
 have lkb9b1 : b1 < kb9 := by have := H4.lt; omega
 have nb7 : w.heap.size ≤ b7 := by have := K0.size; omega
 have nmb8 : w.heap.size ≤ mb8 := by have := K0.size; omega
 have nkb9 : w.heap.size ≤ kb9 := by have := K0.size; omega
 refine ⟨_, _, rfl, rfl, ?_⟩
 replace K0 := K0.t0 K11
 replace H4 := H4.kn K11
 refine og 1 [(0, .slice LA l.length lc), (2, .slice none 0 0), (3, .bool false), (4, i64 0), (5, ptr b1), (17, (agg [(Value.slice none 0 0), (Value.int IntKind.u64 0), (i64 0), (ptr b7)]))] 2 ?_
 refine onew (rowL [(Value.slice none 0 0), (Value.int IntKind.u64 0), (i64 0), (Value.pointer none)] 73) (fun b => (ptr b)) 6 (fun b => rfl) (fun b21 w22 hb23 H24 K25 hs26 => ?_)
 have lb21b1 : b1 < b21 := by have := H4.lt; omega
 have lb21b7 : b7 < b21 := by have := H12.lt; omega
 have lb21mb8 : mb8 < b21 := by have := Hm13.lt; omega
 have lb21kb9 : kb9 < b21 := by have := Hk14.lt; omega
 have nb21 : w.heap.size ≤ b21 := by have := K0.size; omega
 replace K0 := K0.t0 K25
 replace H4 := H4.kn K25
 replace H12 := H12.kn K25
 replace Hm13 := Hm13.kn K25
 replace Hk14 := Hk14.kn K25
 clear K25 hs26
 refine oput 73 b21 [(Value.slice none 0 0), (Value.int IntKind.u64 0), (i64 0), (ptr b7)] H24 rfl (fun w27 H28 K29 => ?_)
 replace K0 := K0.t1 K29 fun _ => by omega
 replace H4 := H4.k1 K29 (by omega)
 replace H12 := H12.k1 K29 (by omega)
 replace Hm13 := Hm13.k1 K29 (by omega)
 replace Hk14 := Hk14.k1 K29 (by omega)
 refine od ?_
 refine rsg Open.wide ?_
 refine odz 1 ?_
 refine rsQ ?_
 refine rsg Open.wide ?_
 refine ogd 3 [(2, .slice none 0 0), (3, .bool false), (4, i64 0), (5, ptr b1), (6, ptr b21), (7, i64 0), (18, .slice LA l.length lc), (19, i64 ↑l.length), (20, i64 0)] ?_
 refine qr_block (id := 0) (by kernel_rfl) ?_
 refine qr_keep (R := [(2, .slice none 0 0), (3, .bool false), (4, i64 0), (5, ptr b1), (6, ptr b21), (7, i64 0), (18, .slice LA l.length lc), (19, i64 ↑l.length), (20, i64 0)]) (by kernel_rfl) ?_
 refine qr_loop (fun (gs : Nat × (Option Addr) × Nat × (List HC) × (Option Addr) × Nat × (List Nat) × Nat × Int) (ds : List Deferred) L (wx : World) => match gs with | (ii, A1, c1, LX, A2, c2, nu, n, why) => ds = [] ∧ L = [(2, (Value.slice none 0 0)), (3, (Value.bool false)), (4, (i64 0)), (5, (ptr b1)), (6, (ptr b21)), (7, (i64 why)), (18, (Value.slice LA l.length lc)), (19, (i64 ((l.length : Nat) : Int))), (20, (i64 ((ii : Nat) : Int)))] ∧ OwnT wx w.heap.size 43 13 HC.cells ((Value.slice A1 LX.length c1)) LX ∧ (∀ i, Ow (.slice A1 LX.length c1) i → i ≠ b1) ∧ (∀ i, Ow (.slice A1 LX.length c1) i → i ≠ b7) ∧ (∀ i, Ow (.slice A1 LX.length c1) i → i ≠ mb8) ∧ (∀ i, Ow (.slice A1 LX.length c1) i → i ≠ kb9) ∧ (∀ i, Ow (.slice A1 LX.length c1) i → i ≠ b21) ∧ (∀ i, Ow (.slice A2 nu.length c2) i → Ow (.slice A1 LX.length c1) i → False) ∧ OwnT wx w.heap.size 3 1 iN ((Value.slice A2 nu.length c2)) nu ∧ (∀ i, Ow (.slice A2 nu.length c2) i → i ≠ b1) ∧ (∀ i, Ow (.slice A2 nu.length c2) i → i ≠ b7) ∧ (∀ i, Ow (.slice A2 nu.length c2) i → i ≠ mb8) ∧ (∀ i, Ow (.slice A2 nu.length c2) i → i ≠ kb9) ∧ (∀ i, Ow (.slice A2 nu.length c2) i → i ≠ b21) ∧ (∀ i, Ow (.slice A1 LX.length c1) i → Ow (.slice A2 nu.length c2) i → False) ∧ XS LX nu = lookedH ((l.map HC.c).take ii) ∧ nu.length = LX.length ∧ (∀ z ∈ LX, z ∈ l) ∧ n = (XS LX nu).countP (fun c => c.1.told) ∧ (why = if (XS LX nu).any (fun c => badH c.1) = true then 1 else 0) ∧ ii ≤ l.length ∧ LX.length ≤ ii ∧ Keeps none_ w wx ∧ Has wx b1 (rowL [(Value.slice A1 LX.length c1), (Value.slice A2 nu.length c2)] 68) ∧ Has wx b7 (rowL [(Value.map (some mb8)), (Value.map (some kb9))] 110) ∧ HasMap wx mb8 kstr ki64 [] ∧ HasMap wx kb9 kpair keptv (([] : List KeptM).map KeptM.kv) ∧ Has wx b21 (rowL [(Value.slice none 0 0), (Value.int IntKind.u64 0), (i64 ((n : Nat) : Int)), (ptr b7)] 73)) (fun (gs : Nat × (Option Addr) × Nat × (List HC) × (Option Addr) × Nat × (List Nat) × Nat × Int) => match gs with | (ii, A1, c1, LX, A2, c2, nu, n, why) => l.length - ii) (0, none, 0, [], none, 0, [], 0, 0) (by kernel_rfl) ⟨rfl, rfl, (OwnT.nil _ _ _ _ _), (fun i hi => by cases hi), (fun i hi => by cases hi), (fun i hi => by cases hi), (fun i hi => by cases hi), (fun i hi => by cases hi), (fun _ _ h => by cases h), (OwnT.nil _ _ _ _ _), (fun i hi => by cases hi), (fun i hi => by cases hi), (fun i hi => by cases hi), (fun i hi => by cases hi), (fun i hi => by cases hi), (fun _ _ h => by cases h), rfl, rfl, (fun z hz => by cases hz), rfl, rfl, Nat.zero_le _, Nat.zero_le _, K0, H4, H12, Hm13, Hk14, H28⟩ ?_
 clear H4 H12 Hm13 Hk14 H28 K0
 rintro ⟨ii, A1, c1, LX, A2, c2, nu, n, why⟩ _ _ w30 ⟨rfl, rfl, hOP, obPb1, obPb7, obPmb8, obPkb9, obPb21, ooPQ, hOQ, obQb1, obQb7, obQmb8, obQkb9, obQb21, ooQP, hX, hnl, hsub, hn, hw, hi, hLl, K31, H32, H33, H34, H35, H36⟩
 have hnle : n ≤ LX.length := by rw [hn]; exact Nat.le_trans List.countP_le_length (by rw [xs_len hnl]; exact Nat.le_refl _)
 refine rsg Open.wide ?_
 refine ogd 1 [(2, .slice none 0 0), (3, .bool false), (4, i64 0), (5, ptr b1), (6, ptr b21), (7, i64 why), (18, .slice LA l.length lc), (19, i64 ↑l.length), (20, i64 ↑ii), (21, (Value.bool (decide (((ii : Nat) : Int) < ((l.length : Nat) : Int)))))] ?_
 refine rsQ ?_
 refine rcQ 21 (decide (((ii : Nat) : Int) < ((l.length : Nat) : Int))) rfl (fun h37 => ?_) (fun h37 => ?_)
 ·rw [h37]
  have p38 := of_decide_eq_true h37
  refine rkQ ?_
  refine rsQ ?_
  refine qr_block (id := 1) (by kernel_rfl) ?_
  refine rsg Open.wide ?_
  refine og 1 [(2, .slice none 0 0), (3, .bool false), (4, i64 0), (5, ptr b1), (6, ptr b21), (7, i64 why), (18, .slice LA l.length lc), (19, i64 ↑l.length), (20, i64 ↑ii), (22, i64 ↑ii)] 1 ?_
  obtain ⟨x, hx⟩ : ∃ x, l[ii]? = some x := ⟨_, List.getElem?_eq_getElem (by omega)⟩
  obtain ⟨rb39, ro40, hA41⟩ := Rd.addr (Rd.keep0 (by decide) hL K31) (by omega)
  refine Ops.go (by kernel_rfl) (Runs.ixSliceE (k := IntKind.i64) (t := 33) (len := l.length) (cap := lc) (s := 13) (off' := ro40 + ii * 13) (i := ((ii : Nat) : Int)) hA41 (by kernel_rfl) (by kernel_rfl) (by omega) (by omega) (by omega)) (d := (some 23)) (by kernel_rfl) rfl ?_
  refine ogo (agg (HC.cells x)) 24 (Runs.load (t := 43) (a := ⟨rb39, ro40 + ii * 13, none⟩) (by kernel_rfl) (RdT.ld (f := HC.cells) (x := x) HC.two (Rd.keep0 (by decide) hL K31) (by kernel_rfl) (by kernel_rfl) hA41 hx)) rfl ?_
  refine onew (rowL [(i64 0), (Value.string ByteArray.empty), (Value.string ByteArray.empty), (i64 0), (Value.string ByteArray.empty), (i64 0), (i64 0), (i64 0), (i64 0), (Value.bool false), (i64 0), (i64 0), (Value.slice none 0 0)] 43) (fun b => (ptr b)) 9 (fun b => rfl) (fun b42 w43 hb44 H45 K46 hs47 => ?_)
  have lb42b1 : b1 < b42 := by have := H32.lt; omega
  have lb42b7 : b7 < b42 := by have := H33.lt; omega
  have lb42mb8 : mb8 < b42 := by have := H34.lt; omega
  have lb42kb9 : kb9 < b42 := by have := H35.lt; omega
  have lb42b21 : b21 < b42 := by have := H36.lt; omega
  have nb42 : w.heap.size ≤ b42 := by have := K31.size; omega
  have ob48 : ∀ i, Ow (.slice A1 LX.length c1) i → i < b42 := fun i hi => by have := (World.ownsRow.lt hOP i hi).2; omega
  have ob49 : ∀ i, Ow (.slice A2 nu.length c2) i → i < b42 := fun i hi => by have := (World.ownsRow.lt hOQ i hi).2; omega
  replace K31 := K31.tn K46
  replace H32 := H32.kn K46
  replace H33 := H33.kn K46
  replace H34 := H34.kn K46
  replace H35 := H35.kn K46
  replace H36 := H36.kn K46
  replace hOP := own_keep0 hOP K46
  replace hOQ := own_keep0 hOQ K46
  clear K46 hs47
  refine og 1 [(2, .slice none 0 0), (3, .bool false), (4, i64 0), (5, ptr b1), (6, ptr b21), (7, i64 why), (8, i64 ↑ii), (9, ptr b42), (18, .slice LA l.length lc), (19, i64 ↑l.length), (20, i64 ↑ii), (24, (agg (HC.cells x)))] 5 ?_
  refine oput 43 b42 (HC.cells x) H45 rfl (fun w50 H51 K52 => ?_)
  replace K31 := K31.t1 K52 fun _ => by omega
  replace H32 := H32.k1 K52 (by omega)
  replace H33 := H33.k1 K52 (by omega)
  replace H34 := H34.k1 K52 (by omega)
  replace H35 := H35.k1 K52 (by omega)
  replace H36 := H36.k1 K52 (by omega)
  replace hOP := own_keep hOP K52 (fun i hi => by have := ob48 i hi; omega)
  replace hOQ := own_keep hOQ K52 (fun i hi => by have := ob49 i hi; omega)
  refine od ?_
  refine rsQ ?_
  refine rsg Open.wide ?_
  refine ogo (agg (HC.cells x)) 25 (rld 43 b42 0 H51) rfl ?_
  refine ocQ 26 (countsP_calls _ x) ?_
  rintro _ w53 ⟨rfl, K54⟩
  refine ⟨_, _, rfl, rfl, ?_⟩
  replace K31 := K31.tn K54
  replace H32 := H32.kn K54
  replace H33 := H33.kn K54
  replace H34 := H34.kn K54
  replace H35 := H35.kn K54
  replace H36 := H36.kn K54
  replace H51 := H51.kn K54
  replace hOP := own_keep0 hOP K54
  replace hOQ := own_keep0 hOQ K54
  refine ogd 1 [(2, .slice none 0 0), (3, .bool false), (4, i64 0), (5, ptr b1), (6, ptr b21), (7, i64 why), (8, i64 ↑ii), (9, ptr b42), (18, .slice LA l.length lc), (19, i64 ↑l.length), (20, i64 ↑ii), (27, (Value.bool (!(countsH x.c))))] ?_
  refine rcQ 27 (!(countsH x.c)) rfl (fun h55 => ?_) (fun h55 => ?_)
  ·rw [h55]
   have p56 := bnot_true h55
   have hstep := looked_step (m := l.map HC.c) (i := ii) (c := x.c) (by rw [List.getElem?_map, hx]; rfl)
   have hcx : countsH x.c = false := (bnot_true h55)
   rw [hcx, if_neg (by decide), List.append_nil] at hstep
   refine qr_exit (id := 1) (by kernel_rfl) ?_
   refine rgQ Open.wide ?_
   refine oid 2 (fun z => [(2, .slice none 0 0), (3, .bool false), (4, i64 0), (5, ptr b1), (6, ptr b21), (7, i64 why), (18, .slice LA l.length lc), (19, i64 ↑l.length), (20, i64 z)]) ii ?_
   exact ⟨(ii + 1, A1, c1, LX, A2, c2, nu, n, why), ⟨rfl, rfl, hOP, obPb1, obPb7, obPmb8, obPkb9, obPb21, ooPQ, hOQ, obQb1, obQb7, obQmb8, obQkb9, obQb21, ooQP, (by rw [hstep]; exact hX), hnl, hsub, hn, hw, (by omega), (by omega), K31, H32, H33, H34, H35, H36⟩, (show l.length - (ii + 1) < l.length - ii from by omega)⟩
  ·rw [h55]
   have p58 := bnot_false h55
   have hstep := looked_step (m := l.map HC.c) (i := ii) (c := x.c) (by rw [List.getElem?_map, hx]; rfl)
   have hcx : countsH x.c = true := (bnot_false h55)
   rw [hcx, if_pos rfl] at hstep
   refine rkQ ?_
   refine rsQ ?_
   refine qr_drawS Open.wide 14 (by kernel_rfl) (by kernel_rfl) (by kernel_rfl) (by kernel_rfl) (fun w59 K60 _ _ => ?_)
   replace K31 := K31.tn K60
   replace H32 := H32.kn K60
   replace H33 := H33.kn K60
   replace H34 := H34.kn K60
   replace H35 := H35.kn K60
   replace H36 := H36.kn K60
   replace H51 := H51.kn K60
   replace hOP := own_keep0 hOP K60
   replace hOQ := own_keep0 hOQ K60
   have Kb61 : Keeps (fun i => i = b1 ∨ Ow (.slice A1 LX.length c1) i ∨ Ow (.slice A2 nu.length c2) i) w59 w59 := (Keeps.refl w59).mono (fun _ _ h => h.elim)
   refine ⟨fun wz => Keeps (fun i => i = b1 ∨ Ow (.slice A1 LX.length c1) i ∨ Ow (.slice A2 nu.length c2) i) w59 wz, [(11, fun wz => Loads Tryd.prog wz 33 ⟨b1, 0, none⟩ (Value.slice A1 LX.length c1)), (13, fun wz => Loads Tryd.prog wz 35 ⟨b1, 1, none⟩ (Value.slice A2 nu.length c2))], (SH.cons (SH.cons (SH.nil Kb61) (.inr (H32.loads (by kernel_rfl)))) (.inr (H32.loads (by kernel_rfl)))), ?_⟩
   refine skQ 13 [0] [(2, .slice none 0 0), (3, .bool false), (4, i64 0), (5, ptr b1), (6, ptr b21), (7, i64 why), (8, i64 ↑ii), (9, ptr b42), (18, .slice LA l.length lc), (19, i64 ↑l.length), (20, i64 ↑ii), (28, ptr b1)] ?_
   refine DrS.takeH (s := 11) (.head _) (i := 1) (v := (Value.slice A1 LX.length c1)) (by kernel_rfl) (by kernel_rfl) (by kernel_rfl) (fun wz hB hp => Runs.load (t := 33) (a := ⟨b1, 0, none⟩) (by kernel_rfl) hp) (d := (some 29)) (by kernel_rfl) rfl ?_
   refine stQ 2 (agg (HC.cells x)) 30 (fun wz hS => rld 43 b42 0 (H51.keep hS (by intro h; change b42 = b1 ∨ Ow (.slice A1 LX.length c1) b42 ∨ Ow (.slice A2 nu.length c2) b42 at h; rcases h with h | h | h; (omega); (have := ob48 b42 h; omega); (have := ob49 b42 h; omega)))) rfl ?_
   refine skQ 10 [5] [(2, .slice none 0 0), (3, .bool false), (4, i64 0), (5, ptr b1), (6, ptr b21), (7, i64 why), (8, i64 ↑ii), (9, ptr b42), (18, .slice LA l.length lc), (19, i64 ↑l.length), (20, i64 ↑ii), (29, .slice A1 LX.length c1), (30, (agg (HC.cells x))), (33, .pointer (some ⟨b1, 1, none⟩))] ?_
   refine DrS.takeH (s := 13) (.tail _ (.head _)) (i := 6) (v := (Value.slice A2 nu.length c2)) (by kernel_rfl) (by kernel_rfl) (by kernel_rfl) (fun wz hB hp => Runs.load (t := 35) (a := ⟨b1, 1, none⟩) (by kernel_rfl) hp) (d := (some 34)) (by kernel_rfl) rfl ?_
   refine skQ 8 [7] [(2, .slice none 0 0), (3, .bool false), (4, i64 0), (5, ptr b1), (6, ptr b21), (7, i64 why), (9, ptr b42), (18, .slice LA l.length lc), (19, i64 ↑l.length), (20, i64 ↑ii), (29, .slice A1 LX.length c1), (30, (agg (HC.cells x))), (34, .slice A2 nu.length c2), (35, i64 ↑ii)] ?_
   refine DrS.two (i := 3) (j := 8) (by kernel_rfl) ?_ ?_
   ·skip
    refine Dr1.new (o := rowL (HC.cells x) 43) (V := fun b => (Value.slice (some ⟨b, 0, none⟩) 1 1)) (by kernel_rfl) (d := (some 31)) (by kernel_rfl) (fun b => rfl) (fun b62 w63 hb64 H65 K66 hs67 => ?_)
    have lb62b1 : b1 < b62 := by have := H32.lt; omega
    have lb62b7 : b7 < b62 := by have := H33.lt; omega
    have lb62mb8 : mb8 < b62 := by have := H34.lt; omega
    have lb62kb9 : kb9 < b62 := by have := H35.lt; omega
    have lb62b21 : b21 < b62 := by have := H36.lt; omega
    have lb62b42 : b42 < b62 := by have := H51.lt; omega
    have nb62 : w.heap.size ≤ b62 := by have := K31.size; omega
    have ob68 : ∀ i, Ow (.slice A1 LX.length c1) i → i < b62 := fun i hi => by have := (World.ownsRow.lt hOP i hi).2; omega
    have xb62 : w59.heap.size ≤ b62 := by have := Kb61.size; omega
    replace K31 := K31.tn K66
    replace H32 := H32.kn K66
    replace H33 := H33.kn K66
    replace H34 := H34.kn K66
    replace H35 := H35.kn K66
    replace H36 := H36.kn K66
    replace H51 := H51.kn K66
    replace hOP := own_keep0 hOP K66
    replace hOQ := own_keep0 hOQ K66
    have Kb70 := Kb61.tn K66
    refine ⟨(SH.cons (SH.cons (SH.nil Kb70) (.inr (H32.loads (by kernel_rfl)))) (.inr (H32.loads (by kernel_rfl)))), ?_⟩
    clear K66 hs67
    refine DrS.two (i := 4) (j := 8) (by kernel_rfl) ?_ ?_
    ·skip
     obtain ⟨v71, w72, hr73, hO74, hK75, hg76⟩ := OwnT.app (ty := 33) HC.two HC.one tyH hOP (show RdT _ 13 HC.cells _ [x] from Rd.lit H65 (n := 1) rfl (by decide)) (by simp only [List.length_cons, List.length_nil]; omega) (by simp only [List.length_cons, List.length_nil]; omega) K31.size
     obtain ⟨A78, c79, rfl⟩ := RdT.form HC.two (by decide) (OwnT.rd hO74)
     have ob80 : ∀ i, Ow (.slice A78 ((LX ++ [x]).length) c79) i → i ≠ b1 := fun i hi => by rcases hg76 i hi with h | h; (have := obPb1 i h; omega); (have := H32.lt; omega)
     have ob81 : ∀ i, Ow (.slice A78 ((LX ++ [x]).length) c79) i → i ≠ b7 := fun i hi => by rcases hg76 i hi with h | h; (have := obPb7 i h; omega); (have := H33.lt; omega)
     have ob82 : ∀ i, Ow (.slice A78 ((LX ++ [x]).length) c79) i → i ≠ mb8 := fun i hi => by rcases hg76 i hi with h | h; (have := obPmb8 i h; omega); (have := H34.lt; omega)
     have ob83 : ∀ i, Ow (.slice A78 ((LX ++ [x]).length) c79) i → i ≠ kb9 := fun i hi => by rcases hg76 i hi with h | h; (have := obPkb9 i h; omega); (have := H35.lt; omega)
     have ob84 : ∀ i, Ow (.slice A78 ((LX ++ [x]).length) c79) i → i ≠ b21 := fun i hi => by rcases hg76 i hi with h | h; (have := obPb21 i h; omega); (have := H36.lt; omega)
     have oo87 : ∀ i, Ow (.slice A2 nu.length c2) i → Ow (.slice A78 ((LX ++ [x]).length) c79) i → False := fun i hi hs => by rcases hg76 i hs with h | h; (exact ooPQ i hi h); (have := (World.ownsRow.lt hOQ i hi).2; omega)
     have oo88 : ∀ i, Ow (.slice A78 ((LX ++ [x]).length) c79) i → Ow (.slice A2 nu.length c2) i → False := fun i hi hs => oo87 i hs hi
     have K77 := hK75
     replace K31 := K31.trans K77 (U := none_) (fun i h1 h2 => h2) (fun i h1 h2 => by have h2 : Ow (.slice A1 LX.length c1) i := h2; exfalso; have := (World.ownsRow.lt hOP i h2).1; omega)
     replace H32 := H32.keep K77 (by intro h; change Ow (.slice A1 LX.length c1) b1 at h; have := obPb1 b1 h; omega)
     replace H33 := H33.keep K77 (by intro h; change Ow (.slice A1 LX.length c1) b7 at h; have := obPb7 b7 h; omega)
     replace H34 := H34.keep K77 (by intro h; change Ow (.slice A1 LX.length c1) mb8 at h; have := obPmb8 mb8 h; omega)
     replace H35 := H35.keep K77 (by intro h; change Ow (.slice A1 LX.length c1) kb9 at h; have := obPkb9 kb9 h; omega)
     replace H36 := H36.keep K77 (by intro h; change Ow (.slice A1 LX.length c1) b21 at h; have := obPb21 b21 h; omega)
     replace H51 := H51.keep K77 (by intro h; change Ow (.slice A1 LX.length c1) b42 at h; have := ob48 b42 h; omega)
     replace H65 := H65.keep K77 (by intro h; change Ow (.slice A1 LX.length c1) b62 at h; have := ob68 b62 h; omega)
     clear hOP
     replace hOQ := own_keep hOQ K77 (fun i hi hs => by have hs : Ow (.slice A1 LX.length c1) i := hs; exact ooPQ i hi hs)
     have Kb89 := Kb70.trans K77 (U := (fun i => i = b1 ∨ Ow (.slice A1 LX.length c1) i ∨ Ow (.slice A2 nu.length c2) i)) (fun _ _ h => h) (fun i h1 h2 => by have h2 : Ow (.slice A1 LX.length c1) i := h2; exact .inr (.inl h2))
     refine Dr1.go (v := (Value.slice A78 ((LX ++ [x]).length) c79)) (by kernel_rfl) (Runs.append (ts := #[33, 33]) (ty := 33) (vs := [(Value.slice A1 LX.length c1), (Value.slice (some ⟨b62, 0, none⟩) 1 1)]) (by kernel_rfl) hr73) (d := (some 32)) (by kernel_rfl) rfl (SH.cons (SH.cons (SH.nil Kb89) (.inr (H32.loads (by kernel_rfl)))) (.inr (H32.loads (by kernel_rfl)))) ?_
     clear K77 hr73 hK75 hg76
     refine skQ 5 [10] [(2, .slice none 0 0), (3, .bool false), (4, i64 0), (5, ptr b1), (6, ptr b21), (7, i64 why), (9, ptr b42), (18, .slice LA l.length lc), (19, i64 ↑l.length), (20, i64 ↑ii), (32, (Value.slice A78 ((LX ++ [x]).length) c79)), (34, .slice A2 nu.length c2), (35, i64 ↑ii), (38, ptr b1)] ?_
     refine soQ 8 ?_
     refine Dr1.new (o := rowL [(i64 ((ii : Nat) : Int))] 3) (V := fun b => (Value.slice (some ⟨b, 0, none⟩) 1 1)) (by kernel_rfl) (d := (some 36)) (by kernel_rfl) (fun b => rfl) (fun b90 w91 hb92 H93 K94 hs95 => ?_)
     have lb90b1 : b1 < b90 := by have := H32.lt; omega
     have lb90b7 : b7 < b90 := by have := H33.lt; omega
     have lb90mb8 : mb8 < b90 := by have := H34.lt; omega
     have lb90kb9 : kb9 < b90 := by have := H35.lt; omega
     have lb90b21 : b21 < b90 := by have := H36.lt; omega
     have lb90b42 : b42 < b90 := by have := H51.lt; omega
     have lb90b62 : b62 < b90 := by have := H65.lt; omega
     have nb90 : w.heap.size ≤ b90 := by have := K31.size; omega
     have xb90 : w59.heap.size ≤ b90 := by have := Kb89.size; omega
     replace K31 := K31.tn K94
     replace H32 := H32.kn K94
     replace H33 := H33.kn K94
     replace H34 := H34.kn K94
     replace H35 := H35.kn K94
     replace H36 := H36.kn K94
     replace H51 := H51.kn K94
     replace hOQ := own_keep0 hOQ K94
     replace hO74 := own_keep0 hO74 K94
     have Kb98 := Kb89.tn K94
     refine ⟨(SH.cons (SH.cons (SH.nil Kb98) (.inr (H32.loads (by kernel_rfl)))) (.inr (H32.loads (by kernel_rfl)))), ?_⟩
     clear K94 hs95
     refine soQ 9 ?_
     obtain ⟨v99, w100, hr101, hO102, hK103, hg104⟩ := OwnT.app (ty := 35) iN_one iN_cells tyI hOQ (show RdT _ 1 iN _ [ii] from Rd.lit H93 (n := 1) rfl (by decide)) (by simp only [List.length_cons, List.length_nil]; omega) (by simp only [List.length_cons, List.length_nil]; omega) K31.size
     obtain ⟨A106, c107, rfl⟩ := RdT.form iN_one (by decide) (OwnT.rd hO102)
     have ob108 : ∀ i, Ow (.slice A106 ((nu ++ [ii]).length) c107) i → i ≠ b1 := fun i hi => by rcases hg104 i hi with h | h; (have := obQb1 i h; omega); (have := H32.lt; omega)
     have ob109 : ∀ i, Ow (.slice A106 ((nu ++ [ii]).length) c107) i → i ≠ b7 := fun i hi => by rcases hg104 i hi with h | h; (have := obQb7 i h; omega); (have := H33.lt; omega)
     have ob110 : ∀ i, Ow (.slice A106 ((nu ++ [ii]).length) c107) i → i ≠ mb8 := fun i hi => by rcases hg104 i hi with h | h; (have := obQmb8 i h; omega); (have := H34.lt; omega)
     have ob111 : ∀ i, Ow (.slice A106 ((nu ++ [ii]).length) c107) i → i ≠ kb9 := fun i hi => by rcases hg104 i hi with h | h; (have := obQkb9 i h; omega); (have := H35.lt; omega)
     have ob112 : ∀ i, Ow (.slice A106 ((nu ++ [ii]).length) c107) i → i ≠ b21 := fun i hi => by rcases hg104 i hi with h | h; (have := obQb21 i h; omega); (have := H36.lt; omega)
     have oo116 : ∀ i, Ow (.slice A78 ((LX ++ [x]).length) c79) i → Ow (.slice A106 ((nu ++ [ii]).length) c107) i → False := fun i hi hs => by rcases hg104 i hs with h | h; (exact oo88 i hi h); (have := (World.ownsRow.lt hO74 i hi).2; omega)
     have oo117 : ∀ i, Ow (.slice A106 ((nu ++ [ii]).length) c107) i → Ow (.slice A78 ((LX ++ [x]).length) c79) i → False := fun i hi hs => oo116 i hs hi
     have K105 := hK103
     replace K31 := K31.trans K105 (U := none_) (fun i h1 h2 => h2) (fun i h1 h2 => by have h2 : Ow (.slice A2 nu.length c2) i := h2; exfalso; have := (World.ownsRow.lt hOQ i h2).1; omega)
     replace H32 := H32.keep K105 (by intro h; change Ow (.slice A2 nu.length c2) b1 at h; have := obQb1 b1 h; omega)
     replace H33 := H33.keep K105 (by intro h; change Ow (.slice A2 nu.length c2) b7 at h; have := obQb7 b7 h; omega)
     replace H34 := H34.keep K105 (by intro h; change Ow (.slice A2 nu.length c2) mb8 at h; have := obQmb8 mb8 h; omega)
     replace H35 := H35.keep K105 (by intro h; change Ow (.slice A2 nu.length c2) kb9 at h; have := obQkb9 kb9 h; omega)
     replace H36 := H36.keep K105 (by intro h; change Ow (.slice A2 nu.length c2) b21 at h; have := obQb21 b21 h; omega)
     replace H51 := H51.keep K105 (by intro h; change Ow (.slice A2 nu.length c2) b42 at h; have := ob49 b42 h; omega)
     clear hOQ
     replace hO74 := own_keep hO74 K105 (fun i hi hs => by have hs : Ow (.slice A2 nu.length c2) i := hs; exact oo88 i hi hs)
     have Kb118 := Kb98.trans K105 (U := (fun i => i = b1 ∨ Ow (.slice A1 LX.length c1) i ∨ Ow (.slice A2 nu.length c2) i)) (fun _ _ h => h) (fun i h1 h2 => by have h2 : Ow (.slice A2 nu.length c2) i := h2; exact .inr (.inr (h2)))
     refine Dr1.go (v := (Value.slice A106 ((nu ++ [ii]).length) c107)) (by kernel_rfl) (Runs.append (ts := #[35, 35]) (ty := 35) (vs := [(Value.slice A2 nu.length c2), (Value.slice (some ⟨b90, 0, none⟩) 1 1)]) (by kernel_rfl) hr101) (d := (some 37)) (by kernel_rfl) rfl (SH.cons (SH.cons (SH.nil Kb118) (.inr (H32.loads (by kernel_rfl)))) (.inr (H32.loads (by kernel_rfl)))) ?_
     clear K105 hr101 hK103 hg104
     refine soQ 11 ?_
     refine Dr1.put (t := 33) (b := b1) (off := 0) (v := (Value.slice A78 ((LX ++ [x]).length) c79)) (ys := [(Value.slice A78 ((LX ++ [x]).length) c79), (Value.slice A2 nu.length c2)]) (by kernel_rfl) (by kernel_rfl) H32 (by kernel_rfl) (d := none) (by kernel_rfl) rfl (fun w119 H120 K121 => ?_)
     replace K31 := K31.t1 K121 fun _ => by omega
     replace H33 := H33.k1 K121 (by omega)
     replace H34 := H34.k1 K121 (by omega)
     replace H35 := H35.k1 K121 (by omega)
     replace H36 := H36.k1 K121 (by omega)
     replace H51 := H51.k1 K121 (by omega)
     replace hO74 := own_keep hO74 K121 (fun i hi => by have := ob80 i hi; omega)
     replace hO102 := own_keep hO102 K121 (fun i hi => by have := ob108 i hi; omega)
     have Kb122 := Kb118.t1 K121 fun _ => .inl rfl
     refine ⟨(SH.cons (SH.cons (SH.nil Kb122) (.inr (H120.loads (by kernel_rfl)))) (.inl (by kernel_rfl))), ?_⟩
     refine skQ 1 [12] [(2, .slice none 0 0), (3, .bool false), (4, i64 0), (5, ptr b1), (6, ptr b21), (7, i64 why), (9, ptr b42), (18, .slice LA l.length lc), (19, i64 ↑l.length), (20, i64 ↑ii), (37, (Value.slice A106 ((nu ++ [ii]).length) c107)), (39, .pointer (some ⟨b1, 1, none⟩))] ?_
     refine soQ 13 ?_
     refine Dr1.put (t := 35) (b := b1) (off := 1) (v := (Value.slice A106 ((nu ++ [ii]).length) c107)) (ys := [(Value.slice A78 ((LX ++ [x]).length) c79), (Value.slice A106 ((nu ++ [ii]).length) c107)]) (by kernel_rfl) (by kernel_rfl) H120 (by kernel_rfl) (d := none) (by kernel_rfl) rfl (fun w123 H124 K125 => ?_)
     replace K31 := K31.t1 K125 fun _ => by omega
     replace H33 := H33.k1 K125 (by omega)
     replace H34 := H34.k1 K125 (by omega)
     replace H35 := H35.k1 K125 (by omega)
     replace H36 := H36.k1 K125 (by omega)
     replace H51 := H51.k1 K125 (by omega)
     replace hO74 := own_keep hO74 K125 (fun i hi => by have := ob80 i hi; omega)
     replace hO102 := own_keep hO102 K125 (fun i hi => by have := ob108 i hi; omega)
     have Kb126 := Kb122.t1 K125 fun _ => .inl rfl
     refine ⟨(SH.cons (SH.cons (SH.nil Kb126) (.inl (by kernel_rfl))) (.inl (by kernel_rfl))), ?_⟩
     refine DrS.done (by kernel_rfl) ?_
     refine rsg Open.wide ?_
     refine og 1 [(2, .slice none 0 0), (3, .bool false), (4, i64 0), (5, ptr b1), (6, ptr b21), (7, i64 why), (9, ptr b42), (18, .slice LA l.length lc), (19, i64 ↑l.length), (20, i64 ↑ii), (40, .pointer (some ⟨b42, 9, none⟩))] 1 ?_
     refine ogo (Value.bool x.c.told) 41 (rld 4 b42 9 H51) rfl ?_
     refine od ?_
     refine rcQ 41 x.c.told rfl (fun h127 => ?_) (fun h127 => ?_)
     ·rw [h127]
      have p128 : x.c.told = true := h127
      refine rsg Open.wide ?_
      refine og 1 [(2, .slice none 0 0), (3, .bool false), (4, i64 0), (5, ptr b1), (6, ptr b21), (7, i64 why), (9, ptr b42), (18, .slice LA l.length lc), (19, i64 ↑l.length), (20, i64 ↑ii), (42, .pointer (some ⟨b21, 2, none⟩))] 1 ?_
      refine ogo (i64 ((n : Nat) : Int)) 43 (rld 3 b21 2 H36) rfl ?_
      refine og 1 [(2, .slice none 0 0), (3, .bool false), (4, i64 0), (5, ptr b1), (6, ptr b21), (7, i64 why), (9, ptr b42), (18, .slice LA l.length lc), (19, i64 ↑l.length), (20, i64 ↑ii), (44, (i64 (IntKind.i64.wrap (((n : Nat) : Int) + 1))))] 3 ?_
      rw [show IntKind.i64.wrap (((n : Nat) : Int) + 1) = ((n + 1 : Nat) : Int) from by rw [wrap_i64 (by omega) (by omega)]; omega]
      refine og 1 [(2, .slice none 0 0), (3, .bool false), (4, i64 0), (5, ptr b1), (6, ptr b21), (7, i64 why), (9, ptr b42), (18, .slice LA l.length lc), (19, i64 ↑l.length), (20, i64 ↑ii), (44, i64 ↑(n + 1)), (45, .pointer (some ⟨b21, 2, none⟩))] 4 ?_
      refine Ops.put (t := 3) (b := b21) (off := 2) (v := (i64 ((n + 1 : Nat) : Int))) (ys := [(Value.slice none 0 0), (Value.int IntKind.u64 0), (i64 ((n + 1 : Nat) : Int)), (ptr b7)]) (by kernel_rfl) (by kernel_rfl) H36 (by kernel_rfl) (d := none) (by kernel_rfl) rfl (fun w130 H131 K132 => ?_)
      replace K31 := K31.t1 K132 fun _ => by omega
      replace H124 := H124.k1 K132 (by omega)
      replace H33 := H33.k1 K132 (by omega)
      replace H34 := H34.k1 K132 (by omega)
      replace H35 := H35.k1 K132 (by omega)
      replace H51 := H51.k1 K132 (by omega)
      replace hO74 := own_keep hO74 K132 (fun i hi => by have := ob84 i hi; omega)
      replace hO102 := own_keep hO102 K132 (fun i hi => by have := ob112 i hi; omega)
      refine od ?_
      refine rsg Open.wide ?_
      refine og 1 [(2, .slice none 0 0), (3, .bool false), (4, i64 0), (5, ptr b1), (6, ptr b21), (7, i64 why), (9, ptr b42), (18, .slice LA l.length lc), (19, i64 ↑l.length), (20, i64 ↑ii), (46, .pointer (some ⟨b42, 8, none⟩))] 1 ?_
      refine ogo (i64 x.c.en) 47 (rld 3 b42 8 H51) rfl ?_
      refine og 1 [(2, .slice none 0 0), (3, .bool false), (4, i64 0), (5, ptr b1), (6, ptr b21), (7, i64 why), (18, .slice LA l.length lc), (19, i64 ↑l.length), (20, i64 ↑ii), (47, i64 x.c.en), (48, .pointer (some ⟨b42, 7, none⟩))] 3 ?_
      refine ogo (i64 x.c.bg) 49 (rld 3 b42 7 H51) rfl ?_
      refine ogd 1 [(2, .slice none 0 0), (3, .bool false), (4, i64 0), (5, ptr b1), (6, ptr b21), (7, i64 why), (18, .slice LA l.length lc), (19, i64 ↑l.length), (20, i64 ↑ii), (50, (Value.bool (decide (x.c.en < x.c.bg))))] ?_
      refine rcQ 50 (decide (x.c.en < x.c.bg)) rfl (fun h133 => ?_) (fun h133 => ?_)
      ·rw [h133]
       have p134 := of_decide_eq_true h133
       have hbx : badH x.c = true := by unfold badH; rw [h127, decide_eq_true (by omega)]; rfl
       refine rgQ Open.wide ?_
       refine ogd 1 [(2, .slice none 0 0), (3, .bool false), (4, i64 0), (5, ptr b1), (6, ptr b21), (7, i64 1), (18, .slice LA l.length lc), (19, i64 ↑l.length), (20, i64 ↑ii)] ?_
       refine rgQ Open.wide ?_
       refine oid 2 (fun z => [(2, .slice none 0 0), (3, .bool false), (4, i64 0), (5, ptr b1), (6, ptr b21), (7, i64 1), (18, .slice LA l.length lc), (19, i64 ↑l.length), (20, i64 z)]) ii ?_
       exact ⟨(ii + 1, A78, c79, (LX ++ [x]), A106, c107, (nu ++ [ii]), n + 1, 1), ⟨rfl, rfl, hO74, ob80, ob81, ob82, ob83, ob84, oo117, hO102, ob108, ob109, ob110, ob111, ob112, oo116, (by rw [xs_snoc hnl, hstep, hX]), (by rw [List.length_append, List.length_append, hnl]; rfl), (fun z hz => by rcases List.mem_append.1 hz with hz | hz; exact hsub z hz; rw [List.mem_singleton.1 hz]; exact List.mem_of_getElem? hx), (by rw [xs_snoc hnl, left_snoc, if_pos h127, ← hn]), (by rw [xs_snoc hnl, any_snoc, hbx, Bool.or_true]; rfl), (by omega), (by rw [List.length_append]; have : ([x] : List HC).length = 1 := rfl; omega), K31, H124, H33, H34, H35, H131⟩, (show l.length - (ii + 1) < l.length - ii from by omega)⟩
      ·rw [h133]
       have p136 := of_decide_eq_false h133
       have hbx : badH x.c = false := by unfold badH; rw [h127, decide_eq_false (by omega)]; rfl
       refine rkQ ?_
       refine rgQ Open.wide ?_
       refine oid 2 (fun z => [(2, .slice none 0 0), (3, .bool false), (4, i64 0), (5, ptr b1), (6, ptr b21), (7, i64 why), (18, .slice LA l.length lc), (19, i64 ↑l.length), (20, i64 z)]) ii ?_
       exact ⟨(ii + 1, A78, c79, (LX ++ [x]), A106, c107, (nu ++ [ii]), n + 1, why), ⟨rfl, rfl, hO74, ob80, ob81, ob82, ob83, ob84, oo117, hO102, ob108, ob109, ob110, ob111, ob112, oo116, (by rw [xs_snoc hnl, hstep, hX]), (by rw [List.length_append, List.length_append, hnl]; rfl), (fun z hz => by rcases List.mem_append.1 hz with hz | hz; exact hsub z hz; rw [List.mem_singleton.1 hz]; exact List.mem_of_getElem? hx), (by rw [xs_snoc hnl, left_snoc, if_pos h127, ← hn]), (by rw [xs_snoc hnl, any_snoc, hbx, Bool.or_false]; exact hw), (by omega), (by rw [List.length_append]; have : ([x] : List HC).length = 1 := rfl; omega), K31, H124, H33, H34, H35, H131⟩, (show l.length - (ii + 1) < l.length - ii from by omega)⟩
     ·rw [h127]
      have p138 : x.c.told = false := h127
      have hbx : badH x.c = false := by unfold badH; rw [h127]; rfl
      refine rkQ ?_
      refine rgQ Open.wide ?_
      refine oid 2 (fun z => [(2, .slice none 0 0), (3, .bool false), (4, i64 0), (5, ptr b1), (6, ptr b21), (7, i64 why), (18, .slice LA l.length lc), (19, i64 ↑l.length), (20, i64 z)]) ii ?_
      exact ⟨(ii + 1, A78, c79, (LX ++ [x]), A106, c107, (nu ++ [ii]), n, why), ⟨rfl, rfl, hO74, ob80, ob81, ob82, ob83, ob84, oo117, hO102, ob108, ob109, ob110, ob111, ob112, oo116, (by rw [xs_snoc hnl, hstep, hX]), (by rw [List.length_append, List.length_append, hnl]; rfl), (fun z hz => by rcases List.mem_append.1 hz with hz | hz; exact hsub z hz; rw [List.mem_singleton.1 hz]; exact List.mem_of_getElem? hx), (by rw [xs_snoc hnl, left_snoc, if_neg (by rw [h127]; decide), ← hn]; exact (Nat.add_zero n).symm), (by rw [xs_snoc hnl, any_snoc, hbx, Bool.or_false]; exact hw), (by omega), (by rw [List.length_append]; have : ([x] : List HC).length = 1 := rfl; omega), K31, H124, H33, H34, H35, H36⟩, (show l.length - (ii + 1) < l.length - ii from by omega)⟩
    ·skip
     refine Dr1.new (o := rowL [(i64 ((ii : Nat) : Int))] 3) (V := fun b => (Value.slice (some ⟨b, 0, none⟩) 1 1)) (by kernel_rfl) (d := (some 36)) (by kernel_rfl) (fun b => rfl) (fun b140 w141 hb142 H143 K144 hs145 => ?_)
     have lb140b1 : b1 < b140 := by have := H32.lt; omega
     have lb140b7 : b7 < b140 := by have := H33.lt; omega
     have lb140mb8 : mb8 < b140 := by have := H34.lt; omega
     have lb140kb9 : kb9 < b140 := by have := H35.lt; omega
     have lb140b21 : b21 < b140 := by have := H36.lt; omega
     have lb140b42 : b42 < b140 := by have := H51.lt; omega
     have lb140b62 : b62 < b140 := by have := H65.lt; omega
     have nb140 : w.heap.size ≤ b140 := by have := K31.size; omega
     have ob146 : ∀ i, Ow (.slice A1 LX.length c1) i → i < b140 := fun i hi => by have := (World.ownsRow.lt hOP i hi).2; omega
     have xb140 : w59.heap.size ≤ b140 := by have := Kb70.size; omega
     replace K31 := K31.tn K144
     replace H32 := H32.kn K144
     replace H33 := H33.kn K144
     replace H34 := H34.kn K144
     replace H35 := H35.kn K144
     replace H36 := H36.kn K144
     replace H51 := H51.kn K144
     replace H65 := H65.kn K144
     replace hOP := own_keep0 hOP K144
     replace hOQ := own_keep0 hOQ K144
     have Kb148 := Kb70.tn K144
     refine ⟨(SH.cons (SH.cons (SH.nil Kb148) (.inr (H32.loads (by kernel_rfl)))) (.inr (H32.loads (by kernel_rfl)))), ?_⟩
     clear K144 hs145
     refine soQ 4 ?_
     obtain ⟨v149, w150, hr151, hO152, hK153, hg154⟩ := OwnT.app (ty := 33) HC.two HC.one tyH hOP (show RdT _ 13 HC.cells _ [x] from Rd.lit H65 (n := 1) rfl (by decide)) (by simp only [List.length_cons, List.length_nil]; omega) (by simp only [List.length_cons, List.length_nil]; omega) K31.size
     obtain ⟨A156, c157, rfl⟩ := RdT.form HC.two (by decide) (OwnT.rd hO152)
     have ob158 : ∀ i, Ow (.slice A156 ((LX ++ [x]).length) c157) i → i ≠ b1 := fun i hi => by rcases hg154 i hi with h | h; (have := obPb1 i h; omega); (have := H32.lt; omega)
     have ob159 : ∀ i, Ow (.slice A156 ((LX ++ [x]).length) c157) i → i ≠ b7 := fun i hi => by rcases hg154 i hi with h | h; (have := obPb7 i h; omega); (have := H33.lt; omega)
     have ob160 : ∀ i, Ow (.slice A156 ((LX ++ [x]).length) c157) i → i ≠ mb8 := fun i hi => by rcases hg154 i hi with h | h; (have := obPmb8 i h; omega); (have := H34.lt; omega)
     have ob161 : ∀ i, Ow (.slice A156 ((LX ++ [x]).length) c157) i → i ≠ kb9 := fun i hi => by rcases hg154 i hi with h | h; (have := obPkb9 i h; omega); (have := H35.lt; omega)
     have ob162 : ∀ i, Ow (.slice A156 ((LX ++ [x]).length) c157) i → i ≠ b21 := fun i hi => by rcases hg154 i hi with h | h; (have := obPb21 i h; omega); (have := H36.lt; omega)
     have oo166 : ∀ i, Ow (.slice A2 nu.length c2) i → Ow (.slice A156 ((LX ++ [x]).length) c157) i → False := fun i hi hs => by rcases hg154 i hs with h | h; (exact ooPQ i hi h); (have := (World.ownsRow.lt hOQ i hi).2; omega)
     have oo167 : ∀ i, Ow (.slice A156 ((LX ++ [x]).length) c157) i → Ow (.slice A2 nu.length c2) i → False := fun i hi hs => oo166 i hs hi
     have K155 := hK153
     replace K31 := K31.trans K155 (U := none_) (fun i h1 h2 => h2) (fun i h1 h2 => by have h2 : Ow (.slice A1 LX.length c1) i := h2; exfalso; have := (World.ownsRow.lt hOP i h2).1; omega)
     replace H32 := H32.keep K155 (by intro h; change Ow (.slice A1 LX.length c1) b1 at h; have := obPb1 b1 h; omega)
     replace H33 := H33.keep K155 (by intro h; change Ow (.slice A1 LX.length c1) b7 at h; have := obPb7 b7 h; omega)
     replace H34 := H34.keep K155 (by intro h; change Ow (.slice A1 LX.length c1) mb8 at h; have := obPmb8 mb8 h; omega)
     replace H35 := H35.keep K155 (by intro h; change Ow (.slice A1 LX.length c1) kb9 at h; have := obPkb9 kb9 h; omega)
     replace H36 := H36.keep K155 (by intro h; change Ow (.slice A1 LX.length c1) b21 at h; have := obPb21 b21 h; omega)
     replace H51 := H51.keep K155 (by intro h; change Ow (.slice A1 LX.length c1) b42 at h; have := ob48 b42 h; omega)
     replace H143 := H143.keep K155 (by intro h; change Ow (.slice A1 LX.length c1) b140 at h; have := ob146 b140 h; omega)
     clear hOP
     replace hOQ := own_keep hOQ K155 (fun i hi hs => by have hs : Ow (.slice A1 LX.length c1) i := hs; exact ooPQ i hi hs)
     have Kb168 := Kb148.trans K155 (U := (fun i => i = b1 ∨ Ow (.slice A1 LX.length c1) i ∨ Ow (.slice A2 nu.length c2) i)) (fun _ _ h => h) (fun i h1 h2 => by have h2 : Ow (.slice A1 LX.length c1) i := h2; exact .inr (.inl h2))
     refine Dr1.go (v := (Value.slice A156 ((LX ++ [x]).length) c157)) (by kernel_rfl) (Runs.append (ts := #[33, 33]) (ty := 33) (vs := [(Value.slice A1 LX.length c1), (Value.slice (some ⟨b62, 0, none⟩) 1 1)]) (by kernel_rfl) hr151) (d := (some 32)) (by kernel_rfl) rfl (SH.cons (SH.cons (SH.nil Kb168) (.inr (H32.loads (by kernel_rfl)))) (.inr (H32.loads (by kernel_rfl)))) ?_
     clear K155 hr151 hK153 hg154
     refine skQ 4 [10] [(2, .slice none 0 0), (3, .bool false), (4, i64 0), (5, ptr b1), (6, ptr b21), (7, i64 why), (9, ptr b42), (18, .slice LA l.length lc), (19, i64 ↑l.length), (20, i64 ↑ii), (32, (Value.slice A156 ((LX ++ [x]).length) c157)), (34, .slice A2 nu.length c2), (36, .slice (some ⟨b140, 0, none⟩) 1 1), (38, ptr b1)] ?_
     refine soQ 9 ?_
     obtain ⟨v169, w170, hr171, hO172, hK173, hg174⟩ := OwnT.app (ty := 35) iN_one iN_cells tyI hOQ (show RdT _ 1 iN _ [ii] from Rd.lit H143 (n := 1) rfl (by decide)) (by simp only [List.length_cons, List.length_nil]; omega) (by simp only [List.length_cons, List.length_nil]; omega) K31.size
     obtain ⟨A176, c177, rfl⟩ := RdT.form iN_one (by decide) (OwnT.rd hO172)
     have ob178 : ∀ i, Ow (.slice A176 ((nu ++ [ii]).length) c177) i → i ≠ b1 := fun i hi => by rcases hg174 i hi with h | h; (have := obQb1 i h; omega); (have := H32.lt; omega)
     have ob179 : ∀ i, Ow (.slice A176 ((nu ++ [ii]).length) c177) i → i ≠ b7 := fun i hi => by rcases hg174 i hi with h | h; (have := obQb7 i h; omega); (have := H33.lt; omega)
     have ob180 : ∀ i, Ow (.slice A176 ((nu ++ [ii]).length) c177) i → i ≠ mb8 := fun i hi => by rcases hg174 i hi with h | h; (have := obQmb8 i h; omega); (have := H34.lt; omega)
     have ob181 : ∀ i, Ow (.slice A176 ((nu ++ [ii]).length) c177) i → i ≠ kb9 := fun i hi => by rcases hg174 i hi with h | h; (have := obQkb9 i h; omega); (have := H35.lt; omega)
     have ob182 : ∀ i, Ow (.slice A176 ((nu ++ [ii]).length) c177) i → i ≠ b21 := fun i hi => by rcases hg174 i hi with h | h; (have := obQb21 i h; omega); (have := H36.lt; omega)
     have oo186 : ∀ i, Ow (.slice A156 ((LX ++ [x]).length) c157) i → Ow (.slice A176 ((nu ++ [ii]).length) c177) i → False := fun i hi hs => by rcases hg174 i hs with h | h; (exact oo167 i hi h); (have := (World.ownsRow.lt hO152 i hi).2; omega)
     have oo187 : ∀ i, Ow (.slice A176 ((nu ++ [ii]).length) c177) i → Ow (.slice A156 ((LX ++ [x]).length) c157) i → False := fun i hi hs => oo186 i hs hi
     have K175 := hK173
     replace K31 := K31.trans K175 (U := none_) (fun i h1 h2 => h2) (fun i h1 h2 => by have h2 : Ow (.slice A2 nu.length c2) i := h2; exfalso; have := (World.ownsRow.lt hOQ i h2).1; omega)
     replace H32 := H32.keep K175 (by intro h; change Ow (.slice A2 nu.length c2) b1 at h; have := obQb1 b1 h; omega)
     replace H33 := H33.keep K175 (by intro h; change Ow (.slice A2 nu.length c2) b7 at h; have := obQb7 b7 h; omega)
     replace H34 := H34.keep K175 (by intro h; change Ow (.slice A2 nu.length c2) mb8 at h; have := obQmb8 mb8 h; omega)
     replace H35 := H35.keep K175 (by intro h; change Ow (.slice A2 nu.length c2) kb9 at h; have := obQkb9 kb9 h; omega)
     replace H36 := H36.keep K175 (by intro h; change Ow (.slice A2 nu.length c2) b21 at h; have := obQb21 b21 h; omega)
     replace H51 := H51.keep K175 (by intro h; change Ow (.slice A2 nu.length c2) b42 at h; have := ob49 b42 h; omega)
     clear hOQ
     replace hO152 := own_keep hO152 K175 (fun i hi hs => by have hs : Ow (.slice A2 nu.length c2) i := hs; exact oo167 i hi hs)
     have Kb188 := Kb168.trans K175 (U := (fun i => i = b1 ∨ Ow (.slice A1 LX.length c1) i ∨ Ow (.slice A2 nu.length c2) i)) (fun _ _ h => h) (fun i h1 h2 => by have h2 : Ow (.slice A2 nu.length c2) i := h2; exact .inr (.inr (h2)))
     refine Dr1.go (v := (Value.slice A176 ((nu ++ [ii]).length) c177)) (by kernel_rfl) (Runs.append (ts := #[35, 35]) (ty := 35) (vs := [(Value.slice A2 nu.length c2), (Value.slice (some ⟨b140, 0, none⟩) 1 1)]) (by kernel_rfl) hr171) (d := (some 37)) (by kernel_rfl) rfl (SH.cons (SH.cons (SH.nil Kb188) (.inr (H32.loads (by kernel_rfl)))) (.inr (H32.loads (by kernel_rfl)))) ?_
     clear K175 hr171 hK173 hg174
     refine soQ 11 ?_
     refine Dr1.put (t := 33) (b := b1) (off := 0) (v := (Value.slice A156 ((LX ++ [x]).length) c157)) (ys := [(Value.slice A156 ((LX ++ [x]).length) c157), (Value.slice A2 nu.length c2)]) (by kernel_rfl) (by kernel_rfl) H32 (by kernel_rfl) (d := none) (by kernel_rfl) rfl (fun w189 H190 K191 => ?_)
     replace K31 := K31.t1 K191 fun _ => by omega
     replace H33 := H33.k1 K191 (by omega)
     replace H34 := H34.k1 K191 (by omega)
     replace H35 := H35.k1 K191 (by omega)
     replace H36 := H36.k1 K191 (by omega)
     replace H51 := H51.k1 K191 (by omega)
     replace hO152 := own_keep hO152 K191 (fun i hi => by have := ob158 i hi; omega)
     replace hO172 := own_keep hO172 K191 (fun i hi => by have := ob178 i hi; omega)
     have Kb192 := Kb188.t1 K191 fun _ => .inl rfl
     refine ⟨(SH.cons (SH.cons (SH.nil Kb192) (.inr (H190.loads (by kernel_rfl)))) (.inl (by kernel_rfl))), ?_⟩
     refine skQ 1 [12] [(2, .slice none 0 0), (3, .bool false), (4, i64 0), (5, ptr b1), (6, ptr b21), (7, i64 why), (9, ptr b42), (18, .slice LA l.length lc), (19, i64 ↑l.length), (20, i64 ↑ii), (37, (Value.slice A176 ((nu ++ [ii]).length) c177)), (39, .pointer (some ⟨b1, 1, none⟩))] ?_
     refine soQ 13 ?_
     refine Dr1.put (t := 35) (b := b1) (off := 1) (v := (Value.slice A176 ((nu ++ [ii]).length) c177)) (ys := [(Value.slice A156 ((LX ++ [x]).length) c157), (Value.slice A176 ((nu ++ [ii]).length) c177)]) (by kernel_rfl) (by kernel_rfl) H190 (by kernel_rfl) (d := none) (by kernel_rfl) rfl (fun w193 H194 K195 => ?_)
     replace K31 := K31.t1 K195 fun _ => by omega
     replace H33 := H33.k1 K195 (by omega)
     replace H34 := H34.k1 K195 (by omega)
     replace H35 := H35.k1 K195 (by omega)
     replace H36 := H36.k1 K195 (by omega)
     replace H51 := H51.k1 K195 (by omega)
     replace hO152 := own_keep hO152 K195 (fun i hi => by have := ob158 i hi; omega)
     replace hO172 := own_keep hO172 K195 (fun i hi => by have := ob178 i hi; omega)
     have Kb196 := Kb192.t1 K195 fun _ => .inl rfl
     refine ⟨(SH.cons (SH.cons (SH.nil Kb196) (.inl (by kernel_rfl))) (.inl (by kernel_rfl))), ?_⟩
     refine DrS.done (by kernel_rfl) ?_
     refine rsg Open.wide ?_
     refine og 1 [(2, .slice none 0 0), (3, .bool false), (4, i64 0), (5, ptr b1), (6, ptr b21), (7, i64 why), (9, ptr b42), (18, .slice LA l.length lc), (19, i64 ↑l.length), (20, i64 ↑ii), (40, .pointer (some ⟨b42, 9, none⟩))] 1 ?_
     refine ogo (Value.bool x.c.told) 41 (rld 4 b42 9 H51) rfl ?_
     refine od ?_
     refine rcQ 41 x.c.told rfl (fun h197 => ?_) (fun h197 => ?_)
     ·rw [h197]
      have p198 : x.c.told = true := h197
      refine rsg Open.wide ?_
      refine og 1 [(2, .slice none 0 0), (3, .bool false), (4, i64 0), (5, ptr b1), (6, ptr b21), (7, i64 why), (9, ptr b42), (18, .slice LA l.length lc), (19, i64 ↑l.length), (20, i64 ↑ii), (42, .pointer (some ⟨b21, 2, none⟩))] 1 ?_
      refine ogo (i64 ((n : Nat) : Int)) 43 (rld 3 b21 2 H36) rfl ?_
      refine og 1 [(2, .slice none 0 0), (3, .bool false), (4, i64 0), (5, ptr b1), (6, ptr b21), (7, i64 why), (9, ptr b42), (18, .slice LA l.length lc), (19, i64 ↑l.length), (20, i64 ↑ii), (44, (i64 (IntKind.i64.wrap (((n : Nat) : Int) + 1))))] 3 ?_
      rw [show IntKind.i64.wrap (((n : Nat) : Int) + 1) = ((n + 1 : Nat) : Int) from by rw [wrap_i64 (by omega) (by omega)]; omega]
      refine og 1 [(2, .slice none 0 0), (3, .bool false), (4, i64 0), (5, ptr b1), (6, ptr b21), (7, i64 why), (9, ptr b42), (18, .slice LA l.length lc), (19, i64 ↑l.length), (20, i64 ↑ii), (44, i64 ↑(n + 1)), (45, .pointer (some ⟨b21, 2, none⟩))] 4 ?_
      refine Ops.put (t := 3) (b := b21) (off := 2) (v := (i64 ((n + 1 : Nat) : Int))) (ys := [(Value.slice none 0 0), (Value.int IntKind.u64 0), (i64 ((n + 1 : Nat) : Int)), (ptr b7)]) (by kernel_rfl) (by kernel_rfl) H36 (by kernel_rfl) (d := none) (by kernel_rfl) rfl (fun w200 H201 K202 => ?_)
      replace K31 := K31.t1 K202 fun _ => by omega
      replace H194 := H194.k1 K202 (by omega)
      replace H33 := H33.k1 K202 (by omega)
      replace H34 := H34.k1 K202 (by omega)
      replace H35 := H35.k1 K202 (by omega)
      replace H51 := H51.k1 K202 (by omega)
      replace hO152 := own_keep hO152 K202 (fun i hi => by have := ob162 i hi; omega)
      replace hO172 := own_keep hO172 K202 (fun i hi => by have := ob182 i hi; omega)
      refine od ?_
      refine rsg Open.wide ?_
      refine og 1 [(2, .slice none 0 0), (3, .bool false), (4, i64 0), (5, ptr b1), (6, ptr b21), (7, i64 why), (9, ptr b42), (18, .slice LA l.length lc), (19, i64 ↑l.length), (20, i64 ↑ii), (46, .pointer (some ⟨b42, 8, none⟩))] 1 ?_
      refine ogo (i64 x.c.en) 47 (rld 3 b42 8 H51) rfl ?_
      refine og 1 [(2, .slice none 0 0), (3, .bool false), (4, i64 0), (5, ptr b1), (6, ptr b21), (7, i64 why), (18, .slice LA l.length lc), (19, i64 ↑l.length), (20, i64 ↑ii), (47, i64 x.c.en), (48, .pointer (some ⟨b42, 7, none⟩))] 3 ?_
      refine ogo (i64 x.c.bg) 49 (rld 3 b42 7 H51) rfl ?_
      refine ogd 1 [(2, .slice none 0 0), (3, .bool false), (4, i64 0), (5, ptr b1), (6, ptr b21), (7, i64 why), (18, .slice LA l.length lc), (19, i64 ↑l.length), (20, i64 ↑ii), (50, (Value.bool (decide (x.c.en < x.c.bg))))] ?_
      refine rcQ 50 (decide (x.c.en < x.c.bg)) rfl (fun h203 => ?_) (fun h203 => ?_)
      ·rw [h203]
       have p204 := of_decide_eq_true h203
       have hbx : badH x.c = true := by unfold badH; rw [h197, decide_eq_true (by omega)]; rfl
       refine rgQ Open.wide ?_
       refine ogd 1 [(2, .slice none 0 0), (3, .bool false), (4, i64 0), (5, ptr b1), (6, ptr b21), (7, i64 1), (18, .slice LA l.length lc), (19, i64 ↑l.length), (20, i64 ↑ii)] ?_
       refine rgQ Open.wide ?_
       refine oid 2 (fun z => [(2, .slice none 0 0), (3, .bool false), (4, i64 0), (5, ptr b1), (6, ptr b21), (7, i64 1), (18, .slice LA l.length lc), (19, i64 ↑l.length), (20, i64 z)]) ii ?_
       exact ⟨(ii + 1, A156, c157, (LX ++ [x]), A176, c177, (nu ++ [ii]), n + 1, 1), ⟨rfl, rfl, hO152, ob158, ob159, ob160, ob161, ob162, oo187, hO172, ob178, ob179, ob180, ob181, ob182, oo186, (by rw [xs_snoc hnl, hstep, hX]), (by rw [List.length_append, List.length_append, hnl]; rfl), (fun z hz => by rcases List.mem_append.1 hz with hz | hz; exact hsub z hz; rw [List.mem_singleton.1 hz]; exact List.mem_of_getElem? hx), (by rw [xs_snoc hnl, left_snoc, if_pos h197, ← hn]), (by rw [xs_snoc hnl, any_snoc, hbx, Bool.or_true]; rfl), (by omega), (by rw [List.length_append]; have : ([x] : List HC).length = 1 := rfl; omega), K31, H194, H33, H34, H35, H201⟩, (show l.length - (ii + 1) < l.length - ii from by omega)⟩
      ·rw [h203]
       have p206 := of_decide_eq_false h203
       have hbx : badH x.c = false := by unfold badH; rw [h197, decide_eq_false (by omega)]; rfl
       refine rkQ ?_
       refine rgQ Open.wide ?_
       refine oid 2 (fun z => [(2, .slice none 0 0), (3, .bool false), (4, i64 0), (5, ptr b1), (6, ptr b21), (7, i64 why), (18, .slice LA l.length lc), (19, i64 ↑l.length), (20, i64 z)]) ii ?_
       exact ⟨(ii + 1, A156, c157, (LX ++ [x]), A176, c177, (nu ++ [ii]), n + 1, why), ⟨rfl, rfl, hO152, ob158, ob159, ob160, ob161, ob162, oo187, hO172, ob178, ob179, ob180, ob181, ob182, oo186, (by rw [xs_snoc hnl, hstep, hX]), (by rw [List.length_append, List.length_append, hnl]; rfl), (fun z hz => by rcases List.mem_append.1 hz with hz | hz; exact hsub z hz; rw [List.mem_singleton.1 hz]; exact List.mem_of_getElem? hx), (by rw [xs_snoc hnl, left_snoc, if_pos h197, ← hn]), (by rw [xs_snoc hnl, any_snoc, hbx, Bool.or_false]; exact hw), (by omega), (by rw [List.length_append]; have : ([x] : List HC).length = 1 := rfl; omega), K31, H194, H33, H34, H35, H201⟩, (show l.length - (ii + 1) < l.length - ii from by omega)⟩
     ·rw [h197]
      have p208 : x.c.told = false := h197
      have hbx : badH x.c = false := by unfold badH; rw [h197]; rfl
      refine rkQ ?_
      refine rgQ Open.wide ?_
      refine oid 2 (fun z => [(2, .slice none 0 0), (3, .bool false), (4, i64 0), (5, ptr b1), (6, ptr b21), (7, i64 why), (18, .slice LA l.length lc), (19, i64 ↑l.length), (20, i64 z)]) ii ?_
      exact ⟨(ii + 1, A156, c157, (LX ++ [x]), A176, c177, (nu ++ [ii]), n, why), ⟨rfl, rfl, hO152, ob158, ob159, ob160, ob161, ob162, oo187, hO172, ob178, ob179, ob180, ob181, ob182, oo186, (by rw [xs_snoc hnl, hstep, hX]), (by rw [List.length_append, List.length_append, hnl]; rfl), (fun z hz => by rcases List.mem_append.1 hz with hz | hz; exact hsub z hz; rw [List.mem_singleton.1 hz]; exact List.mem_of_getElem? hx), (by rw [xs_snoc hnl, left_snoc, if_neg (by rw [h197]; decide), ← hn]; exact (Nat.add_zero n).symm), (by rw [xs_snoc hnl, any_snoc, hbx, Bool.or_false]; exact hw), (by omega), (by rw [List.length_append]; have : ([x] : List HC).length = 1 := rfl; omega), K31, H194, H33, H34, H35, H36⟩, (show l.length - (ii + 1) < l.length - ii from by omega)⟩
   ·skip
    refine Dr1.new (o := rowL [(i64 ((ii : Nat) : Int))] 3) (V := fun b => (Value.slice (some ⟨b, 0, none⟩) 1 1)) (by kernel_rfl) (d := (some 36)) (by kernel_rfl) (fun b => rfl) (fun b210 w211 hb212 H213 K214 hs215 => ?_)
    have lb210b1 : b1 < b210 := by have := H32.lt; omega
    have lb210b7 : b7 < b210 := by have := H33.lt; omega
    have lb210mb8 : mb8 < b210 := by have := H34.lt; omega
    have lb210kb9 : kb9 < b210 := by have := H35.lt; omega
    have lb210b21 : b21 < b210 := by have := H36.lt; omega
    have lb210b42 : b42 < b210 := by have := H51.lt; omega
    have nb210 : w.heap.size ≤ b210 := by have := K31.size; omega
    have ob216 : ∀ i, Ow (.slice A1 LX.length c1) i → i < b210 := fun i hi => by have := (World.ownsRow.lt hOP i hi).2; omega
    have xb210 : w59.heap.size ≤ b210 := by have := Kb61.size; omega
    replace K31 := K31.tn K214
    replace H32 := H32.kn K214
    replace H33 := H33.kn K214
    replace H34 := H34.kn K214
    replace H35 := H35.kn K214
    replace H36 := H36.kn K214
    replace H51 := H51.kn K214
    replace hOP := own_keep0 hOP K214
    replace hOQ := own_keep0 hOQ K214
    have Kb218 := Kb61.tn K214
    refine ⟨(SH.cons (SH.cons (SH.nil Kb218) (.inr (H32.loads (by kernel_rfl)))) (.inr (H32.loads (by kernel_rfl)))), ?_⟩
    clear K214 hs215
    refine soQ 3 ?_
    refine Dr1.new (o := rowL (HC.cells x) 43) (V := fun b => (Value.slice (some ⟨b, 0, none⟩) 1 1)) (by kernel_rfl) (d := (some 31)) (by kernel_rfl) (fun b => rfl) (fun b219 w220 hb221 H222 K223 hs224 => ?_)
    have lb219b1 : b1 < b219 := by have := H32.lt; omega
    have lb219b7 : b7 < b219 := by have := H33.lt; omega
    have lb219mb8 : mb8 < b219 := by have := H34.lt; omega
    have lb219kb9 : kb9 < b219 := by have := H35.lt; omega
    have lb219b21 : b21 < b219 := by have := H36.lt; omega
    have lb219b42 : b42 < b219 := by have := H51.lt; omega
    have lb219b210 : b210 < b219 := by have := H213.lt; omega
    have nb219 : w.heap.size ≤ b219 := by have := K31.size; omega
    have xb219 : w59.heap.size ≤ b219 := by have := Kb218.size; omega
    replace K31 := K31.tn K223
    replace H32 := H32.kn K223
    replace H33 := H33.kn K223
    replace H34 := H34.kn K223
    replace H35 := H35.kn K223
    replace H36 := H36.kn K223
    replace H51 := H51.kn K223
    replace H213 := H213.kn K223
    replace hOP := own_keep0 hOP K223
    replace hOQ := own_keep0 hOQ K223
    have Kb227 := Kb218.tn K223
    refine ⟨(SH.cons (SH.cons (SH.nil Kb227) (.inr (H32.loads (by kernel_rfl)))) (.inr (H32.loads (by kernel_rfl)))), ?_⟩
    clear K223 hs224
    refine soQ 4 ?_
    obtain ⟨v228, w229, hr230, hO231, hK232, hg233⟩ := OwnT.app (ty := 33) HC.two HC.one tyH hOP (show RdT _ 13 HC.cells _ [x] from Rd.lit H222 (n := 1) rfl (by decide)) (by simp only [List.length_cons, List.length_nil]; omega) (by simp only [List.length_cons, List.length_nil]; omega) K31.size
    obtain ⟨A235, c236, rfl⟩ := RdT.form HC.two (by decide) (OwnT.rd hO231)
    have ob237 : ∀ i, Ow (.slice A235 ((LX ++ [x]).length) c236) i → i ≠ b1 := fun i hi => by rcases hg233 i hi with h | h; (have := obPb1 i h; omega); (have := H32.lt; omega)
    have ob238 : ∀ i, Ow (.slice A235 ((LX ++ [x]).length) c236) i → i ≠ b7 := fun i hi => by rcases hg233 i hi with h | h; (have := obPb7 i h; omega); (have := H33.lt; omega)
    have ob239 : ∀ i, Ow (.slice A235 ((LX ++ [x]).length) c236) i → i ≠ mb8 := fun i hi => by rcases hg233 i hi with h | h; (have := obPmb8 i h; omega); (have := H34.lt; omega)
    have ob240 : ∀ i, Ow (.slice A235 ((LX ++ [x]).length) c236) i → i ≠ kb9 := fun i hi => by rcases hg233 i hi with h | h; (have := obPkb9 i h; omega); (have := H35.lt; omega)
    have ob241 : ∀ i, Ow (.slice A235 ((LX ++ [x]).length) c236) i → i ≠ b21 := fun i hi => by rcases hg233 i hi with h | h; (have := obPb21 i h; omega); (have := H36.lt; omega)
    have oo245 : ∀ i, Ow (.slice A2 nu.length c2) i → Ow (.slice A235 ((LX ++ [x]).length) c236) i → False := fun i hi hs => by rcases hg233 i hs with h | h; (exact ooPQ i hi h); (have := (World.ownsRow.lt hOQ i hi).2; omega)
    have oo246 : ∀ i, Ow (.slice A235 ((LX ++ [x]).length) c236) i → Ow (.slice A2 nu.length c2) i → False := fun i hi hs => oo245 i hs hi
    have K234 := hK232
    replace K31 := K31.trans K234 (U := none_) (fun i h1 h2 => h2) (fun i h1 h2 => by have h2 : Ow (.slice A1 LX.length c1) i := h2; exfalso; have := (World.ownsRow.lt hOP i h2).1; omega)
    replace H32 := H32.keep K234 (by intro h; change Ow (.slice A1 LX.length c1) b1 at h; have := obPb1 b1 h; omega)
    replace H33 := H33.keep K234 (by intro h; change Ow (.slice A1 LX.length c1) b7 at h; have := obPb7 b7 h; omega)
    replace H34 := H34.keep K234 (by intro h; change Ow (.slice A1 LX.length c1) mb8 at h; have := obPmb8 mb8 h; omega)
    replace H35 := H35.keep K234 (by intro h; change Ow (.slice A1 LX.length c1) kb9 at h; have := obPkb9 kb9 h; omega)
    replace H36 := H36.keep K234 (by intro h; change Ow (.slice A1 LX.length c1) b21 at h; have := obPb21 b21 h; omega)
    replace H51 := H51.keep K234 (by intro h; change Ow (.slice A1 LX.length c1) b42 at h; have := ob48 b42 h; omega)
    replace H213 := H213.keep K234 (by intro h; change Ow (.slice A1 LX.length c1) b210 at h; have := ob216 b210 h; omega)
    clear hOP
    replace hOQ := own_keep hOQ K234 (fun i hi hs => by have hs : Ow (.slice A1 LX.length c1) i := hs; exact ooPQ i hi hs)
    have Kb247 := Kb227.trans K234 (U := (fun i => i = b1 ∨ Ow (.slice A1 LX.length c1) i ∨ Ow (.slice A2 nu.length c2) i)) (fun _ _ h => h) (fun i h1 h2 => by have h2 : Ow (.slice A1 LX.length c1) i := h2; exact .inr (.inl h2))
    refine Dr1.go (v := (Value.slice A235 ((LX ++ [x]).length) c236)) (by kernel_rfl) (Runs.append (ts := #[33, 33]) (ty := 33) (vs := [(Value.slice A1 LX.length c1), (Value.slice (some ⟨b219, 0, none⟩) 1 1)]) (by kernel_rfl) hr230) (d := (some 32)) (by kernel_rfl) rfl (SH.cons (SH.cons (SH.nil Kb247) (.inr (H32.loads (by kernel_rfl)))) (.inr (H32.loads (by kernel_rfl)))) ?_
    clear K234 hr230 hK232 hg233
    refine skQ 4 [10] [(2, .slice none 0 0), (3, .bool false), (4, i64 0), (5, ptr b1), (6, ptr b21), (7, i64 why), (9, ptr b42), (18, .slice LA l.length lc), (19, i64 ↑l.length), (20, i64 ↑ii), (32, (Value.slice A235 ((LX ++ [x]).length) c236)), (34, .slice A2 nu.length c2), (36, .slice (some ⟨b210, 0, none⟩) 1 1), (38, ptr b1)] ?_
    refine soQ 9 ?_
    obtain ⟨v248, w249, hr250, hO251, hK252, hg253⟩ := OwnT.app (ty := 35) iN_one iN_cells tyI hOQ (show RdT _ 1 iN _ [ii] from Rd.lit H213 (n := 1) rfl (by decide)) (by simp only [List.length_cons, List.length_nil]; omega) (by simp only [List.length_cons, List.length_nil]; omega) K31.size
    obtain ⟨A255, c256, rfl⟩ := RdT.form iN_one (by decide) (OwnT.rd hO251)
    have ob257 : ∀ i, Ow (.slice A255 ((nu ++ [ii]).length) c256) i → i ≠ b1 := fun i hi => by rcases hg253 i hi with h | h; (have := obQb1 i h; omega); (have := H32.lt; omega)
    have ob258 : ∀ i, Ow (.slice A255 ((nu ++ [ii]).length) c256) i → i ≠ b7 := fun i hi => by rcases hg253 i hi with h | h; (have := obQb7 i h; omega); (have := H33.lt; omega)
    have ob259 : ∀ i, Ow (.slice A255 ((nu ++ [ii]).length) c256) i → i ≠ mb8 := fun i hi => by rcases hg253 i hi with h | h; (have := obQmb8 i h; omega); (have := H34.lt; omega)
    have ob260 : ∀ i, Ow (.slice A255 ((nu ++ [ii]).length) c256) i → i ≠ kb9 := fun i hi => by rcases hg253 i hi with h | h; (have := obQkb9 i h; omega); (have := H35.lt; omega)
    have ob261 : ∀ i, Ow (.slice A255 ((nu ++ [ii]).length) c256) i → i ≠ b21 := fun i hi => by rcases hg253 i hi with h | h; (have := obQb21 i h; omega); (have := H36.lt; omega)
    have oo265 : ∀ i, Ow (.slice A235 ((LX ++ [x]).length) c236) i → Ow (.slice A255 ((nu ++ [ii]).length) c256) i → False := fun i hi hs => by rcases hg253 i hs with h | h; (exact oo246 i hi h); (have := (World.ownsRow.lt hO231 i hi).2; omega)
    have oo266 : ∀ i, Ow (.slice A255 ((nu ++ [ii]).length) c256) i → Ow (.slice A235 ((LX ++ [x]).length) c236) i → False := fun i hi hs => oo265 i hs hi
    have K254 := hK252
    replace K31 := K31.trans K254 (U := none_) (fun i h1 h2 => h2) (fun i h1 h2 => by have h2 : Ow (.slice A2 nu.length c2) i := h2; exfalso; have := (World.ownsRow.lt hOQ i h2).1; omega)
    replace H32 := H32.keep K254 (by intro h; change Ow (.slice A2 nu.length c2) b1 at h; have := obQb1 b1 h; omega)
    replace H33 := H33.keep K254 (by intro h; change Ow (.slice A2 nu.length c2) b7 at h; have := obQb7 b7 h; omega)
    replace H34 := H34.keep K254 (by intro h; change Ow (.slice A2 nu.length c2) mb8 at h; have := obQmb8 mb8 h; omega)
    replace H35 := H35.keep K254 (by intro h; change Ow (.slice A2 nu.length c2) kb9 at h; have := obQkb9 kb9 h; omega)
    replace H36 := H36.keep K254 (by intro h; change Ow (.slice A2 nu.length c2) b21 at h; have := obQb21 b21 h; omega)
    replace H51 := H51.keep K254 (by intro h; change Ow (.slice A2 nu.length c2) b42 at h; have := ob49 b42 h; omega)
    clear hOQ
    replace hO231 := own_keep hO231 K254 (fun i hi hs => by have hs : Ow (.slice A2 nu.length c2) i := hs; exact oo246 i hi hs)
    have Kb267 := Kb247.trans K254 (U := (fun i => i = b1 ∨ Ow (.slice A1 LX.length c1) i ∨ Ow (.slice A2 nu.length c2) i)) (fun _ _ h => h) (fun i h1 h2 => by have h2 : Ow (.slice A2 nu.length c2) i := h2; exact .inr (.inr (h2)))
    refine Dr1.go (v := (Value.slice A255 ((nu ++ [ii]).length) c256)) (by kernel_rfl) (Runs.append (ts := #[35, 35]) (ty := 35) (vs := [(Value.slice A2 nu.length c2), (Value.slice (some ⟨b210, 0, none⟩) 1 1)]) (by kernel_rfl) hr250) (d := (some 37)) (by kernel_rfl) rfl (SH.cons (SH.cons (SH.nil Kb267) (.inr (H32.loads (by kernel_rfl)))) (.inr (H32.loads (by kernel_rfl)))) ?_
    clear K254 hr250 hK252 hg253
    refine soQ 11 ?_
    refine Dr1.put (t := 33) (b := b1) (off := 0) (v := (Value.slice A235 ((LX ++ [x]).length) c236)) (ys := [(Value.slice A235 ((LX ++ [x]).length) c236), (Value.slice A2 nu.length c2)]) (by kernel_rfl) (by kernel_rfl) H32 (by kernel_rfl) (d := none) (by kernel_rfl) rfl (fun w268 H269 K270 => ?_)
    replace K31 := K31.t1 K270 fun _ => by omega
    replace H33 := H33.k1 K270 (by omega)
    replace H34 := H34.k1 K270 (by omega)
    replace H35 := H35.k1 K270 (by omega)
    replace H36 := H36.k1 K270 (by omega)
    replace H51 := H51.k1 K270 (by omega)
    replace hO231 := own_keep hO231 K270 (fun i hi => by have := ob237 i hi; omega)
    replace hO251 := own_keep hO251 K270 (fun i hi => by have := ob257 i hi; omega)
    have Kb271 := Kb267.t1 K270 fun _ => .inl rfl
    refine ⟨(SH.cons (SH.cons (SH.nil Kb271) (.inr (H269.loads (by kernel_rfl)))) (.inl (by kernel_rfl))), ?_⟩
    refine skQ 1 [12] [(2, .slice none 0 0), (3, .bool false), (4, i64 0), (5, ptr b1), (6, ptr b21), (7, i64 why), (9, ptr b42), (18, .slice LA l.length lc), (19, i64 ↑l.length), (20, i64 ↑ii), (37, (Value.slice A255 ((nu ++ [ii]).length) c256)), (39, .pointer (some ⟨b1, 1, none⟩))] ?_
    refine soQ 13 ?_
    refine Dr1.put (t := 35) (b := b1) (off := 1) (v := (Value.slice A255 ((nu ++ [ii]).length) c256)) (ys := [(Value.slice A235 ((LX ++ [x]).length) c236), (Value.slice A255 ((nu ++ [ii]).length) c256)]) (by kernel_rfl) (by kernel_rfl) H269 (by kernel_rfl) (d := none) (by kernel_rfl) rfl (fun w272 H273 K274 => ?_)
    replace K31 := K31.t1 K274 fun _ => by omega
    replace H33 := H33.k1 K274 (by omega)
    replace H34 := H34.k1 K274 (by omega)
    replace H35 := H35.k1 K274 (by omega)
    replace H36 := H36.k1 K274 (by omega)
    replace H51 := H51.k1 K274 (by omega)
    replace hO231 := own_keep hO231 K274 (fun i hi => by have := ob237 i hi; omega)
    replace hO251 := own_keep hO251 K274 (fun i hi => by have := ob257 i hi; omega)
    have Kb275 := Kb271.t1 K274 fun _ => .inl rfl
    refine ⟨(SH.cons (SH.cons (SH.nil Kb275) (.inl (by kernel_rfl))) (.inl (by kernel_rfl))), ?_⟩
    refine DrS.done (by kernel_rfl) ?_
    refine rsg Open.wide ?_
    refine og 1 [(2, .slice none 0 0), (3, .bool false), (4, i64 0), (5, ptr b1), (6, ptr b21), (7, i64 why), (9, ptr b42), (18, .slice LA l.length lc), (19, i64 ↑l.length), (20, i64 ↑ii), (40, .pointer (some ⟨b42, 9, none⟩))] 1 ?_
    refine ogo (Value.bool x.c.told) 41 (rld 4 b42 9 H51) rfl ?_
    refine od ?_
    refine rcQ 41 x.c.told rfl (fun h276 => ?_) (fun h276 => ?_)
    ·rw [h276]
     have p277 : x.c.told = true := h276
     refine rsg Open.wide ?_
     refine og 1 [(2, .slice none 0 0), (3, .bool false), (4, i64 0), (5, ptr b1), (6, ptr b21), (7, i64 why), (9, ptr b42), (18, .slice LA l.length lc), (19, i64 ↑l.length), (20, i64 ↑ii), (42, .pointer (some ⟨b21, 2, none⟩))] 1 ?_
     refine ogo (i64 ((n : Nat) : Int)) 43 (rld 3 b21 2 H36) rfl ?_
     refine og 1 [(2, .slice none 0 0), (3, .bool false), (4, i64 0), (5, ptr b1), (6, ptr b21), (7, i64 why), (9, ptr b42), (18, .slice LA l.length lc), (19, i64 ↑l.length), (20, i64 ↑ii), (44, (i64 (IntKind.i64.wrap (((n : Nat) : Int) + 1))))] 3 ?_
     rw [show IntKind.i64.wrap (((n : Nat) : Int) + 1) = ((n + 1 : Nat) : Int) from by rw [wrap_i64 (by omega) (by omega)]; omega]
     refine og 1 [(2, .slice none 0 0), (3, .bool false), (4, i64 0), (5, ptr b1), (6, ptr b21), (7, i64 why), (9, ptr b42), (18, .slice LA l.length lc), (19, i64 ↑l.length), (20, i64 ↑ii), (44, i64 ↑(n + 1)), (45, .pointer (some ⟨b21, 2, none⟩))] 4 ?_
     refine Ops.put (t := 3) (b := b21) (off := 2) (v := (i64 ((n + 1 : Nat) : Int))) (ys := [(Value.slice none 0 0), (Value.int IntKind.u64 0), (i64 ((n + 1 : Nat) : Int)), (ptr b7)]) (by kernel_rfl) (by kernel_rfl) H36 (by kernel_rfl) (d := none) (by kernel_rfl) rfl (fun w279 H280 K281 => ?_)
     replace K31 := K31.t1 K281 fun _ => by omega
     replace H273 := H273.k1 K281 (by omega)
     replace H33 := H33.k1 K281 (by omega)
     replace H34 := H34.k1 K281 (by omega)
     replace H35 := H35.k1 K281 (by omega)
     replace H51 := H51.k1 K281 (by omega)
     replace hO231 := own_keep hO231 K281 (fun i hi => by have := ob241 i hi; omega)
     replace hO251 := own_keep hO251 K281 (fun i hi => by have := ob261 i hi; omega)
     refine od ?_
     refine rsg Open.wide ?_
     refine og 1 [(2, .slice none 0 0), (3, .bool false), (4, i64 0), (5, ptr b1), (6, ptr b21), (7, i64 why), (9, ptr b42), (18, .slice LA l.length lc), (19, i64 ↑l.length), (20, i64 ↑ii), (46, .pointer (some ⟨b42, 8, none⟩))] 1 ?_
     refine ogo (i64 x.c.en) 47 (rld 3 b42 8 H51) rfl ?_
     refine og 1 [(2, .slice none 0 0), (3, .bool false), (4, i64 0), (5, ptr b1), (6, ptr b21), (7, i64 why), (18, .slice LA l.length lc), (19, i64 ↑l.length), (20, i64 ↑ii), (47, i64 x.c.en), (48, .pointer (some ⟨b42, 7, none⟩))] 3 ?_
     refine ogo (i64 x.c.bg) 49 (rld 3 b42 7 H51) rfl ?_
     refine ogd 1 [(2, .slice none 0 0), (3, .bool false), (4, i64 0), (5, ptr b1), (6, ptr b21), (7, i64 why), (18, .slice LA l.length lc), (19, i64 ↑l.length), (20, i64 ↑ii), (50, (Value.bool (decide (x.c.en < x.c.bg))))] ?_
     refine rcQ 50 (decide (x.c.en < x.c.bg)) rfl (fun h282 => ?_) (fun h282 => ?_)
     ·rw [h282]
      have p283 := of_decide_eq_true h282
      have hbx : badH x.c = true := by unfold badH; rw [h276, decide_eq_true (by omega)]; rfl
      refine rgQ Open.wide ?_
      refine ogd 1 [(2, .slice none 0 0), (3, .bool false), (4, i64 0), (5, ptr b1), (6, ptr b21), (7, i64 1), (18, .slice LA l.length lc), (19, i64 ↑l.length), (20, i64 ↑ii)] ?_
      refine rgQ Open.wide ?_
      refine oid 2 (fun z => [(2, .slice none 0 0), (3, .bool false), (4, i64 0), (5, ptr b1), (6, ptr b21), (7, i64 1), (18, .slice LA l.length lc), (19, i64 ↑l.length), (20, i64 z)]) ii ?_
      exact ⟨(ii + 1, A235, c236, (LX ++ [x]), A255, c256, (nu ++ [ii]), n + 1, 1), ⟨rfl, rfl, hO231, ob237, ob238, ob239, ob240, ob241, oo266, hO251, ob257, ob258, ob259, ob260, ob261, oo265, (by rw [xs_snoc hnl, hstep, hX]), (by rw [List.length_append, List.length_append, hnl]; rfl), (fun z hz => by rcases List.mem_append.1 hz with hz | hz; exact hsub z hz; rw [List.mem_singleton.1 hz]; exact List.mem_of_getElem? hx), (by rw [xs_snoc hnl, left_snoc, if_pos h276, ← hn]), (by rw [xs_snoc hnl, any_snoc, hbx, Bool.or_true]; rfl), (by omega), (by rw [List.length_append]; have : ([x] : List HC).length = 1 := rfl; omega), K31, H273, H33, H34, H35, H280⟩, (show l.length - (ii + 1) < l.length - ii from by omega)⟩
     ·rw [h282]
      have p285 := of_decide_eq_false h282
      have hbx : badH x.c = false := by unfold badH; rw [h276, decide_eq_false (by omega)]; rfl
      refine rkQ ?_
      refine rgQ Open.wide ?_
      refine oid 2 (fun z => [(2, .slice none 0 0), (3, .bool false), (4, i64 0), (5, ptr b1), (6, ptr b21), (7, i64 why), (18, .slice LA l.length lc), (19, i64 ↑l.length), (20, i64 z)]) ii ?_
      exact ⟨(ii + 1, A235, c236, (LX ++ [x]), A255, c256, (nu ++ [ii]), n + 1, why), ⟨rfl, rfl, hO231, ob237, ob238, ob239, ob240, ob241, oo266, hO251, ob257, ob258, ob259, ob260, ob261, oo265, (by rw [xs_snoc hnl, hstep, hX]), (by rw [List.length_append, List.length_append, hnl]; rfl), (fun z hz => by rcases List.mem_append.1 hz with hz | hz; exact hsub z hz; rw [List.mem_singleton.1 hz]; exact List.mem_of_getElem? hx), (by rw [xs_snoc hnl, left_snoc, if_pos h276, ← hn]), (by rw [xs_snoc hnl, any_snoc, hbx, Bool.or_false]; exact hw), (by omega), (by rw [List.length_append]; have : ([x] : List HC).length = 1 := rfl; omega), K31, H273, H33, H34, H35, H280⟩, (show l.length - (ii + 1) < l.length - ii from by omega)⟩
    ·rw [h276]
     have p287 : x.c.told = false := h276
     have hbx : badH x.c = false := by unfold badH; rw [h276]; rfl
     refine rkQ ?_
     refine rgQ Open.wide ?_
     refine oid 2 (fun z => [(2, .slice none 0 0), (3, .bool false), (4, i64 0), (5, ptr b1), (6, ptr b21), (7, i64 why), (18, .slice LA l.length lc), (19, i64 ↑l.length), (20, i64 z)]) ii ?_
     exact ⟨(ii + 1, A235, c236, (LX ++ [x]), A255, c256, (nu ++ [ii]), n, why), ⟨rfl, rfl, hO231, ob237, ob238, ob239, ob240, ob241, oo266, hO251, ob257, ob258, ob259, ob260, ob261, oo265, (by rw [xs_snoc hnl, hstep, hX]), (by rw [List.length_append, List.length_append, hnl]; rfl), (fun z hz => by rcases List.mem_append.1 hz with hz | hz; exact hsub z hz; rw [List.mem_singleton.1 hz]; exact List.mem_of_getElem? hx), (by rw [xs_snoc hnl, left_snoc, if_neg (by rw [h276]; decide), ← hn]; exact (Nat.add_zero n).symm), (by rw [xs_snoc hnl, any_snoc, hbx, Bool.or_false]; exact hw), (by omega), (by rw [List.length_append]; have : ([x] : List HC).length = 1 := rfl; omega), K31, H273, H33, H34, H35, H36⟩, (show l.length - (ii + 1) < l.length - ii from by omega)⟩
 ·rw [h37]
  have p289 := of_decide_eq_false h37
  have hXm : XS LX nu = lookedH (l.map HC.c) := by rw [List.take_of_length_le (by rw [List.length_map]; omega)] at hX; exact hX
  refine qr_exit (id := 0) (by kernel_rfl) ?_
  refine rsQ ?_
  refine qr_block (id := 2) (by kernel_rfl) ?_
  refine rsg Open.wide ?_
  refine og 1 [(2, .slice none 0 0), (3, .bool false), (4, i64 0), (5, ptr b1), (6, ptr b21), (7, i64 why), (53, ptr b1)] 1 ?_
  refine ogo (Value.slice A1 LX.length c1) 54 (rld 33 b1 0 H32) rfl ?_
  refine ogd 3 [(2, .slice none 0 0), (3, .bool false), (4, i64 0), (5, ptr b1), (6, ptr b21), (7, i64 why), (52, (Value.bool (decide (((LX.length : Nat) : Int) > 8))))] ?_
  refine rcQ 52 (decide (((LX.length : Nat) : Int) > 8)) rfl (fun h290 => ?_) (fun h290 => ?_)
  ·rw [h290]
   have p291 := of_decide_eq_true h290
   refine rsg Open.wide ?_
   refine ogd 3 [(2, .slice none 0 0), (3, .bool false), (4, i64 3), (5, ptr b1), (6, ptr b21), (7, i64 why)] ?_
   refine rtQ ?_
   refine retR_none (v := (Value.tuple #[(Value.slice none 0 0), (Value.bool false), (i64 3)])) (retv_tmp3 rfl rfl rfl rfl) ?_
   exact ⟨[], none, 0, false, 3, rfl, K31, Rd.nil _ _, order_size (by rw [← hXm, xs_len hnl]; omega)⟩
  ·rw [h290]
   have p292 := of_decide_eq_false h290
   refine rsg Open.wide ?_
   refine ogd 3 [(2, .slice none 0 0), (3, .bool false), (4, i64 0), (5, ptr b1), (6, ptr b21), (7, i64 why), (57, .bool (why != 0))] ?_
   refine rcQ 57 (why != 0) rfl (fun h293 => ?_) (fun h293 => ?_)
   ·rw [h293]
    have p294 := of_bne_t h293
    have hany : (XS LX nu).any (fun c => badH c.1) = true := by cases hq : (XS LX nu).any (fun c => badH c.1) with | true => rfl | false => rw [hq, if_neg (by decide)] at hw; omega
    refine rsg Open.wide ?_
    refine ogd 4 [(2, .slice none 0 0), (3, .bool false), (4, i64 why), (5, ptr b1), (6, ptr b21)] ?_
    refine rtQ ?_
    refine retR_none (v := (Value.tuple #[(Value.slice none 0 0), (Value.bool false), (i64 why)])) (retv_tmp3 rfl rfl rfl rfl) ?_
    have hw1 : why = 1 := by rw [hany, if_pos rfl] at hw; exact hw
    exact ⟨[], none, 0, false, why, rfl, K31, Rd.nil _ _, by rw [hw1]; exact order_bad (by rw [← hXm, xs_len hnl]; omega) (by rw [← hXm]; exact hany)⟩
   ·rw [h293]
    have p295 := of_bne_f h293
    have hany : (XS LX nu).any (fun c => badH c.1) = false := by cases hq : (XS LX nu).any (fun c => badH c.1) with | true => rw [hq, if_pos rfl] at hw; omega | false => rfl
    refine rkQ ?_
    refine qr_keep (R := [(5, ptr b1), (6, ptr b21)]) (by kernel_rfl) ?_
    obtain ⟨f0, R0, hf0, hrun0, hR0⟩ := order_end hXm hnl (fun c hc => by obtain ⟨z, hz, e⟩ := List.mem_map.1 hc; rw [← e]; exact ho z hz) (by omega) (by rw [← hXm]; exact hany)
    have hs0 : startH (XS LX nu) = StC.m (⟨[], none, 0, 0, ((n : Nat) : Int), b7, ([], [])⟩ : StC) := by unfold startH leftH StC.m; rw [← hn]
    have hnb : b7 ≠ mb8 ∧ b7 ≠ kb9 ∧ mb8 ≠ kb9 := by omega
    have hI0 : Imm w30 110 68 73 (fun i => i < w30.heap.size) b1 A1 c1 LX A2 c2 nu true (⟨[], none, 0, 0, ((n : Nat) : Int), b7, ([], [])⟩ : StC) b21 [(⟨[], none, 0, 0, ((n : Nat) : Int), b7, ([], [])⟩ : StC)] ([] : List Nat) := { pool := ⟨fun z hz => by rw [List.mem_singleton.1 hz]; exact ⟨Rd.nil _ _, fun i hi => (by cases hi), mb8, kb9, [], H33, H34, H35, hnb, LBook.nil, H33.lt, H34.lt, H35.lt⟩, fun i hi => hi⟩, h5 := H32, f5 := H32.lt, rl := OwnT.rd hOP, fl := fun i hi => (World.ownsRow.lt hOP i hi).2, ra := OwnT.rd hOQ, fa := fun i hi => (World.ownsRow.lt hOQ i hi).2, rows := ⟨G, ⟨fun z hz => (RowsE.keep hG K31 (fun _ _ h => h)).1 z (hsub z hz), fun z hz => hG.2.1 z (hsub z hz), (RowsE.keep hG K31 (fun _ _ h => h)).2.2⟩, (RowsE.keep hG K31 (fun _ _ h => h)).2.2⟩, tcell := fun _ => H36, ft := H36.lt, defs := DefsW.nil _, fd := fun D h => (by cases h) }
    exact Order_tail w w30 b1 b21 b7 f0 A1 c1 LX A2 c2 nu _ R0 _ K31 hI0 hnl (fun z hz => ho z (hsub z hz)) (by omega) (by rw [← hs0]; exact SrOk.start _) hf0 (by rw [← hs0]; exact hrun0) (fun e w' ⟨o, A, c, ok, he, hk, hr, hR⟩ => ⟨o, A, c, ok, 0, he, hk, hr, hR0 o ok hR⟩)
end Go.Proofs.YtnbcghbgeiocbaaDoor
namespace Go.Proofs.YtnbcghbgeiocbaaDoor
open Go.Q Go.RowKit
theorem Linear_calls (w : World) (LA : Option Addr) (lc : Nat) (l : List HC) (G : Nat → Prop) (hL : RdT w 13 HC.cells (Value.slice LA l.length lc) l) (hG : RowsE w HC.rv HC.rows G l) (ho : ∀ x ∈ l, -9223372036854775808 ≤ x.c.op.amount ∧ x.c.op.amount ≤ 9223372036854775807) (hl : l.length ≤ 2000) : Calls Tryd.prog 14 ⟨[(Value.slice LA l.length lc)]⟩ w (fun e w' => ∃ (ok : Bool) (why : Int), e = .returned (.tuple #[.bool ok, i64 why]) ∧ Keeps none_ w w' ∧ (ok, why) = (orderH (l.map HC.c)).2) := by
 have K0 : Keeps none_ w w := Keeps.refl w
 refine q_calls Tryd.func14 (by kernel_rfl) (by kernel_rfl) ?_
 refine qsg ?_
 refine odz 2 ?_
 refine qsg ?_
 refine og 1 [(2, .bool false), (3, i64 0), (8, .slice LA l.length lc)] 1 ?_
 refine ocQ 9 (Order_calls _ LA lc l G (Rd.keep0 (by decide) hL K0) (RowsE.keep hG K0 (fun _ _ h => h)) ho hl) ?_
 rintro _ w7 ⟨o1, A2, c3, ok4, why5, rfl, K6, hR8, hE9⟩
 refine ⟨_, _, rfl, rfl, ?_⟩
 replace K0 := K0.t0 K6
 clear K6
 refine odz 7 ?_
 refine qsg ?_
 refine ogd 4 [(2, .bool ok4), (3, i64 why5)] ?_
 refine qtQ ?_
 refine ⟨(Value.tuple #[(Value.bool ok4), (i64 why5)]), retv_tmp2 rfl rfl rfl, ?_⟩
 exact ⟨ok4, why5, rfl, K0, by rw [← hE9]⟩
end Go.Proofs.YtnbcghbgeiocbaaDoor
namespace Go.Proofs.YtnbcghbgeiocbaaDoor
open Go.Q Go.RowKit
theorem known_calls (w : World)   : Calls Tryd.prog 10 ⟨[]⟩ w (fun e w' => e = .returned (.bool true) ∧ Keeps none_ w w') := by
 have K0 : Keeps none_ w w := Keeps.refl w
 refine q_calls Tryd.func10 (by kernel_rfl) (by kernel_rfl) ?_
 refine qsg ?_
 refine odz 1 ?_
 refine qsg ?_
 refine og 1 [(0, .bool false), (12, (agg [(i64 1), (Value.string (str [97, 110, 110])), (Value.string ByteArray.empty), (i64 0), (Value.string (str [107])), (i64 0), (i64 0)]))] 1 ?_
 refine onew (rowL [(i64 0), (Value.string ByteArray.empty), (Value.string ByteArray.empty), (i64 0), (Value.string ByteArray.empty), (i64 0), (i64 0)] 24) (fun b => (ptr b)) 1 (fun b => rfl) (fun b1 w2 hb3 H4 K5 hs6 => ?_)
 have nb1 : w.heap.size ≤ b1 := by have := K0.size; omega
 replace K0 := K0.t0 K5
 clear K5 hs6
 refine oput 24 b1 [(i64 1), (Value.string (str [97, 110, 110])), (Value.string ByteArray.empty), (i64 0), (Value.string (str [107])), (i64 0), (i64 0)] H4 rfl (fun w7 H8 K9 => ?_)
 clear H4
 replace K0 := K0.t1 K9 fun _ => by omega
 clear K9
 refine od ?_
 refine qsg ?_
 refine og 1 [(0, .bool false), (1, ptr b1), (13, (agg [(i64 5), (Value.string (str [97, 110, 110])), (Value.string ByteArray.empty), (i64 0), (Value.string ByteArray.empty), (i64 0), (i64 0)]))] 1 ?_
 refine onew (rowL [(i64 0), (Value.string ByteArray.empty), (Value.string ByteArray.empty), (i64 0), (Value.string ByteArray.empty), (i64 0), (i64 0)] 24) (fun b => (ptr b)) 2 (fun b => rfl) (fun b10 w11 hb12 H13 K14 hs15 => ?_)
 have lb10b1 : b1 < b10 := by have := H8.lt; omega
 have nb10 : w.heap.size ≤ b10 := by have := K0.size; omega
 replace K0 := K0.t0 K14
 replace H8 := H8.kn K14
 clear K14 hs15
 refine oput 24 b10 [(i64 5), (Value.string (str [97, 110, 110])), (Value.string ByteArray.empty), (i64 0), (Value.string ByteArray.empty), (i64 0), (i64 0)] H13 rfl (fun w16 H17 K18 => ?_)
 replace K0 := K0.t1 K18 fun _ => by omega
 replace H8 := H8.k1 K18 (by omega)
 refine od ?_
 refine qsg ?_
 refine og 1 [(0, .bool false), (1, ptr b1), (2, ptr b10), (14, (agg [(i64 40), (i64 0), (Value.slice none 0 0)]))] 1 ?_
 refine onew (rowL [(i64 0), (i64 0), (Value.slice none 0 0)] 28) (fun b => (ptr b)) 3 (fun b => rfl) (fun b19 w20 hb21 H22 K23 hs24 => ?_)
 have lb19b1 : b1 < b19 := by have := H8.lt; omega
 have lb19b10 : b10 < b19 := by have := H17.lt; omega
 have nb19 : w.heap.size ≤ b19 := by have := K0.size; omega
 replace K0 := K0.t0 K23
 replace H8 := H8.kn K23
 replace H17 := H17.kn K23
 clear K23 hs24
 refine oput 28 b19 [(i64 40), (i64 0), (Value.slice none 0 0)] H22 rfl (fun w25 H26 K27 => ?_)
 replace K0 := K0.t1 K27 fun _ => by omega
 replace H8 := H8.k1 K27 (by omega)
 replace H17 := H17.k1 K27 (by omega)
 refine od ?_
 refine qsg ?_
 refine ogo (agg [(i64 1), (Value.string (str [97, 110, 110])), (Value.string ByteArray.empty), (i64 0), (Value.string (str [107])), (i64 0), (i64 0)]) 16 (rld 24 b1 0 H8) rfl ?_
 refine og 1 [(0, .bool false), (1, ptr b1), (2, ptr b10), (3, ptr b19), (17, (agg [(i64 1), (Value.string (str [97, 110, 110])), (Value.string ByteArray.empty), (i64 0), (Value.string (str [107])), (i64 0), (i64 0), (i64 1), (i64 2), (Value.bool true), (i64 0), (i64 0), (Value.slice none 0 0)]))] 2 ?_
 refine ogo (agg [(i64 5), (Value.string (str [97, 110, 110])), (Value.string ByteArray.empty), (i64 0), (Value.string ByteArray.empty), (i64 0), (i64 0)]) 18 (rld 24 b10 0 H17) rfl ?_
 refine og 1 [(0, .bool false), (1, ptr b1), (2, ptr b10), (3, ptr b19), (17, (agg [(i64 1), (Value.string (str [97, 110, 110])), (Value.string ByteArray.empty), (i64 0), (Value.string (str [107])), (i64 0), (i64 0), (i64 1), (i64 2), (Value.bool true), (i64 0), (i64 0), (Value.slice none 0 0)])), (19, (agg [(i64 5), (Value.string (str [97, 110, 110])), (Value.string ByteArray.empty), (i64 0), (Value.string ByteArray.empty), (i64 0), (i64 0), (i64 3), (i64 4), (Value.bool true), (i64 0), (i64 0), (Value.slice none 0 0)]))] 4 ?_
 refine onew (rowL [(i64 1), (Value.string (str [97, 110, 110])), (Value.string ByteArray.empty), (i64 0), (Value.string (str [107])), (i64 0), (i64 0), (i64 1), (i64 2), (Value.bool true), (i64 0), (i64 0), (Value.slice none 0 0), (i64 5), (Value.string (str [97, 110, 110])), (Value.string ByteArray.empty), (i64 0), (Value.string ByteArray.empty), (i64 0), (i64 0), (i64 3), (i64 4), (Value.bool true), (i64 0), (i64 0), (Value.slice none 0 0)] 43) (fun b => (Value.slice (some ⟨b, 0, none⟩) 2 2)) 20 (fun b => rfl) (fun b28 w29 hb30 H31 K32 hs33 => ?_)
 have lb28b1 : b1 < b28 := by have := H8.lt; omega
 have lb28b10 : b10 < b28 := by have := H17.lt; omega
 have lb28b19 : b19 < b28 := by have := H26.lt; omega
 have nb28 : w.heap.size ≤ b28 := by have := K0.size; omega
 replace K0 := K0.t0 K32
 replace H8 := H8.kn K32
 replace H17 := H17.kn K32
 replace H26 := H26.kn K32
 clear K32 hs33
 have hk45 : orderH (List.map HC.c [(⟨⟨(⟨1, [97, 110, 110], ([] : List UInt8), 0, [107], 0, 0⟩ : Opm), 1, 2, true, ⟨0, 0, []⟩⟩, none, 0⟩ : HC), (⟨⟨(⟨5, [97, 110, 110], ([] : List UInt8), 0, ([] : List UInt8), 0, 0⟩ : Opm), 3, 4, true, ⟨0, 0, []⟩⟩, none, 0⟩ : HC)]) = ([0, 1], true, 0) := by kernel_rfl
 refine ocQ 21 (Order_calls _ (some ⟨b28, 0, none⟩) 2 [(⟨⟨(⟨1, [97, 110, 110], ([] : List UInt8), 0, [107], 0, 0⟩ : Opm), 1, 2, true, ⟨0, 0, []⟩⟩, none, 0⟩ : HC), (⟨⟨(⟨5, [97, 110, 110], ([] : List UInt8), 0, ([] : List UInt8), 0, 0⟩ : Opm), 3, 4, true, ⟨0, 0, []⟩⟩, none, 0⟩ : HC)] none_ (show RdT _ 13 HC.cells _ _ from Rd.lit H31 (n := 2) rfl (by decide)) (rowsE_nil (fun x hx => by rcases List.mem_cons.1 hx with rfl | hx; (exact ⟨rfl, rfl, rfl⟩); (rcases List.mem_cons.1 hx with rfl | hx; (exact ⟨rfl, rfl, rfl⟩); (cases hx)))) (fun x hx => by rcases List.mem_cons.1 hx with rfl | hx; (decide); (rcases List.mem_cons.1 hx with rfl | hx; (decide); (cases hx))) (by decide)) ?_
 rintro _ w42 ⟨o36, A37, c38, ok39, why40, rfl, K41, hR43, hE44⟩
 obtain ⟨rfl, e46⟩ := Prod.mk.inj (hE44.trans hk45)
 obtain ⟨rfl, rfl⟩ := Prod.mk.inj e46
 refine ⟨_, _, rfl, rfl, ?_⟩
 replace K0 := K0.t0 K41
 replace H8 := H8.kn K41
 replace H17 := H17.kn K41
 replace H26 := H26.kn K41
 replace H31 := H31.kn K41
 refine ogd 7 [(0, .bool false), (1, ptr b1), (2, ptr b10), (3, ptr b19), (4, (Value.slice A37 (([0, 1] : List Nat).length) c38)), (5, .bool true), (6, i64 0)] ?_
 refine qsg ?_
 refine ogo (agg [(i64 5), (Value.string (str [97, 110, 110])), (Value.string ByteArray.empty), (i64 0), (Value.string ByteArray.empty), (i64 0), (i64 0)]) 26 (rld 24 b10 0 H17) rfl ?_
 refine ogo (agg [(i64 40), (i64 0), (Value.slice none 0 0)]) 27 (rld 28 b19 0 H26) rfl ?_
 refine og 1 [(0, .bool false), (1, ptr b1), (2, ptr b10), (3, ptr b19), (4, (Value.slice A37 (([0, 1] : List Nat).length) c38)), (5, .bool true), (6, i64 0), (28, (agg [(i64 5), (Value.string (str [97, 110, 110])), (Value.string ByteArray.empty), (i64 0), (Value.string ByteArray.empty), (i64 0), (i64 0), (i64 1), (i64 4), (Value.bool true), (i64 40), (i64 0), (Value.slice none 0 0)]))] 3 ?_
 refine ogo (agg [(i64 1), (Value.string (str [97, 110, 110])), (Value.string ByteArray.empty), (i64 0), (Value.string (str [107])), (i64 0), (i64 0)]) 29 (rld 24 b1 0 H8) rfl ?_
 refine og 1 [(0, .bool false), (1, ptr b1), (2, ptr b10), (3, ptr b19), (4, (Value.slice A37 (([0, 1] : List Nat).length) c38)), (5, .bool true), (6, i64 0), (28, (agg [(i64 5), (Value.string (str [97, 110, 110])), (Value.string ByteArray.empty), (i64 0), (Value.string ByteArray.empty), (i64 0), (i64 0), (i64 1), (i64 4), (Value.bool true), (i64 40), (i64 0), (Value.slice none 0 0)])), (30, (agg [(i64 1), (Value.string (str [97, 110, 110])), (Value.string ByteArray.empty), (i64 0), (Value.string (str [107])), (i64 0), (i64 0), (i64 2), (i64 3), (Value.bool true), (i64 0), (i64 0), (Value.slice none 0 0)]))] 5 ?_
 refine onew (rowL [(i64 5), (Value.string (str [97, 110, 110])), (Value.string ByteArray.empty), (i64 0), (Value.string ByteArray.empty), (i64 0), (i64 0), (i64 1), (i64 4), (Value.bool true), (i64 40), (i64 0), (Value.slice none 0 0), (i64 1), (Value.string (str [97, 110, 110])), (Value.string ByteArray.empty), (i64 0), (Value.string (str [107])), (i64 0), (i64 0), (i64 2), (i64 3), (Value.bool true), (i64 0), (i64 0), (Value.slice none 0 0)] 43) (fun b => (Value.slice (some ⟨b, 0, none⟩) 2 2)) 31 (fun b => rfl) (fun b47 w48 hb49 H50 K51 hs52 => ?_)
 have lb47b1 : b1 < b47 := by have := H8.lt; omega
 have lb47b10 : b10 < b47 := by have := H17.lt; omega
 have lb47b19 : b19 < b47 := by have := H26.lt; omega
 have lb47b28 : b28 < b47 := by have := H31.lt; omega
 have nb47 : w.heap.size ≤ b47 := by have := K0.size; omega
 replace K0 := K0.t0 K51
 replace H8 := H8.kn K51
 replace H17 := H17.kn K51
 replace H26 := H26.kn K51
 replace H31 := H31.kn K51
 replace hR43 := (Rd.keep0 (by omega) hR43 K51)
 clear K51 hs52
 have hk64 : orderH (List.map HC.c [(⟨⟨(⟨5, [97, 110, 110], ([] : List UInt8), 0, ([] : List UInt8), 0, 0⟩ : Opm), 1, 4, true, ⟨40, 0, []⟩⟩, none, 0⟩ : HC), (⟨⟨(⟨1, [97, 110, 110], ([] : List UInt8), 0, [107], 0, 0⟩ : Opm), 2, 3, true, ⟨0, 0, []⟩⟩, none, 0⟩ : HC)]) = ([0, 1], true, 0) := by kernel_rfl
 refine ocQ 32 (Order_calls _ (some ⟨b47, 0, none⟩) 2 [(⟨⟨(⟨5, [97, 110, 110], ([] : List UInt8), 0, ([] : List UInt8), 0, 0⟩ : Opm), 1, 4, true, ⟨40, 0, []⟩⟩, none, 0⟩ : HC), (⟨⟨(⟨1, [97, 110, 110], ([] : List UInt8), 0, [107], 0, 0⟩ : Opm), 2, 3, true, ⟨0, 0, []⟩⟩, none, 0⟩ : HC)] none_ (show RdT _ 13 HC.cells _ _ from Rd.lit H50 (n := 2) rfl (by decide)) (rowsE_nil (fun x hx => by rcases List.mem_cons.1 hx with rfl | hx; (exact ⟨rfl, rfl, rfl⟩); (rcases List.mem_cons.1 hx with rfl | hx; (exact ⟨rfl, rfl, rfl⟩); (cases hx)))) (fun x hx => by rcases List.mem_cons.1 hx with rfl | hx; (decide); (rcases List.mem_cons.1 hx with rfl | hx; (decide); (cases hx))) (by decide)) ?_
 rintro _ w61 ⟨o55, A56, c57, ok58, why59, rfl, K60, hR62, hE63⟩
 obtain ⟨rfl, e65⟩ := Prod.mk.inj (hE63.trans hk64)
 obtain ⟨rfl, rfl⟩ := Prod.mk.inj e65
 refine ⟨_, _, rfl, rfl, ?_⟩
 replace K0 := K0.t0 K60
 replace H8 := H8.kn K60
 replace H17 := H17.kn K60
 replace H26 := H26.kn K60
 replace H31 := H31.kn K60
 replace H50 := H50.kn K60
 replace hR43 := (Rd.keep0 (by omega) hR43 K60)
 refine ogd 7 [(0, .bool false), (1, ptr b1), (2, ptr b10), (3, ptr b19), (4, (Value.slice A37 (([0, 1] : List Nat).length) c38)), (5, .bool true), (6, i64 0), (7, (Value.slice A56 (([0, 1] : List Nat).length) c57)), (8, .bool true), (9, i64 0)] ?_
 refine qsg ?_
 refine ogo (agg [(i64 1), (Value.string (str [97, 110, 110])), (Value.string ByteArray.empty), (i64 0), (Value.string (str [107])), (i64 0), (i64 0)]) 37 (rld 24 b1 0 H8) rfl ?_
 refine og 1 [(0, .bool false), (2, ptr b10), (3, ptr b19), (4, (Value.slice A37 (([0, 1] : List Nat).length) c38)), (5, .bool true), (6, i64 0), (7, (Value.slice A56 (([0, 1] : List Nat).length) c57)), (8, .bool true), (9, i64 0), (38, (agg [(i64 1), (Value.string (str [97, 110, 110])), (Value.string ByteArray.empty), (i64 0), (Value.string (str [107])), (i64 0), (i64 0), (i64 1), (i64 2), (Value.bool true), (i64 0), (i64 0), (Value.slice none 0 0)]))] 2 ?_
 refine ogo (agg [(i64 5), (Value.string (str [97, 110, 110])), (Value.string ByteArray.empty), (i64 0), (Value.string ByteArray.empty), (i64 0), (i64 0)]) 39 (rld 24 b10 0 H17) rfl ?_
 refine ogo (agg [(i64 40), (i64 0), (Value.slice none 0 0)]) 40 (rld 28 b19 0 H26) rfl ?_
 refine og 1 [(0, .bool false), (4, (Value.slice A37 (([0, 1] : List Nat).length) c38)), (5, .bool true), (6, i64 0), (7, (Value.slice A56 (([0, 1] : List Nat).length) c57)), (8, .bool true), (9, i64 0), (38, (agg [(i64 1), (Value.string (str [97, 110, 110])), (Value.string ByteArray.empty), (i64 0), (Value.string (str [107])), (i64 0), (i64 0), (i64 1), (i64 2), (Value.bool true), (i64 0), (i64 0), (Value.slice none 0 0)])), (41, (agg [(i64 5), (Value.string (str [97, 110, 110])), (Value.string ByteArray.empty), (i64 0), (Value.string ByteArray.empty), (i64 0), (i64 0), (i64 3), (i64 4), (Value.bool true), (i64 40), (i64 0), (Value.slice none 0 0)]))] 5 ?_
 refine onew (rowL [(i64 1), (Value.string (str [97, 110, 110])), (Value.string ByteArray.empty), (i64 0), (Value.string (str [107])), (i64 0), (i64 0), (i64 1), (i64 2), (Value.bool true), (i64 0), (i64 0), (Value.slice none 0 0), (i64 5), (Value.string (str [97, 110, 110])), (Value.string ByteArray.empty), (i64 0), (Value.string ByteArray.empty), (i64 0), (i64 0), (i64 3), (i64 4), (Value.bool true), (i64 40), (i64 0), (Value.slice none 0 0)] 43) (fun b => (Value.slice (some ⟨b, 0, none⟩) 2 2)) 42 (fun b => rfl) (fun b66 w67 hb68 H69 K70 hs71 => ?_)
 have lb66b1 : b1 < b66 := by have := H8.lt; omega
 have lb66b10 : b10 < b66 := by have := H17.lt; omega
 have lb66b19 : b19 < b66 := by have := H26.lt; omega
 have lb66b28 : b28 < b66 := by have := H31.lt; omega
 have lb66b47 : b47 < b66 := by have := H50.lt; omega
 have nb66 : w.heap.size ≤ b66 := by have := K0.size; omega
 replace K0 := K0.t0 K70
 replace H8 := H8.kn K70
 replace H17 := H17.kn K70
 replace H26 := H26.kn K70
 replace H31 := H31.kn K70
 replace H50 := H50.kn K70
 replace hR43 := (Rd.keep0 (by omega) hR43 K70)
 replace hR62 := (Rd.keep0 (by omega) hR62 K70)
 clear K70 hs71
 have hk79 : orderH (List.map HC.c [(⟨⟨(⟨1, [97, 110, 110], ([] : List UInt8), 0, [107], 0, 0⟩ : Opm), 1, 2, true, ⟨0, 0, []⟩⟩, none, 0⟩ : HC), (⟨⟨(⟨5, [97, 110, 110], ([] : List UInt8), 0, ([] : List UInt8), 0, 0⟩ : Opm), 3, 4, true, ⟨40, 0, []⟩⟩, none, 0⟩ : HC)]) = ([], false, 0) := by kernel_rfl
 refine ocQ 43 (Linear_calls _ (some ⟨b66, 0, none⟩) 2 [(⟨⟨(⟨1, [97, 110, 110], ([] : List UInt8), 0, [107], 0, 0⟩ : Opm), 1, 2, true, ⟨0, 0, []⟩⟩, none, 0⟩ : HC), (⟨⟨(⟨5, [97, 110, 110], ([] : List UInt8), 0, ([] : List UInt8), 0, 0⟩ : Opm), 3, 4, true, ⟨40, 0, []⟩⟩, none, 0⟩ : HC)] none_ (show RdT _ 13 HC.cells _ _ from Rd.lit H69 (n := 2) rfl (by decide)) (rowsE_nil (fun x hx => by rcases List.mem_cons.1 hx with rfl | hx; (exact ⟨rfl, rfl, rfl⟩); (rcases List.mem_cons.1 hx with rfl | hx; (exact ⟨rfl, rfl, rfl⟩); (cases hx)))) (fun x hx => by rcases List.mem_cons.1 hx with rfl | hx; (decide); (rcases List.mem_cons.1 hx with rfl | hx; (decide); (cases hx))) (by decide)) ?_
 rintro _ w77 ⟨ok74, why75, rfl, K76, hE78⟩
 obtain ⟨rfl, rfl⟩ := Prod.mk.inj (hE78.trans (congrArg Prod.snd hk79))
 refine ⟨_, _, rfl, rfl, ?_⟩
 replace K0 := K0.t0 K76
 replace H8 := H8.kn K76
 replace H17 := H17.kn K76
 replace H26 := H26.kn K76
 replace H31 := H31.kn K76
 replace H50 := H50.kn K76
 replace H69 := H69.kn K76
 replace hR43 := (Rd.keep0 (by omega) hR43 K76)
 replace hR62 := (Rd.keep0 (by omega) hR62 K76)
 refine odz 5 ?_
 refine qsg ?_
 refine og 7 [(0, .bool false), (7, (Value.slice A56 (([0, 1] : List Nat).length) c57)), (8, .bool true), (9, i64 0), (10, .bool false), (11, i64 0), (51, .bool true), (52, (Value.slice A37 (([0, 1] : List Nat).length) c38))] 7 ?_
 refine onew (rowL [(i64 0), (i64 1)] 3) (fun b => (Value.slice (some ⟨b, 0, none⟩) 2 2)) 53 (fun b => rfl) (fun b80 w81 hb82 H83 K84 hs85 => ?_)
 have lb80b1 : b1 < b80 := by have := H8.lt; omega
 have lb80b10 : b10 < b80 := by have := H17.lt; omega
 have lb80b19 : b19 < b80 := by have := H26.lt; omega
 have lb80b28 : b28 < b80 := by have := H31.lt; omega
 have lb80b47 : b47 < b80 := by have := H50.lt; omega
 have lb80b66 : b66 < b80 := by have := H69.lt; omega
 have nb80 : w.heap.size ≤ b80 := by have := K0.size; omega
 replace K0 := K0.t0 K84
 replace H8 := H8.kn K84
 replace H17 := H17.kn K84
 replace H26 := H26.kn K84
 replace H31 := H31.kn K84
 replace H50 := H50.kn K84
 replace H69 := H69.kn K84
 replace hR43 := (Rd.keep0 (by omega) hR43 K84)
 replace hR62 := (Rd.keep0 (by omega) hR62 K84)
 clear K84 hs85
 refine ocQ 54 (sameN_calls _ A37 c38 ([0, 1] : List Nat) (some ⟨b80, 0, none⟩) 2 [0, 1] hR43 (show RdT _ 1 iN _ [0, 1] from Rd.lit H83 (n := 2) rfl (by decide))) ?_
 rintro _ w89 ⟨t86, rfl, ht87, K88⟩
 refine ⟨_, _, rfl, rfl, ?_⟩
 replace K0 := K0.t0 K88
 replace H8 := H8.kn K88
 replace H17 := H17.kn K88
 replace H26 := H26.kn K88
 replace H31 := H31.kn K88
 replace H50 := H50.kn K88
 replace H69 := H69.kn K88
 replace H83 := H83.kn K88
 replace hR62 := (Rd.keep0 (by omega) hR62 K88)
 refine og 2 [(0, .bool false), (7, (Value.slice A56 (([0, 1] : List Nat).length) c57)), (8, .bool true), (9, i64 0), (10, .bool false), (11, i64 0), (56, .bool t86)] 11 ?_
 have h90 : t86 = true := ht87.2 rfl
 rw [h90]
 refine og 8 [(0, .bool false), (10, .bool false), (11, i64 0), (63, .bool true), (64, (Value.slice A56 (([0, 1] : List Nat).length) c57))] 19 ?_
 refine onew (rowL [(i64 0), (i64 1)] 3) (fun b => (Value.slice (some ⟨b, 0, none⟩) 2 2)) 65 (fun b => rfl) (fun b91 w92 hb93 H94 K95 hs96 => ?_)
 have lb91b1 : b1 < b91 := by have := H8.lt; omega
 have lb91b10 : b10 < b91 := by have := H17.lt; omega
 have lb91b19 : b19 < b91 := by have := H26.lt; omega
 have lb91b28 : b28 < b91 := by have := H31.lt; omega
 have lb91b47 : b47 < b91 := by have := H50.lt; omega
 have lb91b66 : b66 < b91 := by have := H69.lt; omega
 have lb91b80 : b80 < b91 := by have := H83.lt; omega
 have nb91 : w.heap.size ≤ b91 := by have := K0.size; omega
 replace K0 := K0.t0 K95
 replace hR62 := (Rd.keep0 (by omega) hR62 K95)
 clear K95 hs96
 refine ocQ 66 (sameN_calls _ A56 c57 ([0, 1] : List Nat) (some ⟨b91, 0, none⟩) 2 [0, 1] hR62 (show RdT _ 1 iN _ [0, 1] from Rd.lit H94 (n := 2) rfl (by decide))) ?_
 rintro _ w100 ⟨t97, rfl, ht98, K99⟩
 refine ⟨_, _, rfl, rfl, ?_⟩
 replace K0 := K0.t0 K99
 refine og 2 [(0, .bool false), (10, .bool false), (11, i64 0), (68, .bool t97)] 23 ?_
 have h101 : t97 = true := ht98.2 rfl
 rw [h101]
 refine ogd 8 [(0, .bool true)] ?_
 refine qtQ ?_
 refine ⟨(Value.bool true), retv_tmp rfl rfl, ?_⟩
 exact ⟨rfl, K0⟩
end Go.Proofs.YtnbcghbgeiocbaaDoor
namespace Go.Proofs.YtnbcghbgeiocbaaDoor
open Go.Q Go.RowKit
set_option maxHeartbeats 4000000 in
theorem Records_calls (w : World) (A : Option Addr) (c : Nat) (l : List ActM) (hL : RdT w 12 ActM.cells (.slice A l.length c) l) (hLi : ∀ x ∈ l, x.In w) : Calls Tryd.prog 8 ⟨[(Value.slice A l.length c)]⟩ w (fun e w' => e = .returned (.bool true) ∧ Keeps none_ w w') := by
 have hcap := (RdT.len ActM.two (by decide) hL).2
 unfold maxLen at hcap
 have K0 : Keeps none_ w w := Keeps.refl w
 refine q_calls Tryd.func8 (by kernel_rfl) (by kernel_rfl) ?_
 refine qsg ?_
 refine ogd 1 [(0, .slice A l.length c), (2, .bool false)] ?_
 refine qsg ?_
 refine ocQ 15 (RecNew_calls _) ?_
 rintro _ w3 ⟨b1, rfl, K2, H4, nb5⟩
 have nb1 : w.heap.size ≤ b1 := by have := K0.size; omega
 refine ⟨_, _, rfl, rfl, ?_⟩
 replace K0 := K0.t0 K2
 clear K2
 refine odz 1 ?_
 refine qs ?_
 refine qsg ?_
 refine ogd 2 [(0, .slice A l.length c), (2, .bool false), (3, ptr b1), (17, .bool false)] ?_
 refine q_else (o := .tmp 17) (by kernel_rfl) rfl ?_
 refine qkQ ?_
 refine qsg ?_
 refine odz 1 ?_
 refine qsg ?_
 refine odz 1 ?_
 refine qs ?_
 refine qsg ?_
 refine ogd 1 [(0, .slice A l.length c), (2, .bool false), (3, ptr b1), (4, .slice none 0 0), (5, i64 0), (6, i64 0)] ?_
 refine q_block (id := 0) (by kernel_rfl) ?_
 refine q_keep (R := [(0, .slice A l.length c), (3, ptr b1), (4, .slice none 0 0), (5, i64 0), (6, i64 0)]) (by kernel_rfl) ?_
 refine q_loop (fun (gs : Nat × (Nat → Prop) × (List HC) × (Option Addr) × Nat × Nat) L (wx : World) => match gs with | (q1, F, q, WA, wc, nw) => L = [(0, (Value.slice A l.length c)), (3, (ptr b1)), (4, (Value.slice WA q.length wc)), (5, (i64 ((nw : Nat) : Int))), (6, (i64 ((q1 : Nat) : Int)))] ∧ OwnT wx w.heap.size 30 13 HC.cells (Value.slice WA q.length wc) q ∧ RecP wx F b1 103 43 (q.map HC.c) nw ∧ (∀ i, F i → w.heap.size ≤ i) ∧ (∀ i, Ow (.slice WA q.length wc) i → F i → False) ∧ (∀ z ∈ q, z.In w) ∧ q1 ≤ l.length ∧ q1 ≤ 100 ∧ nw ≤ q1 * 2002 ∧ Keeps none_ w wx) (fun (gs : Nat × (Nat → Prop) × (List HC) × (Option Addr) × Nat × Nat) => match gs with | (q1, F, q, WA, wc, nw) => l.length - q1) (0, (fun i => i = b1), [], none, 0, 0) (by kernel_rfl) ⟨rfl, (OwnT.nil _ _ _ _ _), (RecP.new H4), (fun i h => by have h : i = b1 := h; omega), (fun i h => by cases h), (fun z hz => by cases hz), Nat.zero_le _, Nat.zero_le _, Nat.zero_le _, K0⟩ ?_
 clear K0
 rintro ⟨q1, F, q, WA, wc, nw⟩ _ w6 ⟨rfl, hOV, hT, hlow, hVF, hin, hq1, hq2, hnw, K7⟩
 have hql : q.length ≤ 2000 := by have h := RecP.len hT; rw [List.length_map] at h; exact h
 refine qs ?_
 refine qsg ?_
 refine og 5 [(0, .slice A l.length c), (3, ptr b1), (4, .slice WA q.length wc), (5, i64 ↑nw), (6, i64 ↑q1), (22, (Value.bool (decide (((q1 : Nat) : Int) < ((l.length : Nat) : Int)))))] 5 ?_
 refine Ops.split (decide (((q1 : Nat) : Int) < ((l.length : Nat) : Int))) (fun h8 => ?_) (fun h8 => ?_)
 ·rw [h8]
  have p9 := of_decide_eq_true h8
  refine ogd 3 [(0, .slice A l.length c), (3, ptr b1), (4, .slice WA q.length wc), (5, i64 ↑nw), (6, i64 ↑q1), (25, (Value.bool (decide (((q1 : Nat) : Int) < 100))))] ?_
  refine qcQ 25 (decide (((q1 : Nat) : Int) < 100)) rfl (fun h10 => ?_) (fun h10 => ?_)
  ·rw [h10]
   have p11 := of_decide_eq_true h10
   refine qkQ ?_
   refine qs ?_
   refine q_block (id := 1) (by kernel_rfl) ?_
   refine qsg ?_
   refine og 2 [(0, .slice A l.length c), (3, ptr b1), (4, .slice WA q.length wc), (5, i64 ↑nw), (6, i64 ↑q1), (28, .slice A l.length c), (29, i64 ↑q1)] 2 ?_
   obtain ⟨rb12, ro13, x, hA14, hx15⟩ := RdT.open (Rd.keep0 (by omega) hL K7) rfl (k := q1) (by omega)
   have hxi := hLi x (List.mem_of_getElem? hx15)
   have hxr := hxi.rlen
   refine Ops.go (by kernel_rfl) (Runs.ixSliceE (k := IntKind.i64) (t := 58) (len := l.length) (cap := c) (s := 12) (off' := ro13 + q1 * 12) (i := ((q1 : Nat) : Int)) hA14 (by kernel_rfl) (by kernel_rfl) (by omega) (by omega) (by omega)) (d := (some 30)) (by kernel_rfl) rfl ?_
   refine ogo (agg [(i64 x.kind), (i64 x.n), (i64 x.op.kind), (Value.string (str x.op.frm)), (Value.string (str x.op.to)), (i64 x.op.amount), (Value.string (str x.op.key)), (i64 x.op.slot), (i64 x.op.shard), (i64 x.rep.why), (i64 x.rep.amount), (Value.slice x.V x.rep.rows.length x.c)]) 31 (Runs.load (t := 62) (a := ⟨rb12, ro13 + q1 * 12, none⟩) (by kernel_rfl) (RdT.ld (f := ActM.cells) (x := x) ActM.two (Rd.keep0 (by omega) hL K7) (by kernel_rfl) (by kernel_rfl) hA14 hx15)) rfl ?_
   refine onew (rowL [(i64 0), (i64 0), (i64 0), (Value.string ByteArray.empty), (Value.string ByteArray.empty), (i64 0), (Value.string ByteArray.empty), (i64 0), (i64 0), (i64 0), (i64 0), (Value.slice none 0 0)] 62) (fun b => (ptr b)) 7 (fun b => rfl) (fun b16 w17 hb18 H19 K20 hs21 => ?_)
   have nb16 : w.heap.size ≤ b16 := by have := K7.size; omega
   have ob22 : ∀ i, Ow (.slice WA q.length wc) i → i < b16 := fun i hi => by have := (World.ownsRow.lt hOV i hi).2; omega
   have of23 : ∀ i, F i → i ≠ b16 := fun i hi => by have := RecP.lt hT i hi; omega
   replace K7 := K7.tn K20
   replace hOV := own_keep0 hOV K20
   replace hT := RecP.keep hT K20 (fun _ _ h => h)
   clear K20 hs21
   refine oput 62 b16 [(i64 x.kind), (i64 x.n), (i64 x.op.kind), (Value.string (str x.op.frm)), (Value.string (str x.op.to)), (i64 x.op.amount), (Value.string (str x.op.key)), (i64 x.op.slot), (i64 x.op.shard), (i64 x.rep.why), (i64 x.rep.amount), (Value.slice x.V x.rep.rows.length x.c)] H19 rfl (fun w24 H25 K26 => ?_)
   replace K7 := K7.t1 K26 fun _ => by omega
   replace hOV := own_keep hOV K26 (fun i hi => by have := ob22 i hi; omega)
   replace hT := RecP.keep hT K26 (fun i hi hs => by have hs : i = b16 := hs; have := of23 i hi; omega)
   refine od ?_
   refine qsg ?_
   refine odz 1 ?_
   refine qs ?_
   refine qsg ?_
   refine og 1 [(0, .slice A l.length c), (3, ptr b1), (4, .slice WA q.length wc), (5, i64 ↑nw), (6, i64 ↑q1), (7, ptr b16), (8, i64 0), (32, ptr b16)] 1 ?_
   refine ogo (i64 x.kind) 33 (rld 3 b16 0 H25) rfl ?_
   refine od ?_
   refine q_mono (Q := fun e2 L2 wm => e2 = .normal ∧ ∃ (tm : Nat) (nw2 : Nat) (F2 : Nat → Prop) (q2 : List HC) (WA2 : Option Addr) (wc2 : Nat), restrict L2 [0, 3, 4, 5, 6, 7, 8] = some [(0, (Value.slice A l.length c)), (3, (ptr b1)), (4, (Value.slice WA2 q2.length wc2)), (5, (i64 ((nw2 : Nat) : Int))), (6, (i64 ((q1 : Nat) : Int))), (7, (ptr b16)), (8, (i64 ((tm : Nat) : Int)))] ∧ Keeps none_ w wm ∧ Has wm b16 (rowL [(i64 x.kind), (i64 x.n), (i64 x.op.kind), (Value.string (str x.op.frm)), (Value.string (str x.op.to)), (i64 x.op.amount), (Value.string (str x.op.key)), (i64 x.op.slot), (i64 x.op.shard), (i64 x.rep.why), (i64 x.rep.amount), (Value.slice x.V x.rep.rows.length x.c)] 62) ∧ RecP wm F2 b1 103 43 (q2.map HC.c) nw2 ∧ OwnT wm w.heap.size 30 13 HC.cells (Value.slice WA2 q2.length wc2) q2 ∧ (∀ i, F2 i → w.heap.size ≤ i) ∧ (∀ i, Ow (.slice WA2 q2.length wc2) i → F2 i → False) ∧ (∀ z ∈ q2, z.In w) ∧ (∀ i, Ow (.slice WA2 q2.length wc2) i → i ≠ b16) ∧ (∀ i, F2 i → i ≠ b16) ∧ nw2 ≤ nw + 1 ∧ tm ≤ 2001 ∧ q2.length ≤ 2000) ?_ ?_
   ·skip
    refine q_block (id := 2) (by kernel_rfl) ?_
    refine qs ?_
    refine qsg ?_
    refine ogd 2 [(0, .slice A l.length c), (3, ptr b1), (4, .slice WA q.length wc), (5, i64 ↑nw), (6, i64 ↑q1), (7, ptr b16), (8, i64 0), (33, i64 x.kind), (34, .bool (x.kind == 0))] ?_
    refine qcQ 34 (x.kind == 0) rfl (fun h27 => ?_) (fun h27 => ?_)
    ·rw [h27]
     have p28 := of_beq_t h27
     refine qkQ ?_
     refine q_then (o := .tmp 34) (by kernel_rfl) rfl ?_
     refine qg ?_
     refine ogd 1 [(0, .slice A l.length c), (3, ptr b1), (4, .slice WA q.length wc), (5, i64 ↑nw), (6, i64 ↑q1), (7, ptr b16), (8, i64 1), (33, i64 x.kind), (34, .bool true)] ?_
     exact ⟨rfl, 1, nw, F, q, WA, wc, by kernel_rfl, K7, H25, hT, hOV, hlow, hVF, hin, (fun i hi => by have := ob22 i hi; omega), (fun i hi => by have := of23 i hi; omega), by omega, by omega, hql⟩
    ·rw [h27]
     have p29 := of_beq_f h27
     refine qg ?_
     refine ogd 2 [(0, .slice A l.length c), (3, ptr b1), (4, .slice WA q.length wc), (5, i64 ↑nw), (6, i64 ↑q1), (7, ptr b16), (8, i64 0), (33, i64 x.kind), (34, .bool (x.kind == 1))] ?_
     refine qcQ 34 (x.kind == 1) rfl (fun h30 => ?_) (fun h30 => ?_)
     ·rw [h30]
      have p31 := of_beq_t h30
      refine qg ?_
      refine ogd 1 [(0, .slice A l.length c), (3, ptr b1), (4, .slice WA q.length wc), (5, i64 ↑nw), (6, i64 ↑q1), (7, ptr b16), (8, i64 1), (33, i64 x.kind), (34, .bool true)] ?_
      exact ⟨rfl, 1, nw, F, q, WA, wc, by kernel_rfl, K7, H25, hT, hOV, hlow, hVF, hin, (fun i hi => by have := ob22 i hi; omega), (fun i hi => by have := of23 i hi; omega), by omega, by omega, hql⟩
     ·rw [h30]
      have p32 := of_beq_f h30
      refine qs ?_
      refine qsg ?_
      refine ogd 2 [(0, .slice A l.length c), (3, ptr b1), (4, .slice WA q.length wc), (5, i64 ↑nw), (6, i64 ↑q1), (7, ptr b16), (8, i64 0), (33, i64 x.kind), (34, .bool false), (37, .bool (x.kind == 2))] ?_
      refine qcQ 37 (x.kind == 2) rfl (fun h33 => ?_) (fun h33 => ?_)
      ·rw [h33]
       have p34 := of_beq_t h33
       refine qkQ ?_
       refine q_then (o := .tmp 37) (by kernel_rfl) rfl ?_
       refine qsg ?_
       refine og 1 [(0, .slice A l.length c), (3, ptr b1), (4, .slice WA q.length wc), (5, i64 ↑nw), (6, i64 ↑q1), (7, ptr b16), (8, i64 0), (33, i64 x.kind), (34, .bool false), (37, .bool true), (40, .pointer (some ⟨b16, 1, none⟩))] 1 ?_
       refine ogo (i64 x.n) 41 (rld 3 b16 1 H25) rfl ?_
       refine og 2 [(0, .slice A l.length c), (3, ptr b1), (4, .slice WA q.length wc), (5, i64 ↑nw), (6, i64 ↑q1), (7, ptr b16), (8, i64 0), (33, i64 x.kind), (34, .bool false), (37, .bool true), (43, (Value.bool (decide (x.n ≥ 0))))] 4 ?_
       refine Ops.split (decide (x.n ≥ 0)) (fun h35 => ?_) (fun h35 => ?_)
       ·rw [h35]
        have p36 := of_decide_eq_true h35
        refine og 1 [(0, .slice A l.length c), (3, ptr b1), (4, .slice WA q.length wc), (5, i64 ↑nw), (6, i64 ↑q1), (7, ptr b16), (8, i64 0), (33, i64 x.kind), (34, .bool false), (37, .bool true), (43, .bool true), (44, .pointer (some ⟨b16, 1, none⟩))] 5 ?_
        refine ogo (i64 x.n) 45 (rld 3 b16 1 H25) rfl ?_
        refine og 5 [(0, .slice A l.length c), (3, ptr b1), (4, .slice WA q.length wc), (5, i64 ↑nw), (6, i64 ↑q1), (7, ptr b16), (8, i64 0), (33, i64 x.kind), (34, .bool false), (37, .bool true), (50, (Value.bool (decide (x.n < ((q.length : Nat) : Int)))))] 11 ?_
        refine Ops.split (decide (x.n < ((q.length : Nat) : Int))) (fun h37 => ?_) (fun h37 => ?_)
        ·rw [h37]
         have p38 := of_decide_eq_true h37
         refine og 2 [(0, .slice A l.length c), (3, ptr b1), (4, .slice WA q.length wc), (5, i64 ↑nw), (6, i64 ↑q1), (7, ptr b16), (8, i64 0), (33, i64 x.kind), (34, .bool false), (37, .bool true), (50, .bool true), (51, .slice WA q.length wc), (52, .pointer (some ⟨b16, 1, none⟩))] 13 ?_
         refine ogo (i64 x.n) 53 (rld 3 b16 1 H25) rfl ?_
         obtain ⟨k9, hk9⟩ : ∃ k : Nat, x.n = ((k : Nat) : Int) := ⟨x.n.toNat, by omega⟩
         obtain ⟨y, hy⟩ : ∃ y, q[k9]? = some y := ⟨_, List.getElem?_eq_getElem (by omega)⟩
         obtain ⟨rb39, ro40, hA41⟩ := Rd.addr (OwnT.rd hOV) (by omega)
         refine Ops.go (by kernel_rfl) (Runs.ixSliceE (k := IntKind.i64) (t := 22) (len := q.length) (cap := wc) (s := 13) (off' := ro40 + k9 * 13) (i := x.n) hA41 (by kernel_rfl) (by kernel_rfl) (by omega) (by omega) (by omega)) (d := (some 54)) (by kernel_rfl) rfl ?_
         refine og 1 [(0, .slice A l.length c), (3, ptr b1), (4, .slice WA q.length wc), (5, i64 ↑nw), (6, i64 ↑q1), (7, ptr b16), (8, i64 0), (33, i64 x.kind), (34, .bool false), (37, .bool true), (50, .bool true), (55, .pointer (some ⟨rb39, ro40 + k9 * 13 + 9, none⟩))] 16 ?_
         refine ogo (Value.bool y.c.told) 56 (Runs.load (t := 4) (a := ⟨rb39, ro40 + k9 * 13 + 9, none⟩) (by kernel_rfl) (RdT.ldf (f := HC.cells) (x := y) (o := 9) HC.two (OwnT.rd hOV) (by kernel_rfl) hA41 hy rfl)) rfl ?_
         refine odz 3 ?_
         refine qs ?_
         refine qsg ?_
         refine ogd 1 [(0, .slice A l.length c), (3, ptr b1), (4, .slice WA q.length wc), (5, i64 ↑nw), (6, i64 ↑q1), (7, ptr b16), (8, i64 0), (9, .bool (!y.c.told)), (33, i64 x.kind), (34, .bool false), (37, .bool true), (59, .bool (!y.c.told))] ?_
         refine qcQ 59 (!y.c.told) rfl (fun h42 => ?_) (fun h42 => ?_)
         ·rw [h42]
          have p43 := bnot_true h42
          refine qsg ?_
          refine oid 3 (fun z => [(0, .slice A l.length c), (3, ptr b1), (4, .slice WA q.length wc), (5, i64 z), (6, i64 ↑q1), (7, ptr b16), (8, i64 0), (9, .bool true), (33, i64 x.kind), (34, .bool false), (37, .bool true)]) nw ?_
          refine qs ?_
          obtain ⟨gb, pre, suf, hA9, hgb, hp, HX0, hput⟩ := OwnT.mid HC.two (by decide) hy hOV
          have ngb : w.heap.size ≤ gb := hgb
          have HX : Has w24 gb (rowL (pre ++ (HC.cells y) ++ suf) 30) := HX0
          clear HX0
          have Hgl := HX.lt
          have dgbb16 : gb ≠ b16 := by have := ob22 gb (by rw [hA9]; rfl); omega
          have ogF : ∀ i, F i → i ≠ gb := fun i hi q => hVF gb (by rw [hA9]; rfl) (q ▸ hi)
          refine qg ?_
          refine og 2 [(0, .slice A l.length c), (3, ptr b1), (4, .slice WA q.length wc), (5, i64 ↑(nw + 1)), (6, i64 ↑q1), (7, ptr b16), (8, i64 0), (9, .bool true), (33, i64 x.kind), (34, .bool false), (37, .bool true), (62, .slice WA q.length wc), (63, .pointer (some ⟨b16, 1, none⟩))] 2 ?_
          refine ogo (i64 x.n) 64 (rld 3 b16 1 H25) rfl ?_
          refine Ops.go (by kernel_rfl) (Runs.ixSliceE (k := IntKind.i64) (t := 22) (len := q.length) (cap := wc) (s := 13) (off' := k9 * 13) (i := x.n) hA9 (by kernel_rfl) (by kernel_rfl) (by omega) (by omega) (by omega)) (d := (some 65)) (by kernel_rfl) rfl ?_
          refine og 1 [(0, .slice A l.length c), (3, ptr b1), (4, .slice WA q.length wc), (5, i64 ↑(nw + 1)), (6, i64 ↑q1), (7, ptr b16), (8, i64 0), (9, .bool true), (33, i64 x.kind), (34, .bool false), (37, .bool true), (66, .pointer (some ⟨gb, k9 * 13 + 9, none⟩))] 5 ?_
          refine Ops.put (t := 4) (b := gb) (off := k9 * 13 + 9) (v := (Value.bool true)) (ys := (pre ++ [(i64 y.c.op.kind), (Value.string (str y.c.op.frm)), (Value.string (str y.c.op.to)), (i64 y.c.op.amount), (Value.string (str y.c.op.key)), (i64 y.c.op.slot), (i64 y.c.op.shard), (i64 y.c.bg), (i64 y.c.en), (Value.bool true), (i64 y.c.rep.why), (i64 y.c.rep.amount), (Value.slice y.A y.c.rep.rows.length y.k)] ++ suf)) (by kernel_rfl) (by kernel_rfl) HX (storeC1 (by kernel_rfl) (by kernel_rfl) (Nat.lt_of_lt_of_le (Nat.lt_succ_self _) (mid_len (vs := [(Value.bool true)]) (k := 9) (by have := hp; omega) (Nat.le_of_ble_eq_true (by kernel_rfl)))) (mid_set1 (k := 9) (by have := hp; omega) (Nat.le_of_ble_eq_true (by kernel_rfl)))) (d := none) (by kernel_rfl) rfl (fun w45 H46 K47 => ?_)
          clear HX
          replace K7 := K7.t1 K47 fun _ => by omega
          replace H25 := H25.k1 K47 (by omega)
          replace hT := RecP.keep hT K47 (fun i hi hs => by have hs : i = gb := hs; have := ogF i hi; omega)
          refine od ?_
          refine qsg ?_
          refine og 2 [(0, .slice A l.length c), (3, ptr b1), (4, .slice WA q.length wc), (5, i64 ↑(nw + 1)), (6, i64 ↑q1), (7, ptr b16), (8, i64 0), (9, .bool true), (33, i64 x.kind), (34, .bool false), (37, .bool true), (67, .slice WA q.length wc), (68, .pointer (some ⟨b16, 1, none⟩))] 2 ?_
          refine ogo (i64 x.n) 69 (rld 3 b16 1 H25) rfl ?_
          refine og 1 [(0, .slice A l.length c), (3, ptr b1), (4, .slice WA q.length wc), (5, i64 ↑(nw + 1)), (6, i64 ↑q1), (7, ptr b16), (8, i64 0), (9, .bool true), (33, i64 x.kind), (34, .bool false), (37, .bool true), (67, .slice WA q.length wc), (69, i64 x.n), (70, i64 ↑(nw + 1))] 4 ?_
          refine Ops.go (by kernel_rfl) (Runs.ixSliceE (k := IntKind.i64) (t := 22) (len := q.length) (cap := wc) (s := 13) (off' := k9 * 13) (i := x.n) hA9 (by kernel_rfl) (by kernel_rfl) (by omega) (by omega) (by omega)) (d := (some 71)) (by kernel_rfl) rfl ?_
          refine og 1 [(0, .slice A l.length c), (3, ptr b1), (4, .slice WA q.length wc), (5, i64 ↑(nw + 1)), (6, i64 ↑q1), (7, ptr b16), (8, i64 0), (9, .bool true), (33, i64 x.kind), (34, .bool false), (37, .bool true), (70, i64 ↑(nw + 1)), (72, .pointer (some ⟨gb, k9 * 13 + 8, none⟩))] 6 ?_
          refine Ops.put (t := 3) (b := gb) (off := k9 * 13 + 8) (v := (i64 ((nw + 1 : Nat) : Int))) (ys := (pre ++ [(i64 y.c.op.kind), (Value.string (str y.c.op.frm)), (Value.string (str y.c.op.to)), (i64 y.c.op.amount), (Value.string (str y.c.op.key)), (i64 y.c.op.slot), (i64 y.c.op.shard), (i64 y.c.bg), (i64 ((nw + 1 : Nat) : Int)), (Value.bool true), (i64 y.c.rep.why), (i64 y.c.rep.amount), (Value.slice y.A y.c.rep.rows.length y.k)] ++ suf)) (by kernel_rfl) (by kernel_rfl) H46 (storeC1 (by kernel_rfl) (by kernel_rfl) (Nat.lt_of_lt_of_le (Nat.lt_succ_self _) (mid_len (vs := [(i64 ((nw + 1 : Nat) : Int))]) (k := 8) (by have := hp; omega) (Nat.le_of_ble_eq_true (by kernel_rfl)))) (mid_set1 (k := 8) (by have := hp; omega) (Nat.le_of_ble_eq_true (by kernel_rfl)))) (d := none) (by kernel_rfl) rfl (fun w48 H49 K50 => ?_)
          replace K7 := K7.t1 K50 fun _ => by omega
          replace H25 := H25.k1 K50 (by omega)
          replace hT := RecP.keep hT K50 (fun i hi hs => by have hs : i = gb := hs; have := ogF i hi; omega)
          refine od ?_
          refine qg ?_
          refine og 2 [(0, .slice A l.length c), (3, ptr b1), (4, .slice WA q.length wc), (5, i64 ↑(nw + 1)), (6, i64 ↑q1), (7, ptr b16), (8, i64 0), (9, .bool true), (33, i64 x.kind), (34, .bool false), (37, .bool true), (73, .slice WA q.length wc), (74, .pointer (some ⟨b16, 1, none⟩))] 2 ?_
          refine ogo (i64 x.n) 75 (rld 3 b16 1 H25) rfl ?_
          refine og 1 [(0, .slice A l.length c), (3, ptr b1), (4, .slice WA q.length wc), (5, i64 ↑(nw + 1)), (6, i64 ↑q1), (7, ptr b16), (8, i64 0), (9, .bool true), (33, i64 x.kind), (34, .bool false), (37, .bool true), (73, .slice WA q.length wc), (75, i64 x.n), (76, .pointer (some ⟨b16, 9, none⟩))] 4 ?_
          refine ogo (agg [(i64 x.rep.why), (i64 x.rep.amount), (Value.slice x.V x.rep.rows.length x.c)]) 77 (rld 28 b16 9 H25) rfl ?_
          refine Ops.go (by kernel_rfl) (Runs.ixSliceE (k := IntKind.i64) (t := 22) (len := q.length) (cap := wc) (s := 13) (off' := k9 * 13) (i := x.n) hA9 (by kernel_rfl) (by kernel_rfl) (by omega) (by omega) (by omega)) (d := (some 78)) (by kernel_rfl) rfl ?_
          refine og 1 [(0, .slice A l.length c), (3, ptr b1), (4, .slice WA q.length wc), (5, i64 ↑(nw + 1)), (6, i64 ↑q1), (7, ptr b16), (8, i64 0), (9, .bool true), (33, i64 x.kind), (34, .bool false), (37, .bool true), (77, (agg [(i64 x.rep.why), (i64 x.rep.amount), (Value.slice x.V x.rep.rows.length x.c)])), (79, .pointer (some ⟨gb, k9 * 13 + 10, none⟩))] 7 ?_
          refine Ops.put (t := 28) (b := gb) (off := k9 * 13 + 10) (v := (agg [(i64 x.rep.why), (i64 x.rep.amount), (Value.slice x.V x.rep.rows.length x.c)])) (ys := (pre ++ [(i64 y.c.op.kind), (Value.string (str y.c.op.frm)), (Value.string (str y.c.op.to)), (i64 y.c.op.amount), (Value.string (str y.c.op.key)), (i64 y.c.op.slot), (i64 y.c.op.shard), (i64 y.c.bg), (i64 ((nw + 1 : Nat) : Int)), (Value.bool true), (i64 x.rep.why), (i64 x.rep.amount), (Value.slice x.V x.rep.rows.length x.c)] ++ suf)) (by kernel_rfl) (by kernel_rfl) H49 (storeCN (vs := [(i64 x.rep.why), (i64 x.rep.amount), (Value.slice x.V x.rep.rows.length x.c)]) (by kernel_rfl) (by kernel_rfl) (mid_len (k := 10) (by have := hp; omega) (Nat.le_of_ble_eq_true (by kernel_rfl))) (mid_setN (k := 10) (by have := hp; omega) (Nat.le_of_ble_eq_true (by kernel_rfl)))) (d := none) (by kernel_rfl) rfl (fun w51 H52 K53 => ?_)
          replace K7 := K7.t1 K53 fun _ => by omega
          replace H25 := H25.k1 K53 (by omega)
          replace hT := RecP.keep hT K53 (fun i hi hs => by have hs : i = gb := hs; have := ogF i hi; omega)
          refine od ?_
          refine qs ?_
          have hD54 : OwnT w51 w.heap.size 30 13 HC.cells (Value.slice WA ((q.set k9 (⟨⟨y.c.op, y.c.bg, ((nw + 1 : Nat) : Int), true, x.rep⟩, x.V, x.c⟩ : HC)).length) wc) (q.set k9 (⟨⟨y.c.op, y.c.bg, ((nw + 1 : Nat) : Int), true, x.rep⟩, x.V, x.c⟩ : HC)) := by rw [List.length_set]; exact hput (⟨⟨y.c.op, y.c.bg, ((nw + 1 : Nat) : Int), true, x.rep⟩, x.V, x.c⟩ : HC) _ H52
          have ob55 : ∀ i, ((Value.slice WA ((q.set k9 (⟨⟨y.c.op, y.c.bg, ((nw + 1 : Nat) : Int), true, x.rep⟩, x.V, x.c⟩ : HC)).length) wc)).ownBlock = some i → i ≠ b16 := fun i hi => by have := ob22 i (ownN.trans hi); omega
          have oo56 : ∀ i, ((Value.slice WA ((q.set k9 (⟨⟨y.c.op, y.c.bg, ((nw + 1 : Nat) : Int), true, x.rep⟩, x.V, x.c⟩ : HC)).length) wc)).ownBlock = some i → F i → False := fun i hi => hVF i (ownN.trans hi)
          rw [show (Value.slice WA q.length wc) = (Value.slice WA ((q.set k9 (⟨⟨y.c.op, y.c.bg, ((nw + 1 : Nat) : Int), true, x.rep⟩, x.V, x.c⟩ : HC)).length) wc) from by rw [List.length_set]]
          refine qg ?_
          refine og 2 [(0, .slice A l.length c), (3, ptr b1), (4, (Value.slice WA ((q.set k9 (⟨⟨y.c.op, y.c.bg, ((nw + 1 : Nat) : Int), true, x.rep⟩, x.V, x.c⟩ : HC)).length) wc)), (5, i64 ↑(nw + 1)), (6, i64 ↑q1), (7, ptr b16), (8, i64 0), (9, .bool true), (33, i64 x.kind), (34, .bool false), (37, .bool true), (80, ptr b1), (81, .pointer (some ⟨b16, 1, none⟩))] 2 ?_
          refine ogo (i64 x.n) 82 (rld 3 b16 1 H25) rfl ?_
          refine og 1 [(0, .slice A l.length c), (3, ptr b1), (4, (Value.slice WA ((q.set k9 (⟨⟨y.c.op, y.c.bg, ((nw + 1 : Nat) : Int), true, x.rep⟩, x.V, x.c⟩ : HC)).length) wc)), (5, i64 ↑(nw + 1)), (6, i64 ↑q1), (7, ptr b16), (8, i64 0), (9, .bool true), (33, i64 x.kind), (34, .bool false), (37, .bool true), (80, ptr b1), (82, i64 x.n), (83, .pointer (some ⟨b16, 9, none⟩))] 4 ?_
          refine ogo (agg [(i64 x.rep.why), (i64 x.rep.amount), (Value.slice x.V x.rep.rows.length x.c)]) 84 (rld 28 b16 9 H25) rfl ?_
          have ss62 : ∀ i, F i → ((Value.slice WA ((q.set k9 (⟨⟨y.c.op, y.c.bg, ((nw + 1 : Nat) : Int), true, x.rep⟩, x.V, x.c⟩ : HC)).length) wc)).ownBlock = some i → False := fun i h1 h2 => oo56 i h2 h1
          refine ocQ 85 (RecTold_in2 _ F b1 nw q x.n x.rep.why x.rep.amount x.V x.c x.rep.rows hT (by omega) (Rd.keep0 (by decide) hxi.rows K7) (fun hn i hi hf => by have z1 := RdR.blk_lt hxi.rows hn i hi; have z2 := hlow i hf; omega) hxi.rlen k9 y hk9 hy (bnot_true h42)) ?_
          rintro _ w58 ⟨F57, rfl, K59, hT60, hg61⟩
          have of63 : ∀ i, F57 i → i ≠ b16 := fun i hi => (hg61 i hi).elim (fun h => by have := of23 i h; omega) (fun h => by have := H25.lt; omega)
          have oo64 : ∀ i, ((Value.slice WA ((q.set k9 (⟨⟨y.c.op, y.c.bg, ((nw + 1 : Nat) : Int), true, x.rep⟩, x.V, x.c⟩ : HC)).length) wc)).ownBlock = some i → F57 i → False := fun i hs hi => (hg61 i hi).elim (fun h => oo56 i hs h) (fun h => by have := (World.ownsRow.lt hD54 i hs).2; omega)
          have low66 : ∀ i, F57 i → w.heap.size ≤ i := fun i hi => (hg61 i hi).elim (fun h => hlow i h) (fun h => Nat.le_trans K7.size h)
          refine ⟨_, _, rfl, rfl, ?_⟩
          replace K7 := K7.trans K59 (U := none_) (fun i h1 h2 => h2) (fun i h1 h2 => by have h2 : F i := h2; exfalso; have := hlow i h2; omega)
          replace H25 := H25.keep K59 (by intro h; change F b16 at h; have := of23 b16 h; omega)
          clear hT
          replace hD54 := own_keep hD54 K59 (fun i hi hs => by have hs : F i := hs; exact ss62 i hs hi)
          refine ogd 2 [(0, .slice A l.length c), (3, ptr b1), (4, (Value.slice WA ((q.set k9 (⟨⟨y.c.op, y.c.bg, ((nw + 1 : Nat) : Int), true, x.rep⟩, x.V, x.c⟩ : HC)).length) wc)), (5, i64 ↑(nw + 1)), (6, i64 ↑q1), (7, ptr b16), (8, i64 0), (33, i64 x.kind), (34, .bool false), (37, .bool true), (87, .bool false)] ?_
          refine q_else (o := .tmp 87) (by kernel_rfl) rfl ?_
          refine qkQ ?_
          exact ⟨rfl, 0, (nw + 1), F57, (q.set k9 (⟨⟨y.c.op, y.c.bg, ((nw + 1 : Nat) : Int), true, x.rep⟩, x.V, x.c⟩ : HC)), WA, wc, by kernel_rfl, K7, H25, hT60, hD54, low66, oo64, (fun z hz => (List.mem_or_eq_of_mem_set hz).elim (hin z) (fun h => by rw [h]; exact ⟨hxi.rows, hxi.rlen⟩)), (fun i hi => by have := ob55 i hi; omega), (fun i hi => by have := of63 i hi; omega), by omega, by omega, (by rw [List.length_set]; omega)⟩
         ·rw [h42]
          have p67 := bnot_false h42
          refine qkQ ?_
          refine qsg ?_
          refine og 2 [(0, .slice A l.length c), (3, ptr b1), (4, .slice WA q.length wc), (5, i64 ↑nw), (6, i64 ↑q1), (7, ptr b16), (8, i64 0), (9, .bool false), (33, i64 x.kind), (34, .bool false), (37, .bool true), (80, ptr b1), (81, .pointer (some ⟨b16, 1, none⟩))] 2 ?_
          refine ogo (i64 x.n) 82 (rld 3 b16 1 H25) rfl ?_
          refine og 1 [(0, .slice A l.length c), (3, ptr b1), (4, .slice WA q.length wc), (5, i64 ↑nw), (6, i64 ↑q1), (7, ptr b16), (8, i64 0), (9, .bool false), (33, i64 x.kind), (34, .bool false), (37, .bool true), (80, ptr b1), (82, i64 x.n), (83, .pointer (some ⟨b16, 9, none⟩))] 4 ?_
          refine ogo (agg [(i64 x.rep.why), (i64 x.rep.amount), (Value.slice x.V x.rep.rows.length x.c)]) 84 (rld 28 b16 9 H25) rfl ?_
          have ss73 : ∀ i, F i → Ow (.slice WA q.length wc) i → False := fun i h1 h2 => hVF i h2 h1
          refine ocQ 85 (RecTold_is2 _ F b1 nw q x.n x.rep.why x.rep.amount x.V x.c x.rep.rows hT (by omega) (Rd.keep0 (by decide) hxi.rows K7) (fun hn i hi hf => by have z1 := RdR.blk_lt hxi.rows hn i hi; have z2 := hlow i hf; omega) hxi.rlen k9 y hk9 hy (bnot_false h42)) ?_
          rintro _ w69 ⟨F68, rfl, K70, hT71, hg72⟩
          have of74 : ∀ i, F68 i → i ≠ b16 := fun i hi => (hg72 i hi).elim (fun h => by have := of23 i h; omega) (fun h => by have := H25.lt; omega)
          have oo75 : ∀ i, Ow (.slice WA q.length wc) i → F68 i → False := fun i hs hi => (hg72 i hi).elim (fun h => hVF i hs h) (fun h => by have := (World.ownsRow.lt hOV i hs).2; omega)
          have low77 : ∀ i, F68 i → w.heap.size ≤ i := fun i hi => (hg72 i hi).elim (fun h => hlow i h) (fun h => Nat.le_trans K7.size h)
          refine ⟨_, _, rfl, rfl, ?_⟩
          replace K7 := K7.trans K70 (U := none_) (fun i h1 h2 => h2) (fun i h1 h2 => by have h2 : F i := h2; exfalso; have := hlow i h2; omega)
          replace H25 := H25.keep K70 (by intro h; change F b16 at h; have := of23 b16 h; omega)
          replace hOV := own_keep hOV K70 (fun i hi hs => by have hs : F i := hs; exact ss73 i hs hi)
          clear hT
          refine ogd 2 [(0, .slice A l.length c), (3, ptr b1), (4, .slice WA q.length wc), (5, i64 ↑nw), (6, i64 ↑q1), (7, ptr b16), (8, i64 0), (33, i64 x.kind), (34, .bool false), (37, .bool true), (87, .bool false)] ?_
          refine q_else (o := .tmp 87) (by kernel_rfl) rfl ?_
          refine qkQ ?_
          exact ⟨rfl, 0, nw, F68, q, WA, wc, by kernel_rfl, K7, H25, hT71, hOV, low77, oo75, hin, (fun i hi => by have := ob22 i hi; omega), (fun i hi => by have := of74 i hi; omega), by omega, by omega, hql⟩
        ·rw [h37]
         have p78 := of_decide_eq_false h37
         refine odz 9 ?_
         refine qs ?_
         refine qsg ?_
         refine ogd 1 [(0, .slice A l.length c), (3, ptr b1), (4, .slice WA q.length wc), (5, i64 ↑nw), (6, i64 ↑q1), (7, ptr b16), (8, i64 0), (9, .bool false), (33, i64 x.kind), (34, .bool false), (37, .bool true), (59, .bool false)] ?_
         refine q_else (o := .tmp 59) (by kernel_rfl) rfl ?_
         refine qkQ ?_
         refine qsg ?_
         refine og 2 [(0, .slice A l.length c), (3, ptr b1), (4, .slice WA q.length wc), (5, i64 ↑nw), (6, i64 ↑q1), (7, ptr b16), (8, i64 0), (9, .bool false), (33, i64 x.kind), (34, .bool false), (37, .bool true), (80, ptr b1), (81, .pointer (some ⟨b16, 1, none⟩))] 2 ?_
         refine ogo (i64 x.n) 82 (rld 3 b16 1 H25) rfl ?_
         refine og 1 [(0, .slice A l.length c), (3, ptr b1), (4, .slice WA q.length wc), (5, i64 ↑nw), (6, i64 ↑q1), (7, ptr b16), (8, i64 0), (9, .bool false), (33, i64 x.kind), (34, .bool false), (37, .bool true), (80, ptr b1), (82, i64 x.n), (83, .pointer (some ⟨b16, 9, none⟩))] 4 ?_
         refine ogo (agg [(i64 x.rep.why), (i64 x.rep.amount), (Value.slice x.V x.rep.rows.length x.c)]) 84 (rld 28 b16 9 H25) rfl ?_
         have ss84 : ∀ i, F i → Ow (.slice WA q.length wc) i → False := fun i h1 h2 => hVF i h2 h1
         refine ocQ 85 (RecTold_no2 _ F b1 nw q x.n x.rep.why x.rep.amount x.V x.c x.rep.rows hT (by omega) (Rd.keep0 (by decide) hxi.rows K7) (fun hn i hi hf => by have z1 := RdR.blk_lt hxi.rows hn i hi; have z2 := hlow i hf; omega) hxi.rlen (by omega)) ?_
         rintro _ w80 ⟨F79, rfl, K81, hT82, hg83⟩
         have of85 : ∀ i, F79 i → i ≠ b16 := fun i hi => (hg83 i hi).elim (fun h => by have := of23 i h; omega) (fun h => by have := H25.lt; omega)
         have oo86 : ∀ i, Ow (.slice WA q.length wc) i → F79 i → False := fun i hs hi => (hg83 i hi).elim (fun h => hVF i hs h) (fun h => by have := (World.ownsRow.lt hOV i hs).2; omega)
         have low88 : ∀ i, F79 i → w.heap.size ≤ i := fun i hi => (hg83 i hi).elim (fun h => hlow i h) (fun h => Nat.le_trans K7.size h)
         refine ⟨_, _, rfl, rfl, ?_⟩
         replace K7 := K7.trans K81 (U := none_) (fun i h1 h2 => h2) (fun i h1 h2 => by have h2 : F i := h2; exfalso; have := hlow i h2; omega)
         replace H25 := H25.keep K81 (by intro h; change F b16 at h; have := of23 b16 h; omega)
         replace hOV := own_keep hOV K81 (fun i hi hs => by have hs : F i := hs; exact ss84 i hs hi)
         clear hT
         refine ogd 2 [(0, .slice A l.length c), (3, ptr b1), (4, .slice WA q.length wc), (5, i64 ↑nw), (6, i64 ↑q1), (7, ptr b16), (8, i64 0), (33, i64 x.kind), (34, .bool false), (37, .bool true), (87, .bool false)] ?_
         refine q_else (o := .tmp 87) (by kernel_rfl) rfl ?_
         refine qkQ ?_
         exact ⟨rfl, 0, nw, F79, q, WA, wc, by kernel_rfl, K7, H25, hT82, hOV, low88, oo86, hin, (fun i hi => by have := ob22 i hi; omega), (fun i hi => by have := of85 i hi; omega), by omega, by omega, hql⟩
       ·rw [h35]
        have p89 := of_decide_eq_false h35
        refine odz 16 ?_
        refine qs ?_
        refine qsg ?_
        refine ogd 1 [(0, .slice A l.length c), (3, ptr b1), (4, .slice WA q.length wc), (5, i64 ↑nw), (6, i64 ↑q1), (7, ptr b16), (8, i64 0), (9, .bool false), (33, i64 x.kind), (34, .bool false), (37, .bool true), (59, .bool false)] ?_
        refine q_else (o := .tmp 59) (by kernel_rfl) rfl ?_
        refine qkQ ?_
        refine qsg ?_
        refine og 2 [(0, .slice A l.length c), (3, ptr b1), (4, .slice WA q.length wc), (5, i64 ↑nw), (6, i64 ↑q1), (7, ptr b16), (8, i64 0), (9, .bool false), (33, i64 x.kind), (34, .bool false), (37, .bool true), (80, ptr b1), (81, .pointer (some ⟨b16, 1, none⟩))] 2 ?_
        refine ogo (i64 x.n) 82 (rld 3 b16 1 H25) rfl ?_
        refine og 1 [(0, .slice A l.length c), (3, ptr b1), (4, .slice WA q.length wc), (5, i64 ↑nw), (6, i64 ↑q1), (7, ptr b16), (8, i64 0), (9, .bool false), (33, i64 x.kind), (34, .bool false), (37, .bool true), (80, ptr b1), (82, i64 x.n), (83, .pointer (some ⟨b16, 9, none⟩))] 4 ?_
        refine ogo (agg [(i64 x.rep.why), (i64 x.rep.amount), (Value.slice x.V x.rep.rows.length x.c)]) 84 (rld 28 b16 9 H25) rfl ?_
        have ss95 : ∀ i, F i → Ow (.slice WA q.length wc) i → False := fun i h1 h2 => hVF i h2 h1
        refine ocQ 85 (RecTold_no2 _ F b1 nw q x.n x.rep.why x.rep.amount x.V x.c x.rep.rows hT (by omega) (Rd.keep0 (by decide) hxi.rows K7) (fun hn i hi hf => by have z1 := RdR.blk_lt hxi.rows hn i hi; have z2 := hlow i hf; omega) hxi.rlen (by omega)) ?_
        rintro _ w91 ⟨F90, rfl, K92, hT93, hg94⟩
        have of96 : ∀ i, F90 i → i ≠ b16 := fun i hi => (hg94 i hi).elim (fun h => by have := of23 i h; omega) (fun h => by have := H25.lt; omega)
        have oo97 : ∀ i, Ow (.slice WA q.length wc) i → F90 i → False := fun i hs hi => (hg94 i hi).elim (fun h => hVF i hs h) (fun h => by have := (World.ownsRow.lt hOV i hs).2; omega)
        have low99 : ∀ i, F90 i → w.heap.size ≤ i := fun i hi => (hg94 i hi).elim (fun h => hlow i h) (fun h => Nat.le_trans K7.size h)
        refine ⟨_, _, rfl, rfl, ?_⟩
        replace K7 := K7.trans K92 (U := none_) (fun i h1 h2 => h2) (fun i h1 h2 => by have h2 : F i := h2; exfalso; have := hlow i h2; omega)
        replace H25 := H25.keep K92 (by intro h; change F b16 at h; have := of23 b16 h; omega)
        replace hOV := own_keep hOV K92 (fun i hi hs => by have hs : F i := hs; exact ss95 i hs hi)
        clear hT
        refine ogd 2 [(0, .slice A l.length c), (3, ptr b1), (4, .slice WA q.length wc), (5, i64 ↑nw), (6, i64 ↑q1), (7, ptr b16), (8, i64 0), (33, i64 x.kind), (34, .bool false), (37, .bool true), (87, .bool false)] ?_
        refine q_else (o := .tmp 87) (by kernel_rfl) rfl ?_
        refine qkQ ?_
        exact ⟨rfl, 0, nw, F90, q, WA, wc, by kernel_rfl, K7, H25, hT93, hOV, low99, oo97, hin, (fun i hi => by have := ob22 i hi; omega), (fun i hi => by have := of96 i hi; omega), by omega, by omega, hql⟩
      ·rw [h33]
       have p100 := of_beq_f h33
       refine qg ?_
       refine ogd 2 [(0, .slice A l.length c), (3, ptr b1), (4, .slice WA q.length wc), (5, i64 ↑nw), (6, i64 ↑q1), (7, ptr b16), (8, i64 0), (33, i64 x.kind), (34, .bool false), (37, .bool (x.kind == 3))] ?_
       refine qcQ 37 (x.kind == 3) rfl (fun h101 => ?_) (fun h101 => ?_)
       ·rw [h101]
        have p102 := of_beq_t h101
        refine qsg ?_
        refine og 1 [(0, .slice A l.length c), (3, ptr b1), (4, .slice WA q.length wc), (5, i64 ↑nw), (6, i64 ↑q1), (7, ptr b16), (8, i64 0), (33, i64 x.kind), (34, .bool false), (37, .bool true), (40, .pointer (some ⟨b16, 1, none⟩))] 1 ?_
        refine ogo (i64 x.n) 41 (rld 3 b16 1 H25) rfl ?_
        refine og 2 [(0, .slice A l.length c), (3, ptr b1), (4, .slice WA q.length wc), (5, i64 ↑nw), (6, i64 ↑q1), (7, ptr b16), (8, i64 0), (33, i64 x.kind), (34, .bool false), (37, .bool true), (43, (Value.bool (decide (x.n ≥ 0))))] 4 ?_
        refine Ops.split (decide (x.n ≥ 0)) (fun h103 => ?_) (fun h103 => ?_)
        ·rw [h103]
         have p104 := of_decide_eq_true h103
         refine og 1 [(0, .slice A l.length c), (3, ptr b1), (4, .slice WA q.length wc), (5, i64 ↑nw), (6, i64 ↑q1), (7, ptr b16), (8, i64 0), (33, i64 x.kind), (34, .bool false), (37, .bool true), (43, .bool true), (44, .pointer (some ⟨b16, 1, none⟩))] 5 ?_
         refine ogo (i64 x.n) 45 (rld 3 b16 1 H25) rfl ?_
         refine og 5 [(0, .slice A l.length c), (3, ptr b1), (4, .slice WA q.length wc), (5, i64 ↑nw), (6, i64 ↑q1), (7, ptr b16), (8, i64 0), (33, i64 x.kind), (34, .bool false), (37, .bool true), (50, (Value.bool (decide (x.n < ((q.length : Nat) : Int)))))] 11 ?_
         refine Ops.split (decide (x.n < ((q.length : Nat) : Int))) (fun h105 => ?_) (fun h105 => ?_)
         ·rw [h105]
          have p106 := of_decide_eq_true h105
          refine og 2 [(0, .slice A l.length c), (3, ptr b1), (4, .slice WA q.length wc), (5, i64 ↑nw), (6, i64 ↑q1), (7, ptr b16), (8, i64 0), (33, i64 x.kind), (34, .bool false), (37, .bool true), (50, .bool true), (51, .slice WA q.length wc), (52, .pointer (some ⟨b16, 1, none⟩))] 13 ?_
          refine ogo (i64 x.n) 53 (rld 3 b16 1 H25) rfl ?_
          obtain ⟨k9, hk9⟩ : ∃ k : Nat, x.n = ((k : Nat) : Int) := ⟨x.n.toNat, by omega⟩
          obtain ⟨y, hy⟩ : ∃ y, q[k9]? = some y := ⟨_, List.getElem?_eq_getElem (by omega)⟩
          obtain ⟨rb107, ro108, hA109⟩ := Rd.addr (OwnT.rd hOV) (by omega)
          refine Ops.go (by kernel_rfl) (Runs.ixSliceE (k := IntKind.i64) (t := 22) (len := q.length) (cap := wc) (s := 13) (off' := ro108 + k9 * 13) (i := x.n) hA109 (by kernel_rfl) (by kernel_rfl) (by omega) (by omega) (by omega)) (d := (some 54)) (by kernel_rfl) rfl ?_
          refine og 1 [(0, .slice A l.length c), (3, ptr b1), (4, .slice WA q.length wc), (5, i64 ↑nw), (6, i64 ↑q1), (7, ptr b16), (8, i64 0), (33, i64 x.kind), (34, .bool false), (37, .bool true), (50, .bool true), (55, .pointer (some ⟨rb107, ro108 + k9 * 13 + 9, none⟩))] 16 ?_
          refine ogo (Value.bool y.c.told) 56 (Runs.load (t := 4) (a := ⟨rb107, ro108 + k9 * 13 + 9, none⟩) (by kernel_rfl) (RdT.ldf (f := HC.cells) (x := y) (o := 9) HC.two (OwnT.rd hOV) (by kernel_rfl) hA109 hy rfl)) rfl ?_
          refine odz 3 ?_
          refine qs ?_
          refine qsg ?_
          refine ogd 1 [(0, .slice A l.length c), (3, ptr b1), (4, .slice WA q.length wc), (5, i64 ↑nw), (6, i64 ↑q1), (7, ptr b16), (8, i64 0), (9, .bool (!y.c.told)), (33, i64 x.kind), (34, .bool false), (37, .bool true), (59, .bool (!y.c.told))] ?_
          refine qcQ 59 (!y.c.told) rfl (fun h110 => ?_) (fun h110 => ?_)
          ·rw [h110]
           have p111 := bnot_true h110
           refine qsg ?_
           refine oid 3 (fun z => [(0, .slice A l.length c), (3, ptr b1), (4, .slice WA q.length wc), (5, i64 z), (6, i64 ↑q1), (7, ptr b16), (8, i64 0), (9, .bool true), (33, i64 x.kind), (34, .bool false), (37, .bool true)]) nw ?_
           refine qs ?_
           obtain ⟨gb, pre, suf, hA9, hgb, hp, HX0, hput⟩ := OwnT.mid HC.two (by decide) hy hOV
           have ngb : w.heap.size ≤ gb := hgb
           have HX : Has w24 gb (rowL (pre ++ (HC.cells y) ++ suf) 30) := HX0
           clear HX0
           have Hgl := HX.lt
           have dgbb16 : gb ≠ b16 := by have := ob22 gb (by rw [hA9]; rfl); omega
           have ogF : ∀ i, F i → i ≠ gb := fun i hi q => hVF gb (by rw [hA9]; rfl) (q ▸ hi)
           refine qg ?_
           refine og 2 [(0, .slice A l.length c), (3, ptr b1), (4, .slice WA q.length wc), (5, i64 ↑(nw + 1)), (6, i64 ↑q1), (7, ptr b16), (8, i64 0), (9, .bool true), (33, i64 x.kind), (34, .bool false), (37, .bool true), (62, .slice WA q.length wc), (63, .pointer (some ⟨b16, 1, none⟩))] 2 ?_
           refine ogo (i64 x.n) 64 (rld 3 b16 1 H25) rfl ?_
           refine Ops.go (by kernel_rfl) (Runs.ixSliceE (k := IntKind.i64) (t := 22) (len := q.length) (cap := wc) (s := 13) (off' := k9 * 13) (i := x.n) hA9 (by kernel_rfl) (by kernel_rfl) (by omega) (by omega) (by omega)) (d := (some 65)) (by kernel_rfl) rfl ?_
           refine og 1 [(0, .slice A l.length c), (3, ptr b1), (4, .slice WA q.length wc), (5, i64 ↑(nw + 1)), (6, i64 ↑q1), (7, ptr b16), (8, i64 0), (9, .bool true), (33, i64 x.kind), (34, .bool false), (37, .bool true), (66, .pointer (some ⟨gb, k9 * 13 + 9, none⟩))] 5 ?_
           refine Ops.put (t := 4) (b := gb) (off := k9 * 13 + 9) (v := (Value.bool true)) (ys := (pre ++ [(i64 y.c.op.kind), (Value.string (str y.c.op.frm)), (Value.string (str y.c.op.to)), (i64 y.c.op.amount), (Value.string (str y.c.op.key)), (i64 y.c.op.slot), (i64 y.c.op.shard), (i64 y.c.bg), (i64 y.c.en), (Value.bool true), (i64 y.c.rep.why), (i64 y.c.rep.amount), (Value.slice y.A y.c.rep.rows.length y.k)] ++ suf)) (by kernel_rfl) (by kernel_rfl) HX (storeC1 (by kernel_rfl) (by kernel_rfl) (Nat.lt_of_lt_of_le (Nat.lt_succ_self _) (mid_len (vs := [(Value.bool true)]) (k := 9) (by have := hp; omega) (Nat.le_of_ble_eq_true (by kernel_rfl)))) (mid_set1 (k := 9) (by have := hp; omega) (Nat.le_of_ble_eq_true (by kernel_rfl)))) (d := none) (by kernel_rfl) rfl (fun w113 H114 K115 => ?_)
           clear HX
           replace K7 := K7.t1 K115 fun _ => by omega
           replace H25 := H25.k1 K115 (by omega)
           replace hT := RecP.keep hT K115 (fun i hi hs => by have hs : i = gb := hs; have := ogF i hi; omega)
           refine od ?_
           refine qsg ?_
           refine og 2 [(0, .slice A l.length c), (3, ptr b1), (4, .slice WA q.length wc), (5, i64 ↑(nw + 1)), (6, i64 ↑q1), (7, ptr b16), (8, i64 0), (9, .bool true), (33, i64 x.kind), (34, .bool false), (37, .bool true), (67, .slice WA q.length wc), (68, .pointer (some ⟨b16, 1, none⟩))] 2 ?_
           refine ogo (i64 x.n) 69 (rld 3 b16 1 H25) rfl ?_
           refine og 1 [(0, .slice A l.length c), (3, ptr b1), (4, .slice WA q.length wc), (5, i64 ↑(nw + 1)), (6, i64 ↑q1), (7, ptr b16), (8, i64 0), (9, .bool true), (33, i64 x.kind), (34, .bool false), (37, .bool true), (67, .slice WA q.length wc), (69, i64 x.n), (70, i64 ↑(nw + 1))] 4 ?_
           refine Ops.go (by kernel_rfl) (Runs.ixSliceE (k := IntKind.i64) (t := 22) (len := q.length) (cap := wc) (s := 13) (off' := k9 * 13) (i := x.n) hA9 (by kernel_rfl) (by kernel_rfl) (by omega) (by omega) (by omega)) (d := (some 71)) (by kernel_rfl) rfl ?_
           refine og 1 [(0, .slice A l.length c), (3, ptr b1), (4, .slice WA q.length wc), (5, i64 ↑(nw + 1)), (6, i64 ↑q1), (7, ptr b16), (8, i64 0), (9, .bool true), (33, i64 x.kind), (34, .bool false), (37, .bool true), (70, i64 ↑(nw + 1)), (72, .pointer (some ⟨gb, k9 * 13 + 8, none⟩))] 6 ?_
           refine Ops.put (t := 3) (b := gb) (off := k9 * 13 + 8) (v := (i64 ((nw + 1 : Nat) : Int))) (ys := (pre ++ [(i64 y.c.op.kind), (Value.string (str y.c.op.frm)), (Value.string (str y.c.op.to)), (i64 y.c.op.amount), (Value.string (str y.c.op.key)), (i64 y.c.op.slot), (i64 y.c.op.shard), (i64 y.c.bg), (i64 ((nw + 1 : Nat) : Int)), (Value.bool true), (i64 y.c.rep.why), (i64 y.c.rep.amount), (Value.slice y.A y.c.rep.rows.length y.k)] ++ suf)) (by kernel_rfl) (by kernel_rfl) H114 (storeC1 (by kernel_rfl) (by kernel_rfl) (Nat.lt_of_lt_of_le (Nat.lt_succ_self _) (mid_len (vs := [(i64 ((nw + 1 : Nat) : Int))]) (k := 8) (by have := hp; omega) (Nat.le_of_ble_eq_true (by kernel_rfl)))) (mid_set1 (k := 8) (by have := hp; omega) (Nat.le_of_ble_eq_true (by kernel_rfl)))) (d := none) (by kernel_rfl) rfl (fun w116 H117 K118 => ?_)
           replace K7 := K7.t1 K118 fun _ => by omega
           replace H25 := H25.k1 K118 (by omega)
           replace hT := RecP.keep hT K118 (fun i hi hs => by have hs : i = gb := hs; have := ogF i hi; omega)
           refine od ?_
           refine qg ?_
           refine og 2 [(0, .slice A l.length c), (3, ptr b1), (4, .slice WA q.length wc), (5, i64 ↑(nw + 1)), (6, i64 ↑q1), (7, ptr b16), (8, i64 0), (9, .bool true), (33, i64 x.kind), (34, .bool false), (37, .bool true), (73, .slice WA q.length wc), (74, .pointer (some ⟨b16, 1, none⟩))] 2 ?_
           refine ogo (i64 x.n) 75 (rld 3 b16 1 H25) rfl ?_
           refine og 1 [(0, .slice A l.length c), (3, ptr b1), (4, .slice WA q.length wc), (5, i64 ↑(nw + 1)), (6, i64 ↑q1), (7, ptr b16), (8, i64 0), (9, .bool true), (33, i64 x.kind), (34, .bool false), (37, .bool true), (73, .slice WA q.length wc), (75, i64 x.n), (76, .pointer (some ⟨b16, 9, none⟩))] 4 ?_
           refine ogo (agg [(i64 x.rep.why), (i64 x.rep.amount), (Value.slice x.V x.rep.rows.length x.c)]) 77 (rld 28 b16 9 H25) rfl ?_
           refine Ops.go (by kernel_rfl) (Runs.ixSliceE (k := IntKind.i64) (t := 22) (len := q.length) (cap := wc) (s := 13) (off' := k9 * 13) (i := x.n) hA9 (by kernel_rfl) (by kernel_rfl) (by omega) (by omega) (by omega)) (d := (some 78)) (by kernel_rfl) rfl ?_
           refine og 1 [(0, .slice A l.length c), (3, ptr b1), (4, .slice WA q.length wc), (5, i64 ↑(nw + 1)), (6, i64 ↑q1), (7, ptr b16), (8, i64 0), (9, .bool true), (33, i64 x.kind), (34, .bool false), (37, .bool true), (77, (agg [(i64 x.rep.why), (i64 x.rep.amount), (Value.slice x.V x.rep.rows.length x.c)])), (79, .pointer (some ⟨gb, k9 * 13 + 10, none⟩))] 7 ?_
           refine Ops.put (t := 28) (b := gb) (off := k9 * 13 + 10) (v := (agg [(i64 x.rep.why), (i64 x.rep.amount), (Value.slice x.V x.rep.rows.length x.c)])) (ys := (pre ++ [(i64 y.c.op.kind), (Value.string (str y.c.op.frm)), (Value.string (str y.c.op.to)), (i64 y.c.op.amount), (Value.string (str y.c.op.key)), (i64 y.c.op.slot), (i64 y.c.op.shard), (i64 y.c.bg), (i64 ((nw + 1 : Nat) : Int)), (Value.bool true), (i64 x.rep.why), (i64 x.rep.amount), (Value.slice x.V x.rep.rows.length x.c)] ++ suf)) (by kernel_rfl) (by kernel_rfl) H117 (storeCN (vs := [(i64 x.rep.why), (i64 x.rep.amount), (Value.slice x.V x.rep.rows.length x.c)]) (by kernel_rfl) (by kernel_rfl) (mid_len (k := 10) (by have := hp; omega) (Nat.le_of_ble_eq_true (by kernel_rfl))) (mid_setN (k := 10) (by have := hp; omega) (Nat.le_of_ble_eq_true (by kernel_rfl)))) (d := none) (by kernel_rfl) rfl (fun w119 H120 K121 => ?_)
           replace K7 := K7.t1 K121 fun _ => by omega
           replace H25 := H25.k1 K121 (by omega)
           replace hT := RecP.keep hT K121 (fun i hi hs => by have hs : i = gb := hs; have := ogF i hi; omega)
           refine od ?_
           refine qs ?_
           have hD122 : OwnT w119 w.heap.size 30 13 HC.cells (Value.slice WA ((q.set k9 (⟨⟨y.c.op, y.c.bg, ((nw + 1 : Nat) : Int), true, x.rep⟩, x.V, x.c⟩ : HC)).length) wc) (q.set k9 (⟨⟨y.c.op, y.c.bg, ((nw + 1 : Nat) : Int), true, x.rep⟩, x.V, x.c⟩ : HC)) := by rw [List.length_set]; exact hput (⟨⟨y.c.op, y.c.bg, ((nw + 1 : Nat) : Int), true, x.rep⟩, x.V, x.c⟩ : HC) _ H120
           have ob123 : ∀ i, ((Value.slice WA ((q.set k9 (⟨⟨y.c.op, y.c.bg, ((nw + 1 : Nat) : Int), true, x.rep⟩, x.V, x.c⟩ : HC)).length) wc)).ownBlock = some i → i ≠ b16 := fun i hi => by have := ob22 i (ownN.trans hi); omega
           have oo124 : ∀ i, ((Value.slice WA ((q.set k9 (⟨⟨y.c.op, y.c.bg, ((nw + 1 : Nat) : Int), true, x.rep⟩, x.V, x.c⟩ : HC)).length) wc)).ownBlock = some i → F i → False := fun i hi => hVF i (ownN.trans hi)
           rw [show (Value.slice WA q.length wc) = (Value.slice WA ((q.set k9 (⟨⟨y.c.op, y.c.bg, ((nw + 1 : Nat) : Int), true, x.rep⟩, x.V, x.c⟩ : HC)).length) wc) from by rw [List.length_set]]
           refine qg ?_
           refine og 2 [(0, .slice A l.length c), (3, ptr b1), (4, (Value.slice WA ((q.set k9 (⟨⟨y.c.op, y.c.bg, ((nw + 1 : Nat) : Int), true, x.rep⟩, x.V, x.c⟩ : HC)).length) wc)), (5, i64 ↑(nw + 1)), (6, i64 ↑q1), (7, ptr b16), (8, i64 0), (9, .bool true), (33, i64 x.kind), (34, .bool false), (37, .bool true), (80, ptr b1), (81, .pointer (some ⟨b16, 1, none⟩))] 2 ?_
           refine ogo (i64 x.n) 82 (rld 3 b16 1 H25) rfl ?_
           refine og 1 [(0, .slice A l.length c), (3, ptr b1), (4, (Value.slice WA ((q.set k9 (⟨⟨y.c.op, y.c.bg, ((nw + 1 : Nat) : Int), true, x.rep⟩, x.V, x.c⟩ : HC)).length) wc)), (5, i64 ↑(nw + 1)), (6, i64 ↑q1), (7, ptr b16), (8, i64 0), (9, .bool true), (33, i64 x.kind), (34, .bool false), (37, .bool true), (80, ptr b1), (82, i64 x.n), (83, .pointer (some ⟨b16, 9, none⟩))] 4 ?_
           refine ogo (agg [(i64 x.rep.why), (i64 x.rep.amount), (Value.slice x.V x.rep.rows.length x.c)]) 84 (rld 28 b16 9 H25) rfl ?_
           have ss130 : ∀ i, F i → ((Value.slice WA ((q.set k9 (⟨⟨y.c.op, y.c.bg, ((nw + 1 : Nat) : Int), true, x.rep⟩, x.V, x.c⟩ : HC)).length) wc)).ownBlock = some i → False := fun i h1 h2 => oo124 i h2 h1
           refine ocQ 85 (RecTold_in2 _ F b1 nw q x.n x.rep.why x.rep.amount x.V x.c x.rep.rows hT (by omega) (Rd.keep0 (by decide) hxi.rows K7) (fun hn i hi hf => by have z1 := RdR.blk_lt hxi.rows hn i hi; have z2 := hlow i hf; omega) hxi.rlen k9 y hk9 hy (bnot_true h110)) ?_
           rintro _ w126 ⟨F125, rfl, K127, hT128, hg129⟩
           have of131 : ∀ i, F125 i → i ≠ b16 := fun i hi => (hg129 i hi).elim (fun h => by have := of23 i h; omega) (fun h => by have := H25.lt; omega)
           have oo132 : ∀ i, ((Value.slice WA ((q.set k9 (⟨⟨y.c.op, y.c.bg, ((nw + 1 : Nat) : Int), true, x.rep⟩, x.V, x.c⟩ : HC)).length) wc)).ownBlock = some i → F125 i → False := fun i hs hi => (hg129 i hi).elim (fun h => oo124 i hs h) (fun h => by have := (World.ownsRow.lt hD122 i hs).2; omega)
           have low134 : ∀ i, F125 i → w.heap.size ≤ i := fun i hi => (hg129 i hi).elim (fun h => hlow i h) (fun h => Nat.le_trans K7.size h)
           refine ⟨_, _, rfl, rfl, ?_⟩
           replace K7 := K7.trans K127 (U := none_) (fun i h1 h2 => h2) (fun i h1 h2 => by have h2 : F i := h2; exfalso; have := hlow i h2; omega)
           replace H25 := H25.keep K127 (by intro h; change F b16 at h; have := of23 b16 h; omega)
           clear hT
           replace hD122 := own_keep hD122 K127 (fun i hi hs => by have hs : F i := hs; exact ss130 i hs hi)
           refine ogd 2 [(0, .slice A l.length c), (3, ptr b1), (4, (Value.slice WA ((q.set k9 (⟨⟨y.c.op, y.c.bg, ((nw + 1 : Nat) : Int), true, x.rep⟩, x.V, x.c⟩ : HC)).length) wc)), (5, i64 ↑(nw + 1)), (6, i64 ↑q1), (7, ptr b16), (8, i64 0), (33, i64 x.kind), (34, .bool false), (37, .bool true), (87, .bool false)] ?_
           refine q_else (o := .tmp 87) (by kernel_rfl) rfl ?_
           refine qkQ ?_
           exact ⟨rfl, 0, (nw + 1), F125, (q.set k9 (⟨⟨y.c.op, y.c.bg, ((nw + 1 : Nat) : Int), true, x.rep⟩, x.V, x.c⟩ : HC)), WA, wc, by kernel_rfl, K7, H25, hT128, hD122, low134, oo132, (fun z hz => (List.mem_or_eq_of_mem_set hz).elim (hin z) (fun h => by rw [h]; exact ⟨hxi.rows, hxi.rlen⟩)), (fun i hi => by have := ob123 i hi; omega), (fun i hi => by have := of131 i hi; omega), by omega, by omega, (by rw [List.length_set]; omega)⟩
          ·rw [h110]
           have p135 := bnot_false h110
           refine qkQ ?_
           refine qsg ?_
           refine og 2 [(0, .slice A l.length c), (3, ptr b1), (4, .slice WA q.length wc), (5, i64 ↑nw), (6, i64 ↑q1), (7, ptr b16), (8, i64 0), (9, .bool false), (33, i64 x.kind), (34, .bool false), (37, .bool true), (80, ptr b1), (81, .pointer (some ⟨b16, 1, none⟩))] 2 ?_
           refine ogo (i64 x.n) 82 (rld 3 b16 1 H25) rfl ?_
           refine og 1 [(0, .slice A l.length c), (3, ptr b1), (4, .slice WA q.length wc), (5, i64 ↑nw), (6, i64 ↑q1), (7, ptr b16), (8, i64 0), (9, .bool false), (33, i64 x.kind), (34, .bool false), (37, .bool true), (80, ptr b1), (82, i64 x.n), (83, .pointer (some ⟨b16, 9, none⟩))] 4 ?_
           refine ogo (agg [(i64 x.rep.why), (i64 x.rep.amount), (Value.slice x.V x.rep.rows.length x.c)]) 84 (rld 28 b16 9 H25) rfl ?_
           have ss141 : ∀ i, F i → Ow (.slice WA q.length wc) i → False := fun i h1 h2 => hVF i h2 h1
           refine ocQ 85 (RecTold_is2 _ F b1 nw q x.n x.rep.why x.rep.amount x.V x.c x.rep.rows hT (by omega) (Rd.keep0 (by decide) hxi.rows K7) (fun hn i hi hf => by have z1 := RdR.blk_lt hxi.rows hn i hi; have z2 := hlow i hf; omega) hxi.rlen k9 y hk9 hy (bnot_false h110)) ?_
           rintro _ w137 ⟨F136, rfl, K138, hT139, hg140⟩
           have of142 : ∀ i, F136 i → i ≠ b16 := fun i hi => (hg140 i hi).elim (fun h => by have := of23 i h; omega) (fun h => by have := H25.lt; omega)
           have oo143 : ∀ i, Ow (.slice WA q.length wc) i → F136 i → False := fun i hs hi => (hg140 i hi).elim (fun h => hVF i hs h) (fun h => by have := (World.ownsRow.lt hOV i hs).2; omega)
           have low145 : ∀ i, F136 i → w.heap.size ≤ i := fun i hi => (hg140 i hi).elim (fun h => hlow i h) (fun h => Nat.le_trans K7.size h)
           refine ⟨_, _, rfl, rfl, ?_⟩
           replace K7 := K7.trans K138 (U := none_) (fun i h1 h2 => h2) (fun i h1 h2 => by have h2 : F i := h2; exfalso; have := hlow i h2; omega)
           replace H25 := H25.keep K138 (by intro h; change F b16 at h; have := of23 b16 h; omega)
           replace hOV := own_keep hOV K138 (fun i hi hs => by have hs : F i := hs; exact ss141 i hs hi)
           clear hT
           refine ogd 2 [(0, .slice A l.length c), (3, ptr b1), (4, .slice WA q.length wc), (5, i64 ↑nw), (6, i64 ↑q1), (7, ptr b16), (8, i64 0), (33, i64 x.kind), (34, .bool false), (37, .bool true), (87, .bool false)] ?_
           refine q_else (o := .tmp 87) (by kernel_rfl) rfl ?_
           refine qkQ ?_
           exact ⟨rfl, 0, nw, F136, q, WA, wc, by kernel_rfl, K7, H25, hT139, hOV, low145, oo143, hin, (fun i hi => by have := ob22 i hi; omega), (fun i hi => by have := of142 i hi; omega), by omega, by omega, hql⟩
         ·rw [h105]
          have p146 := of_decide_eq_false h105
          refine odz 9 ?_
          refine qs ?_
          refine qsg ?_
          refine ogd 1 [(0, .slice A l.length c), (3, ptr b1), (4, .slice WA q.length wc), (5, i64 ↑nw), (6, i64 ↑q1), (7, ptr b16), (8, i64 0), (9, .bool false), (33, i64 x.kind), (34, .bool false), (37, .bool true), (59, .bool false)] ?_
          refine q_else (o := .tmp 59) (by kernel_rfl) rfl ?_
          refine qkQ ?_
          refine qsg ?_
          refine og 2 [(0, .slice A l.length c), (3, ptr b1), (4, .slice WA q.length wc), (5, i64 ↑nw), (6, i64 ↑q1), (7, ptr b16), (8, i64 0), (9, .bool false), (33, i64 x.kind), (34, .bool false), (37, .bool true), (80, ptr b1), (81, .pointer (some ⟨b16, 1, none⟩))] 2 ?_
          refine ogo (i64 x.n) 82 (rld 3 b16 1 H25) rfl ?_
          refine og 1 [(0, .slice A l.length c), (3, ptr b1), (4, .slice WA q.length wc), (5, i64 ↑nw), (6, i64 ↑q1), (7, ptr b16), (8, i64 0), (9, .bool false), (33, i64 x.kind), (34, .bool false), (37, .bool true), (80, ptr b1), (82, i64 x.n), (83, .pointer (some ⟨b16, 9, none⟩))] 4 ?_
          refine ogo (agg [(i64 x.rep.why), (i64 x.rep.amount), (Value.slice x.V x.rep.rows.length x.c)]) 84 (rld 28 b16 9 H25) rfl ?_
          have ss152 : ∀ i, F i → Ow (.slice WA q.length wc) i → False := fun i h1 h2 => hVF i h2 h1
          refine ocQ 85 (RecTold_no2 _ F b1 nw q x.n x.rep.why x.rep.amount x.V x.c x.rep.rows hT (by omega) (Rd.keep0 (by decide) hxi.rows K7) (fun hn i hi hf => by have z1 := RdR.blk_lt hxi.rows hn i hi; have z2 := hlow i hf; omega) hxi.rlen (by omega)) ?_
          rintro _ w148 ⟨F147, rfl, K149, hT150, hg151⟩
          have of153 : ∀ i, F147 i → i ≠ b16 := fun i hi => (hg151 i hi).elim (fun h => by have := of23 i h; omega) (fun h => by have := H25.lt; omega)
          have oo154 : ∀ i, Ow (.slice WA q.length wc) i → F147 i → False := fun i hs hi => (hg151 i hi).elim (fun h => hVF i hs h) (fun h => by have := (World.ownsRow.lt hOV i hs).2; omega)
          have low156 : ∀ i, F147 i → w.heap.size ≤ i := fun i hi => (hg151 i hi).elim (fun h => hlow i h) (fun h => Nat.le_trans K7.size h)
          refine ⟨_, _, rfl, rfl, ?_⟩
          replace K7 := K7.trans K149 (U := none_) (fun i h1 h2 => h2) (fun i h1 h2 => by have h2 : F i := h2; exfalso; have := hlow i h2; omega)
          replace H25 := H25.keep K149 (by intro h; change F b16 at h; have := of23 b16 h; omega)
          replace hOV := own_keep hOV K149 (fun i hi hs => by have hs : F i := hs; exact ss152 i hs hi)
          clear hT
          refine ogd 2 [(0, .slice A l.length c), (3, ptr b1), (4, .slice WA q.length wc), (5, i64 ↑nw), (6, i64 ↑q1), (7, ptr b16), (8, i64 0), (33, i64 x.kind), (34, .bool false), (37, .bool true), (87, .bool false)] ?_
          refine q_else (o := .tmp 87) (by kernel_rfl) rfl ?_
          refine qkQ ?_
          exact ⟨rfl, 0, nw, F147, q, WA, wc, by kernel_rfl, K7, H25, hT150, hOV, low156, oo154, hin, (fun i hi => by have := ob22 i hi; omega), (fun i hi => by have := of153 i hi; omega), by omega, by omega, hql⟩
        ·rw [h103]
         have p157 := of_decide_eq_false h103
         refine odz 16 ?_
         refine qs ?_
         refine qsg ?_
         refine ogd 1 [(0, .slice A l.length c), (3, ptr b1), (4, .slice WA q.length wc), (5, i64 ↑nw), (6, i64 ↑q1), (7, ptr b16), (8, i64 0), (9, .bool false), (33, i64 x.kind), (34, .bool false), (37, .bool true), (59, .bool false)] ?_
         refine q_else (o := .tmp 59) (by kernel_rfl) rfl ?_
         refine qkQ ?_
         refine qsg ?_
         refine og 2 [(0, .slice A l.length c), (3, ptr b1), (4, .slice WA q.length wc), (5, i64 ↑nw), (6, i64 ↑q1), (7, ptr b16), (8, i64 0), (9, .bool false), (33, i64 x.kind), (34, .bool false), (37, .bool true), (80, ptr b1), (81, .pointer (some ⟨b16, 1, none⟩))] 2 ?_
         refine ogo (i64 x.n) 82 (rld 3 b16 1 H25) rfl ?_
         refine og 1 [(0, .slice A l.length c), (3, ptr b1), (4, .slice WA q.length wc), (5, i64 ↑nw), (6, i64 ↑q1), (7, ptr b16), (8, i64 0), (9, .bool false), (33, i64 x.kind), (34, .bool false), (37, .bool true), (80, ptr b1), (82, i64 x.n), (83, .pointer (some ⟨b16, 9, none⟩))] 4 ?_
         refine ogo (agg [(i64 x.rep.why), (i64 x.rep.amount), (Value.slice x.V x.rep.rows.length x.c)]) 84 (rld 28 b16 9 H25) rfl ?_
         have ss163 : ∀ i, F i → Ow (.slice WA q.length wc) i → False := fun i h1 h2 => hVF i h2 h1
         refine ocQ 85 (RecTold_no2 _ F b1 nw q x.n x.rep.why x.rep.amount x.V x.c x.rep.rows hT (by omega) (Rd.keep0 (by decide) hxi.rows K7) (fun hn i hi hf => by have z1 := RdR.blk_lt hxi.rows hn i hi; have z2 := hlow i hf; omega) hxi.rlen (by omega)) ?_
         rintro _ w159 ⟨F158, rfl, K160, hT161, hg162⟩
         have of164 : ∀ i, F158 i → i ≠ b16 := fun i hi => (hg162 i hi).elim (fun h => by have := of23 i h; omega) (fun h => by have := H25.lt; omega)
         have oo165 : ∀ i, Ow (.slice WA q.length wc) i → F158 i → False := fun i hs hi => (hg162 i hi).elim (fun h => hVF i hs h) (fun h => by have := (World.ownsRow.lt hOV i hs).2; omega)
         have low167 : ∀ i, F158 i → w.heap.size ≤ i := fun i hi => (hg162 i hi).elim (fun h => hlow i h) (fun h => Nat.le_trans K7.size h)
         refine ⟨_, _, rfl, rfl, ?_⟩
         replace K7 := K7.trans K160 (U := none_) (fun i h1 h2 => h2) (fun i h1 h2 => by have h2 : F i := h2; exfalso; have := hlow i h2; omega)
         replace H25 := H25.keep K160 (by intro h; change F b16 at h; have := of23 b16 h; omega)
         replace hOV := own_keep hOV K160 (fun i hi hs => by have hs : F i := hs; exact ss163 i hs hi)
         clear hT
         refine ogd 2 [(0, .slice A l.length c), (3, ptr b1), (4, .slice WA q.length wc), (5, i64 ↑nw), (6, i64 ↑q1), (7, ptr b16), (8, i64 0), (33, i64 x.kind), (34, .bool false), (37, .bool true), (87, .bool false)] ?_
         refine q_else (o := .tmp 87) (by kernel_rfl) rfl ?_
         refine qkQ ?_
         exact ⟨rfl, 0, nw, F158, q, WA, wc, by kernel_rfl, K7, H25, hT161, hOV, low167, oo165, hin, (fun i hi => by have := ob22 i hi; omega), (fun i hi => by have := of164 i hi; omega), by omega, by omega, hql⟩
       ·rw [h101]
        have p168 := of_beq_f h101
        refine qsg ?_
        refine ogd 2 [(0, .slice A l.length c), (3, ptr b1), (4, .slice WA q.length wc), (5, i64 ↑nw), (6, i64 ↑q1), (7, ptr b16), (8, i64 0), (34, .bool false), (37, .bool false), (88, .bool (x.kind == 4))] ?_
        refine qcQ 88 (x.kind == 4) rfl (fun h169 => ?_) (fun h169 => ?_)
        ·rw [h169]
         have p170 := of_beq_t h169
         refine qg ?_
         refine ogd 1 [(0, .slice A l.length c), (3, ptr b1), (4, .slice WA q.length wc), (5, i64 ↑nw), (6, i64 ↑q1), (7, ptr b16), (8, i64 2001), (34, .bool false), (37, .bool false)] ?_
         exact ⟨rfl, 2001, nw, F, q, WA, wc, by kernel_rfl, K7, H25, hT, hOV, hlow, hVF, hin, (fun i hi => by have := ob22 i hi; omega), (fun i hi => by have := of23 i hi; omega), by omega, by omega, hql⟩
        ·rw [h169]
         have p171 := of_beq_f h169
         refine qkQ ?_
         exact ⟨rfl, 0, nw, F, q, WA, wc, by kernel_rfl, K7, H25, hT, hOV, hlow, hVF, hin, (fun i hi => by have := ob22 i hi; omega), (fun i hi => by have := of23 i hi; omega), by omega, by omega, hql⟩
   ·skip
    rintro _ L2 w172 ⟨rfl, tm, nw2, F2, q2, WA2, wc2, hL9, hc9, H9, hT2, hO2, hlow2, hVF2, hin2, hob2, hFb2, hnw2, htm2, hql2⟩
    refine q_keep (R := [(0, .slice A l.length c), (3, ptr b1), (4, .slice WA2 q2.length wc2), (5, i64 ↑nw2), (6, i64 ↑q1), (7, ptr b16), (8, i64 ↑tm)]) hL9 ?_
    have nb9 : w.heap.size ≤ b16 := nb16
    refine qsg ?_
    refine ogd 1 [(0, .slice A l.length c), (3, ptr b1), (4, .slice WA2 q2.length wc2), (5, i64 ↑nw2), (6, i64 ↑q1), (7, ptr b16), (8, i64 ↑tm), (10, i64 0)] ?_
    refine q_block (id := 3) (by kernel_rfl) ?_
    refine q_keep (R := [(0, .slice A l.length c), (3, ptr b1), (4, .slice WA2 q2.length wc2), (5, i64 ↑nw2), (6, i64 ↑q1), (7, ptr b16), (8, i64 ↑tm), (10, i64 0)]) (by kernel_rfl) ?_
    refine q_loop (fun (gs : Nat × (Nat → Prop) × (List HC) × (Option Addr) × Nat × Nat) L (wx : World) => match gs with | (j5, F5, q5, WA5, wc5, nw5) => L = [(0, (Value.slice A l.length c)), (3, (ptr b1)), (4, (Value.slice WA5 q5.length wc5)), (5, (i64 ((nw5 : Nat) : Int))), (6, (i64 ((q1 : Nat) : Int))), (7, (ptr b16)), (8, (i64 ((tm : Nat) : Int))), (10, (i64 ((j5 : Nat) : Int)))] ∧ OwnT wx w.heap.size 30 13 HC.cells (Value.slice WA5 q5.length wc5) q5 ∧ (∀ i, Ow (.slice WA5 q5.length wc5) i → i ≠ b16) ∧ RecP wx F5 b1 103 43 (q5.map HC.c) nw5 ∧ (∀ i, F5 i → w.heap.size ≤ i) ∧ (∀ i, Ow (.slice WA5 q5.length wc5) i → F5 i → False) ∧ (∀ z ∈ q5, z.In w) ∧ j5 ≤ tm ∧ nw5 ≤ nw2 + j5 ∧ (∀ i, F5 i → i ≠ b16) ∧ Keeps none_ w wx ∧ Has wx b16 (rowL [(i64 x.kind), (i64 x.n), (i64 x.op.kind), (Value.string (str x.op.frm)), (Value.string (str x.op.to)), (i64 x.op.amount), (Value.string (str x.op.key)), (i64 x.op.slot), (i64 x.op.shard), (i64 x.rep.why), (i64 x.rep.amount), (Value.slice x.V x.rep.rows.length x.c)] 62)) (fun (gs : Nat × (Nat → Prop) × (List HC) × (Option Addr) × Nat × Nat) => match gs with | (j5, F5, q5, WA5, wc5, nw5) => tm - j5) (0, F2, q2, WA2, wc2, nw2) (by kernel_rfl) ⟨rfl, hO2, hob2, hT2, hlow2, hVF2, hin2, Nat.zero_le _, (Nat.le_refl _), hFb2, hc9, H9⟩ ?_
    clear H9 hO2 hT2 hc9
    rintro ⟨j5, F5, q5, WA5, wc5, nw5⟩ _ w173 ⟨rfl, hOV, obVb16, hT5, hlow5, hVF5, hin5, hj5, hnw5, hFb5, K174, H175⟩
    have hql5 : q5.length ≤ 2000 := by have h := RecP.len hT5; rw [List.length_map] at h; exact h
    refine qs ?_
    refine qsg ?_
    refine ogd 3 [(0, .slice A l.length c), (3, ptr b1), (4, .slice WA5 q5.length wc5), (5, i64 ↑nw5), (6, i64 ↑q1), (7, ptr b16), (8, i64 ↑tm), (10, i64 ↑j5), (92, (Value.bool (decide (((j5 : Nat) : Int) < ((tm : Nat) : Int)))))] ?_
    refine qcQ 92 (decide (((j5 : Nat) : Int) < ((tm : Nat) : Int))) rfl (fun h176 => ?_) (fun h176 => ?_)
    ·rw [h176]
     have p177 := of_decide_eq_true h176
     refine qkQ ?_
     refine qs ?_
     refine q_block (id := 4) (by kernel_rfl) ?_
     refine qsg ?_
     refine odz 1 ?_
     refine qs ?_
     refine qsg ?_
     refine ogd 3 [(0, .slice A l.length c), (3, ptr b1), (4, .slice WA5 q5.length wc5), (5, i64 ↑nw5), (6, i64 ↑q1), (7, ptr b16), (8, i64 ↑tm), (10, i64 ↑j5), (11, (i64 (-1))), (97, (Value.bool (decide (((q5.length : Nat) : Int) < 2000))))] ?_
     refine qcQ 97 (decide (((q5.length : Nat) : Int) < 2000)) rfl (fun h178 => ?_) (fun h178 => ?_)
     ·rw [h178]
      have p179 := of_decide_eq_true h178
      refine qsg ?_
      refine oid 3 (fun z => [(0, .slice A l.length c), (3, ptr b1), (4, .slice WA5 q5.length wc5), (5, i64 z), (6, i64 ↑q1), (7, ptr b16), (8, i64 ↑tm), (10, i64 ↑j5), (11, (i64 (-1)))]) nw5 ?_
      refine qsg ?_
      refine ogd 3 [(0, .slice A l.length c), (3, ptr b1), (4, .slice WA5 q5.length wc5), (5, i64 ↑(nw5 + 1)), (6, i64 ↑q1), (7, ptr b16), (8, i64 ↑tm), (10, i64 ↑j5), (11, i64 ↑q5.length)] ?_
      refine qg ?_
      refine og 2 [(0, .slice A l.length c), (3, ptr b1), (4, .slice WA5 q5.length wc5), (5, i64 ↑(nw5 + 1)), (6, i64 ↑q1), (7, ptr b16), (8, i64 ↑tm), (10, i64 ↑j5), (11, i64 ↑q5.length), (102, .slice WA5 q5.length wc5), (103, .pointer (some ⟨b16, 2, none⟩))] 2 ?_
      refine ogo (agg (Opm.cells x.op)) 104 (rld 24 b16 2 H175) rfl ?_
      refine og 2 [(0, .slice A l.length c), (3, ptr b1), (4, .slice WA5 q5.length wc5), (5, i64 ↑(nw5 + 1)), (6, i64 ↑q1), (7, ptr b16), (8, i64 ↑tm), (10, i64 ↑j5), (11, i64 ↑q5.length), (102, .slice WA5 q5.length wc5), (106, (agg [(i64 x.op.kind), (Value.string (str x.op.frm)), (Value.string (str x.op.to)), (i64 x.op.amount), (Value.string (str x.op.key)), (i64 x.op.slot), (i64 x.op.shard), (i64 ((nw5 + 1 : Nat) : Int)), (i64 0), (Value.bool false), (i64 0), (i64 0), (Value.slice none 0 0)]))] 5 ?_
      refine onew (rowL [(i64 x.op.kind), (Value.string (str x.op.frm)), (Value.string (str x.op.to)), (i64 x.op.amount), (Value.string (str x.op.key)), (i64 x.op.slot), (i64 x.op.shard), (i64 ((nw5 + 1 : Nat) : Int)), (i64 0), (Value.bool false), (i64 0), (i64 0), (Value.slice none 0 0)] 30) (fun b => (Value.slice (some ⟨b, 0, none⟩) 1 1)) 107 (fun b => rfl) (fun b181 w182 hb183 H184 K185 hs186 => ?_)
      have lb181b16 : b16 < b181 := by have := H175.lt; omega
      have nb181 : w.heap.size ≤ b181 := by have := K174.size; omega
      replace K174 := K174.tn K185
      replace H175 := H175.kn K185
      replace hOV := own_keep0 hOV K185
      replace hT5 := RecP.keep hT5 K185 (fun _ _ h => h)
      clear K185 hs186
      obtain ⟨v189, w190, hr191, hO192, hK193, hg194⟩ := OwnT.app (ty := 22) HC.two HC.one tyHR hOV (show RdT _ 13 HC.cells _ [(⟨⟨x.op, ((nw5 + 1 : Nat) : Int), 0, false, ⟨0, 0, []⟩⟩, none, 0⟩ : HC)] from Rd.lit H184 (n := 1) rfl (by decide)) (by simp only [List.length_cons, List.length_nil]; omega) (by simp only [List.length_cons, List.length_nil]; omega) (K174.size)
      obtain ⟨A196, c197, rfl⟩ := RdT.form HC.two (by decide) (OwnT.rd hO192)
      have ob198 : ∀ i, ((Value.slice A196 ((q5 ++ [(⟨⟨x.op, ((nw5 + 1 : Nat) : Int), 0, false, ⟨0, 0, []⟩⟩, none, 0⟩ : HC)]).length) c197)).ownBlock = some i → i ≠ b16 := fun i hi => by rcases hg194 i hi with h | h; (have := obVb16 i h; omega); (have := H175.lt; omega)
      have oo200 : ∀ i, ((Value.slice A196 ((q5 ++ [(⟨⟨x.op, ((nw5 + 1 : Nat) : Int), 0, false, ⟨0, 0, []⟩⟩, none, 0⟩ : HC)]).length) c197)).ownBlock = some i → F5 i → False := fun i hs hi => by rcases hg194 i hs with h | h; (exact hVF5 i h hi); (have := RecP.lt hT5 i hi; omega)
      have K195 := hK193
      refine ogo (Value.slice A196 ((q5 ++ [(⟨⟨x.op, ((nw5 + 1 : Nat) : Int), 0, false, ⟨0, 0, []⟩⟩, none, 0⟩ : HC)]).length) c197) 108 (Runs.append (ts := #[22, 22]) (ty := 22) (vs := [(Value.slice WA5 q5.length wc5), (Value.slice (some ⟨b181, 0, none⟩) 1 1)]) (by kernel_rfl) hr191) rfl ?_
      replace K174 := K174.trans K195 (U := none_) (fun i h1 h2 => h2) (fun i h1 h2 => by have h2 : Ow (.slice WA5 q5.length wc5) i := h2; exfalso; have := (World.ownsRow.lt hOV i h2).1; omega)
      replace H175 := H175.keep K195 (by intro h; change Ow (.slice WA5 q5.length wc5) b16 at h; have := obVb16 b16 h; omega)
      clear hOV
      replace hT5 := RecP.keep hT5 K195 (fun i hi hs => by have hs : Ow (.slice WA5 q5.length wc5) i := hs; exact hVF5 i hs hi)
      clear K195 hr191 hK193 hg194
      refine odz 1 ?_
      refine qsg ?_
      refine og 2 [(0, .slice A l.length c), (3, ptr b1), (4, (Value.slice A196 ((q5 ++ [(⟨⟨x.op, ((nw5 + 1 : Nat) : Int), 0, false, ⟨0, 0, []⟩⟩, none, 0⟩ : HC)]).length) c197)), (5, i64 ↑(nw5 + 1)), (6, i64 ↑q1), (7, ptr b16), (8, i64 ↑tm), (10, i64 ↑j5), (11, i64 ↑q5.length), (109, ptr b1), (110, .pointer (some ⟨b16, 2, none⟩))] 2 ?_
      refine ogo (agg (Opm.cells x.op)) 111 (rld 24 b16 2 H175) rfl ?_
      have ss206 : ∀ i, F5 i → ((Value.slice A196 ((q5 ++ [(⟨⟨x.op, ((nw5 + 1 : Nat) : Int), 0, false, ⟨0, 0, []⟩⟩, none, 0⟩ : HC)]).length) c197)).ownBlock = some i → False := fun i h1 h2 => oo200 i h2 h1
      refine ocQ 112 (RecBegin_yes _ F5 b1 nw5 q5 x.op hT5 (by omega) (by omega)) ?_
      rintro _ w202 ⟨F201, rfl, K203, hT204, hg205⟩
      have of207 : ∀ i, F201 i → i ≠ b16 := fun i hi => (hg205 i hi).elim (fun h => by have := hFb5 i h; omega) (fun h => by have := H175.lt; omega)
      have oo209 : ∀ i, ((Value.slice A196 ((q5 ++ [(⟨⟨x.op, ((nw5 + 1 : Nat) : Int), 0, false, ⟨0, 0, []⟩⟩, none, 0⟩ : HC)]).length) c197)).ownBlock = some i → F201 i → False := fun i hs hi => (hg205 i hi).elim (fun h => oo200 i hs h) (fun h => by have := (World.ownsRow.lt hO192 i hs).2; omega)
      have low211 : ∀ i, F201 i → w.heap.size ≤ i := fun i hi => (hg205 i hi).elim (fun h => hlow5 i h) (fun h => Nat.le_trans K174.size h)
      refine ⟨_, _, rfl, rfl, ?_⟩
      replace K174 := K174.trans K203 (U := none_) (fun i h1 h2 => h2) (fun i h1 h2 => by have h2 : F5 i := h2; exfalso; have := hlow5 i h2; omega)
      replace H175 := H175.keep K203 (by intro h; change F5 b16 at h; have := hFb5 b16 h; omega)
      clear hT5
      replace hO192 := own_keep hO192 K203 (fun i hi hs => by have hs : F5 i := hs; exact ss206 i hs hi)
      refine ogd 2 [(0, .slice A l.length c), (3, ptr b1), (4, (Value.slice A196 ((q5 ++ [(⟨⟨x.op, ((nw5 + 1 : Nat) : Int), 0, false, ⟨0, 0, []⟩⟩, none, 0⟩ : HC)]).length) c197)), (5, i64 ↑(nw5 + 1)), (6, i64 ↑q1), (7, ptr b16), (8, i64 ↑tm), (10, i64 ↑j5), (11, i64 ↑q5.length), (114, (Value.bool (((q5.length : Nat) : Int) != ((q5.length : Nat) : Int))))] ?_
      have h212 : (((q5.length : Nat) : Int) != ((q5.length : Nat) : Int)) = false := by simp
      rw [h212]
      refine q_else (o := .tmp 114) (by kernel_rfl) rfl ?_
      refine qkQ ?_
      refine qg ?_
      refine oid 3 (fun z => [(0, .slice A l.length c), (3, ptr b1), (4, (Value.slice A196 ((q5 ++ [(⟨⟨x.op, ((nw5 + 1 : Nat) : Int), 0, false, ⟨0, 0, []⟩⟩, none, 0⟩ : HC)]).length) c197)), (5, i64 ↑(nw5 + 1)), (6, i64 ↑q1), (7, ptr b16), (8, i64 ↑tm), (10, i64 z)]) j5 ?_
      exact ⟨(j5 + 1, F201, (q5 ++ [(⟨⟨x.op, ((nw5 + 1 : Nat) : Int), 0, false, ⟨0, 0, []⟩⟩, none, 0⟩ : HC)]), A196, c197, nw5 + 1), ⟨rfl, hO192, ob198, hT204, low211, oo209, (fun z hz => (List.mem_append.1 hz).elim (hin5 z) (fun h => by rw [List.mem_singleton] at h; subst h; exact ⟨Rd.nil _ _, by show 0 * 24 ≤ _; omega⟩)), (by omega), (by omega), of207, K174, H175⟩, (show tm - (j5 + 1) < tm - j5 from by omega)⟩
     ·rw [h178]
      have p214 := of_decide_eq_false h178
      refine qkQ ?_
      refine qsg ?_
      refine og 2 [(0, .slice A l.length c), (3, ptr b1), (4, .slice WA5 q5.length wc5), (5, i64 ↑nw5), (6, i64 ↑q1), (7, ptr b16), (8, i64 ↑tm), (10, i64 ↑j5), (11, (i64 (-1))), (109, ptr b1), (110, .pointer (some ⟨b16, 2, none⟩))] 2 ?_
      refine ogo (agg (Opm.cells x.op)) 111 (rld 24 b16 2 H175) rfl ?_
      have ss220 : ∀ i, F5 i → Ow (.slice WA5 q5.length wc5) i → False := fun i h1 h2 => hVF5 i h2 h1
      refine ocQ 112 (RecBegin_no _ F5 b1 nw5 q5 x.op hT5 (by omega) (by omega)) ?_
      rintro _ w216 ⟨F215, rfl, K217, hT218, hg219⟩
      have of221 : ∀ i, F215 i → i ≠ b16 := fun i hi => (hg219 i hi).elim (fun h => by have := hFb5 i h; omega) (fun h => by have := H175.lt; omega)
      have oo222 : ∀ i, Ow (.slice WA5 q5.length wc5) i → F215 i → False := fun i hs hi => (hg219 i hi).elim (fun h => hVF5 i hs h) (fun h => by have := (World.ownsRow.lt hOV i hs).2; omega)
      have low224 : ∀ i, F215 i → w.heap.size ≤ i := fun i hi => (hg219 i hi).elim (fun h => hlow5 i h) (fun h => Nat.le_trans K174.size h)
      refine ⟨_, _, rfl, rfl, ?_⟩
      replace K174 := K174.trans K217 (U := none_) (fun i h1 h2 => h2) (fun i h1 h2 => by have h2 : F5 i := h2; exfalso; have := hlow5 i h2; omega)
      replace H175 := H175.keep K217 (by intro h; change F5 b16 at h; have := hFb5 b16 h; omega)
      replace hOV := own_keep hOV K217 (fun i hi hs => by have hs : F5 i := hs; exact ss220 i hs hi)
      clear hT5
      refine ogd 2 [(0, .slice A l.length c), (3, ptr b1), (4, .slice WA5 q5.length wc5), (5, i64 ↑nw5), (6, i64 ↑q1), (7, ptr b16), (8, i64 ↑tm), (10, i64 ↑j5), (11, (i64 (-1))), (114, .bool false)] ?_
      refine q_else (o := .tmp 114) (by kernel_rfl) rfl ?_
      refine qkQ ?_
      refine qg ?_
      refine oid 3 (fun z => [(0, .slice A l.length c), (3, ptr b1), (4, .slice WA5 q5.length wc5), (5, i64 ↑nw5), (6, i64 ↑q1), (7, ptr b16), (8, i64 ↑tm), (10, i64 z)]) j5 ?_
      exact ⟨(j5 + 1, F215, q5, WA5, wc5, nw5), ⟨rfl, hOV, obVb16, hT218, low224, oo222, hin5, (by omega), (by omega), of221, K174, H175⟩, (show tm - (j5 + 1) < tm - j5 from by omega)⟩
    ·rw [h176]
     have p226 := of_decide_eq_false h176
     refine q_exit (id := 3) (by kernel_rfl) ?_
     refine qg ?_
     refine oid 3 (fun z => [(0, .slice A l.length c), (3, ptr b1), (4, .slice WA5 q5.length wc5), (5, i64 ↑nw5), (6, i64 z)]) q1 ?_
     exact ⟨(q1 + 1, F5, q5, WA5, wc5, nw5), ⟨rfl, hOV, hT5, hlow5, hVF5, hin5, (by omega), (by omega), (by omega), K174⟩, (show l.length - (q1 + 1) < l.length - q1 from by omega)⟩
  ·rw [h10]
   have p228 := of_decide_eq_false h10
   refine q_exit (id := 0) (by kernel_rfl) ?_
   refine qsg ?_
   refine og 1 [(4, .slice WA q.length wc), (115, ptr b1)] 1 ?_
   refine ocQ 116 (RecCalls_all _ F b1 nw q hT (fun y hy => (hin y hy).rlen)) ?_
   rintro _ w232 ⟨o229, A230, c231, rfl, K233, hR234, hE235, hm236⟩
   refine ⟨_, _, rfl, rfl, ?_⟩
   replace K7 := K7.tn K233
   replace hOV := own_keep0 hOV K233
   have hl237 : o229.length = q.length := by have := congrArg List.length hm236; simpa only [List.length_map] using this
   have hOE9 := hE235
   refine odz 1 ?_
   refine qs ?_
   refine qsg ?_
   refine ogd 5 [(4, .slice WA q.length wc), (12, .slice A230 o229.length c231), (121, (Value.bool (((o229.length : Nat) : Int) != ((q.length : Nat) : Int))))] ?_
   have h238 : (((o229.length : Nat) : Int) != ((q.length : Nat) : Int)) = false := by rw [hl237]; simp
   rw [h238]
   refine q_else (o := .tmp 121) (by kernel_rfl) rfl ?_
   refine qkQ ?_
   refine qs ?_
   refine qsg ?_
   refine ogd 1 [(4, .slice WA q.length wc), (12, .slice A230 o229.length c231), (13, i64 0)] ?_
   refine q_block (id := 5) (by kernel_rfl) ?_
   have hOR9 := hR234
   have hWR9 := OwnT.rd hOV
   have hom9 := hm236
   have hWw : w.heap.size ≤ w232.heap.size := K7.size
   have hcx : Keeps none_ w232 w232 := Keeps.refl _
   refine q_keep (R := [(4, .slice WA q.length wc), (12, .slice A230 o229.length c231), (13, i64 0)]) (by kernel_rfl) ?_
   refine q_loop (fun (ii : Nat) L (wx : World) => L = [(4, (Value.slice WA q.length wc)), (12, (Value.slice A230 o229.length c231)), (13, (i64 ((ii : Nat) : Int)))] ∧ Keeps none_ w232 wx ∧ ii ≤ o229.length ∧ Keeps none_ w wx) (fun (ii : Nat) => o229.length - ii) 0 (by kernel_rfl) ⟨rfl, hcx, Nat.zero_le _, K7⟩ ?_
   clear hcx K7
   rintro ii _ w239 ⟨rfl, hcx, hi, K240⟩
   refine qs ?_
   refine qsg ?_
   refine ogd 4 [(4, .slice WA q.length wc), (12, .slice A230 o229.length c231), (13, i64 ↑ii), (125, (Value.bool (decide (((ii : Nat) : Int) < ((o229.length : Nat) : Int)))))] ?_
   refine qcQ 125 (decide (((ii : Nat) : Int) < ((o229.length : Nat) : Int))) rfl (fun h241 => ?_) (fun h241 => ?_)
   ·rw [h241]
    have p242 := of_decide_eq_true h241
    refine qkQ ?_
    refine qs ?_
    refine q_block (id := 6) (by kernel_rfl) ?_
    refine qs ?_
    refine q_drawS 11 (by kernel_rfl) (by kernel_rfl) (by kernel_rfl) (fun w243 K244 _ _ => ?_)
    replace K240 := K240.tn K244
    replace hcx := hcx.trans K244 (fun _ _ h => h) (fun _ _ h => h)
    have Kb245 : Keeps none_ w243 w243 := Keeps.refl w243
    refine ⟨fun wz => Keeps none_ w243 wz, [], (SH.nil Kb245), ?_⟩
    obtain ⟨z, hz⟩ : ∃ z, o229[ii]? = some z := ⟨_, List.getElem?_eq_getElem (by omega)⟩
    have hzr : RdR w243 (Value.slice z.A z.c.rep.rows.length z.k) z.c.rep.rows := Rd.keep0 (by decide) (hOE9 z (List.mem_of_getElem? hz)) hcx
    obtain ⟨rb246, ro247, hA248⟩ := Rd.addr (Rd.keep0 (by decide) hOR9 hcx) (by omega)
    refine skQ 9 [0, 1] [(4, .slice WA q.length wc), (12, .slice A230 o229.length c231), (13, i64 ↑ii), (128, .slice A230 o229.length c231), (129, i64 ↑ii)] ?_
    refine stQ 2 (Value.pointer (some ⟨rb246, ro247 + ii * 13, none⟩)) 130 (fun wz hS => Runs.ixSliceE (k := IntKind.i64) (t := 33) (len := o229.length) (cap := c231) (s := 13) (off' := ro247 + ii * 13) (i := ((ii : Nat) : Int)) hA248 (by kernel_rfl) (by kernel_rfl) (by omega) (by omega) (by omega)) rfl ?_
    refine stQ 3 (agg (HC.cells z)) 131 (fun wz hS => Runs.load (t := 43) (a := ⟨rb246, ro247 + ii * 13, none⟩) (by kernel_rfl) (RdT.ld (f := HC.cells) (x := z) HC.two (Rd.keep0 (by decide) hOR9 (hcx.trans hS (fun _ _ h => h) (fun _ _ h => h))) (by kernel_rfl) (by kernel_rfl) hA248 hz)) rfl ?_
    obtain ⟨y, hy⟩ : ∃ z, q[ii]? = some z := ⟨_, List.getElem?_eq_getElem (by omega)⟩
    have hyi := hin y (List.mem_of_getElem? hy)
    have hzy : z.c = y.c := map_at hom9 hz hy
    obtain ⟨rb249, ro250, hA251⟩ := Rd.addr (Rd.keep0 (by decide) hWR9 hcx) (by omega)
    refine skQ 5 [5, 6] [(4, .slice WA q.length wc), (12, .slice A230 o229.length c231), (13, i64 ↑ii), (131, (agg (HC.cells z))), (133, .slice WA q.length wc), (134, i64 ↑ii)] ?_
    refine stQ 7 (Value.pointer (some ⟨rb249, ro250 + ii * 13, none⟩)) 135 (fun wz hS => Runs.ixSliceE (k := IntKind.i64) (t := 22) (len := q.length) (cap := wc) (s := 13) (off' := ro250 + ii * 13) (i := ((ii : Nat) : Int)) hA251 (by kernel_rfl) (by kernel_rfl) (by omega) (by omega) (by omega)) rfl ?_
    refine stQ 8 (agg (HC.cells y)) 136 (fun wz hS => Runs.load (t := 30) (a := ⟨rb249, ro250 + ii * 13, none⟩) (by kernel_rfl) (RdT.ld (f := HC.cells) (x := y) HC.two (Rd.keep0 (by decide) hWR9 (hcx.trans hS (fun _ _ h => h) (fun _ _ h => h))) (by kernel_rfl) (by kernel_rfl) hA251 hy)) rfl ?_
    refine soQ 4 ?_
    refine Dr1.call (by kernel_rfl) (d := (some 132)) (by kernel_rfl) (taken_calls _ z) ?_
    rintro _ w252 ⟨rfl, K253⟩
    replace K240 := K240.tn K253
    replace hcx := hcx.trans K253 (fun _ _ h => h) (fun _ _ h => h)
    replace hzr := (Rd.keep0 (by omega) hzr K253)
    have Kb254 := Kb245.tn K253
    refine ⟨_, _, rfl, rfl, (SH.nil Kb254), ?_⟩
    refine soQ 9 ?_
    refine Dr1.call (by kernel_rfl) (d := (some 137)) (by kernel_rfl) (SameC_calls _ z y hzr (Rd.keep0 (by omega) hyi.rows K240)) ?_
    rintro _ w257 ⟨t255, rfl, ht256, K258⟩
    replace K240 := K240.tn K258
    replace hcx := hcx.trans K258 (fun _ _ h => h) (fun _ _ h => h)
    have Kb259 := Kb254.tn K258
    refine ⟨_, _, rfl, rfl, (SH.nil Kb259), ?_⟩
    refine skQ 0 [10] [(4, .slice WA q.length wc), (12, .slice A230 o229.length c231), (13, i64 ↑ii), (138, .bool (!t255))] ?_
    refine DrS.done (by kernel_rfl) ?_
    have h260 : (!t255) = false := by rw [show t255 = true from ht256.2 hzy]; rfl
    rw [h260]
    refine q_else (o := .tmp 138) (by kernel_rfl) rfl ?_
    refine qkQ ?_
    refine qg ?_
    refine oid 3 (fun z => [(4, .slice WA q.length wc), (12, .slice A230 o229.length c231), (13, i64 z)]) ii ?_
    exact ⟨ii + 1, ⟨rfl, hcx, (by omega), K240⟩, (show o229.length - (ii + 1) < o229.length - ii from by omega)⟩
   ·rw [h241]
    have p262 := of_decide_eq_false h241
    refine q_exit (id := 5) (by kernel_rfl) ?_
    refine qsg ?_
    refine odz 1 ?_
    refine qsg ?_
    refine og 2 [(14, .pointer none), (139, .pointer none), (140, (agg [(i64 0), (Value.string ByteArray.empty), (Value.string ByteArray.empty), (i64 0), (Value.string ByteArray.empty), (i64 0), (i64 0)]))] 2 ?_
    refine ocQ 141 (RecBegin_nil _ ⟨0, [], [], 0, [], 0, 0⟩) ?_
    rintro _ w264 ⟨rfl, K263⟩
    refine ⟨_, _, rfl, rfl, ?_⟩
    replace K240 := K240.tn K263
    refine og 4 [(14, .pointer none), (143, .bool true), (144, .pointer none), (145, (agg [(i64 0), (i64 0), (Value.slice none 0 0)]))] 7 ?_
    refine ocQ 146 (RecTold_nil _) ?_
    rintro _ w266 ⟨rfl, K265⟩
    refine ⟨_, _, rfl, rfl, ?_⟩
    replace K240 := K240.tn K265
    refine og 4 [(149, .bool true), (150, .pointer none)] 12 ?_
    refine ocQ 151 (RecCalls_nil _) ?_
    rintro _ w268 ⟨rfl, K267⟩
    refine ⟨_, _, rfl, rfl, ?_⟩
    replace K240 := K240.tn K267
    refine og 4 [(155, .bool true)] 17 ?_
    refine ocQ 156 (known_calls _) ?_
    rintro _ w270 ⟨rfl, K269⟩
    refine ⟨_, _, rfl, rfl, ?_⟩
    replace K240 := K240.tn K269
    refine ogd 2 [(2, .bool true)] ?_
    refine qtQ ?_
    refine ⟨(Value.bool true), retv_tmp rfl rfl, ?_⟩
    exact ⟨rfl, K240⟩
 ·rw [h8]
  have p271 := of_decide_eq_false h8
  refine ogd 3 [(0, .slice A l.length c), (3, ptr b1), (4, .slice WA q.length wc), (5, i64 ↑nw), (6, i64 ↑q1), (25, .bool false)] ?_
  refine q_else (o := .tmp 25) (by kernel_rfl) rfl ?_
  refine q_exit (id := 0) (by kernel_rfl) ?_
  refine qsg ?_
  refine og 1 [(4, .slice WA q.length wc), (115, ptr b1)] 1 ?_
  refine ocQ 116 (RecCalls_all _ F b1 nw q hT (fun y hy => (hin y hy).rlen)) ?_
  rintro _ w275 ⟨o272, A273, c274, rfl, K276, hR277, hE278, hm279⟩
  refine ⟨_, _, rfl, rfl, ?_⟩
  replace K7 := K7.tn K276
  replace hOV := own_keep0 hOV K276
  have hl280 : o272.length = q.length := by have := congrArg List.length hm279; simpa only [List.length_map] using this
  have hOE9 := hE278
  refine odz 1 ?_
  refine qs ?_
  refine qsg ?_
  refine ogd 5 [(4, .slice WA q.length wc), (12, .slice A273 o272.length c274), (121, (Value.bool (((o272.length : Nat) : Int) != ((q.length : Nat) : Int))))] ?_
  have h281 : (((o272.length : Nat) : Int) != ((q.length : Nat) : Int)) = false := by rw [hl280]; simp
  rw [h281]
  refine q_else (o := .tmp 121) (by kernel_rfl) rfl ?_
  refine qkQ ?_
  refine qs ?_
  refine qsg ?_
  refine ogd 1 [(4, .slice WA q.length wc), (12, .slice A273 o272.length c274), (13, i64 0)] ?_
  refine q_block (id := 5) (by kernel_rfl) ?_
  have hOR9 := hR277
  have hWR9 := OwnT.rd hOV
  have hom9 := hm279
  have hWw : w.heap.size ≤ w275.heap.size := K7.size
  have hcx : Keeps none_ w275 w275 := Keeps.refl _
  refine q_keep (R := [(4, .slice WA q.length wc), (12, .slice A273 o272.length c274), (13, i64 0)]) (by kernel_rfl) ?_
  refine q_loop (fun (ii : Nat) L (wx : World) => L = [(4, (Value.slice WA q.length wc)), (12, (Value.slice A273 o272.length c274)), (13, (i64 ((ii : Nat) : Int)))] ∧ Keeps none_ w275 wx ∧ ii ≤ o272.length ∧ Keeps none_ w wx) (fun (ii : Nat) => o272.length - ii) 0 (by kernel_rfl) ⟨rfl, hcx, Nat.zero_le _, K7⟩ ?_
  clear hcx K7
  rintro ii _ w282 ⟨rfl, hcx, hi, K283⟩
  refine qs ?_
  refine qsg ?_
  refine ogd 4 [(4, .slice WA q.length wc), (12, .slice A273 o272.length c274), (13, i64 ↑ii), (125, (Value.bool (decide (((ii : Nat) : Int) < ((o272.length : Nat) : Int)))))] ?_
  refine qcQ 125 (decide (((ii : Nat) : Int) < ((o272.length : Nat) : Int))) rfl (fun h284 => ?_) (fun h284 => ?_)
  ·rw [h284]
   have p285 := of_decide_eq_true h284
   refine qkQ ?_
   refine qs ?_
   refine q_block (id := 6) (by kernel_rfl) ?_
   refine qs ?_
   refine q_drawS 11 (by kernel_rfl) (by kernel_rfl) (by kernel_rfl) (fun w286 K287 _ _ => ?_)
   replace K283 := K283.tn K287
   replace hcx := hcx.trans K287 (fun _ _ h => h) (fun _ _ h => h)
   have Kb288 : Keeps none_ w286 w286 := Keeps.refl w286
   refine ⟨fun wz => Keeps none_ w286 wz, [], (SH.nil Kb288), ?_⟩
   obtain ⟨z, hz⟩ : ∃ z, o272[ii]? = some z := ⟨_, List.getElem?_eq_getElem (by omega)⟩
   have hzr : RdR w286 (Value.slice z.A z.c.rep.rows.length z.k) z.c.rep.rows := Rd.keep0 (by decide) (hOE9 z (List.mem_of_getElem? hz)) hcx
   obtain ⟨rb289, ro290, hA291⟩ := Rd.addr (Rd.keep0 (by decide) hOR9 hcx) (by omega)
   refine skQ 9 [0, 1] [(4, .slice WA q.length wc), (12, .slice A273 o272.length c274), (13, i64 ↑ii), (128, .slice A273 o272.length c274), (129, i64 ↑ii)] ?_
   refine stQ 2 (Value.pointer (some ⟨rb289, ro290 + ii * 13, none⟩)) 130 (fun wz hS => Runs.ixSliceE (k := IntKind.i64) (t := 33) (len := o272.length) (cap := c274) (s := 13) (off' := ro290 + ii * 13) (i := ((ii : Nat) : Int)) hA291 (by kernel_rfl) (by kernel_rfl) (by omega) (by omega) (by omega)) rfl ?_
   refine stQ 3 (agg (HC.cells z)) 131 (fun wz hS => Runs.load (t := 43) (a := ⟨rb289, ro290 + ii * 13, none⟩) (by kernel_rfl) (RdT.ld (f := HC.cells) (x := z) HC.two (Rd.keep0 (by decide) hOR9 (hcx.trans hS (fun _ _ h => h) (fun _ _ h => h))) (by kernel_rfl) (by kernel_rfl) hA291 hz)) rfl ?_
   obtain ⟨y, hy⟩ : ∃ z, q[ii]? = some z := ⟨_, List.getElem?_eq_getElem (by omega)⟩
   have hyi := hin y (List.mem_of_getElem? hy)
   have hzy : z.c = y.c := map_at hom9 hz hy
   obtain ⟨rb292, ro293, hA294⟩ := Rd.addr (Rd.keep0 (by decide) hWR9 hcx) (by omega)
   refine skQ 5 [5, 6] [(4, .slice WA q.length wc), (12, .slice A273 o272.length c274), (13, i64 ↑ii), (131, (agg (HC.cells z))), (133, .slice WA q.length wc), (134, i64 ↑ii)] ?_
   refine stQ 7 (Value.pointer (some ⟨rb292, ro293 + ii * 13, none⟩)) 135 (fun wz hS => Runs.ixSliceE (k := IntKind.i64) (t := 22) (len := q.length) (cap := wc) (s := 13) (off' := ro293 + ii * 13) (i := ((ii : Nat) : Int)) hA294 (by kernel_rfl) (by kernel_rfl) (by omega) (by omega) (by omega)) rfl ?_
   refine stQ 8 (agg (HC.cells y)) 136 (fun wz hS => Runs.load (t := 30) (a := ⟨rb292, ro293 + ii * 13, none⟩) (by kernel_rfl) (RdT.ld (f := HC.cells) (x := y) HC.two (Rd.keep0 (by decide) hWR9 (hcx.trans hS (fun _ _ h => h) (fun _ _ h => h))) (by kernel_rfl) (by kernel_rfl) hA294 hy)) rfl ?_
   refine soQ 4 ?_
   refine Dr1.call (by kernel_rfl) (d := (some 132)) (by kernel_rfl) (taken_calls _ z) ?_
   rintro _ w295 ⟨rfl, K296⟩
   replace K283 := K283.tn K296
   replace hcx := hcx.trans K296 (fun _ _ h => h) (fun _ _ h => h)
   replace hzr := (Rd.keep0 (by omega) hzr K296)
   have Kb297 := Kb288.tn K296
   refine ⟨_, _, rfl, rfl, (SH.nil Kb297), ?_⟩
   refine soQ 9 ?_
   refine Dr1.call (by kernel_rfl) (d := (some 137)) (by kernel_rfl) (SameC_calls _ z y hzr (Rd.keep0 (by omega) hyi.rows K283)) ?_
   rintro _ w300 ⟨t298, rfl, ht299, K301⟩
   replace K283 := K283.tn K301
   replace hcx := hcx.trans K301 (fun _ _ h => h) (fun _ _ h => h)
   have Kb302 := Kb297.tn K301
   refine ⟨_, _, rfl, rfl, (SH.nil Kb302), ?_⟩
   refine skQ 0 [10] [(4, .slice WA q.length wc), (12, .slice A273 o272.length c274), (13, i64 ↑ii), (138, .bool (!t298))] ?_
   refine DrS.done (by kernel_rfl) ?_
   have h303 : (!t298) = false := by rw [show t298 = true from ht299.2 hzy]; rfl
   rw [h303]
   refine q_else (o := .tmp 138) (by kernel_rfl) rfl ?_
   refine qkQ ?_
   refine qg ?_
   refine oid 3 (fun z => [(4, .slice WA q.length wc), (12, .slice A273 o272.length c274), (13, i64 z)]) ii ?_
   exact ⟨ii + 1, ⟨rfl, hcx, (by omega), K283⟩, (show o272.length - (ii + 1) < o272.length - ii from by omega)⟩
  ·rw [h284]
   have p305 := of_decide_eq_false h284
   refine q_exit (id := 5) (by kernel_rfl) ?_
   refine qsg ?_
   refine odz 1 ?_
   refine qsg ?_
   refine og 2 [(14, .pointer none), (139, .pointer none), (140, (agg [(i64 0), (Value.string ByteArray.empty), (Value.string ByteArray.empty), (i64 0), (Value.string ByteArray.empty), (i64 0), (i64 0)]))] 2 ?_
   refine ocQ 141 (RecBegin_nil _ ⟨0, [], [], 0, [], 0, 0⟩) ?_
   rintro _ w307 ⟨rfl, K306⟩
   refine ⟨_, _, rfl, rfl, ?_⟩
   replace K283 := K283.tn K306
   refine og 4 [(14, .pointer none), (143, .bool true), (144, .pointer none), (145, (agg [(i64 0), (i64 0), (Value.slice none 0 0)]))] 7 ?_
   refine ocQ 146 (RecTold_nil _) ?_
   rintro _ w309 ⟨rfl, K308⟩
   refine ⟨_, _, rfl, rfl, ?_⟩
   replace K283 := K283.tn K308
   refine og 4 [(149, .bool true), (150, .pointer none)] 12 ?_
   refine ocQ 151 (RecCalls_nil _) ?_
   rintro _ w311 ⟨rfl, K310⟩
   refine ⟨_, _, rfl, rfl, ?_⟩
   replace K283 := K283.tn K310
   refine og 4 [(155, .bool true)] 17 ?_
   refine ocQ 156 (known_calls _) ?_
   rintro _ w313 ⟨rfl, K312⟩
   refine ⟨_, _, rfl, rfl, ?_⟩
   replace K283 := K283.tn K312
   refine ogd 2 [(2, .bool true)] ?_
   refine qtQ ?_
   refine ⟨(Value.bool true), retv_tmp rfl rfl, ?_⟩
   exact ⟨rfl, K283⟩
end Go.Proofs.YtnbcghbgeiocbaaDoor
