/- What the claim stands on, part 15: rules of the walk, contracts of the functions, plain laws. -/
import Derived.Test.YtnbcghbgeiocbaaDoorProg
import Derived.Test.YtnbcghbgeiocbaaDoorKHRecords14
import Derived.Test.YtnbcghbgeiocbaaDoorKHRecords6
import Derived.Test.YtnbcghbgeiocbaaDoorKHRecords8
import Derived.Test.YtnbcghbgeiocbaaDoorKHRecords10
import Derived.Test.YtnbcghbgeiocbaaDoorKHRecords9
import Derived.Test.YtnbcghbgeiocbaaDoorKHRecords3
set_option linter.unusedVariables false
namespace Go.Proofs.YtnbcghbgeiocbaaDoor
open Go.Q Go.RowKit
theorem pop_nil (w : World) (s : Nat) (A : Option Addr) (c : Nat) (Hs : Has w s (rowL [.slice A 0 c] 77)) : Calls Tryd.prog 30 ⟨[(ptr s)]⟩ w (fun e w' => e = .returned (.tuple #[agg [(Value.slice none 0 0), (Value.int IntKind.u64 0), (i64 0), (Value.pointer none)], .bool false]) ∧ Keeps none_ w w') := by
 have Hsl := Hs.lt
 have K0 : Keeps none_ w w := Keeps.refl w
 refine q_calls Tryd.func30 (by kernel_rfl) (by kernel_rfl) ?_
 refine qsg ?_
 refine onew (rowL [(Value.slice none 0 0), (Value.int IntKind.u64 0), (i64 0), (Value.pointer none)] 73) (fun b => (ptr b)) 2 (fun b => rfl) (fun b1 w2 hb3 H4 K5 hs6 => ?_)
 have lb1s : s < b1 := by have := Hs.lt; omega
 have nb1 : w.heap.size ≤ b1 := by have := K0.size; omega
 replace K0 := K0.t0 K5
 replace Hs := Hs.kn K5
 clear K5 hs6
 refine ogd 1 [(0, ptr s), (2, ptr b1), (3, .bool false)] ?_
 refine qsg ?_
 refine onew (rowL [(Value.slice none 0 0), (Value.int IntKind.u64 0), (i64 0), (Value.pointer none)] 73) (fun b => (ptr b)) 4 (fun b => rfl) (fun b7 w8 hb9 H10 K11 hs12 => ?_)
 have lb7s : s < b7 := by have := Hs.lt; omega
 have lb7b1 : b1 < b7 := by have := H4.lt; omega
 have nb7 : w.heap.size ≤ b7 := by have := K0.size; omega
 replace K0 := K0.t0 K11
 replace Hs := Hs.kn K11
 replace H4 := H4.kn K11
 clear K11 hs12
 refine od ?_
 refine qs ?_
 refine qsg ?_
 refine og 3 [(0, ptr s), (2, ptr b1), (3, .bool false), (4, ptr b7), (8, ptr s)] 3 ?_
 refine ogo (Value.slice A 0 c) 9 (rld 75 s 0 Hs) rfl ?_
 refine ogd 2 [(0, ptr s), (2, ptr b1), (3, .bool false), (4, ptr b7), (11, .bool true)] ?_
 refine q_then (o := .tmp 11) (by kernel_rfl) rfl ?_
 refine qsg ?_
 refine ogo (agg [(Value.slice none 0 0), (Value.int IntKind.u64 0), (i64 0), (Value.pointer none)]) 12 (rld 73 b7 0 H10) rfl ?_
 refine oput 73 b1 [(Value.slice none 0 0), (Value.int IntKind.u64 0), (i64 0), (Value.pointer none)] H4 rfl (fun w13 H14 K15 => ?_)
 clear H4
 replace K0 := K0.t1 K15 fun _ => by omega
 refine ogd 1 [(0, ptr s), (2, ptr b1), (3, .bool false)] ?_
 refine qtQ ?_
 refine ⟨(Value.tuple #[(agg [(Value.slice none 0 0), (Value.int IntKind.u64 0), (i64 0), (Value.pointer none)]), (Value.bool false)]), retv_cell_tmp rfl rfl (H14.loads (by kernel_rfl)) rfl, ?_⟩
 exact ⟨rfl, K0⟩
theorem pop_some (w : World) (s base : Nat) (A : Option Addr) (c n : Nat) (l : List StC) (x : StC) (Hs : Has w s (rowL [(Value.slice A n c)] 77)) (hO : OwnT w base 73 4 StC.cells (Value.slice A n c) (l ++ [x])) (hn : n = l.length + 1) (hVs : ∀ i, ((Value.slice A n c)).ownBlock = some i → i ≠ s) (hl : l.length ≤ 1000000000) : Calls Tryd.prog 30 ⟨[(ptr s)]⟩ w (fun e w' => e = .returned (.tuple #[agg [(Value.slice x.A x.order.length x.k), (Value.int IntKind.u64 ((x.done : Nat) : Int)), (i64 x.left), (ptr x.b)], .bool true]) ∧ Keeps (fun i => i = s) w w' ∧ Has w' s (rowL [(Value.slice A l.length c)] 77) ∧ OwnT w' base 73 4 StC.cells (Value.slice A l.length c) l) := by
 have Hsl := Hs.lt
 have hcap := RdT.len StC.two (by decide) (OwnT.rd hO)
 have K0 : Keeps (fun i => i = s) w w := (Keeps.refl w).mono (fun _ _ h => h.elim)
 refine q_calls Tryd.func30 (by kernel_rfl) (by kernel_rfl) ?_
 refine qsg ?_
 refine onew (rowL [(Value.slice none 0 0), (Value.int IntKind.u64 0), (i64 0), (Value.pointer none)] 73) (fun b => (ptr b)) 2 (fun b => rfl) (fun b1 w2 hb3 H4 K5 hs6 => ?_)
 have lb1s : s < b1 := by have := Hs.lt; omega
 have nb1 : w.heap.size ≤ b1 := by have := K0.size; omega
 have ob7 : ∀ i, Ow (.slice A n c) i → i < b1 := fun i hi => by have := (World.ownsRow.lt hO i hi).2; omega
 replace K0 := K0.tn K5
 replace Hs := Hs.kn K5
 replace hO := own_keep0 hO K5
 clear K5 hs6
 refine ogd 1 [(0, ptr s), (2, ptr b1), (3, .bool false)] ?_
 refine qsg ?_
 refine onew (rowL [(Value.slice none 0 0), (Value.int IntKind.u64 0), (i64 0), (Value.pointer none)] 73) (fun b => (ptr b)) 4 (fun b => rfl) (fun b8 w9 hb10 H11 K12 hs13 => ?_)
 have lb8s : s < b8 := by have := Hs.lt; omega
 have lb8b1 : b1 < b8 := by have := H4.lt; omega
 have nb8 : w.heap.size ≤ b8 := by have := K0.size; omega
 replace K0 := K0.tn K12
 replace Hs := Hs.kn K12
 replace H4 := H4.kn K12
 replace hO := own_keep0 hO K12
 clear K12 hs13
 refine od ?_
 refine qs ?_
 refine qsg ?_
 refine og 3 [(0, ptr s), (2, ptr b1), (3, .bool false), (4, ptr b8), (8, ptr s)] 3 ?_
 refine ogo (Value.slice A n c) 9 (rld 75 s 0 Hs) rfl ?_
 refine ogd 2 [(0, ptr s), (2, ptr b1), (3, .bool false), (4, ptr b8), (11, (Value.bool (((n : Nat) : Int) == 0)))] ?_
 have h15 : (((n : Nat) : Int) == 0) = false := beq_f (by omega)
 rw [h15]
 refine q_else (o := .tmp 11) (by kernel_rfl) rfl ?_
 refine qkQ ?_
 refine qs ?_
 refine q_drawS 14 (by kernel_rfl) (by kernel_rfl) (by kernel_rfl) (fun w16 K17 _ _ => ?_)
 replace K0 := K0.tn K17
 replace Hs := Hs.kn K17
 replace H4 := H4.kn K17
 replace H11 := H11.kn K17
 replace hO := own_keep0 hO K17
 have Kb18 : Keeps none_ w16 w16 := Keeps.refl w16
 refine ⟨fun wz => Keeps none_ w16 wz, [], (SH.nil Kb18), ?_⟩
 refine skQ 11 [0, 1, 2] [(0, ptr s), (2, ptr b1), (3, .bool false), (15, ptr s)] ?_
 refine stQ 3 (Value.slice A n c) 16 (fun wz hS => rld 75 s 0 (Hs.keep hS (fun h => h))) rfl ?_
 refine skQ 7 [4, 5, 6] [(0, ptr s), (2, ptr b1), (3, .bool false), (16, .slice A n c), (19, ptr s)] ?_
 refine stQ 7 (Value.slice A n c) 20 (fun wz hS => rld 75 s 0 (Hs.keep hS (fun h => h))) rfl ?_
 refine skQ 4 [8, 9] [(0, ptr s), (2, ptr b1), (3, .bool false), (16, .slice A n c), (22, (i64 (IntKind.i64.wrap (((n : Nat) : Int) - 1))))] ?_
 have e19 : IntKind.i64.wrap (((n : Nat) : Int) - 1) = ((l.length : Nat) : Int) := by rw [wrap_i64 (by omega) (by omega)]; omega
 rw [e19]
 obtain ⟨rb20, ro21, hA22⟩ := Rd.addr (OwnT.rd hO) (by omega)
 refine stQ 10 (Value.pointer (some ⟨rb20, ro21 + l.length * 4, none⟩)) 23 (fun wz hS => Runs.ixSliceE (k := IntKind.i64) (t := 75) (len := n) (cap := c) (s := 4) (off' := ro21 + l.length * 4) (i := ((l.length : Nat) : Int)) hA22 (by kernel_rfl) (by kernel_rfl) (by omega) (by omega) (by omega)) rfl ?_
 refine stQ 11 (agg [(Value.slice x.A x.order.length x.k), (Value.int IntKind.u64 ((x.done : Nat) : Int)), (i64 x.left), (ptr x.b)]) 24 (fun wz hS => Runs.load (t := 73) (a := ⟨rb20, ro21 + l.length * 4, none⟩) (by kernel_rfl) (RdT.ld (f := StC.cells) (x := x) StC.two (Rd.keep0 (by decide) (OwnT.rd hO) hS) (by kernel_rfl) (by kernel_rfl) hA22 (List.getElem?_concat_length ..))) rfl ?_
 refine soQ 12 ?_
 refine Dr1.new (o := rowL [(Value.slice none 0 0), (Value.int IntKind.u64 0), (i64 0), (Value.pointer none)] 73) (V := fun b => (ptr b)) (by kernel_rfl) (d := (some 5)) (by kernel_rfl) (fun b => rfl) (fun b23 w24 hb25 H26 K27 hs28 => ?_)
 have lb23s : s < b23 := by have := Hs.lt; omega
 have lb23b1 : b1 < b23 := by have := H4.lt; omega
 have lb23b8 : b8 < b23 := by have := H11.lt; omega
 have nb23 : w.heap.size ≤ b23 := by have := K0.size; omega
 have ob29 : ∀ i, Ow (.slice A n c) i → i < b23 := fun i hi => by have := (World.ownsRow.lt hO i hi).2; omega
 have xb23 : w16.heap.size ≤ b23 := by have := Kb18.size; omega
 replace K0 := K0.tn K27
 replace Hs := Hs.kn K27
 replace H4 := H4.kn K27
 replace hO := own_keep0 hO K27
 have Kb30 := Kb18.tn K27
 refine ⟨(SH.nil Kb30), ?_⟩
 clear K27 hs28
 refine soQ 13 ?_
 refine Dr1.put (t := 73) (b := b23) (off := 0) (v := (agg [(Value.slice x.A x.order.length x.k), (Value.int IntKind.u64 ((x.done : Nat) : Int)), (i64 x.left), (ptr x.b)])) (ys := [(Value.slice x.A x.order.length x.k), (Value.int IntKind.u64 ((x.done : Nat) : Int)), (i64 x.left), (ptr x.b)]) (by kernel_rfl) (by kernel_rfl) H26 (by kernel_rfl) (d := none) (by kernel_rfl) rfl (fun w31 H32 K33 => ?_)
 replace K0 := K0.t1 K33 fun _ => by show b23 = s; omega
 replace Hs := Hs.k1 K33 (by omega)
 replace H4 := H4.k1 K33 (by omega)
 replace hO := own_keep hO K33 (fun i hi => by have := ob29 i hi; omega)
 have Kb34 := Kb30.t1 K33 fun _ => by have := xb23; omega
 refine ⟨(SH.nil Kb34), ?_⟩
 refine DrS.done (by kernel_rfl) ?_
 refine qs ?_
 refine q_drawS 15 (by kernel_rfl) (by kernel_rfl) (by kernel_rfl) (fun w35 K36 _ _ => ?_)
 replace K0 := K0.tn K36
 replace Hs := Hs.kn K36
 replace H4 := H4.kn K36
 replace H32 := H32.kn K36
 replace hO := own_keep0 hO K36
 have Kb37 : Keeps (fun i => i = s) w35 w35 := (Keeps.refl w35).mono (fun _ _ h => h.elim)
 refine ⟨fun wz => Keeps (fun i => i = s) w35 wz, [(14, fun wz => Loads Tryd.prog wz 75 ⟨s, 0, none⟩ (Value.slice A n c))], (SH.cons (SH.nil Kb37) (.inr (Hs.loads (by kernel_rfl)))), ?_⟩
 refine skQ 11 [0, 1, 2, 3] [(0, ptr s), (2, ptr b1), (3, .bool false), (5, ptr b23), (25, ptr s), (28, ptr s)] ?_
 refine DrS.takeH (s := 14) (.head _) (i := 4) (v := (Value.slice A n c)) (by kernel_rfl) (by kernel_rfl) (by kernel_rfl) (fun wz hB hp => Runs.load (t := 75) (a := ⟨s, 0, none⟩) (by kernel_rfl) hp) (d := (some 29)) (by kernel_rfl) rfl ?_
 refine skQ 7 [5, 6, 7] [(2, ptr b1), (3, .bool false), (5, ptr b23), (25, ptr s), (29, .slice A n c), (32, ptr s)] ?_
 refine DrS.takeH (s := 14) (.head _) (i := 8) (v := (Value.slice A n c)) (by kernel_rfl) (by kernel_rfl) (by kernel_rfl) (fun wz hB hp => Runs.load (t := 75) (a := ⟨s, 0, none⟩) (by kernel_rfl) hp) (d := (some 33)) (by kernel_rfl) rfl ?_
 refine skQ 4 [9, 10] [(2, ptr b1), (3, .bool false), (5, ptr b23), (25, ptr s), (29, .slice A n c), (35, (i64 (IntKind.i64.wrap (((n : Nat) : Int) - 1))))] ?_
 have e38 : IntKind.i64.wrap (((n : Nat) : Int) - 1) = ((l.length : Nat) : Int) := by rw [wrap_i64 (by omega) (by omega)]; omega
 rw [e38]
 have hc39 := fun wz => run_cut (sz := 4) (P := Tryd.prog) (w := wz) (t := 75) (A := A) (n := n) (c := c) 0 l.length c (lo := none) (hi := some (i64 ((l.length : Nat) : Int))) (mx := none) tySt.slice (by kernel_rfl) (.inl ⟨rfl, rfl⟩) (.inr ⟨_, rfl⟩) (.inl ⟨rfl, rfl⟩) (by omega) (by omega) (by omega)
 have hA0 : (if c = 0 then A else Option.map (fun q => Addr.add q (0 * 4)) A) = A := by cases A <;> simp [Addr.add]
 simp only [hA0, Nat.sub_zero] at hc39
 refine stQ 11 (Value.slice A l.length c) 36 (fun wz hS => Runs.slice (by kernel_rfl) (hc39 _)) rfl ?_
 refine skQ 1 [12, 13] [(2, ptr b1), (3, .bool false), (5, ptr b23), (36, .slice A l.length c), (38, ptr s)] ?_
 refine soQ 14 ?_
 refine Dr1.put (t := 75) (b := s) (off := 0) (v := (Value.slice A l.length c)) (ys := [(Value.slice A l.length c)]) (by kernel_rfl) (by kernel_rfl) Hs (by kernel_rfl) (d := none) (by kernel_rfl) rfl (fun w40 H41 K42 => ?_)
 clear Hs
 replace K0 := K0.t1 K42 (fun _ => rfl)
 replace H4 := H4.k1 K42 (by omega)
 replace H32 := H32.k1 K42 (by omega)
 replace hO := own_keep hO K42 (fun i hi => by have := hVs i hi; omega)
 have Kb43 := Kb37.t1 K42 fun _ => rfl
 refine ⟨(SH.cons (SH.nil Kb43) (.inl (by kernel_rfl))), ?_⟩
 refine DrS.done (by kernel_rfl) ?_
 refine qsg ?_
 refine ogo (agg [(Value.slice x.A x.order.length x.k), (Value.int IntKind.u64 ((x.done : Nat) : Int)), (i64 x.left), (ptr x.b)]) 39 (rld 73 b23 0 H32) rfl ?_
 refine oput 73 b1 [(Value.slice x.A x.order.length x.k), (Value.int IntKind.u64 ((x.done : Nat) : Int)), (i64 x.left), (ptr x.b)] H4 rfl (fun w44 H45 K46 => ?_)
 clear H4
 replace K0 := K0.t1 K46 fun _ => by show b1 = s; omega
 replace H41 := H41.k1 K46 (by omega)
 replace hO := own_keep hO K46 (fun i hi => by have := ob7 i hi; omega)
 refine ogd 1 [(2, ptr b1), (3, .bool true)] ?_
 refine qtQ ?_
 refine ⟨(Value.tuple #[(agg [(Value.slice x.A x.order.length x.k), (Value.int IntKind.u64 ((x.done : Nat) : Int)), (i64 x.left), (ptr x.b)]), (Value.bool true)]), retv_cell_tmp rfl rfl (H45.loads (by kernel_rfl)) rfl, ?_⟩
 exact ⟨rfl, K0, H41, OwnT.init StC.two hO Nat.one_pos⟩
theorem Rev_walk (w : World) (gb : Nat) (A : Option Addr) (c : Nat) (l : List StC) (rest : List Value) (hA : A = some ⟨gb, 0, none⟩) (Hg : Has w gb (rowL (l.flatMap StC.cells ++ rest) 73)) (hcap : l.length ≤ c ∧ c ≤ maxLen) : Calls Tryd.prog 34 ⟨[(Value.slice A l.length c)]⟩ w (fun e w' => e = .returned (.tuple #[]) ∧ Keeps (fun i => i = gb) w w' ∧ Has w' gb (rowL (l.reverse.flatMap StC.cells ++ rest) 73)) := by
 have Hgl := Hg.lt
 have hcap1 := hcap.2
 unfold maxLen at hcap1
 have K0 : Keeps (fun i => i = gb) w w := (Keeps.refl w).mono (fun _ _ h => h.elim)
 refine q_calls Tryd.func34 (by kernel_rfl) (by kernel_rfl) ?_
 refine qsg ?_
 refine og 3 [(0, .slice A l.length c), (6, (i64 (IntKind.i64.wrap (((l.length : Nat) : Int) - 1))))] 3 ?_
 have e1 : IntKind.i64.wrap (((l.length : Nat) : Int) - 1) = ((l.length : Nat) : Int) - 1 := wrap_i64 (by omega) (by omega)
 rw [e1]
 refine ogd 2 [(0, .slice A l.length c), (2, i64 0), (3, (i64 (((l.length : Nat) : Int) - 1)))] ?_
 refine q_block (id := 0) (by kernel_rfl) ?_
 refine q_keep (R := [(0, .slice A l.length c), (2, i64 0), (3, (i64 (((l.length : Nat) : Int) - 1)))]) (by kernel_rfl) ?_
 refine q_loop (fun (gs : Nat × (List StC)) L (wx : World) => match gs with | (i, m) => L = [(0, (Value.slice A l.length c)), (2, (i64 ((i : Nat) : Int))), (3, (i64 (((l.length : Nat) : Int) - ((i + 1 : Nat) : Int))))] ∧ RevI l m i ∧ 2 * i ≤ l.length + 1 ∧ Keeps (fun i => i = gb) w wx ∧ Has wx gb (rowL (m.flatMap StC.cells ++ rest) 73)) (fun (gs : Nat × (List StC)) => match gs with | (i, m) => l.length - 2 * i) (0, l) (by kernel_rfl) ⟨rfl, (RevI.zero l), Nat.zero_le _, K0, Hg⟩ ?_
 clear Hg K0
 rintro ⟨i, m⟩ _ w2 ⟨rfl, hm, hi, K3, H4⟩
 have hml := hm.1
 refine qs ?_
 refine qsg ?_
 refine ogd 3 [(0, .slice A l.length c), (2, i64 ↑i), (3, (i64 (((l.length : Nat) : Int) - ((i + 1 : Nat) : Int)))), (9, (Value.bool (decide (((i : Nat) : Int) < ((l.length : Nat) : Int) - ((i + 1 : Nat) : Int)))))] ?_
 refine qcQ 9 (decide (((i : Nat) : Int) < ((l.length : Nat) : Int) - ((i + 1 : Nat) : Int))) rfl (fun h5 => ?_) (fun h5 => ?_)
 ·rw [h5]
  have p6 := of_decide_eq_true h5
  obtain ⟨j, hj⟩ : ∃ j : Nat, i + j + 1 = l.length := ⟨l.length - 1 - i, by omega⟩
  have hje : (((l.length : Nat) : Int) - ((i + 1 : Nat) : Int)) = ((j : Nat) : Int) := by omega
  rw [hje]
  obtain ⟨x, hx⟩ : ∃ x, m[i]? = some x := ⟨_, List.getElem?_eq_getElem (by omega)⟩
  obtain ⟨y, hy⟩ : ∃ y, m[j]? = some y := ⟨_, List.getElem?_eq_getElem (by omega)⟩
  have hij : i < j := by omega
  refine qkQ ?_
  refine qs ?_
  refine q_block (id := 1) (by kernel_rfl) ?_
  refine q_drawS 16 (by kernel_rfl) (by kernel_rfl) (by kernel_rfl) (fun w7 K8 _ _ => ?_)
  replace K3 := K3.tn K8
  replace H4 := H4.kn K8
  clear K8
  have Kb9 : Keeps (fun i => i = gb) w7 w7 := (Keeps.refl w7).mono (fun _ _ h => h.elim)
  refine ⟨fun wz => Keeps (fun i => i = gb) w7 wz, [(13, fun wz => Loads Tryd.prog wz 73 ⟨gb, j * 4, none⟩ (agg [(Value.slice y.A y.order.length y.k), (Value.int IntKind.u64 ((y.done : Nat) : Int)), (i64 y.left), (ptr y.b)])), (13, fun wz => Loads Tryd.prog wz 73 ⟨gb, i * 4, none⟩ (agg [(Value.slice x.A x.order.length x.k), (Value.int IntKind.u64 ((x.done : Nat) : Int)), (i64 x.left), (ptr x.b)]))], (SH.cons (SH.cons (SH.nil Kb9) (.inr (H4.loads (loadCN (vs := x.cells) (by kernel_rfl) (by kernel_rfl) (flat_load StC.two hx) (flat_len_at StC.two hx))))) (.inr (H4.loads (loadCN (vs := y.cells) (by kernel_rfl) (by kernel_rfl) (flat_load StC.two hy) (flat_len_at StC.two hy))))), ?_⟩
  refine skQ 10 [0, 1, 2, 3, 4, 5] [(0, .slice A l.length c), (2, i64 ↑i), (3, i64 ↑j), (14, .slice A l.length c), (15, i64 ↑i), (16, .slice A l.length c), (17, i64 ↑j), (18, .slice A l.length c), (19, i64 ↑j)] ?_
  refine stQ 6 (Value.pointer (some ⟨gb, j * 4, none⟩)) 20 (fun wz hS => Runs.ixSliceE (k := IntKind.i64) (t := 75) (len := l.length) (cap := c) (s := 4) (off' := j * 4) (i := ((j : Nat) : Int)) hA (by kernel_rfl) (by kernel_rfl) (by omega) (by omega) (by omega)) rfl ?_
  refine DrS.takeH (s := 13) (.head _) (i := 7) (v := (agg [(Value.slice y.A y.order.length y.k), (Value.int IntKind.u64 ((y.done : Nat) : Int)), (i64 y.left), (ptr y.b)])) (by kernel_rfl) (by kernel_rfl) (by kernel_rfl) (fun wz hB hp => Runs.load (t := 73) (a := ⟨gb, j * 4, none⟩) (by kernel_rfl) hp) (d := (some 21)) (by kernel_rfl) rfl ?_
  refine skQ 6 [8, 9] [(0, .slice A l.length c), (2, i64 ↑i), (3, i64 ↑j), (14, .slice A l.length c), (15, i64 ↑i), (16, .slice A l.length c), (17, i64 ↑j), (21, (agg [(Value.slice y.A y.order.length y.k), (Value.int IntKind.u64 ((y.done : Nat) : Int)), (i64 y.left), (ptr y.b)])), (22, .slice A l.length c), (23, i64 ↑i)] ?_
  refine stQ 10 (Value.pointer (some ⟨gb, i * 4, none⟩)) 24 (fun wz hS => Runs.ixSliceE (k := IntKind.i64) (t := 75) (len := l.length) (cap := c) (s := 4) (off' := i * 4) (i := ((i : Nat) : Int)) hA (by kernel_rfl) (by kernel_rfl) (by omega) (by omega) (by omega)) rfl ?_
  refine DrS.takeH (s := 13) (.tail _ (.head _)) (i := 11) (v := (agg [(Value.slice x.A x.order.length x.k), (Value.int IntKind.u64 ((x.done : Nat) : Int)), (i64 x.left), (ptr x.b)])) (by kernel_rfl) (by kernel_rfl) (by kernel_rfl) (fun wz hB hp => Runs.load (t := 73) (a := ⟨gb, i * 4, none⟩) (by kernel_rfl) hp) (d := (some 25)) (by kernel_rfl) rfl ?_
  refine stQ 12 (Value.pointer (some ⟨gb, i * 4, none⟩)) 26 (fun wz hS => Runs.ixSliceE (k := IntKind.i64) (t := 75) (len := l.length) (cap := c) (s := 4) (off' := i * 4) (i := ((i : Nat) : Int)) hA (by kernel_rfl) (by kernel_rfl) (by omega) (by omega) (by omega)) rfl ?_
  refine soQ 13 ?_
  refine Dr1.put (t := 73) (b := gb) (off := i * 4) (v := (agg [(Value.slice y.A y.order.length y.k), (Value.int IntKind.u64 ((y.done : Nat) : Int)), (i64 y.left), (ptr y.b)])) (ys := ((m.set i y).flatMap StC.cells ++ rest)) (by kernel_rfl) (by kernel_rfl) H4 (storeCN (vs := y.cells) (by kernel_rfl) (by kernel_rfl) (flat_len_set StC.two y hx) (flat_store StC.two y hx)) (d := none) (by kernel_rfl) rfl (fun w10 H11 K12 => ?_)
  clear H4
  replace K3 := K3.t1 K12 (fun _ => rfl)
  have Kb13 := Kb9.t1 K12 fun _ => rfl
  clear Kb9
  refine ⟨(SH.cons (SH.cons (SH.nil Kb13) (.inl (by kernel_rfl))) (.inl (by kernel_rfl))), ?_⟩
  refine stQ 14 (Value.pointer (some ⟨gb, j * 4, none⟩)) 27 (fun wz hS => Runs.ixSliceE (k := IntKind.i64) (t := 75) (len := l.length) (cap := c) (s := 4) (off' := j * 4) (i := ((j : Nat) : Int)) hA (by kernel_rfl) (by kernel_rfl) (by omega) (by omega) (by omega)) rfl ?_
  refine soQ 15 ?_
  refine Dr1.put (t := 73) (b := gb) (off := j * 4) (v := (agg [(Value.slice x.A x.order.length x.k), (Value.int IntKind.u64 ((x.done : Nat) : Int)), (i64 x.left), (ptr x.b)])) (ys := (((m.set i y).set j x).flatMap StC.cells ++ rest)) (by kernel_rfl) (by kernel_rfl) H11 (storeCN (vs := x.cells) (by kernel_rfl) (by kernel_rfl) (flat_len_set StC.two x ((List.getElem?_set_ne (by omega)).trans hy)) (flat_store StC.two x ((List.getElem?_set_ne (by omega)).trans hy))) (d := none) (by kernel_rfl) rfl (fun w14 H15 K16 => ?_)
  replace K3 := K3.t1 K16 (fun _ => rfl)
  have Kb17 := Kb13.t1 K16 fun _ => rfl
  refine ⟨(SH.cons (SH.cons (SH.nil Kb17) (.inl (by kernel_rfl))) (.inl (by kernel_rfl))), ?_⟩
  refine DrS.done (by kernel_rfl) ?_
  refine qg ?_
  refine og 2 [(0, .slice A l.length c), (2, i64 ↑i), (3, i64 ↑j), (11, (i64 (IntKind.i64.wrap (((i : Nat) : Int) + 1))))] 2 ?_
  rw [show IntKind.i64.wrap (((i : Nat) : Int) + 1) = ((i + 1 : Nat) : Int) from by rw [wrap_i64 (by omega) (by omega)]; omega]
  refine og 2 [(0, .slice A l.length c), (2, i64 ↑i), (3, i64 ↑j), (11, i64 ↑(i + 1)), (13, (i64 (IntKind.i64.wrap (((j : Nat) : Int) - 1))))] 4 ?_
  have e19 : IntKind.i64.wrap (((j : Nat) : Int) - 1) = ((j : Nat) : Int) - 1 := wrap_i64 (by omega) (by omega)
  rw [e19]
  refine og 2 [(0, .slice A l.length c), (2, i64 ↑(i + 1)), (3, (i64 (((j : Nat) : Int) - 1)))] 6 ?_
  rw [show (((j : Nat) : Int) - 1) = (((l.length : Nat) : Int) - ((i + 1 + 1 : Nat) : Int)) from by omega]
  refine ok_ [(0, .slice A l.length c), (2, i64 ↑(i + 1)), (3, (i64 (((l.length : Nat) : Int) - ((i + 1 + 1 : Nat) : Int))))] ?_
  refine od ?_
  exact ⟨(i + 1, (m.set i y).set j x), ⟨rfl, (hm.step hj hij hx hy), (by omega), K3, H15⟩, (show l.length - 2 * (i + 1) < l.length - 2 * i from by omega)⟩
 ·rw [h5]
  have p20 := of_decide_eq_false h5
  refine q_exit (id := 0) (by kernel_rfl) ?_
  refine ⟨(Value.tuple #[]), retv_none rfl, ?_⟩
  have hrev := hm.done (by omega)
  have H9 := H4
  rw [hrev] at H9
  exact ⟨rfl, K3, H9⟩
end Go.Proofs.YtnbcghbgeiocbaaDoor
namespace Go.Proofs.YtnbcghbgeiocbaaDoor
open Go.Q Go.RowKit
theorem Rev_nil (w : World) (A : Option Addr) (c : Nat)  : Calls Tryd.prog 34 ⟨[(Value.slice A 0 c)]⟩ w (fun e w' => e = .returned (.tuple #[]) ∧ Keeps none_ w w') := by
 have K0 : Keeps none_ w w := Keeps.refl w
 refine q_calls Tryd.func34 (by kernel_rfl) (by kernel_rfl) ?_
 refine qsg ?_
 refine ogd 5 [(0, .slice A 0 c), (2, i64 0), (3, (i64 (-1)))] ?_
 refine q_block (id := 0) (by kernel_rfl) ?_
 refine q_roll 1 (by kernel_rfl) ?_
 refine Go.Q.roll_step ?_
 refine qs ?_
 refine qsg ?_
 refine ogd 3 [(0, .slice A 0 c), (2, i64 0), (3, (i64 (-1))), (9, .bool false)] ?_
 refine q_else (o := .tmp 9) (by kernel_rfl) rfl ?_
 refine q_exit (id := 0) (by kernel_rfl) ?_
 refine ⟨(Value.tuple #[]), retv_none rfl, ?_⟩
 exact ⟨rfl, K0⟩
theorem Rev_calls (w : World) (base : Nat) (A : Option Addr) (c : Nat) (l : List StC) (hO : OwnT w base 73 4 StC.cells (.slice A l.length c) l) : Calls Tryd.prog 34 ⟨[.slice A l.length c]⟩ w (fun e w' => e = .returned (.tuple #[]) ∧ Keeps (fun i => (Value.slice A l.length c).ownBlock = some i) w w' ∧ OwnT w' base 73 4 StC.cells (.slice A l.length c) l.reverse) := by
 by_cases h0 : l = []
 ·subst h0
  refine (Rev_nil w A c).mono ?_
  rintro e w' ⟨he, hk⟩
  exact ⟨he, hk.mono (fun _ _ h => h.elim), own_keep0 hO hk⟩
 ·have hcap := RdT.len StC.two (by decide) (OwnT.rd hO)
  obtain ⟨gb, rest, hA, hg, H, hput⟩ := OwnT.flat StC.two hO h0
  refine (Rev_walk w gb A c l rest hA H hcap.2).mono ?_
  rintro e w' ⟨he, hk, H2⟩
  exact ⟨he, hk.mono (fun i _ h => by have h : i = gb := h; subst h; subst hA; rfl), hput _ _ (List.length_reverse ..) H2⟩
theorem next_tells (w0 : World) (m0 b2 b3 : Nat) (LA : Option Addr) (lc : Nat) (l : List HC) (AA : Option Addr) (ac : Nat) (a : List Nat) (x : StC) (F T G : Nat → Prop) (H2 : Has w0 b2 (rowL [(Value.slice LA l.length lc), (Value.slice AA a.length ac)] 68)) (H3 : Has w0 b3 (rowL x.cells 73)) (hx : x.At w0 110 F)
  (hL : RdT w0 13 HC.cells (Value.slice LA l.length lc) l) (hA : RdT w0 1 iN (Value.slice AA a.length ac) a) (hal : a.length = l.length) (hG : RowsE w0 HC.rv HC.rows G l) (ho : ∀ x ∈ l, -9223372036854775808 ≤ x.c.op.amount ∧ x.c.op.amount ≤ 9223372036854775807)
  (hF : ∀ i, (Ow (.slice LA l.length lc) i ∨ Ow (.slice AA a.length ac) i ∨ F i ∨ G i) → i < w0.heap.size ∧ i ≠ b2 ∧ i ≠ b3 ∧ ¬ T i) (hTb : ¬ T b2 ∧ ¬ T b3) (hb23 : b2 ≠ b3) (h8 : l.length ≤ 8) (hok : SrOk (XS l a) x.m) :
  TellsW Tryd.prog m0 47 [ptr b2, ptr b3] (nextA 110 (XS l a) x.m) T ((probH (XS l a)).nexts x.m).length w0 := by
 intro ln J W hW hJ hY h0
 obtain ⟨o, OA, oc, d, lf, b, S, K⟩ := x
 obtain ⟨mb, kb, m, h1, h2, h3, hne, hB, f1, f2, f3⟩ := hx.led
 have q1 := hF b (.inr (.inr (.inl f1)))
 have q2 := hF mb (.inr (.inr (.inl f2)))
 have q3 := hF kb (.inr (.inr (.inl f3)))
 have hsz := hW.size
 refine (next_walk W ln m0 b2 b3 LA lc l AA ac a OA oc o d lf b mb kb m S K T G J (H2.keep hW hTb.1) (H3.keep hW hTb.2) (h1.keep hW q1.2.2.2) (h2.keep hW q2.2.2.2) (h3.keep hW q3.2.2.2) hne hB ⟨hb23, q1.2.1, q1.2.2.1⟩
  (Rd.keep (by decide) hL hW fun i hi => (hF i (.inl hi)).2.2.2) (Rd.keep (by decide) hA hW fun i hi => (hF i (.inr (.inl hi))).2.2.2) hal (Rd.keep (by decide) hx.row hW fun i hi => (hF i (.inr (.inr (.inl (hx.inF i hi))))).2.2.2) (hG.keep hW fun i hi => (hF i (.inr (.inr (.inr hi)))).2.2.2) ho
  (fun i hi => ⟨fun e => hTb.1 (e ▸ hi), fun e => hTb.2 (e ▸ hi), fun e => q1.2.2.2 (e ▸ hi), fun e => q2.2.2.2 (e ▸ hi), fun e => q3.2.2.2 (e ▸ hi)⟩)
  (fun i hi => ?_) h8 hok hJ hY h0)
 rcases hi with hi | hi | hi | hi
 ·have := hF i (.inl hi); exact ⟨by omega, this.2.2.2⟩
 ·have := hF i (.inr (.inl hi)); exact ⟨by omega, this.2.2.2⟩
 ·have := hF i (.inr (.inr (.inl (hx.inF i hi)))); exact ⟨by omega, this.2.2.2⟩
 ·have := hF i (.inr (.inr (.inr hi))); exact ⟨by omega, this.2.2.2⟩
end Go.Proofs.YtnbcghbgeiocbaaDoor
namespace Go.Proofs.YtnbcghbgeiocbaaDoor
open Go.Q Go.RowKit
theorem keptNest : ∃ f1 f2, NestTy Tryd.prog 118 f1 f2 7 ∧ f1.type = 24 ∧ f2.type = 25 := ⟨_, _, { und := Tryd.underlying118, n1 := by decide, n2 := by decide, o1 := rfl, o2 := rfl, a1 := by kernel_rfl, z1 := Tryd.sizeOf24, held := by kernel_rfl, guard := by kernel_rfl }, rfl, rfl⟩
theorem EqualM_calls (w : World) (m1 m2 : Nat) (M1 M2 : List (List UInt8 × Int)) (S1 S2 : List RowM) (H1 : HasMap w m1 kstr ki64 (M1)) (H2 : HasMap w m2 kstr ki64 (M2)) (hL1 : LMap M1 S1) (hL2 : LMap M2 S2) : Calls Tryd.prog 45 ⟨[(Value.map (some m1)), (Value.map (some m2))]⟩ w (fun e w' => ∃ t, e = .returned (.bool t) ∧ (t = true ↔ S1 = S2) ∧ Keeps none_ w w') := by
 have H1l := H1.lt
 have H2l := H2.lt
 have hl1 := hL1.len
 have hl2 := hL2.len
 have K0 : Keeps none_ w w := Keeps.refl w
 refine q_calls Tryd.func45 (by kernel_rfl) (by kernel_rfl) ?_
 refine qsg ?_
 refine odz 1 ?_
 refine qs ?_
 refine qsg ?_
 refine og 1 [(0, .map (some m1)), (1, .map (some m2)), (4, .bool false), (9, .map (some m1))] 1 ?_
 refine ogo (i64 ((M1.length : Nat) : Int)) 10 (Runs.maplen (ts := #[107]) (t0 := 107) (ty := 3) rfl Tryd.underlying107 H1 (by kernel_rfl)) rfl ?_
 refine og 1 [(0, .map (some m1)), (1, .map (some m2)), (4, .bool false), (10, i64 ↑M1.length), (11, .map (some m2))] 3 ?_
 refine ogo (i64 ((M2.length : Nat) : Int)) 12 (Runs.maplen (ts := #[107]) (t0 := 107) (ty := 3) rfl Tryd.underlying107 H2 (by kernel_rfl)) rfl ?_
 refine ogd 1 [(0, .map (some m1)), (1, .map (some m2)), (4, .bool false), (13, (Value.bool (((M1.length : Nat) : Int) != ((M2.length : Nat) : Int))))] ?_
 refine qcQ 13 (((M1.length : Nat) : Int) != ((M2.length : Nat) : Int)) rfl (fun h1 => ?_) (fun h1 => ?_)
 ·rw [h1]
  have p2 := of_bne_t h1
  refine qsg ?_
  refine ogd 1 [(0, .map (some m1)), (1, .map (some m2)), (4, .bool false)] ?_
  refine qtQ ?_
  refine ⟨(Value.bool false), retv_tmp rfl rfl, ?_⟩
  exact ⟨false, rfl, ⟨fun h => (by cases h), fun h => absurd h fun h => (by subst h; have := hL1.len; have := hL2.len; omega)⟩, K0⟩
 ·rw [h1]
  have p3 := of_bne_f h1
  refine qkQ ?_
  refine qs ?_
  refine qsg ?_
  refine og 1 [(1, .map (some m2)), (4, .bool false), (14, .map (some m1))] 1 ?_
  obtain ⟨it4, w5, hr6, K7, hq8, H9⟩ := HasMap.range (P := Tryd.prog) (t := 107) Tryd.underlying107 H1
  refine ogo (ptr it4) 15 (Runs.of_range (by kernel_rfl) hr6) rfl ?_
  have lit4m1 : m1 < it4 := by have := H1.lt; omega
  have lit4m2 : m2 < it4 := by have := H2.lt; omega
  have nit4 : w.heap.size ≤ it4 := by have := K0.size; omega
  replace K0 := K0.t0 K7
  replace H1 := H1.kn K7
  replace H2 := H2.kn K7
  clear K7 hr6
  refine od ?_
  refine q_block (id := 0) (by kernel_rfl) ?_
  refine q_keep (R := [(1, .map (some m2)), (15, ptr it4)]) (by kernel_rfl) ?_
  refine q_loop (fun (gs : (List (List UInt8 × Int)) × (List (List UInt8 × Int)) × (Option (List UInt8 × Int))) L (wx : World) => match gs with | (came, rest, last) => L = [(1, (Value.map (some m2))), (15, (ptr it4))] ∧ (came ++ rest).Perm (M1) ∧ (∀ y ∈ came, getM (M2) y.1 = some y.2) ∧ Keeps none_ w wx ∧ HasMap wx m1 kstr ki64 M1 ∧ HasMap wx m2 kstr ki64 M2 ∧ IterM wx it4 m1 kstr ki64 M1 rest last) (fun (gs : (List (List UInt8 × Int)) × (List (List UInt8 × Int)) × (Option (List UInt8 × Int))) => match gs with | (came, rest, last) => rest.length) ([], M1, none) (by kernel_rfl) ⟨rfl, (List.Perm.refl _), (fun y hy => by cases hy), K0, H1, H2, H9⟩ ?_
  clear H1 H2 H9 K0
  rintro ⟨came, rest, last⟩ _ w10 ⟨rfl, hp, hall, K11, H12, H13, H14⟩
  refine qsg ?_
  rcases IterM.next (P := Tryd.prog) H14 0 with ⟨hn24, hr21⟩ | ⟨x15, a16, p17, q18, w19, hs20, hr21, K22, H23⟩
  ·skip
   refine ogo (Value.tuple #[(Value.bool false)]) 16 (Runs.of_next (by kernel_rfl) hr21) rfl ?_
   clear hr21
   refine ogd 1 [(1, .map (some m2)), (15, ptr it4), (17, .bool false)] ?_
   refine qs ?_
   refine q_else (o := .tmp 17) (by kernel_rfl) rfl ?_
   refine q_exit (id := 0) (by kernel_rfl) ?_
   refine qsg ?_
   refine ogd 1 [(4, .bool true)] ?_
   refine qtQ ?_
   refine ⟨(Value.bool true), retv_tmp rfl rfl, ?_⟩
   exact ⟨true, rfl, ⟨fun _ => hL1.eq hL2 (by omega) (by rw [hn24, List.append_nil] at hp; exact hp) hall, fun _ => rfl⟩, K11⟩
  ·skip
   refine ogo (Value.tuple #[(Value.bool true), (Value.string (str x15)), (i64 a16)]) 16 (Runs.of_next (by kernel_rfl) hr21) rfl ?_
   replace H23 := H23 (by omega)
   replace K11 := K11.t1 K22 fun _ => by omega
   replace H12 := H12.k1 K22 (by omega)
   replace H13 := H13.k1 K22 (by omega)
   clear K22 hr21
   have hmem : (x15, a16) ∈ M1 := hp.mem_iff.1 (by rw [hs20]; simp)
   have hsm : S1 = S2 → getM (M2) x15 = some a16 := fun h => hL1.same (h ▸ hL2) hmem
   have hln := congrArg List.length hs20
   rw [List.length_append, List.length_cons] at hln
   rcases hg25 : getM (M2) x15 with _ | v26
   ·skip
    refine ogd 1 [(1, .map (some m2)), (15, ptr it4), (17, .bool true)] ?_
    refine qs ?_
    refine q_then (o := .tmp 17) (by kernel_rfl) rfl ?_
    refine qkQ ?_
    refine q_block (id := 1) (by kernel_rfl) ?_
    refine qsg ?_
    refine ogo (Value.tuple #[(Value.string (str x15)), (i64 a16)]) 18 (Runs.of_entry (by kernel_rfl) (IterM.entry (kf := kstr) (vf := ki64) (x := x15) (a := a16) H23)) rfl ?_
    refine odz 4 ?_
    refine qsg ?_
    refine og 2 [(1, .map (some m2)), (6, i64 a16), (15, ptr it4), (22, .map (some m2)), (23, .string (str x15))] 2 ?_
    refine ogo (Value.tuple #[(i64 0), (Value.bool false)]) 24 (Runs.lookup_none (ok := true) (z := (i64 0)) KT Tryd.underlying107 (by kernel_rfl) H13 hg25 (by kernel_rfl)) rfl ?_
    refine odz 5 ?_
    refine qsg ?_
    refine ogd 7 [(1, .map (some m2)), (15, ptr it4), (33, .bool true)] ?_
    refine q_then (o := .tmp 33) (by kernel_rfl) rfl ?_
    refine qsg ?_
    refine ogd 1 [(1, .map (some m2)), (4, .bool false), (15, ptr it4)] ?_
    refine qtQ ?_
    refine ⟨(Value.bool false), retv_tmp rfl rfl, ?_⟩
    exact ⟨false, rfl, ⟨fun h => (by cases h), fun h => absurd h fun h => (by have q := hsm h; rw [hg25] at q; cases q)⟩, K11⟩
   ·skip
    refine ogd 1 [(1, .map (some m2)), (15, ptr it4), (17, .bool true)] ?_
    refine qs ?_
    refine q_then (o := .tmp 17) (by kernel_rfl) rfl ?_
    refine qkQ ?_
    refine q_block (id := 1) (by kernel_rfl) ?_
    refine qsg ?_
    refine ogo (Value.tuple #[(Value.string (str x15)), (i64 a16)]) 18 (Runs.of_entry (by kernel_rfl) (IterM.entry (kf := kstr) (vf := ki64) (x := x15) (a := a16) H23)) rfl ?_
    refine odz 4 ?_
    refine qsg ?_
    refine og 2 [(1, .map (some m2)), (6, i64 a16), (15, ptr it4), (22, .map (some m2)), (23, .string (str x15))] 2 ?_
    refine ogo (Value.tuple #[(i64 v26), (Value.bool true)]) 24 (Runs.lookup_some (ok := true) (vf := ki64) (a := v26) KT Tryd.underlying107 H13 hg25 (by kernel_rfl)) rfl ?_
    refine odz 5 ?_
    refine qsg ?_
    refine ogd 7 [(1, .map (some m2)), (15, ptr it4), (33, .bool (a16 != v26))] ?_
    refine qcQ 33 (a16 != v26) rfl (fun h27 => ?_) (fun h27 => ?_)
    ·rw [h27]
     have p28 := of_bne_t h27
     have hav : a16 ≠ v26 := by omega
     refine qsg ?_
     refine ogd 1 [(1, .map (some m2)), (4, .bool false), (15, ptr it4)] ?_
     refine qtQ ?_
     refine ⟨(Value.bool false), retv_tmp rfl rfl, ?_⟩
     exact ⟨false, rfl, ⟨fun h => (by cases h), fun h => absurd h fun h => (by have q := hsm h; rw [hg25] at q; exact hav (Option.some.inj q).symm)⟩, K11⟩
    ·rw [h27]
     have p29 := of_bne_f h27
     have hav : a16 = v26 := by omega
     refine q_keep (R := [(1, .map (some m2)), (15, ptr it4)]) (by kernel_rfl) ?_
     refine qkQ ?_
     exact ⟨(came ++ [(x15, a16)], p17 ++ q18, some (x15, a16)), ⟨rfl, (came_perm (by rw [← hs20]; exact hp)), (fun y hy => by rcases List.mem_append.1 hy with hy | hy; (exact hall y hy); (rw [List.mem_singleton.1 hy, hav]; exact hg25)), K11, H12, H13, H23⟩, (show (p17 ++ q18).length < rest.length from by rw [List.length_append]; omega)⟩
theorem EqualK_calls (w : World) (m1 m2 : Nat)  (K1 K2 : List KeptM) (H1 : HasMap w m1 kpair keptv (K1.map KeptM.kv)) (H2 : HasMap w m2 kpair keptv (K2.map KeptM.kv)) (hN1 : (K1.map KeptM.id).Nodup) (hN2 : (K2.map KeptM.id).Nodup) : Calls Tryd.prog 46 ⟨[(Value.map (some m1)), (Value.map (some m2))]⟩ w (fun e w' => ∃ t, e = .returned (.bool t) ∧ (t = true ↔ K1.Perm K2) ∧ Keeps none_ w w') := by
 have H1l := H1.lt
 have H2l := H2.lt
 have K0 : Keeps none_ w w := Keeps.refl w
 refine q_calls Tryd.func46 (by kernel_rfl) (by kernel_rfl) ?_
 refine qsg ?_
 refine odz 1 ?_
 refine qs ?_
 refine qsg ?_
 refine og 1 [(0, .map (some m1)), (1, .map (some m2)), (4, .bool false), (9, .map (some m1))] 1 ?_
 refine ogo (i64 (((K1.map KeptM.kv).length : Nat) : Int)) 10 (Runs.maplen (ts := #[108]) (t0 := 108) (ty := 3) rfl Tryd.underlying108 H1 (by kernel_rfl)) rfl ?_
 refine og 1 [(0, .map (some m1)), (1, .map (some m2)), (4, .bool false), (10, i64 ↑((K1.map KeptM.kv).length)), (11, .map (some m2))] 3 ?_
 refine ogo (i64 (((K2.map KeptM.kv).length : Nat) : Int)) 12 (Runs.maplen (ts := #[108]) (t0 := 108) (ty := 3) rfl Tryd.underlying108 H2 (by kernel_rfl)) rfl ?_
 refine ogd 1 [(0, .map (some m1)), (1, .map (some m2)), (4, .bool false), (13, (Value.bool ((((K1.map KeptM.kv).length : Nat) : Int) != (((K2.map KeptM.kv).length : Nat) : Int))))] ?_
 refine qcQ 13 ((((K1.map KeptM.kv).length : Nat) : Int) != (((K2.map KeptM.kv).length : Nat) : Int)) rfl (fun h1 => ?_) (fun h1 => ?_)
 ·rw [h1]
  have p2 := of_bne_t h1
  refine qsg ?_
  refine ogd 1 [(0, .map (some m1)), (1, .map (some m2)), (4, .bool false)] ?_
  refine qtQ ?_
  refine ⟨(Value.bool false), retv_tmp rfl rfl, ?_⟩
  exact ⟨false, rfl, ⟨fun h => (by cases h), fun h => absurd h fun h => (by have hq := h.length_eq; simp only [List.length_map] at *; omega)⟩, K0⟩
 ·rw [h1]
  have p3 := of_bne_f h1
  refine qkQ ?_
  refine qs ?_
  refine qsg ?_
  refine og 1 [(1, .map (some m2)), (4, .bool false), (14, .map (some m1))] 1 ?_
  obtain ⟨it4, w5, hr6, K7, hq8, H9⟩ := HasMap.range (P := Tryd.prog) (t := 108) Tryd.underlying108 H1
  refine ogo (ptr it4) 15 (Runs.of_range (by kernel_rfl) hr6) rfl ?_
  have lit4m1 : m1 < it4 := by have := H1.lt; omega
  have lit4m2 : m2 < it4 := by have := H2.lt; omega
  have nit4 : w.heap.size ≤ it4 := by have := K0.size; omega
  replace K0 := K0.t0 K7
  replace H1 := H1.kn K7
  replace H2 := H2.kn K7
  clear K7 hr6
  refine od ?_
  refine q_block (id := 0) (by kernel_rfl) ?_
  refine q_keep (R := [(1, .map (some m2)), (15, ptr it4)]) (by kernel_rfl) ?_
  refine q_loop (fun (gs : (List ((List UInt8 × List UInt8) × KeptM)) × (List ((List UInt8 × List UInt8) × KeptM)) × (Option ((List UInt8 × List UInt8) × KeptM))) L (wx : World) => match gs with | (came, rest, last) => L = [(1, (Value.map (some m2))), (15, (ptr it4))] ∧ (came ++ rest).Perm (K1.map KeptM.kv) ∧ (∀ y ∈ came, getM (K2.map KeptM.kv) y.1 = some y.2) ∧ Keeps none_ w wx ∧ HasMap wx m1 kpair keptv (K1.map KeptM.kv) ∧ HasMap wx m2 kpair keptv (K2.map KeptM.kv) ∧ IterM wx it4 m1 kpair keptv (K1.map KeptM.kv) rest last) (fun (gs : (List ((List UInt8 × List UInt8) × KeptM)) × (List ((List UInt8 × List UInt8) × KeptM)) × (Option ((List UInt8 × List UInt8) × KeptM))) => match gs with | (came, rest, last) => rest.length) ([], K1.map KeptM.kv, none) (by kernel_rfl) ⟨rfl, (List.Perm.refl _), (fun y hy => by cases hy), K0, H1, H2, H9⟩ ?_
  clear H1 H2 H9 K0
  rintro ⟨came, rest, last⟩ _ w10 ⟨rfl, hp, hall, K11, H12, H13, H14⟩
  refine qsg ?_
  rcases IterM.next (P := Tryd.prog) H14 0 with ⟨hn24, hr21⟩ | ⟨x15, a16, p17, q18, w19, hs20, hr21, K22, H23⟩
  ·skip
   refine ogo (Value.tuple #[(Value.bool false)]) 16 (Runs.of_next (by kernel_rfl) hr21) rfl ?_
   clear hr21
   refine ogd 1 [(1, .map (some m2)), (15, ptr it4), (17, .bool false)] ?_
   refine qs ?_
   refine q_else (o := .tmp 17) (by kernel_rfl) rfl ?_
   refine q_exit (id := 0) (by kernel_rfl) ?_
   refine qsg ?_
   refine ogd 1 [(4, .bool true)] ?_
   refine qtQ ?_
   refine ⟨(Value.bool true), retv_tmp rfl rfl, ?_⟩
   exact ⟨true, rfl, ⟨fun _ => kept_eq hN1 (by simp only [List.length_map] at *; omega) (by rw [hn24, List.append_nil] at hp; exact hp) hall, fun _ => rfl⟩, K11⟩
  ·skip
   refine ogo (Value.tuple #[(Value.bool true), (agg [(Value.string (str x15.1)), (Value.string (str x15.2))]), (agg [(i64 a16.op.kind), (Value.string (str a16.op.frm)), (Value.string (str a16.op.to)), (i64 a16.op.amount), (Value.string (str a16.op.key)), (i64 a16.op.slot), (i64 a16.op.shard), (i64 a16.why)])]) 16 (Runs.of_next (by kernel_rfl) hr21) rfl ?_
   replace H23 := H23 (by omega)
   replace K11 := K11.t1 K22 fun _ => by omega
   replace H12 := H12.k1 K22 (by omega)
   replace H13 := H13.k1 K22 (by omega)
   clear K22 hr21
   have hmem : (x15, a16) ∈ K1.map KeptM.kv := hp.mem_iff.1 (by rw [hs20]; simp)
   have hsm : K1.Perm K2 → getM (K2.map KeptM.kv) x15 = some a16 := fun h => kept_same hN2 h hmem
   have hln := congrArg List.length hs20
   rw [List.length_append, List.length_cons] at hln
   rcases hg25 : getM (K2.map KeptM.kv) x15 with _ | v26
   ·skip
    refine ogd 1 [(1, .map (some m2)), (15, ptr it4), (17, .bool true)] ?_
    refine qs ?_
    refine q_then (o := .tmp 17) (by kernel_rfl) rfl ?_
    refine qkQ ?_
    refine q_block (id := 1) (by kernel_rfl) ?_
    refine qsg ?_
    refine ogo (Value.tuple #[(agg [(Value.string (str x15.1)), (Value.string (str x15.2))]), (agg [(i64 a16.op.kind), (Value.string (str a16.op.frm)), (Value.string (str a16.op.to)), (i64 a16.op.amount), (Value.string (str a16.op.key)), (i64 a16.op.slot), (i64 a16.op.shard), (i64 a16.why)])]) 18 (Runs.of_entry (by kernel_rfl) (IterM.entry (kf := kpair) (vf := keptv) (x := x15) (a := a16) H23)) rfl ?_
    refine og 2 [(1, .map (some m2)), (15, ptr it4), (19, (agg [(Value.string (str x15.1)), (Value.string (str x15.2))])), (20, (agg [(i64 a16.op.kind), (Value.string (str a16.op.frm)), (Value.string (str a16.op.to)), (i64 a16.op.amount), (Value.string (str a16.op.key)), (i64 a16.op.slot), (i64 a16.op.shard), (i64 a16.why)]))] 3 ?_
    refine onew (rowL [(Value.string ByteArray.empty), (Value.string ByteArray.empty)] 116) (fun b => (ptr b)) 5 (fun b => rfl) (fun b27 w28 hb29 H30 K31 hs32 => ?_)
    have lb27m1 : m1 < b27 := by have := H12.lt; omega
    have lb27m2 : m2 < b27 := by have := H13.lt; omega
    have lb27it4 : it4 < b27 := by have := H23.lt; omega
    have nb27 : w.heap.size ≤ b27 := by have := K11.size; omega
    replace K11 := K11.tn K31
    replace H12 := H12.kn K31
    replace H13 := H13.kn K31
    replace H23 := H23.keep K31 (fun h => h) (fun h => h)
    clear K31 hs32
    refine onew (rowL [(i64 0), (Value.string ByteArray.empty), (Value.string ByteArray.empty), (i64 0), (Value.string ByteArray.empty), (i64 0), (i64 0), (i64 0)] 118) (fun b => (ptr b)) 6 (fun b => rfl) (fun b33 w34 hb35 H36 K37 hs38 => ?_)
    have lb33m1 : m1 < b33 := by have := H12.lt; omega
    have lb33m2 : m2 < b33 := by have := H13.lt; omega
    have lb33it4 : it4 < b33 := by have := H23.lt; omega
    have lb33b27 : b27 < b33 := by have := H30.lt; omega
    have nb33 : w.heap.size ≤ b33 := by have := K11.size; omega
    replace K11 := K11.tn K37
    replace H12 := H12.kn K37
    replace H13 := H13.kn K37
    replace H23 := H23.keep K37 (fun h => h) (fun h => h)
    replace H30 := H30.kn K37
    clear K37 hs38
    refine oput 116 b27 [(Value.string (str x15.1)), (Value.string (str x15.2))] H30 rfl (fun w39 H40 K41 => ?_)
    replace K11 := K11.t1 K41 fun _ => by omega
    replace H12 := H12.k1 K41 (by omega)
    replace H13 := H13.k1 K41 (by omega)
    replace H23 := H23.keep K41 (by intro h; change it4 = b27 at h; omega) (by intro h; change m1 = b27 at h; omega)
    replace H36 := H36.k1 K41 (by omega)
    refine oput 118 b33 [(i64 a16.op.kind), (Value.string (str a16.op.frm)), (Value.string (str a16.op.to)), (i64 a16.op.amount), (Value.string (str a16.op.key)), (i64 a16.op.slot), (i64 a16.op.shard), (i64 a16.why)] H36 rfl (fun w42 H43 K44 => ?_)
    replace K11 := K11.t1 K44 fun _ => by omega
    replace H12 := H12.k1 K44 (by omega)
    replace H13 := H13.k1 K44 (by omega)
    replace H23 := H23.keep K44 (by intro h; change it4 = b33 at h; omega) (by intro h; change m1 = b33 at h; omega)
    replace H40 := H40.k1 K44 (by omega)
    refine od ?_
    refine qsg ?_
    refine og 1 [(1, .map (some m2)), (5, ptr b27), (6, ptr b33), (15, ptr it4), (22, .map (some m2))] 1 ?_
    refine ogo (agg [(Value.string (str x15.1)), (Value.string (str x15.2))]) 23 (rld 116 b27 0 H40) rfl ?_
    refine ogo (Value.tuple #[(agg [(i64 0), (Value.string ByteArray.empty), (Value.string ByteArray.empty), (i64 0), (Value.string ByteArray.empty), (i64 0), (i64 0), (i64 0)]), (Value.bool false)]) 24 (Runs.lookup_none (ok := true) (z := (agg [(i64 0), (Value.string ByteArray.empty), (Value.string ByteArray.empty), (i64 0), (Value.string ByteArray.empty), (i64 0), (i64 0), (i64 0)])) KT2 Tryd.underlying108 (by kernel_rfl) H13 hg25 (by kernel_rfl)) rfl ?_
    refine og 3 [(1, .map (some m2)), (6, ptr b33), (15, ptr it4), (25, (agg [(i64 0), (Value.string ByteArray.empty), (Value.string ByteArray.empty), (i64 0), (Value.string ByteArray.empty), (i64 0), (i64 0), (i64 0)])), (26, .bool false)] 6 ?_
    refine onew (rowL [(i64 0), (Value.string ByteArray.empty), (Value.string ByteArray.empty), (i64 0), (Value.string ByteArray.empty), (i64 0), (i64 0), (i64 0)] 118) (fun b => (ptr b)) 7 (fun b => rfl) (fun b45 w46 hb47 H48 K49 hs50 => ?_)
    have lb45m1 : m1 < b45 := by have := H12.lt; omega
    have lb45m2 : m2 < b45 := by have := H13.lt; omega
    have lb45it4 : it4 < b45 := by have := H23.lt; omega
    have lb45b27 : b27 < b45 := by have := H40.lt; omega
    have lb45b33 : b33 < b45 := by have := H43.lt; omega
    have nb45 : w.heap.size ≤ b45 := by have := K11.size; omega
    replace K11 := K11.tn K49
    clear K49 hs50
    refine oput 118 b45 [(i64 0), (Value.string ByteArray.empty), (Value.string ByteArray.empty), (i64 0), (Value.string ByteArray.empty), (i64 0), (i64 0), (i64 0)] H48 rfl (fun w51 H52 K53 => ?_)
    replace K11 := K11.t1 K53 fun _ => by omega
    refine odz 1 ?_
    refine qsg ?_
    refine ogd 7 [(1, .map (some m2)), (15, ptr it4), (33, .bool true)] ?_
    refine q_then (o := .tmp 33) (by kernel_rfl) rfl ?_
    refine qsg ?_
    refine ogd 1 [(1, .map (some m2)), (4, .bool false), (15, ptr it4)] ?_
    refine qtQ ?_
    refine ⟨(Value.bool false), retv_tmp rfl rfl, ?_⟩
    exact ⟨false, rfl, ⟨fun h => (by cases h), fun h => absurd h fun h => (by have q := hsm h; rw [hg25] at q; cases q)⟩, K11⟩
   ·skip
    refine ogd 1 [(1, .map (some m2)), (15, ptr it4), (17, .bool true)] ?_
    refine qs ?_
    refine q_then (o := .tmp 17) (by kernel_rfl) rfl ?_
    refine qkQ ?_
    refine q_block (id := 1) (by kernel_rfl) ?_
    refine qsg ?_
    refine ogo (Value.tuple #[(agg [(Value.string (str x15.1)), (Value.string (str x15.2))]), (agg [(i64 a16.op.kind), (Value.string (str a16.op.frm)), (Value.string (str a16.op.to)), (i64 a16.op.amount), (Value.string (str a16.op.key)), (i64 a16.op.slot), (i64 a16.op.shard), (i64 a16.why)])]) 18 (Runs.of_entry (by kernel_rfl) (IterM.entry (kf := kpair) (vf := keptv) (x := x15) (a := a16) H23)) rfl ?_
    refine og 2 [(1, .map (some m2)), (15, ptr it4), (19, (agg [(Value.string (str x15.1)), (Value.string (str x15.2))])), (20, (agg [(i64 a16.op.kind), (Value.string (str a16.op.frm)), (Value.string (str a16.op.to)), (i64 a16.op.amount), (Value.string (str a16.op.key)), (i64 a16.op.slot), (i64 a16.op.shard), (i64 a16.why)]))] 3 ?_
    refine onew (rowL [(Value.string ByteArray.empty), (Value.string ByteArray.empty)] 116) (fun b => (ptr b)) 5 (fun b => rfl) (fun b54 w55 hb56 H57 K58 hs59 => ?_)
    have lb54m1 : m1 < b54 := by have := H12.lt; omega
    have lb54m2 : m2 < b54 := by have := H13.lt; omega
    have lb54it4 : it4 < b54 := by have := H23.lt; omega
    have nb54 : w.heap.size ≤ b54 := by have := K11.size; omega
    replace K11 := K11.tn K58
    replace H12 := H12.kn K58
    replace H13 := H13.kn K58
    replace H23 := H23.keep K58 (fun h => h) (fun h => h)
    clear K58 hs59
    refine onew (rowL [(i64 0), (Value.string ByteArray.empty), (Value.string ByteArray.empty), (i64 0), (Value.string ByteArray.empty), (i64 0), (i64 0), (i64 0)] 118) (fun b => (ptr b)) 6 (fun b => rfl) (fun b60 w61 hb62 H63 K64 hs65 => ?_)
    have lb60m1 : m1 < b60 := by have := H12.lt; omega
    have lb60m2 : m2 < b60 := by have := H13.lt; omega
    have lb60it4 : it4 < b60 := by have := H23.lt; omega
    have lb60b54 : b54 < b60 := by have := H57.lt; omega
    have nb60 : w.heap.size ≤ b60 := by have := K11.size; omega
    replace K11 := K11.tn K64
    replace H12 := H12.kn K64
    replace H13 := H13.kn K64
    replace H23 := H23.keep K64 (fun h => h) (fun h => h)
    replace H57 := H57.kn K64
    clear K64 hs65
    refine oput 116 b54 [(Value.string (str x15.1)), (Value.string (str x15.2))] H57 rfl (fun w66 H67 K68 => ?_)
    replace K11 := K11.t1 K68 fun _ => by omega
    replace H12 := H12.k1 K68 (by omega)
    replace H13 := H13.k1 K68 (by omega)
    replace H23 := H23.keep K68 (by intro h; change it4 = b54 at h; omega) (by intro h; change m1 = b54 at h; omega)
    replace H63 := H63.k1 K68 (by omega)
    refine oput 118 b60 [(i64 a16.op.kind), (Value.string (str a16.op.frm)), (Value.string (str a16.op.to)), (i64 a16.op.amount), (Value.string (str a16.op.key)), (i64 a16.op.slot), (i64 a16.op.shard), (i64 a16.why)] H63 rfl (fun w69 H70 K71 => ?_)
    replace K11 := K11.t1 K71 fun _ => by omega
    replace H12 := H12.k1 K71 (by omega)
    replace H13 := H13.k1 K71 (by omega)
    replace H23 := H23.keep K71 (by intro h; change it4 = b60 at h; omega) (by intro h; change m1 = b60 at h; omega)
    replace H67 := H67.k1 K71 (by omega)
    refine od ?_
    refine qsg ?_
    refine og 1 [(1, .map (some m2)), (5, ptr b54), (6, ptr b60), (15, ptr it4), (22, .map (some m2))] 1 ?_
    refine ogo (agg [(Value.string (str x15.1)), (Value.string (str x15.2))]) 23 (rld 116 b54 0 H67) rfl ?_
    refine ogo (Value.tuple #[(agg [(i64 v26.op.kind), (Value.string (str v26.op.frm)), (Value.string (str v26.op.to)), (i64 v26.op.amount), (Value.string (str v26.op.key)), (i64 v26.op.slot), (i64 v26.op.shard), (i64 v26.why)]), (Value.bool true)]) 24 (Runs.lookup_some (ok := true) (vf := keptv) (a := (⟨v26.op, v26.why⟩ : KeptM)) KT2 Tryd.underlying108 H13 hg25 (by kernel_rfl)) rfl ?_
    refine og 3 [(1, .map (some m2)), (6, ptr b60), (15, ptr it4), (25, (agg [(i64 v26.op.kind), (Value.string (str v26.op.frm)), (Value.string (str v26.op.to)), (i64 v26.op.amount), (Value.string (str v26.op.key)), (i64 v26.op.slot), (i64 v26.op.shard), (i64 v26.why)])), (26, .bool true)] 6 ?_
    refine onew (rowL [(i64 0), (Value.string ByteArray.empty), (Value.string ByteArray.empty), (i64 0), (Value.string ByteArray.empty), (i64 0), (i64 0), (i64 0)] 118) (fun b => (ptr b)) 7 (fun b => rfl) (fun b72 w73 hb74 H75 K76 hs77 => ?_)
    have lb72m1 : m1 < b72 := by have := H12.lt; omega
    have lb72m2 : m2 < b72 := by have := H13.lt; omega
    have lb72it4 : it4 < b72 := by have := H23.lt; omega
    have lb72b54 : b54 < b72 := by have := H67.lt; omega
    have lb72b60 : b60 < b72 := by have := H70.lt; omega
    have nb72 : w.heap.size ≤ b72 := by have := K11.size; omega
    replace K11 := K11.tn K76
    replace H12 := H12.kn K76
    replace H13 := H13.kn K76
    replace H23 := H23.keep K76 (fun h => h) (fun h => h)
    replace H70 := H70.kn K76
    clear K76 hs77
    refine oput 118 b72 [(i64 v26.op.kind), (Value.string (str v26.op.frm)), (Value.string (str v26.op.to)), (i64 v26.op.amount), (Value.string (str v26.op.key)), (i64 v26.op.slot), (i64 v26.op.shard), (i64 v26.why)] H75 rfl (fun w78 H79 K80 => ?_)
    replace K11 := K11.t1 K80 fun _ => by omega
    replace H12 := H12.k1 K80 (by omega)
    replace H13 := H13.k1 K80 (by omega)
    replace H23 := H23.keep K80 (by intro h; change it4 = b72 at h; omega) (by intro h; change m1 = b72 at h; omega)
    replace H70 := H70.k1 K80 (by omega)
    refine odz 1 ?_
    refine qsg ?_
    refine og 3 [(1, .map (some m2)), (6, ptr b60), (7, ptr b72), (15, ptr it4), (29, .bool false)] 3 ?_
    refine ogo (agg [(i64 a16.op.kind), (Value.string (str a16.op.frm)), (Value.string (str a16.op.to)), (i64 a16.op.amount), (Value.string (str a16.op.key)), (i64 a16.op.slot), (i64 a16.op.shard), (i64 a16.why)]) 30 (rld 118 b60 0 H70) rfl ?_
    refine ogo (agg [(i64 v26.op.kind), (Value.string (str v26.op.frm)), (Value.string (str v26.op.to)), (i64 v26.op.amount), (Value.string (str v26.op.key)), (i64 v26.op.slot), (i64 v26.op.shard), (i64 v26.why)]) 31 (rld 118 b72 0 H79) rfl ?_
    refine ogo (Value.bool (!(aggB [(i64 a16.op.kind), (Value.string (str a16.op.frm)), (Value.string (str a16.op.to)), (i64 a16.op.amount), (Value.string (str a16.op.key)), (i64 a16.op.slot), (i64 a16.op.shard)] [(i64 v26.op.kind), (Value.string (str v26.op.frm)), (Value.string (str v26.op.to)), (i64 v26.op.amount), (Value.string (str v26.op.key)), (i64 v26.op.slot), (i64 v26.op.shard)] && cellB (i64 a16.why) (i64 v26.why)))) 32 (Runs.nestneE (t := 118) (xs := [(i64 a16.op.kind), (Value.string (str a16.op.frm)), (Value.string (str a16.op.to)), (i64 a16.op.amount), (Value.string (str a16.op.key)), (i64 a16.op.slot), (i64 a16.op.shard)]) (ys := [(i64 v26.op.kind), (Value.string (str v26.op.frm)), (Value.string (str v26.op.to)), (i64 v26.op.amount), (Value.string (str v26.op.key)), (i64 v26.op.slot), (i64 v26.op.shard)]) (x := (i64 a16.why)) (y := (i64 v26.why)) keptNest rfl rfl (by kernel_rfl) (by kernel_rfl) (by kernel_rfl)) rfl ?_
    refine ogd 1 [(1, .map (some m2)), (15, ptr it4), (33, (Value.bool (!(aggB [(i64 a16.op.kind), (Value.string (str a16.op.frm)), (Value.string (str a16.op.to)), (i64 a16.op.amount), (Value.string (str a16.op.key)), (i64 a16.op.slot), (i64 a16.op.shard)] [(i64 v26.op.kind), (Value.string (str v26.op.frm)), (Value.string (str v26.op.to)), (i64 v26.op.amount), (Value.string (str v26.op.key)), (i64 v26.op.slot), (i64 v26.op.shard)] && cellB (i64 a16.why) (i64 v26.why)))))] ?_
    refine qcQ 33 (!(aggB [(i64 a16.op.kind), (Value.string (str a16.op.frm)), (Value.string (str a16.op.to)), (i64 a16.op.amount), (Value.string (str a16.op.key)), (i64 a16.op.slot), (i64 a16.op.shard)] [(i64 v26.op.kind), (Value.string (str v26.op.frm)), (Value.string (str v26.op.to)), (i64 v26.op.amount), (Value.string (str v26.op.key)), (i64 v26.op.slot), (i64 v26.op.shard)] && cellB (i64 a16.why) (i64 v26.why))) rfl (fun h81 => ?_) (fun h81 => ?_)
    ·rw [h81]
     have p82 := bnot_true h81
     have hav : a16 ≠ v26 := fun h => by have hq := ((kept_beq a16 v26).2 h).symm.trans (bnot_true h81); cases hq
     refine qsg ?_
     refine ogd 1 [(1, .map (some m2)), (4, .bool false), (15, ptr it4)] ?_
     refine qtQ ?_
     refine ⟨(Value.bool false), retv_tmp rfl rfl, ?_⟩
     exact ⟨false, rfl, ⟨fun h => (by cases h), fun h => absurd h fun h => (by have q := hsm h; rw [hg25] at q; exact hav (Option.some.inj q).symm)⟩, K11⟩
    ·rw [h81]
     have p83 := bnot_false h81
     have hav := (kept_beq a16 v26).1 (bnot_false h81)
     refine q_keep (R := [(1, .map (some m2)), (15, ptr it4)]) (by kernel_rfl) ?_
     refine qkQ ?_
     exact ⟨(came ++ [(x15, a16)], p17 ++ q18, some (x15, a16)), ⟨rfl, (came_perm (by rw [← hs20]; exact hp)), (fun y hy => by rcases List.mem_append.1 hy with hy | hy; (exact hall y hy); (rw [List.mem_singleton.1 hy, hav]; exact hg25)), K11, H12, H13, H23⟩, (show (p17 ++ q18).length < rest.length from by rw [List.length_append]; omega)⟩
theorem Same_calls (w : World) (b mb kb : Nat) (m : List (List UInt8 × Int)) (S : List RowM) (K : List KeptM) (b2 mb2 kb2 : Nat) (m2 : List (List UInt8 × Int)) (S2 : List RowM) (K2 : List KeptM) (Hb : Has w b (rowL [.map (some mb), .map (some kb)] 110)) (Hm : HasMap w mb kstr ki64 m) (Hk : HasMap w kb kpair keptv (K.map KeptM.kv)) (hne : b ≠ mb ∧ b ≠ kb ∧ mb ≠ kb) (hB : LBook m S K) (Hb2 : Has w b2 (rowL [.map (some mb2), .map (some kb2)] 110)) (Hm2 : HasMap w mb2 kstr ki64 m2) (Hk2 : HasMap w kb2 kpair keptv (K2.map KeptM.kv)) (hne2 : b2 ≠ mb2 ∧ b2 ≠ kb2 ∧ mb2 ≠ kb2) (hB2 : LBook m2 S2 K2) : Calls Tryd.prog 32 ⟨[(ptr b), (ptr b2)]⟩ w (fun e w' => ∃ t, e = .returned (.bool t) ∧ (t = true ↔ (S = S2 ∧ K.Perm K2)) ∧ Keeps none_ w w') := by
 have Hbl := Hb.lt
 have Hml := Hm.lt
 have Hkl := Hk.lt
 have hL := hB.lmap
 have Hb2l := Hb2.lt
 have Hm2l := Hm2.lt
 have Hk2l := Hk2.lt
 have K0 : Keeps none_ w w := Keeps.refl w
 refine q_calls Tryd.func32 (by kernel_rfl) (by kernel_rfl) ?_
 refine qsg ?_
 refine odz 1 ?_
 refine qs ?_
 refine qsg ?_
 refine ogd 6 [(0, ptr b), (1, ptr b2), (4, .bool false), (10, .bool false)] ?_
 refine q_else (o := .tmp 10) (by kernel_rfl) rfl ?_
 refine qkQ ?_
 refine qs ?_
 refine q_draw (fun wz => Keeps none_ w wz) 21 (by kernel_rfl) (by kernel_rfl) (by kernel_rfl) (fun w1 K2 _ _ => ⟨K2, ?_⟩)
 replace K0 := K0.t0 K2
 replace Hb := Hb.kn K2
 replace Hm := Hm.kn K2
 replace Hk := Hk.kn K2
 replace Hb2 := Hb2.kn K2
 replace Hm2 := Hm2.kn K2
 replace Hk2 := Hk2.kn K2
 refine Dr.strong (S' := (fun wz => Keeps none_ w1 wz)) (Keeps.refl w1) (fun wz hx => K2.trans hx (fun i _ h => h) (fun _ _ h => h)) ?_
 clear K2
 refine dkQ 18 [0, 1, 2] [(0, ptr b), (1, ptr b2), (4, .bool false), (16, ptr b)] ?_
 refine dtQ 3 (Value.map (some mb)) 17 (fun wz hS => rld 107 b 0 (Hb.keep hS (fun h => h))) rfl ?_
 refine dkQ 14 [4, 5, 6] [(0, ptr b), (1, ptr b2), (4, .bool false), (17, .map (some mb)), (20, ptr b2)] ?_
 refine dtQ 7 (Value.map (some mb2)) 21 (fun wz hS => rld 107 b2 0 (Hb2.keep hS (fun h => h))) rfl ?_
 refine Dr.call (i := 8) (by kernel_rfl) (by kernel_rfl) (d := (some 22)) (by kernel_rfl) (fun _ => EqualM_calls _ mb mb2 m m2 S S2 Hm Hm2 hB.lmap hB2.lmap) ?_
 rintro _ w6 ⟨t3, rfl, ht4, K5⟩
 replace K0 := K0.t0 K5
 replace Hb := Hb.kn K5
 replace Hk := Hk.kn K5
 replace Hb2 := Hb2.kn K5
 replace Hk2 := Hk2.kn K5
 refine ⟨_, _, rfl, rfl, K5, ?_⟩
 refine Dr.strong (S' := (fun wz => Keeps none_ w6 wz)) (Keeps.refl w6) (fun wz hx => K5.trans hx (fun i _ h => h) (fun _ _ h => h)) ?_
 clear K5
 refine dkQ 11 [9] [(0, ptr b), (1, ptr b2), (4, .bool false), (23, .bool t3)] ?_
 refine Dr.split t3 (fun h7 => ?_) (fun h7 => ?_)
 ·rw [h7]
  have p8 : t3 = true := h7
  refine dkQ 8 [10, 11, 12] [(1, ptr b2), (4, .bool false), (23, .bool true), (26, .pointer (some ⟨b, 1, none⟩))] ?_
  refine dtQ 13 (Value.map (some kb)) 27 (fun wz hS => rld 108 b 1 (Hb.keep hS (fun h => h))) rfl ?_
  refine dkQ 4 [14, 15, 16] [(4, .bool false), (23, .bool true), (27, .map (some kb)), (30, .pointer (some ⟨b2, 1, none⟩))] ?_
  refine dtQ 17 (Value.map (some kb2)) 31 (fun wz hS => rld 108 b2 1 (Hb2.keep hS (fun h => h))) rfl ?_
  refine Dr.call (i := 18) (by kernel_rfl) (by kernel_rfl) (d := (some 32)) (by kernel_rfl) (fun _ => EqualK_calls _ kb kb2 K K2 Hk Hk2 hB.ledg.ids hB2.ledg.ids) ?_
  rintro _ w12 ⟨t9, rfl, ht10, K11⟩
  replace K0 := K0.t0 K11
  refine ⟨_, _, rfl, rfl, K11, ?_⟩
  refine Dr.strong (S' := (fun wz => Keeps none_ w12 wz)) (Keeps.refl w12) (fun wz hx => K11.trans hx (fun i _ h => h) (fun _ _ h => h)) ?_
  refine dkQ 0 [19, 20] [(4, .bool t9)] ?_
  refine Dr.done (by kernel_rfl) ?_
  refine qtQ ?_
  refine ⟨(Value.bool t9), retv_tmp rfl rfl, ?_⟩
  exact ⟨_, rfl, ⟨fun h => ⟨ht4.1 h7, ht10.1 h⟩, fun h => ht10.2 h.2⟩, K0⟩
 ·rw [h7]
  have p13 : t3 = false := h7
  refine dkQ 0 [10, 11, 12, 13, 14, 15, 16, 17, 18, 19, 20] [(4, .bool false)] ?_
  refine Dr.done (by kernel_rfl) ?_
  refine qtQ ?_
  refine ⟨(Value.bool false), retv_tmp rfl rfl, ?_⟩
  exact ⟨false, rfl, ⟨fun h => (by cases h), fun h => absurd (ht4.2 h.1) (by rw [h7]; decide)⟩, K0⟩
end Go.Proofs.YtnbcghbgeiocbaaDoor
namespace Go.Proofs.YtnbcghbgeiocbaaDoor
open Go.Q Go.RowKit
theorem IndexF_calls (w : World) (b mb kb : Nat) (m : List (List UInt8 × Int)) (S : List RowM) (K : List KeptM) (F : Nat → Prop) (A : Option Addr) (c : Nat) (l : List StC) (Hb : Has w b (rowL [.map (some mb), .map (some kb)] 110)) (Hm : HasMap w mb kstr ki64 m) (Hk : HasMap w kb kpair keptv (K.map KeptM.kv)) (hne : b ≠ mb ∧ b ≠ kb ∧ mb ≠ kb) (hB : LBook m S K) (hV : RdT w 1 StC.led ((Value.slice A l.length c)) l) (hP : Pool w 110 F l) : Calls Tryd.prog 44 ⟨[(Value.slice A l.length c), (Value.func (Fn.func 32) ⟨[(ptr b)]⟩ ⟨[]⟩)]⟩ w (fun e w' => ∃ n : Int, e = .returned (i64 n) ∧ (0 ≤ n ↔ ∃ x ∈ l, sameL (S, K) x.s) ∧ Keeps none_ w w') := by
 have Hbl := Hb.lt
 have Hml := Hm.lt
 have Hkl := Hk.lt
 have hL := hB.lmap
 have hcap := (RdT.len StC.led1 (by decide) hV).2
 unfold maxLen at hcap
 have K0 : Keeps none_ w w := Keeps.refl w
 refine q_calls Tryd.func44 (by kernel_rfl) (by kernel_rfl) ?_
 refine qsg ?_
 refine odz 1 ?_
 refine qs ?_
 refine qsg ?_
 refine ogd 3 [(0, .slice A l.length c), (1, .func (Fn.func 32) ⟨[(ptr b)]⟩ ⟨[]⟩), (4, i64 0), (7, i64 ↑l.length), (8, i64 0)] ?_
 refine q_block (id := 0) (by kernel_rfl) ?_
 refine q_keep (R := [(0, .slice A l.length c), (1, .func (Fn.func 32) ⟨[(ptr b)]⟩ ⟨[]⟩), (7, i64 ↑l.length), (8, i64 0)]) (by kernel_rfl) ?_
 refine q_loop (fun (i : Nat) L (wx : World) => L = [(0, (Value.slice A l.length c)), (1, (Value.func (Fn.func 32) ⟨[(ptr b)]⟩ ⟨[]⟩)), (7, (i64 ((l.length : Nat) : Int))), (8, (i64 ((i : Nat) : Int)))] ∧ (∀ x ∈ l.take i, ¬ sameL (S, K) x.s) ∧ i ≤ l.length ∧ Keeps none_ w wx ∧ Has wx b (rowL [(Value.map (some mb)), (Value.map (some kb))] 110) ∧ HasMap wx mb kstr ki64 m ∧ HasMap wx kb kpair keptv (K.map KeptM.kv)) (fun (i : Nat) => l.length - i) 0 (by kernel_rfl) ⟨rfl, (fun x hx => by simp at hx), Nat.zero_le _, K0, Hb, Hm, Hk⟩ ?_
 clear Hb Hm Hk K0
 rintro i _ w1 ⟨rfl, hn, hi, K2, H3, H4, H5⟩
 refine qsg ?_
 refine ogd 1 [(0, .slice A l.length c), (1, .func (Fn.func 32) ⟨[(ptr b)]⟩ ⟨[]⟩), (7, i64 ↑l.length), (8, i64 ↑i), (9, (Value.bool (decide (((i : Nat) : Int) < ((l.length : Nat) : Int)))))] ?_
 refine qs ?_
 refine qcQ 9 (decide (((i : Nat) : Int) < ((l.length : Nat) : Int))) rfl (fun h6 => ?_) (fun h6 => ?_)
 ·rw [h6]
  have p7 := of_decide_eq_true h6
  obtain ⟨rb8, ro9, x, hA10, hx11⟩ := RdT.open (Rd.keep0 (by omega) hV K2) rfl (k := i) (by omega)
  refine qkQ ?_
  refine qs ?_
  refine q_block (id := 1) (by kernel_rfl) ?_
  refine qsg ?_
  refine odz 2 ?_
  refine qsg ?_
  refine og 3 [(0, .slice A l.length c), (1, .func (Fn.func 32) ⟨[(ptr b)]⟩ ⟨[]⟩), (5, i64 ↑i), (7, i64 ↑l.length), (8, i64 ↑i), (11, .func (Fn.func 32) ⟨[(ptr b)]⟩ ⟨[]⟩), (12, .slice A l.length c), (13, i64 ↑i)] 3 ?_
  refine Ops.go (by kernel_rfl) (Runs.ixSliceE (k := IntKind.i64) (t := 83) (len := l.length) (cap := c) (s := 1) (off' := ro9 + i) (i := ((i : Nat) : Int)) hA10 (by kernel_rfl) (by kernel_rfl) (by omega) (by omega) (by omega)) (d := (some 14)) (by kernel_rfl) rfl ?_
  refine ogo (ptr x.b) 15 (Runs.load (t := 69) (a := ⟨rb8, ro9 + i, none⟩) (by kernel_rfl) (RdT.ldu (f := StC.led) (x := x) StC.led1 (Rd.keep0 (by omega) hV K2) (by kernel_rfl) hA10 hx11 rfl)) rfl ?_
  obtain ⟨xm16, xk17, xq18, Hx19, Hy20, Hz21, xn22, xB23, _, _, _⟩ := ((hP.at_ x (List.mem_of_getElem? hx11)).keep K2 (fun _ _ h => h)).led
  refine ocQ 16 (Same_calls _ b mb kb m S K x.b xm16 xk17 xq18 x.s.1 x.s.2 H3 H4 H5 hne hB Hx19 Hy20 Hz21 xn22 xB23) ?_
  rintro _ w15 ⟨t12, rfl, ht13, K14⟩
  refine ⟨_, _, rfl, rfl, ?_⟩
  replace K2 := K2.tn K14
  replace H3 := H3.kn K14
  replace H4 := H4.kn K14
  replace H5 := H5.kn K14
  refine od ?_
  refine qcQ 16 t12 rfl (fun h24 => ?_) (fun h24 => ?_)
  ·rw [h24]
   have p25 : t12 = true := h24
   refine qsg ?_
   refine ogd 2 [(0, .slice A l.length c), (1, .func (Fn.func 32) ⟨[(ptr b)]⟩ ⟨[]⟩), (4, i64 ↑i), (7, i64 ↑l.length), (8, i64 ↑i)] ?_
   refine qtQ ?_
   refine ⟨(i64 ((i : Nat) : Int)), retv_tmp rfl rfl, ?_⟩
   exact ⟨_, rfl, ⟨fun _ => ⟨x, List.mem_of_getElem? hx11, ht13.1 h24⟩, fun _ => by omega⟩, K2⟩
  ·rw [h24]
   have p26 : t12 = false := h24
   refine qkQ ?_
   refine qg ?_
   refine oid 2 (fun z => [(0, .slice A l.length c), (1, .func (Fn.func 32) ⟨[(ptr b)]⟩ ⟨[]⟩), (7, i64 ↑l.length), (8, i64 z)]) i ?_
   exact ⟨i + 1, ⟨rfl, (fun z hz => by rw [List.take_add_one, hx11] at hz; rcases List.mem_append.1 hz with hz | hz; (exact hn z hz); (obtain rfl : z = x := (by simpa using hz); exact fun q => by have q2 := ht13.2 q; rw [h24] at q2; cases q2)), (by omega), K2, H3, H4, H5⟩, (show l.length - (i + 1) < l.length - i from by omega)⟩
 ·rw [h6]
  have p28 := of_decide_eq_false h6
  refine q_exit (id := 0) (by kernel_rfl) ?_
  refine qsg ?_
  refine ogd 1 [(4, (i64 (-1)))] ?_
  refine qtQ ?_
  refine ⟨(i64 (-1)), retv_tmp rfl rfl, ?_⟩
  exact ⟨-1, rfl, ⟨fun h => absurd h (by decide), fun ⟨x, hx, hs⟩ => absurd hs (hn x (by rwa [List.take_of_length_le (by omega)]))⟩, K2⟩
theorem Contains_calls (w : World) (b mb kb : Nat) (m : List (List UInt8 × Int)) (S : List RowM) (K : List KeptM) (F : Nat → Prop) (A : Option Addr) (c : Nat) (l : List StC) (Hb : Has w b (rowL [.map (some mb), .map (some kb)] 110)) (Hm : HasMap w mb kstr ki64 m) (Hk : HasMap w kb kpair keptv (K.map KeptM.kv)) (hne : b ≠ mb ∧ b ≠ kb ∧ mb ≠ kb) (hB : LBook m S K) (hV : RdT w 1 StC.led ((Value.slice A l.length c)) l) (hP : Pool w 110 F l) : Calls Tryd.prog 31 ⟨[(Value.slice A l.length c), (Value.func (Fn.func 32) ⟨[(ptr b)]⟩ ⟨[]⟩)]⟩ w (fun e w' => ∃ t, e = .returned (.bool t) ∧ (t = true ↔ ∃ x ∈ l, sameL (S, K) x.s) ∧ Keeps none_ w w') := by
 have Hbl := Hb.lt
 have Hml := Hm.lt
 have Hkl := Hk.lt
 have hL := hB.lmap
 have K0 : Keeps none_ w w := Keeps.refl w
 refine q_calls Tryd.func31 (by kernel_rfl) (by kernel_rfl) ?_
 refine qsg ?_
 refine odz 1 ?_
 refine qsg ?_
 refine og 2 [(4, .bool false), (5, .slice A l.length c), (6, .func (Fn.func 32) ⟨[(ptr b)]⟩ ⟨[]⟩)] 2 ?_
 refine ocQ 7 (IndexF_calls _ b mb kb m S K F A c l Hb Hm Hk hne hB hV hP) ?_
 rintro _ w4 ⟨n1, rfl, hn2, K3⟩
 refine ⟨_, _, rfl, rfl, ?_⟩
 replace K0 := K0.t0 K3
 clear K3
 refine ogd 2 [(4, (Value.bool (decide (n1 ≥ 0))))] ?_
 refine qtQ ?_
 refine ⟨(Value.bool (decide (n1 ≥ 0))), retv_tmp rfl rfl, ?_⟩
 exact ⟨_, rfl, ⟨fun h => hn2.1 (of_decide_eq_true h), fun h => decide_eq_true (hn2.2 h)⟩, K0⟩
end Go.Proofs.YtnbcghbgeiocbaaDoor
namespace Go.Q
open Go.RowKit Go.MapKept
def colD (D : Nat) : Deferred := { target := .collected D, args := #[] }
structure DefsW (w : World) (Ds : List Nat) : Prop where
 nodup : Ds.Nodup
 at_ : ∀ D ∈ Ds, w.heap[D]? = some (.deferred (some []))
theorem DefsW.nil (w : World) : DefsW w [] := ⟨List.Pairwise.nil, fun D h => (by cases h)⟩
theorem DefsW.keep {S : Nat → Prop} {w w' : World} {Ds : List Nat} (h : DefsW w Ds) (K : Keeps S w w') (hS : ∀ D ∈ Ds, ¬ S D) : DefsW w' Ds :=
 ⟨h.nodup, fun D hD => (K.blk D (Array.getElem?_eq_some_iff.1 (h.at_ D hD)).1 (hS D hD)).trans (h.at_ D hD)⟩
theorem DefsW.lt {w : World} {Ds : List Nat} (h : DefsW w Ds) : ∀ D ∈ Ds, D < w.heap.size := fun D hD => (Array.getElem?_eq_some_iff.1 (h.at_ D hD)).1
theorem DefsW.cons {w : World} {Ds : List Nat} {D : Nat} (h : DefsW w Ds) (hD : w.heap[D]? = some (.deferred (some []))) (hn : D ∉ Ds) : DefsW w (D :: Ds) :=
 ⟨List.nodup_cons.2 ⟨hn, h.nodup⟩, fun E hE => (List.mem_cons.1 hE).elim (fun e => e ▸ hD) (h.at_ E)⟩
theorem retR_many {P : Program} {m : Nat} {fn : Func} {R : Ending → World → Prop} {v : Value} {L : Loc} {w0 : World} {Ds0 : List Nat} (hv : ∀ w', retv P fn w' v L) (hR : ∀ w', Keeps (fun i => i ∈ Ds0) w0 w' → R (.returned v) w') :
  ∀ (Ds : List Nat) (w : World), DefsW w Ds → (∀ D ∈ Ds, D ∈ Ds0) → Keeps (fun i => i ∈ Ds0) w0 w → retR P fn m R (Ds.map colD) .ret L w := by
 intro Ds w hD hs hK a ha
 show LeavesInM Fence.wide m P fn a.tmps R (Ds.map colD) .returning w
 induction Ds generalizing w with
 | nil => exact ⟨v, hv w a.tmps ha.val, hR w hK⟩
 | cons D Ds ih =>
  have hDD := hD.at_ D (List.mem_cons_self ..)
  have hput : Keeps (fun i => i = D) w (w.putObj D (.deferred none)) := ⟨rfl, rfl, rfl, by simp, fun i _ hn => World.putObj_heap_other hn⟩
  have hnd := List.nodup_cons.1 hD.nodup
  refine ⟨by simp, .inl ⟨D, _, rfl, run_takeDeferred hDD, ih _ ?_ (fun E hE => hs E (List.mem_cons_of_mem _ hE)) (hK.trans hput (fun _ _ h => h) fun i _ h => by
   have h : i = D := h
   rw [h]; exact hs D (List.mem_cons_self ..))⟩⟩
  exact (show DefsW w Ds from ⟨hnd.2, fun E hE => hD.at_ E (List.mem_cons_of_mem _ hE)⟩).keep hput fun E hE (e : E = D) => hnd.1 (e ▸ hE)
theorem retR_many0 {P : Program} {m : Nat} {fn : Func} {R : Ending → World → Prop} {v : Value} {L : Loc} {w : World} {Ds : List Nat} (hv : ∀ w', retv P fn w' v L) (hD : DefsW w Ds) (hR : ∀ w', Keeps (fun i => i ∈ Ds) w w' → R (.returned v) w') : retR P fn m R (Ds.map colD) .ret L w :=
 retR_many hv hR Ds w hD (fun _ h => h) ((Keeps.refl w).mono fun _ _ h => h.elim)
def LAV (LA : Option Addr) (lc : Nat) (l : List HC) : Value := .slice LA l.length lc
def AAV (AA : Option Addr) (ac : Nat) (a : List Nat) : Value := .slice AA a.length ac
structure Imm (w : World) (tL tK tS : Nat) (F : Nat → Prop) (b5 : Nat) (LA : Option Addr) (lc : Nat) (l : List HC) (AA : Option Addr) (ac : Nat) (a : List Nat) (ok : Bool) (t : StC) (tb : Nat) (P : List StC) (Ds : List Nat) : Prop where
 pool : Pool w tL F P
 h5 : Has w b5 (rowL [.slice LA l.length lc, .slice AA a.length ac] tK)
 f5 : F b5
 rl : RdT w 13 HC.cells (.slice LA l.length lc) l
 fl : ∀ i, (Value.slice LA l.length lc).ownBlock = some i → F i
 ra : RdT w 1 iN (.slice AA a.length ac) a
 fa : ∀ i, (Value.slice AA a.length ac).ownBlock = some i → F i
 rows : ∃ G, RowsE w HC.rv HC.rows G l ∧ ∀ i, G i → F i
 tcell : ok = true → Has w tb (rowL t.cells tS)
 ft : F tb
 defs : DefsW w Ds
 fd : ∀ D ∈ Ds, F D
section
variable {w w' : World} {tL tK tS : Nat} {F : Nat → Prop} {b5 : Nat} {LA : Option Addr} {lc : Nat} {l : List HC} {AA : Option Addr} {ac : Nat} {a : List Nat} {ok : Bool} {t : StC} {tb : Nat} {P : List StC} {Ds : List Nat}
theorem Imm.keep {S : Nat → Prop} (h : Imm w tL tK tS F b5 LA lc l AA ac a ok t tb P Ds) (K : Keeps S w w') (hS : ∀ i, F i → ¬ S i) : Imm w' tL tK tS F b5 LA lc l AA ac a ok t tb P Ds where
 pool := h.pool.keep K hS
 h5 := h.h5.keep K (hS _ h.f5)
 f5 := h.f5
 rl := Rd.keep (by decide) h.rl K fun i hi => hS i (h.fl i hi)
 fl := h.fl
 ra := Rd.keep (by decide) h.ra K fun i hi => hS i (h.fa i hi)
 fa := h.fa
 rows := let ⟨G, h1, h2⟩ := h.rows; ⟨G, h1.keep K fun i hi => hS i (h2 i hi), h2⟩
 tcell e := (h.tcell e).keep K (hS _ h.ft)
 ft := h.ft
 defs := h.defs.keep K fun D hD => hS D (h.fd D hD)
 fd := h.fd
theorem Imm.lt (h : Imm w tL tK tS F b5 LA lc l AA ac a ok t tb P Ds) : ∀ i, F i → i < w.heap.size := h.pool.lt
theorem Imm.next (h : Imm w tL tK tS F b5 LA lc l AA ac a ok t tb P Ds) {F' : Nat → Prop} {ok' : Bool} {t' : StC} {tb' : Nat} {P' : List StC} {Ds' : List Nat} (hF : ∀ i, F i → F' i) (hlt : ∀ i, F' i → i < w.heap.size) (hP : ∀ x ∈ P', x.At w tL F') (ht : ok' = true → Has w tb' (rowL t'.cells tS)) (hft : F' tb') (hd : DefsW w Ds') (hfd : ∀ D ∈ Ds', F' D) :
  Imm w tL tK tS F' b5 LA lc l AA ac a ok' t' tb' P' Ds' where
 pool := ⟨hP, hlt⟩
 h5 := h.h5
 f5 := hF _ h.f5
 rl := h.rl
 fl i hi := hF i (h.fl i hi)
 ra := h.ra
 fa i hi := hF i (h.fa i hi)
 rows := let ⟨G, h1, h2⟩ := h.rows; ⟨G, h1, fun i hi => hF i (h2 i hi)⟩
 tcell := ht
 ft := hft
 defs := hd
 fd := hfd
end
def ku64 (n : Nat) : Value := .int .u64 ((n : Nat) : Int)
theorem keyTy_u64 {P : Program} {k : TypeId} (hk : P.underlying k = some (.int .u64)) : KeyTy P k ku64 where
 check e x w := run_checkKey hk (by first | trivial | rfl) e 9999
 find x es w h := by
  have hks : ∀ e ∈ es, IsKey (.int .u64) e.key := fun e he => by obtain ⟨y, hy⟩ := h e he; rw [hy]; first | trivial | rfl
  rcases findNow_spec (d := .int .u64) (k := ku64 x) rfl es 0 hks with ⟨h1, h2⟩ | ⟨j, e, h1, h2, h3⟩
  ·exact .inr ⟨h2, run_findKey hk h1⟩
  ·exact .inl ⟨j, e, h2, h3, by rw [run_findKey hk h1, Nat.zero_add]⟩
 same x := sameBits_self (d := .int .u64) (by first | trivial | rfl) 10000
 inj x y h := by
  simp only [ku64, Value.int.injEq, true_and] at h
  omega
structure DRow where
 A : Option Addr
 c : Nat
 bs : List StC
def DRow.v (r : DRow) : Value := .slice r.A r.bs.length r.c
structure DullW (w : World) (base tP : Nat) (md : List (Nat × DRow)) (Dl : List StC) (Gd : Nat → Prop) : Prop where
 own : ∀ p ∈ md, OwnT w base tP 1 StC.led p.2.v p.2.bs
 inG : ∀ p ∈ md, ∀ i, p.2.v.ownBlock = some i → Gd i
 lt : ∀ i, Gd i → i < w.heap.size
 apart : ∀ p ∈ md, ∀ q ∈ md, p.1 ≠ q.1 → ∀ i, p.2.v.ownBlock = some i → q.2.v.ownBlock = some i → False
 key : ∀ p ∈ md, ∀ x ∈ p.2.bs, x.done = p.1
 mem : ∀ x, x ∈ Dl ↔ ∃ p ∈ md, x ∈ p.2.bs
 len : ∀ p ∈ md, p.2.bs.length ≤ Dl.length
theorem DullW.nil (w : World) (base tP : Nat) : DullW w base tP [] [] none_ :=
 ⟨fun p h => (by cases h), fun p h => (by cases h), fun i h => h.elim, fun p h => (by cases h), fun p h => (by cases h), fun x => ⟨fun h => (by cases h), fun ⟨p, h, _⟩ => (by cases h)⟩, fun p h => (by cases h)⟩
theorem DullW.keep {S : Nat → Prop} {w w' : World} {base tP : Nat} {md : List (Nat × DRow)} {Dl : List StC} {Gd : Nat → Prop} (h : DullW w base tP md Dl Gd) (K : Keeps S w w') (hS : ∀ i, Gd i → ¬ S i) : DullW w' base tP md Dl Gd :=
 ⟨fun p hp => own_keep (h.own p hp) K fun i hi => hS i (h.inG p hp i hi), h.inG, fun i hi => Nat.lt_of_lt_of_le (h.lt i hi) K.size, h.apart, h.key, h.mem, h.len⟩
def StC.ds (x : StC) : Nat × LS_ := (x.done, x.s)
section
variable {md : List (Nat × DRow)} {Dl : List StC} {w w' : World} {base tP : Nat} {Gd : Nat → Prop} {t : StC}
theorem dull_iff (D : List StC) (t : StC) : dullS sameB (D.map StC.ds) t.m = true ↔ ∃ x ∈ D, x.done = t.done ∧ sameL t.s x.s := by
 unfold dullS
 rw [List.any_map, List.any_eq_true]
 constructor
 ·rintro ⟨x, hx, h⟩
  have h : (x.done == t.done && sameB t.s x.s) = true := h
  rw [Bool.and_eq_true, beq_iff_eq, sameB_iff] at h
  exact ⟨x, hx, h.1, h.2⟩
 ·rintro ⟨x, hx, h1, h2⟩
  refine ⟨x, hx, ?_⟩
  show (x.done == t.done && sameB t.s x.s) = true
  rw [Bool.and_eq_true, beq_iff_eq, sameB_iff]
  exact ⟨h1, h2⟩
theorem DullW.miss (h : DullW w base tP md Dl Gd) (hg : getM md t.done = none) : ¬ dullS sameB (Dl.map StC.ds) t.m = true := by
 rw [dull_iff]
 rintro ⟨x, hx, h1, _⟩
 obtain ⟨p, hp, h2⟩ := (h.mem x).1 hx
 exact getM_not hg (List.mem_map.2 ⟨p, hp, by rw [← h.key p hp x h2, h1]⟩)
theorem md_at (hn : (md.map (·.1)).Nodup) {r : DRow} (hg : getM md t.done = some r) {p : Nat × DRow} (hp : p ∈ md) (he : p.1 = t.done) : p.2 = r := by
 obtain ⟨i, hi⟩ := List.getElem?_of_mem hp
 have := getM_at hn hi he
 rw [hg] at this
 exact (Option.some.inj this).symm
theorem DullW.hit (h : DullW w base tP md Dl Gd) (hn : (md.map (·.1)).Nodup) {r : DRow} (hg : getM md t.done = some r) : dullS sameB (Dl.map StC.ds) t.m = true ↔ ∃ x ∈ r.bs, sameL t.s x.s := by
 rw [dull_iff]
 constructor
 ·rintro ⟨x, hx, h1, h2⟩
  obtain ⟨p, hp, h4⟩ := (h.mem x).1 hx
  have := md_at hn hg hp ((h.key p hp x h4).symm.trans h1)
  rw [this] at h4
  exact ⟨x, h4, h2⟩
 ·rintro ⟨x, hx, h2⟩
  have hm := getM_mem hg
  exact ⟨x, (h.mem x).2 ⟨_, hm, hx⟩, h.key _ hm x hx, h2⟩
theorem DullW.put (h : DullW w base tP md Dl Gd) (hn : (md.map (·.1)).Nodup) {r : DRow} (hg : getM md t.done = some r) {S : Nat → Prop} (K : Keeps S w w') (hS : ∀ i, S i → Gd i → r.v.ownBlock = some i) {A2 : Option Addr} {c2 : Nat} (hO : OwnT w' base tP 1 StC.led (.slice A2 (r.bs ++ [t]).length c2) (r.bs ++ [t])) (hnew : ∀ i, (Value.slice A2 (r.bs ++ [t]).length c2).ownBlock = some i → r.v.ownBlock = some i ∨ w.heap.size ≤ i) :
  DullW w' base tP (putM md t.done ⟨A2, c2, r.bs ++ [t]⟩) (t :: Dl) (fun i => Gd i ∨ (Value.slice A2 (r.bs ++ [t]).length c2).ownBlock = some i) := by
 have hm := getM_mem hg
 have e : putM md t.done ⟨A2, c2, r.bs ++ [t]⟩ = md.map (fun y => if y.1 = t.done then (t.done, ⟨A2, c2, r.bs ++ [t]⟩) else y) := by unfold putM; rw [if_pos (getM_key hg)]
 have hin : ∀ p, p ∈ putM md t.done ⟨A2, c2, r.bs ++ [t]⟩ → p = (t.done, ⟨A2, c2, r.bs ++ [t]⟩) ∨ (p ∈ md ∧ p.1 ≠ t.done) := fun p hp => by
  rw [e] at hp
  obtain ⟨y, hy, rfl⟩ := List.mem_map.1 hp
  by_cases hk : y.1 = t.done
  ·rw [if_pos hk]; exact .inl rfl
  ·rw [if_neg hk]; exact .inr ⟨hy, hk⟩
 have hout : ∀ p ∈ md, p.1 ≠ t.done → p ∈ putM md t.done ⟨A2, c2, r.bs ++ [t]⟩ := fun p hp hk => by rw [e]; exact List.mem_map.2 ⟨p, hp, if_neg hk⟩
 have hnw : (t.done, (⟨A2, c2, r.bs ++ [t]⟩ : DRow)) ∈ putM md t.done ⟨A2, c2, r.bs ++ [t]⟩ := by rw [e]; exact List.mem_map.2 ⟨_, hm, if_pos rfl⟩
 have hap : ∀ p ∈ md, p.1 ≠ t.done → ∀ i, p.2.v.ownBlock = some i → (Value.slice A2 (r.bs ++ [t]).length c2).ownBlock = some i → False := fun p hp hk i h1 h2 => by
  rcases hnew i h2 with q | q
  ·exact h.apart p hp _ hm hk i h1 q
  ·have := h.lt i (h.inG p hp i h1); omega
 refine ⟨fun p hp => ?_, fun p hp i hi => ?_, fun i hi => ?_, fun p hp q hq hk i h1 h2 => ?_, fun p hp x hx => ?_, fun x => ⟨fun hx => ?_, fun ⟨p, hp, hx⟩ => ?_⟩, fun p hp => ?_⟩
 ·rcases hin p hp with rfl | ⟨hp, hk⟩
  ·exact hO
  ·exact own_keep (h.own p hp) K fun i hi hs => h.apart p hp _ hm hk i hi (hS i hs (h.inG p hp i hi))
 ·rcases hin p hp with rfl | ⟨hp, hk⟩
  ·exact .inr hi
  ·exact .inl (h.inG p hp i hi)
 ·rcases hi with hi | hi
  ·exact Nat.lt_of_lt_of_le (h.lt i hi) K.size
  ·exact (World.ownsRow.lt hO i hi).2
 ·rcases hin p hp with rfl | ⟨hp, hk1⟩ <;> rcases hin q hq with rfl | ⟨hq, hk2⟩
  ·exact hk rfl
  ·exact hap q hq hk2 i h2 h1
  ·exact hap p hp hk1 i h1 h2
  ·exact h.apart p hp q hq hk i h1 h2
 ·rcases hin p hp with rfl | ⟨hp, hk⟩
  ·rcases List.mem_append.1 hx with hx | hx
   ·exact h.key _ hm x hx
   ·rw [List.mem_singleton.1 hx]
  ·exact h.key p hp x hx
 ·rcases List.mem_cons.1 hx with rfl | hx
  ·exact ⟨_, hnw, List.mem_append_right _ (List.mem_singleton.2 rfl)⟩
  ·obtain ⟨p, hp, h1⟩ := (h.mem x).1 hx
   by_cases hk : p.1 = t.done
   ·have := md_at hn hg hp hk
    rw [this] at h1
    exact ⟨_, hnw, List.mem_append_left _ h1⟩
   ·exact ⟨p, hout p hp hk, h1⟩
 ·rcases hin p hp with rfl | ⟨hp, hk⟩
  ·rcases List.mem_append.1 hx with hx | hx
   ·exact List.mem_cons_of_mem _ ((h.mem x).2 ⟨_, hm, hx⟩)
   ·rw [List.mem_singleton.1 hx]; exact List.mem_cons_self ..
  ·exact List.mem_cons_of_mem _ ((h.mem x).2 ⟨p, hp, hx⟩)
 ·rw [List.length_cons]
  rcases hin p hp with rfl | ⟨hp, hk⟩
  ·have : r.bs.length ≤ Dl.length := h.len _ hm; show (r.bs ++ [t]).length ≤ _; rw [List.length_append, List.length_singleton]; omega
  ·have := h.len p hp; omega
theorem DullW.put0 (h : DullW w base tP md Dl Gd) (hg : getM md t.done = none) {S : Nat → Prop} (K : Keeps S w w') (hS : ∀ i, S i → ¬ Gd i) {A2 : Option Addr} {c2 : Nat} (hO : OwnT w' base tP 1 StC.led (.slice A2 [t].length c2) [t]) (hnew : ∀ i, (Value.slice A2 [t].length c2).ownBlock = some i → w.heap.size ≤ i) :
  DullW w' base tP (putM md t.done ⟨A2, c2, [t]⟩) (t :: Dl) (fun i => Gd i ∨ (Value.slice A2 [t].length c2).ownBlock = some i) := by
 have e : putM md t.done ⟨A2, c2, [t]⟩ = md ++ [(t.done, ⟨A2, c2, [t]⟩)] := by unfold putM; rw [if_neg (getM_not hg)]
 have hin : ∀ p, p ∈ putM md t.done ⟨A2, c2, [t]⟩ ↔ p = (t.done, ⟨A2, c2, [t]⟩) ∨ p ∈ md := fun p => by
  rw [e, List.mem_append, List.mem_singleton, or_comm]
 have hap : ∀ p ∈ md, ∀ i, p.2.v.ownBlock = some i → (Value.slice A2 [t].length c2).ownBlock = some i → False := fun p hp i h1 h2 => by
  have := h.lt i (h.inG p hp i h1); have := hnew i h2; omega
 refine ⟨fun p hp => ?_, fun p hp i hi => ?_, fun i hi => ?_, fun p hp q hq hk i h1 h2 => ?_, fun p hp x hx => ?_, fun x => ⟨fun hx => ?_, fun ⟨p, hp, hx⟩ => ?_⟩, fun p hp => ?_⟩
 ·rcases (hin p).1 hp with rfl | hp
  ·exact hO
  ·exact own_keep (h.own p hp) K fun i hi hs => hS i hs (h.inG p hp i hi)
 ·rcases (hin p).1 hp with rfl | hp
  ·exact .inr hi
  ·exact .inl (h.inG p hp i hi)
 ·rcases hi with hi | hi
  ·exact Nat.lt_of_lt_of_le (h.lt i hi) K.size
  ·exact (World.ownsRow.lt hO i hi).2
 ·rcases (hin p).1 hp with rfl | hp <;> rcases (hin q).1 hq with rfl | hq
  ·exact hk rfl
  ·exact hap q hq i h2 h1
  ·exact hap p hp i h1 h2
  ·exact h.apart p hp q hq hk i h1 h2
 ·rcases (hin p).1 hp with rfl | hp
  ·rw [List.mem_singleton.1 hx]
  ·exact h.key p hp x hx
 ·rcases List.mem_cons.1 hx with rfl | hx
  ·exact ⟨_, (hin _).2 (.inl rfl), List.mem_singleton.2 rfl⟩
  ·obtain ⟨p, hp, h1⟩ := (h.mem x).1 hx
   exact ⟨p, (hin _).2 (.inr hp), h1⟩
 ·rcases (hin p).1 hp with rfl | hp
  ·rw [List.mem_singleton.1 hx]; exact List.mem_cons_self ..
  ·exact List.mem_cons_of_mem _ ((h.mem x).2 ⟨p, hp, hx⟩)
 ·rw [List.length_cons]
  rcases (hin p).1 hp with rfl | hp
  ·show [t].length ≤ _; rw [List.length_singleton]; omega
  ·have := h.len p hp; omega
end
def MoreI (W : World) (tL tSs tS b : Nat) (N : List (Sr LS_)) (k : Nat) (V : World) : Prop :=
 ∃ (lm : List StC) (A : Option Addr) (c : Nat) (FP : Nat → Prop), Has V b (rowL [.slice A lm.length c] tSs) ∧ OwnT V (W.heap.size + 2) tS 4 StC.cells (.slice A lm.length c) lm ∧ lm.map StC.m = N.take k ∧ Pool V tL FP lm ∧ (∀ i, FP i → W.heap.size + 2 ≤ i) ∧ (∀ i, (Value.slice A lm.length c).ownBlock = some i → FP i → False) ∧ Keeps (fun i => i = b) W V ∧ b < W.heap.size
section
variable {W V V' : World} {tL tSs tS b k : Nat} {N : List (Sr LS_)}
theorem MoreI.zero (H : Has W b (rowL [.slice none 0 0] tSs)) : MoreI W tL tSs tS b N 0 W :=
 ⟨[], none, 0, none_, H, OwnT.nil _ _ _ _ _, rfl, Pool.nil _ _, fun i h => h.elim, fun i h => (by cases h), (Keeps.refl W).mono fun _ _ h => h.elim, H.lt⟩
theorem MoreI.keep (h : MoreI W tL tSs tS b N k V) (K : Keeps (fun i => i = W.heap.size ∨ i = W.heap.size + 1) V V') : MoreI W tL tSs tS b N k V' := by
 obtain ⟨lm, A, c, FP, h1, h2, h3, h4, h5, h6, h7, h8⟩ := h
 exact ⟨lm, A, c, FP, h1.keep K (by omega), own_keep h2 K (fun i hi hs => by have := (World.ownsRow.lt h2 i hi).1; omega), h3, h4.keep K (fun i hi hs => by have := h5 i hi; omega), h5, h6, h7.trans K (fun _ _ h => h) (fun i hi h => by exfalso; omega), h8⟩
theorem MoreI.add {lm : List StC} {A A' : Option Addr} {c c' : Nat} {FP : Nat → Prop} {x : StC} (h2 : OwnT V (W.heap.size + 2) tS 4 StC.cells (.slice A lm.length c) lm) (h3 : lm.map StC.m = N.take k) (h4 : Pool V tL FP lm) (h5 : ∀ i, FP i → W.heap.size + 2 ≤ i) (h6 : ∀ i, (Value.slice A lm.length c).ownBlock = some i → FP i → False) (h7 : Keeps (fun i => i = b) W V) (h8 : b < W.heap.size)
  {FX : Nat → Prop} (hx : x.At V tL FX) (hFX : ∀ i, FX i → W.heap.size + 2 ≤ i ∧ i < V.heap.size) (hap : ∀ i, (Value.slice A lm.length c).ownBlock = some i → FX i → False) (hn : N[k]? = some x.m) (K : Keeps (fun i => i = b ∨ (Value.slice A lm.length c).ownBlock = some i) V V') (H : Has V' b (rowL [.slice A' (lm ++ [x]).length c'] tSs)) (hO : OwnT V' (W.heap.size + 2) tS 4 StC.cells (.slice A' (lm ++ [x]).length c') (lm ++ [x]))
  (hg : ∀ i, (Value.slice A' (lm ++ [x]).length c').ownBlock = some i → (Value.slice A lm.length c).ownBlock = some i ∨ V.heap.size ≤ i) : MoreI W tL tSs tS b N (k + 1) V' := by
 have e1 : ∀ i, FP i → ¬ (i = b ∨ (Value.slice A lm.length c).ownBlock = some i) := fun i hi hs => by
  rcases hs with hs | hs
  ·have := h5 i hi; omega
  ·exact h6 i hs hi
 have e2 : ∀ i, FX i → ¬ (i = b ∨ (Value.slice A lm.length c).ownBlock = some i) := fun i hi hs => by
  rcases hs with hs | hs
  ·have := hFX i hi; omega
  ·exact hap i hs hi
 refine ⟨lm ++ [x], A', c', fun i => FP i ∨ FX i, H, hO, ?_, ⟨fun y hy => ?_, fun i hi => ?_⟩, fun i hi => ?_, fun i hi hf => ?_, ?_, h8⟩
 ·rw [List.map_append, h3, List.take_add_one, hn]; rfl
 ·rcases List.mem_append.1 hy with hy | hy
  ·exact ((h4.at_ y hy).keep K e1).mono fun i h => .inl h
  ·rw [List.mem_singleton.1 hy]; exact (hx.keep K e2).mono fun i h => .inr h
 ·rcases hi with hi | hi
  ·exact Nat.lt_of_lt_of_le (h4.lt i hi) K.size
  ·exact Nat.lt_of_lt_of_le (hFX i hi).2 K.size
 ·exact hi.elim (h5 i) fun h => (hFX i h).1
 ·rcases hg i hi with q | q
  ·exact hf.elim (h6 i q) (hap i q)
  ·rcases hf with hf | hf
   ·have := h4.lt i hf; omega
   ·have := (hFX i hf).2; omega
 ·exact h7.trans K (fun _ _ h => h) fun i hi hs => by
   rcases hs with hs | hs
   ·exact hs
   ·have := (World.ownsRow.lt h2 i hs).1; omega
end
theorem rd_defs {w w' : World} {v : Value} {o : List Nat} {Ds : List Nat} (h : RdT w 1 iN v o) (hD : DefsW w Ds) (K : Keeps (fun i => i ∈ Ds) w w') : RdT w' 1 iN v o := by
 by_cases h0 : o.flatMap iN = []
 ·exact Rd.keep_nil (by decide) h h0
 ·refine Rd.keep (by decide) h K fun i hi hs => ?_
  obtain ⟨A, n, c, rfl, hl, hc, hm, hx⟩ := h
  have hn : 0 < n := by
   rcases Nat.eq_zero_or_pos n with q | q
   ·exfalso; rw [q, Nat.zero_mul] at hl; exact h0 (List.eq_nil_of_length_eq_zero hl)
   ·exact q
  obtain ⟨b, off, rfl, hcell⟩ := hx hn
  obtain rfl : b = i := by simpa [Value.ownBlock] using hi
  cases hxs : o.flatMap iN with
  | nil => exact absurd hxs h0
  | cons u xs =>
   have h1 := hcell 0 u (by rw [hxs]; rfl)
   have h2 := hD.at_ b hs
   simp [World.cell?, h2] at h1
theorem rev_snoc {α β : Type} (f : α → β) (l : List α) (x : α) : (l ++ [x]).reverse.map f = f x :: l.reverse.map f := by
 rw [List.reverse_append, List.reverse_singleton, List.singleton_append, List.map_cons]
theorem bd8 {n k : Nat} (hn : n ≤ 8) (hk : k ≤ 8) : bdS n k ≤ 20000000 := by
 have h1 : ∀ k, bdS n k ≤ bdS 8 k := fun k => by
  induction k with
  | zero => exact Nat.le_refl _
  | succ k ih => exact Nat.add_le_add_left (Nat.mul_le_mul hn ih) 1
 have h2 : ∀ j k, bdS 8 k ≤ bdS 8 (k + j) := fun j k => by
  induction j with
  | zero => exact Nat.le_refl _
  | succ j ih => exact Nat.le_trans ih (by show _ ≤ 1 + 8 * bdS 8 (k + j); omega)
 refine Nat.le_trans (h1 k) (Nat.le_trans (h2 (8 - k) k) ?_)
 rw [show k + (8 - k) = 8 from by omega]
 decide
end Go.Q
namespace Go.Proofs.YtnbcghbgeiocbaaDoor
open Go.Q Go.RowKit
theorem Order_body (w : World) (ln : Nat) (b14 b15 B : Nat) (A : Option Addr) (c : Nat) (lm : List StC) (x : StC) (Hxa : Has w b14 (rowL [(Value.slice A lm.length c)] 75)) (Hxb : Has w b15 (rowL [(Value.slice x.A x.order.length x.k), (Value.int IntKind.u64 ((x.done : Nat) : Int)), (i64 x.left), (ptr x.b)] 73)) (hO : OwnT w B 73 4 StC.cells ((Value.slice A lm.length c)) lm) (hVa : ∀ i, ((Value.slice A lm.length c)).ownBlock = some i → i ≠ b14) (hVb : ∀ i, ((Value.slice A lm.length c)).ownBlock = some i → i ≠ b15) (hne : b14 < b15) (hl : lm.length ≤ 1000000000) (hbs : B ≤ w.heap.size) : wpR (Fence.wide.inRound ln) Tryd.prog 9 Tryd.f12.ntmps (cd Tryd.f12 [1, 0, 1, 0, 1, 1, 1, 1, 0, 0, 1, 0, 0, 1, 0, 1, 1, 1, 1, 1, 1, 1, 1, 1]) (fun _ e _ w' => e = .normal ∧ ∃ A' c', Keeps (fun i => i = b14 ∨ ((Value.slice A lm.length c)).ownBlock = some i) w w' ∧ Has w' b14 (rowL [.slice A' (lm ++ [x]).length c'] 75) ∧ OwnT w' B 73 4 StC.cells (.slice A' (lm ++ [x]).length c') (lm ++ [x]) ∧ ∀ i, (Value.slice A' (lm ++ [x]).length c').ownBlock = some i → ((Value.slice A lm.length c)).ownBlock = some i ∨ w.heap.size ≤ i) [] [(14, (ptr b14)), (15, (ptr b15))] w := by
 have Hxal := Hxa.lt
 have Hxbl := Hxb.lt
 have K0 : Keeps (fun i => i = b14 ∨ Ow (.slice A lm.length c) i) w w := (Keeps.refl w).mono (fun _ _ h => h.elim)
 refine qr_block (id := 6) (by kernel_rfl) ?_
 refine rgQ (Open.round ln) ?_
 refine ogo (Value.slice A lm.length c) 102 (rld 75 b14 0 Hxa) rfl ?_
 refine ogo (agg [(Value.slice x.A x.order.length x.k), (Value.int IntKind.u64 ((x.done : Nat) : Int)), (i64 x.left), (ptr x.b)]) 103 (rld 73 b15 0 Hxb) rfl ?_
 refine onew (rowL [(Value.slice x.A x.order.length x.k), (Value.int IntKind.u64 ((x.done : Nat) : Int)), (i64 x.left), (ptr x.b)] 73) (fun b => (Value.slice (some ⟨b, 0, none⟩) 1 1)) 104 (fun b => rfl) (fun b1 w2 hb3 H4 K5 hs6 => ?_)
 have lb1b14 : b14 < b1 := by have := Hxa.lt; omega
 have lb1b15 : b15 < b1 := by have := Hxb.lt; omega
 have nb1 : w.heap.size ≤ b1 := by have := K0.size; omega
 replace K0 := K0.tn K5
 replace Hxa := Hxa.kn K5
 replace hO := own_keep0 hO K5
 clear K5 hs6
 obtain ⟨v8, w9, hr10, hO11, hK12, hg13⟩ := OwnT.app (ty := 75) StC.two StC.one tySt hO (show RdT _ 4 StC.cells _ [x] from Rd.lit H4 (n := 1) rfl (by decide)) (by simp only [List.length_cons, List.length_nil]; omega) (by simp only [List.length_cons, List.length_nil]; omega) (Nat.le_trans hbs K0.size)
 obtain ⟨A15, c16, rfl⟩ := RdT.form StC.two (by decide) (OwnT.rd hO11)
 have ob17 : ∀ i, Ow (.slice A15 ((lm ++ [x]).length) c16) i → i ≠ b14 := fun i hi => by rcases hg13 i hi with h | h; (have := hVa i h; omega); (have := Hxa.lt; omega)
 have K14 := hK12
 refine ogo (Value.slice A15 ((lm ++ [x]).length) c16) 105 (Runs.append (ts := #[75, 75]) (ty := 75) (vs := [(Value.slice A lm.length c), (Value.slice (some ⟨b1, 0, none⟩) 1 1)]) (by kernel_rfl) hr10) rfl ?_
 have hzz := K0.size
 replace K0 := K0.trans K14 (U := (fun i => i = b14 ∨ Ow (.slice A lm.length c) i)) (fun i h1 h2 => h2) (fun i h1 h2 => by have h2 : Ow (.slice A lm.length c) i := h2; exact .inr (h2))
 replace Hxa := Hxa.keep K14 (by intro h; change Ow (.slice A lm.length c) b14 at h; have := hVa b14 h; omega)
 clear hO
 clear K14 hr10 hK12
 refine Ops.put (t := 75) (b := b14) (off := 0) (v := (Value.slice A15 ((lm ++ [x]).length) c16)) (ys := [(Value.slice A15 ((lm ++ [x]).length) c16)]) (by kernel_rfl) (by kernel_rfl) Hxa (by kernel_rfl) (d := none) (by kernel_rfl) rfl (fun w20 H21 K22 => ?_)
 clear Hxa
 replace K0 := K0.t1 K22 fun _ => .inl rfl
 replace hO11 := own_keep hO11 K22 (fun i hi => by have := ob17 i hi; omega)
 refine od ?_
 exact ⟨rfl, _, _, K0, H21, hO11, (fun i hi => (hg13 i hi).imp id (fun h => Nat.le_trans hzz h))⟩
end Go.Proofs.YtnbcghbgeiocbaaDoor
namespace Go.Proofs.YtnbcghbgeiocbaaDoor
open Go.Q Go.RowKit
theorem KTU : KeyTy Tryd.prog 71 ku64 := keyTy_u64 Tryd.underlying71
theorem tyLp : ElemTy Tryd.prog 83 69 1 8 := elemTy (by kernel_rfl)
set_option maxHeartbeats 4000000 in
theorem Order_tail (w0 w : World) (b5 b6 lb f0 : Nat) (LA : Option Addr) (lc : Nat) (l : List HC) (AA : Option Addr) (ac : Nat) (a : List Nat) (left0 : Int) (R0 : List Nat × Bool) (F0 : Nat → Prop) {R : Ending → World → Prop} (K00 : Keeps none_ w0 w) (hI0 : Imm w 110 68 73 F0 b5 LA lc l AA ac a true (⟨[], none, 0, 0, left0, lb, ([], [])⟩ : StC) b6 [(⟨[], none, 0, 0, left0, lb, ([], [])⟩ : StC)] ([] : List Nat)) (hal : a.length = l.length) (ho : ∀ x ∈ l, -9223372036854775808 ≤ x.c.op.amount ∧ x.c.op.amount ≤ 9223372036854775807) (h8 : l.length ≤ 8) (hok0 : SrOk (XS l a) (StC.m (⟨[], none, 0, 0, left0, lb, ([], [])⟩ : StC))) (hf0 : f0 ≤ 100000000) (hrun0 : (probH (XS l a)).run sameB f0 [StC.m (⟨[], none, 0, 0, left0, lb, ([], [])⟩ : StC)] [] = some R0) (hRR : ∀ e w', (∃ (o : List Nat) (A : Option Addr) (c : Nat) (ok : Bool), e = .returned (.tuple #[.slice A o.length c, .bool ok, i64 0]) ∧ Keeps none_ w0 w' ∧ RdT w' 1 iN (.slice A o.length c) o ∧ (o, ok) = R0) → R e w') :
  wpR Fence.wide Tryd.prog 11 Tryd.f12.ntmps (cd Tryd.f12 [1, 1, 1, 1, 1, 1]) (retR Tryd.prog Tryd.f12 11 R) [] [(5, (ptr b5)), (6, (ptr b6))] w := by
 have H6 := hI0.tcell rfl
 have H6l := H6.lt
 have hXa : ∀ c ∈ XS l a, -9223372036854775808 ≤ c.1.op.amount ∧ c.1.op.amount ≤ 9223372036854775807 := fun c hc => by obtain ⟨x, hx, e⟩ := List.mem_map.1 (List.of_mem_zip hc).1; rw [← e]; exact ho x hx
 have K0 : Keeps none_ w w := Keeps.refl w
 refine rsg Open.wide ?_
 refine onew (rowL [(Value.slice none 0 0)] 77) (fun b => (ptr b)) 10 (fun b => rfl) (fun b1 w2 hb3 H4 K5 hs6 => ?_)
 have lb1b6 : b6 < b1 := by have := H6.lt; omega
 have nb1 : w.heap.size ≤ b1 := by have := K0.size; omega
 have of7 : ∀ i, F0 i → i ≠ b1 := fun i hi => by have := Imm.lt hI0 i hi; omega
 replace K0 := K0.t0 K5
 replace H6 := H6.kn K5
 replace hI0 := Imm.keep hI0 K5 (fun _ _ h => h)
 clear K5 hs6
 refine od ?_
 refine rsg Open.wide ?_
 refine ogo (agg [(Value.slice none 0 0), (Value.int IntKind.u64 0), (i64 left0), (ptr lb)]) 61 (rld 73 b6 0 H6) rfl ?_
 refine onew (rowL [(Value.slice none 0 0), (Value.int IntKind.u64 0), (i64 left0), (ptr lb)] 73) (fun b => (Value.slice (some ⟨b, 0, none⟩) 1 1)) 62 (fun b => rfl) (fun b8 w9 hb10 H11 K12 hs13 => ?_)
 have lb8b6 : b6 < b8 := by have := H6.lt; omega
 have lb8b1 : b1 < b8 := by have := H4.lt; omega
 have nb8 : w.heap.size ≤ b8 := by have := K0.size; omega
 replace K0 := K0.t0 K12
 replace H6 := H6.kn K12
 replace H4 := H4.kn K12
 replace hI0 := Imm.keep hI0 K12 (fun _ _ h => h)
 clear K12 hs13
 refine ocQ 63 (push_calls _ b1 w.heap.size none 0 ([] : List StC) (some ⟨b8, 0, none⟩) 1 1 [(⟨[], none, 0, 0, left0, lb, ([], [])⟩ : StC)] H4 (OwnT.nil _ _ _ _ _) K0.size (fun i h => by cases h) (show RdT _ 4 StC.cells _ [(⟨[], none, 0, 0, left0, lb, ([], [])⟩ : StC)] from Rd.lit H11 (n := 1) rfl (by decide)) (by show 0 + 1 ≤ 1000000000; omega)) ?_
 rintro _ w17 ⟨_, A15, c16, rfl, K18r, H19, hO20, hg21⟩
 obtain ⟨Z23, hZ24⟩ : ∃ z, z = ([] : List StC) ++ [(⟨[], none, 0, 0, left0, lb, ([], [])⟩ : StC)] := ⟨_, rfl⟩
 rw [← hZ24] at H19 hO20 hg21
 have K18 : Keeps (fun i => i = b1) w9 w17 := K18r.mono (fun i _ h => h.elim id (fun h => by cases h))
 have ob27 : ∀ i, Ow (.slice A15 Z23.length c16) i → i ≠ b1 := fun i hi => by rcases hg21 i hi with h | h; (cases h); (have := H4.lt; omega)
 have oo29 : ∀ i, Ow (.slice A15 Z23.length c16) i → F0 i → False := fun i hs hi => by rcases hg21 i hs with h | h; (cases h); (have := Imm.lt hI0 i hi; omega)
 refine ⟨_, _, rfl, rfl, ?_⟩
 replace K0 := K0.t1 K18 fun _ => by omega
 replace H6 := H6.k1 K18 (by omega)
 replace H11 := H11.k1 K18 (by omega)
 replace hI0 := Imm.keep hI0 K18 (fun i hi hs => by have hs : i = b1 := hs; have := of7 i hi; omega)
 have hzq30 : Z23.length = ([] : List StC).length + [(⟨[], none, 0, 0, left0, lb, ([], [])⟩ : StC)].length := by rw [hZ24, List.length_append]
 refine od ?_
 refine rsg Open.wide ?_
 obtain ⟨mb36, w32, hr33, K34, hb37, H35⟩ := HasMap.made Tryd.prog w17 79 ku64 (DRow.v)
 refine ogo (Value.map (some mb36)) 64 (Runs.of_makeMap (by kernel_rfl) hr33) rfl ?_
 have lmb36b6 : b6 < mb36 := by have := H6.lt; omega
 have lmb36b1 : b1 < mb36 := by have := H19.lt; omega
 have lmb36b8 : b8 < mb36 := by have := H11.lt; omega
 have nmb36 : w.heap.size ≤ mb36 := by have := K0.size; omega
 have of38 : ∀ i, F0 i → i ≠ mb36 := fun i hi => by have := Imm.lt hI0 i hi; omega
 have ob39 : ∀ i, Ow (.slice A15 Z23.length c16) i → i ≠ mb36 := fun i hi => by have := (World.ownsRow.lt hO20 i hi).2; omega
 replace K0 := K0.t0 K34
 replace H6 := H6.kn K34
 replace H19 := H19.kn K34
 replace H11 := H11.kn K34
 replace hI0 := Imm.keep hI0 K34 (fun _ _ h => h)
 replace hO20 := own_keep0 hO20 K34
 clear K34 hr33
 refine ogd 1 [(5, ptr b5), (10, ptr b1), (11, .map (some mb36))] ?_
 refine rsQ ?_
 refine rsg Open.wide ?_
 have hn44 : Z23.length = ([] : List StC).length + 1 := by rw [hZ24, List.length_append]; rfl
 have hO45 : OwnT w32 w.heap.size 73 4 StC.cells ((Value.slice A15 Z23.length c16)) (([] : List StC) ++ [(⟨[], none, 0, 0, left0, lb, ([], [])⟩ : StC)]) := by rw [← hZ24]; exact hO20
 refine ocQ 66 (pop_some _ b1 w.heap.size A15 c16 Z23.length ([] : List StC) (⟨[], none, 0, 0, left0, lb, ([], [])⟩ : StC) H19 hO45 hn44 ob27 (by first | omega | (show 0 ≤ 1000000000; omega))) ?_
 rintro _ w40 ⟨rfl, K41, H42, hO43⟩
 refine ⟨_, _, rfl, rfl, ?_⟩
 replace K0 := K0.t1 K41 fun _ => by omega
 replace H6 := H6.k1 K41 (by omega)
 replace H11 := H11.k1 K41 (by omega)
 replace H35 := H35.k1 K41 (by omega)
 replace hI0 := Imm.keep hI0 K41 (fun i hi hs => by have hs : i = b1 := hs; have := of7 i hi; omega)
 have ob48 : ∀ i, Ow (.slice A15 (([] : List StC).length) c16) i → i ≠ b1 := fun i hi => by have := ob27 i (ownN.trans hi); omega
 have ob50 : ∀ i, Ow (.slice A15 (([] : List StC).length) c16) i → i ≠ mb36 := fun i hi => by have := ob39 i (ownN.trans hi); omega
 have oo51 : ∀ i, Ow (.slice A15 (([] : List StC).length) c16) i → _ := fun i hi => oo29 i (ownN.trans hi)
 refine og 3 [(5, ptr b5), (10, ptr b1), (11, .map (some mb36)), (67, (agg [(Value.slice ((⟨[], none, 0, 0, left0, lb, ([], [])⟩ : StC).A) ((⟨[], none, 0, 0, left0, lb, ([], [])⟩ : StC).order.length) ((⟨[], none, 0, 0, left0, lb, ([], [])⟩ : StC).k)), (Value.int IntKind.u64 (((⟨[], none, 0, 0, left0, lb, ([], [])⟩ : StC).done : Nat) : Int)), (i64 ((⟨[], none, 0, 0, left0, lb, ([], [])⟩ : StC).left)), (ptr ((⟨[], none, 0, 0, left0, lb, ([], [])⟩ : StC).b))])), (68, .bool true)] 4 ?_
 refine onew (rowL [(Value.slice none 0 0), (Value.int IntKind.u64 0), (i64 0), (Value.pointer none)] 73) (fun b => (ptr b)) 12 (fun b => rfl) (fun b53 w54 hb55 H56 K57 hs58 => ?_)
 have lb53b6 : b6 < b53 := by have := H6.lt; omega
 have lb53b1 : b1 < b53 := by have := H42.lt; omega
 have lb53b8 : b8 < b53 := by have := H11.lt; omega
 have lb53mb36 : mb36 < b53 := by have := H35.lt; omega
 have nb53 : w.heap.size ≤ b53 := by have := K0.size; omega
 have of59 : ∀ i, F0 i → i ≠ b53 := fun i hi => by have := Imm.lt hI0 i hi; omega
 have ob60 : ∀ i, Ow (.slice A15 (([] : List StC).length) c16) i → i < b53 := fun i hi => by have := (World.ownsRow.lt hO43 i hi).2; omega
 replace K0 := K0.t0 K57
 replace H42 := H42.kn K57
 replace H35 := H35.kn K57
 replace hI0 := Imm.keep hI0 K57 (fun _ _ h => h)
 replace hO43 := own_keep0 hO43 K57
 clear K57 hs58
 refine oput 73 b53 [(Value.slice ((⟨[], none, 0, 0, left0, lb, ([], [])⟩ : StC).A) ((⟨[], none, 0, 0, left0, lb, ([], [])⟩ : StC).order.length) ((⟨[], none, 0, 0, left0, lb, ([], [])⟩ : StC).k)), (Value.int IntKind.u64 (((⟨[], none, 0, 0, left0, lb, ([], [])⟩ : StC).done : Nat) : Int)), (i64 ((⟨[], none, 0, 0, left0, lb, ([], [])⟩ : StC).left)), (ptr ((⟨[], none, 0, 0, left0, lb, ([], [])⟩ : StC).b))] H56 rfl (fun w61 H62 K63 => ?_)
 replace K0 := K0.t1 K63 fun _ => by omega
 replace H42 := H42.k1 K63 (by omega)
 replace H35 := H35.k1 K63 (by omega)
 replace hI0 := Imm.keep hI0 K63 (fun i hi hs => by have hs : i = b53 := hs; have := of59 i hi; omega)
 replace hO43 := own_keep hO43 K63 (fun i hi => by have := ob60 i hi; omega)
 refine ogd 1 [(5, ptr b5), (10, ptr b1), (11, .map (some mb36)), (12, ptr b53), (13, .bool true)] ?_
 refine qr_block (id := 3) (by kernel_rfl) ?_
 have hD9 := DullW.nil w61 w.heap.size 69
 obtain ⟨F64, hF65⟩ : ∃ Z : Nat → Prop, Z = fun i => F0 i ∨ i = b53 := ⟨_, rfl⟩
 have hF65_b1 : ∀ i, F64 i → i ≠ b1 := fun i hi => by rw [hF65] at hi; rcases hi with q | q; (have := of7 i q; omega); (omega)
 have hF65_mb36 : ∀ i, F64 i → i ≠ mb36 := fun i hi => by rw [hF65] at hi; rcases hi with q | q; (have := of38 i q; omega); (omega)
 have oo67 : ∀ i, Ow (.slice A15 (([] : List StC).length) c16) i → F64 i → False := fun i hv hi => by rw [hF65] at hi; rcases hi with q | q; (exact oo51 i hv q); (have := ob60 i hv; omega)
 have hI66 : Imm w61 110 68 73 F64 b5 LA lc l AA ac a true (⟨[], none, 0, 0, left0, lb, ([], [])⟩ : StC) b53 [(⟨[], none, 0, 0, left0, lb, ([], [])⟩ : StC)] ([] : List Nat) := Imm.next hI0 (fun i hi => by rw [hF65]; exact .inl hi) (fun i hi => by rw [hF65] at hi; rcases hi with q | q; (exact Imm.lt hI0 i q); (have := H62.lt; omega)) (fun x hx => ((Imm.pool hI0).at_ x hx).mono (fun i hi => by rw [hF65]; exact .inl hi)) (fun _ => H62) (by rw [hF65]; exact .inr rfl) (DefsW.nil _) (fun D h => by cases h)
 refine qr_keep (R := [(5, ptr b5), (10, ptr b1), (11, .map (some mb36)), (12, ptr b53), (13, .bool true)]) (by kernel_rfl) ?_
 refine qr_loop (fun (gs : Nat × Bool × StC × Nat × (Option Addr) × Nat × (List StC) × (List (Nat × DRow)) × (List StC) × (Nat → Prop) × (Nat → Prop) × (List Nat)) (ds : List Deferred) L (wx : World) => match gs with | (f, ok, t, tb, SA, sc, stk, md, Dl, F, Gd, Ds) => ds = Ds.map colD ∧ L = [(5, (ptr b5)), (10, (ptr b1)), (11, (Value.map (some mb36))), (12, (ptr tb)), (13, (Value.bool ok))] ∧ (probH (XS l a)).run sameB f (cond ok (t.m :: stk.reverse.map StC.m) []) (Dl.map StC.ds) = some R0 ∧ (ok = false → stk = []) ∧ (∀ x ∈ t :: (stk ++ Dl), SrOk (XS l a) x.m) ∧ Imm wx 110 68 73 F b5 LA lc l AA ac a ok t tb (t :: (stk ++ Dl)) Ds ∧ DullW wx w.heap.size 69 md Dl Gd ∧ OwnT wx w.heap.size 73 4 StC.cells (Value.slice SA stk.length sc) stk ∧ (∀ i, Ow (.slice SA stk.length sc) i → i ≠ b1 ∧ i ≠ mb36 ∧ ¬ F i ∧ ¬ Gd i) ∧ (∀ i, Gd i → i ≠ b1 ∧ i ≠ mb36 ∧ ¬ F i) ∧ (∀ i, F i → i ≠ b1 ∧ i ≠ mb36) ∧ stk.length ≤ 1 + 8 * Dl.length ∧ Dl.length + f ≤ f0 ∧ (∀ D ∈ Ds, w.heap.size ≤ D) ∧ Keeps none_ w wx ∧ Has wx b1 (rowL [(Value.slice SA stk.length sc)] 77) ∧ HasMap wx mb36 ku64 DRow.v md) (fun (gs : Nat × Bool × StC × Nat × (Option Addr) × Nat × (List StC) × (List (Nat × DRow)) × (List StC) × (Nat → Prop) × (Nat → Prop) × (List Nat)) => match gs with | (f, ok, t, tb, SA, sc, stk, md, Dl, F, Gd, Ds) => f) (f0, true, (⟨[], none, 0, 0, left0, lb, ([], [])⟩ : StC), b53, A15, c16, ([] : List StC), ([] : List (Nat × DRow)), ([] : List StC), F64, none_, ([] : List Nat)) (by kernel_rfl) ⟨rfl, rfl, hrun0, (fun h => by cases h), (fun x hx => by rw [List.mem_singleton.1 hx]; exact hok0), hI66, hD9, hO43, (fun i hi => ⟨by have := ob48 i hi; omega, by have := ob50 i hi; omega, fun q => oo67 i hi q, fun q => q.elim⟩), (fun i hi => hi.elim), (fun i hi => ⟨by have := hF65_b1 i hi; omega, by have := hF65_mb36 i hi; omega⟩), Nat.zero_le _, (by show 0 + f0 ≤ f0; omega), (fun D h => by cases h), K0, H42, H35⟩ ?_
 clear H42 H35 hO43 hI66 K0
 rintro ⟨f, ok, t, tb, SA, sc, stk, md, Dl, F, Gd, Ds⟩ _ _ w68 ⟨rfl, rfl, hrun, hokE, hso, hI, hD, hSO, hSb, hGb, hFb, hlen, hdl, hDs, K69, H70, H71⟩
 have hSb1 : ∀ i, Ow (.slice SA stk.length sc) i → i ≠ b1 := fun i hi => (hSb i hi).1
 have hSb2 : ∀ i, Ow (.slice SA stk.length sc) i → i ≠ mb36 := fun i hi => (hSb i hi).2.1
 have hSb3 : ∀ i, Ow (.slice SA stk.length sc) i → F i → False := fun i hi => (hSb i hi).2.2.1
 have hSb4 : ∀ i, Ow (.slice SA stk.length sc) i → Gd i → False := fun i hi => (hSb i hi).2.2.2
 have hGb1 : ∀ i, Gd i → i ≠ b1 := fun i hi => (hGb i hi).1
 have hGb2 : ∀ i, Gd i → i ≠ mb36 := fun i hi => (hGb i hi).2.1
 have hGb3 : ∀ i, Gd i → F i → False := fun i hi => (hGb i hi).2.2
 have hFb1 : ∀ i, F i → i ≠ b1 := fun i hi => (hFb i hi).1
 have hFb2 : ∀ i, F i → i ≠ mb36 := fun i hi => (hFb i hi).2
 have hSlw : ∀ i, Ow (.slice SA stk.length sc) i → w.heap.size ≤ i := fun i hi => (World.ownsRow.lt hSO i hi).1
 refine rsQ ?_
 refine rsg Open.wide ?_
 refine ogd 1 [(5, ptr b5), (10, ptr b1), (11, .map (some mb36)), (12, ptr tb), (13, .bool ok), (69, .bool ok)] ?_
 refine rcQ 69 ok rfl (fun h72 => ?_) (fun h72 => ?_)
 ·rw [h72]
  have p73 : ok = true := h72
  have Htb := hI.tcell h72
  have htbn : tb ≠ b1 ∧ tb ≠ mb36 := ⟨fun e => hFb1 tb hI.ft e, fun e => hFb2 tb hI.ft e⟩
  have hStb : ∀ i, Ow (.slice SA stk.length sc) i → i ≠ tb := fun i hi e => hSb3 i hi (e ▸ hI.ft)
  have hGtb : ∀ i, Gd i → i ≠ tb := fun i hi e => hGb3 i hi (e ▸ hI.ft)
  obtain ⟨tmb, tkb, tm, hTb, hTm, hTk, hTn, hTB, hTf⟩ := (hI.pool.at_ t (List.mem_cons_self ..)).led
  have hrun1 : (probH (XS l a)).run sameB f (t.m :: stk.reverse.map StC.m) (Dl.map StC.ds) = some R0 := by rw [h72] at hrun; exact hrun
  have hsot := hso t (List.mem_cons_self ..)
  have htl := hsot.len
  rw [xs_len hal] at htl
  refine rkQ ?_
  refine rsQ ?_
  refine qr_block (id := 4) (by kernel_rfl) ?_
  refine rsQ ?_
  refine rsg Open.wide ?_
  refine og 1 [(5, ptr b5), (10, ptr b1), (11, .map (some mb36)), (12, ptr tb), (13, .bool true), (74, .pointer (some ⟨tb, 2, none⟩))] 1 ?_
  refine ogo (i64 t.left) 75 (rld 3 tb 2 Htb) rfl ?_
  refine ogd 1 [(5, ptr b5), (10, ptr b1), (11, .map (some mb36)), (12, ptr tb), (13, .bool true), (76, .bool (t.left == 0))] ?_
  refine rcQ 76 (t.left == 0) rfl (fun h74 => ?_) (fun h74 => ?_)
  ·rw [h74]
   have p75 := of_beq_t h74
   have hl0 : t.left = 0 := by omega
   refine rsg Open.wide ?_
   refine og 1 [(5, ptr b5), (10, ptr b1), (11, .map (some mb36)), (12, ptr tb), (13, .bool true), (77, ptr tb)] 1 ?_
   refine ogo (Value.slice t.A t.order.length t.k) 78 (rld 35 tb 0 Htb) rfl ?_
   refine ogd 3 [(2, .slice t.A t.order.length t.k), (3, .bool true), (4, i64 0), (5, ptr b5), (10, ptr b1), (11, .map (some mb36)), (12, ptr tb), (13, .bool true)] ?_
   refine rtQ ?_
   refine retR_many0 (v := (Value.tuple #[(Value.slice t.A t.order.length t.k), (Value.bool true), (i64 0)])) (fun _ => retv_tmp3 rfl rfl rfl rfl) (Imm.defs hI) (fun w76 k77 => ?_)
   have kz := (K00.trans K69 (U := none_) (fun _ _ h => h) (fun _ _ h => h)).trans k77 (U := none_) (fun _ _ h => h) (fun i hi hs => by have hs : i ∈ Ds := hs; have := hDs i hs; have := K00.size; exfalso; omega)
   exact hRR _ _ ⟨t.order, t.A, t.k, true, rfl, kz, rd_defs ((Imm.pool hI).at_ t (List.mem_cons_self ..)).row (Imm.defs hI) k77, (run_left0 hrun1 hl0).symm⟩
  ·rw [h74]
   have p78 := of_beq_f h74
   have hl0 : t.left ≠ 0 := by omega
   refine rkQ ?_
   refine rsQ ?_
   refine rsg Open.wide ?_
   refine og 2 [(5, ptr b5), (10, ptr b1), (11, .map (some mb36)), (12, ptr tb), (13, .bool true), (79, .map (some mb36)), (80, .pointer (some ⟨tb, 1, none⟩))] 2 ?_
   refine ogo (Value.int IntKind.u64 ((t.done : Nat) : Int)) 81 (rld 71 tb 1 Htb) rfl ?_
   rcases hg79 : getM md t.done with _ | y80
   ·skip
    refine ogo (Value.slice none 0 0) 82 (Runs.lookup_none (ok := false) (z := (Value.slice none 0 0)) KTU Tryd.underlying79 (by kernel_rfl) H71 hg79 (by kernel_rfl)) rfl ?_
    refine og 1 [(5, ptr b5), (10, ptr b1), (11, .map (some mb36)), (12, ptr tb), (13, .bool true), (82, .slice none 0 0), (83, .pointer (some ⟨tb, 3, none⟩))] 5 ?_
    refine ogo (ptr t.b) 84 (rld 69 tb 3 Htb) rfl ?_
    refine og 1 [(5, ptr b5), (10, ptr b1), (11, .map (some mb36)), (12, ptr tb), (13, .bool true), (82, .slice none 0 0), (85, .func (Fn.func 32) ⟨[(ptr t.b)]⟩ ⟨[]⟩)] 7 ?_
    refine ocQ 86 (Contains_calls _ t.b tmb tkb tm t.s.1 t.s.2 F none 0 ([] : List StC) hTb hTm hTk hTn hTB (Rd.nil _ _) (hI.pool.sub (fun x hx => (by cases hx)))) ?_
    rintro _ w84 ⟨t81, rfl, hc82, K83⟩
    refine ⟨_, _, rfl, rfl, ?_⟩
    replace K69 := K69.tn K83
    replace H70 := H70.kn K83
    replace H71 := H71.kn K83
    replace Htb := Htb.kn K83
    replace hSO := own_keep0 hSO K83
    replace hI := Imm.keep hI K83 (fun _ _ h => h)
    replace hD := DullW.keep hD K83 (fun _ _ h => h)
    refine od ?_
    have h85 : t81 = false := Bool.eq_false_iff.2 (fun h => by obtain ⟨x, hx, _⟩ := hc82.1 h; cases hx)
    rw [h85]
    refine qr_else (o := .tmp 86) (by kernel_rfl) rfl ?_
    refine rkQ ?_
    refine rsQ ?_
    have hWw : w.heap.size ≤ w84.heap.size := K69.size
    refine qr_drawS Open.wide 12 (by kernel_rfl) (by kernel_rfl) (by kernel_rfl) (by kernel_rfl) (fun w86 K87 _ _ => ?_)
    replace K69 := K69.tn K87
    replace H70 := H70.kn K87
    replace H71 := H71.kn K87
    replace Htb := Htb.kn K87
    replace hSO := own_keep0 hSO K87
    replace hI := Imm.keep hI K87 (fun _ _ h => h)
    replace hD := DullW.keep hD K87 (fun _ _ h => h)
    have Kb88 : Keeps (fun i => i = mb36) w86 w86 := (Keeps.refl w86).mono (fun _ _ h => h.elim)
    have hD0 := hD
    have hNd := H71.nodup
    have hnd := hD.miss hg79
    obtain ⟨f2, hf2, hrun2⟩ := run_go hrun1 hl0 hnd
    refine ⟨fun wz => Keeps (fun i => i = mb36) w86 wz, [(11, fun wz => HasMap wz mb36 ku64 DRow.v md)], (SH.cons (SH.nil Kb88) (.inr H71)), ?_⟩
    refine skQ 10 [0, 1] [(5, ptr b5), (10, ptr b1), (11, .map (some mb36)), (12, ptr tb), (13, .bool true), (87, .map (some mb36)), (88, .pointer (some ⟨tb, 1, none⟩))] ?_
    refine stQ 2 (Value.int IntKind.u64 ((t.done : Nat) : Int)) 89 (fun wz hS => rld 71 tb 1 (Htb.keep hS (by intro h; change tb = mb36 at h; omega))) rfl ?_
    refine skQ 7 [3, 4] [(5, ptr b5), (10, ptr b1), (11, .map (some mb36)), (12, ptr tb), (13, .bool true), (87, .map (some mb36)), (89, (Value.int IntKind.u64 ((t.done : Nat) : Int))), (90, .map (some mb36)), (91, .pointer (some ⟨tb, 1, none⟩))] ?_
    refine stQ 5 (Value.int IntKind.u64 ((t.done : Nat) : Int)) 92 (fun wz hS => rld 71 tb 1 (Htb.keep hS (by intro h; change tb = mb36 at h; omega))) rfl ?_
    refine DrS.takeH (s := 11) (.head _) (i := 6) (v := (Value.slice none 0 0)) (by kernel_rfl) (by kernel_rfl) (by kernel_rfl) (fun wz hB hp => Runs.lookup_none (ok := false) (z := (Value.slice none 0 0)) KTU Tryd.underlying79 (by kernel_rfl) hp hg79 (by kernel_rfl)) (d := (some 93)) (by kernel_rfl) rfl ?_
    refine skQ 4 [7] [(5, ptr b5), (10, ptr b1), (11, .map (some mb36)), (12, ptr tb), (13, .bool true), (87, .map (some mb36)), (89, (Value.int IntKind.u64 ((t.done : Nat) : Int))), (93, .slice none 0 0), (94, .pointer (some ⟨tb, 3, none⟩))] ?_
    refine stQ 8 (ptr t.b) 95 (fun wz hS => rld 69 tb 3 (Htb.keep hS (by intro h; change tb = mb36 at h; omega))) rfl ?_
    refine soQ 9 ?_
    refine Dr1.new (o := rowL [(ptr t.b)] 69) (V := fun b => (Value.slice (some ⟨b, 0, none⟩) 1 1)) (by kernel_rfl) (d := (some 96)) (by kernel_rfl) (fun b => rfl) (fun b89 w90 hb91 H92 K93 hs94 => ?_)
    have lb89b1 : b1 < b89 := by have := H70.lt; omega
    have lb89mb36 : mb36 < b89 := by have := H71.lt; omega
    have lb89tb : tb < b89 := by have := Htb.lt; omega
    have nb89 : w.heap.size ≤ b89 := by have := K69.size; omega
    have xb89 : w86.heap.size ≤ b89 := by have := Kb88.size; omega
    replace K69 := K69.tn K93
    replace H70 := H70.kn K93
    replace H71 := H71.kn K93
    replace Htb := Htb.kn K93
    replace hSO := own_keep0 hSO K93
    replace hI := Imm.keep hI K93 (fun _ _ h => h)
    have Kb98 := Kb88.tn K93
    refine ⟨(SH.cons (SH.nil Kb98) (.inr H71)), ?_⟩
    clear K93 hs94
    refine soQ 10 ?_
    obtain ⟨v99, w100, hr101, hO102, hK103, hg104⟩ := OwnT.app (ty := 83) StC.led1 StC.led1c tyLp (OwnT.nil _ w.heap.size 69 1 StC.led) (show RdT _ 1 StC.led _ [t] from Rd.lit H92 (n := 1) rfl (by decide)) (by simp only [List.length_cons, List.length_nil]; omega) (by simp only [List.length_cons, List.length_nil]; omega) (K69.size)
    obtain ⟨A106, c107, rfl⟩ := RdT.form StC.led1 (by decide) (OwnT.rd hO102)
    have ob108 : ∀ i, Ow (.slice A106 (([] ++ [t]).length) c107) i → i ≠ b1 := fun i hi => by rcases hg104 i hi with h | h; (cases h); (have := H70.lt; omega)
    have ob109 : ∀ i, Ow (.slice A106 (([] ++ [t]).length) c107) i → i ≠ mb36 := fun i hi => by rcases hg104 i hi with h | h; (cases h); (have := H71.lt; omega)
    have oo112 : ∀ i, Ow (.slice SA stk.length sc) i → Ow (.slice A106 (([] ++ [t]).length) c107) i → False := fun i hi hs => by rcases hg104 i hs with h | h; (cases h); (have := (World.ownsRow.lt hSO i hi).2; omega)
    have oo113 : ∀ i, Ow (.slice A106 (([] ++ [t]).length) c107) i → Ow (.slice SA stk.length sc) i → False := fun i hi hs => oo112 i hs hi
    have oo114 : ∀ i, Ow (.slice A106 (([] ++ [t]).length) c107) i → F i → False := fun i hs hi => by rcases hg104 i hs with h | h; (cases h); (have := Imm.lt hI i hi; omega)
    have K105 := Keeps.mono (U := none_) hK103 (fun _ _ h => by cases h)
    have hzb := Kb98.size
    replace K69 := K69.tn K105
    replace H70 := H70.kn K105
    replace H71 := H71.kn K105
    replace Htb := Htb.kn K105
    replace H92 := H92.kn K105
    replace hSO := own_keep0 hSO K105
    replace hI := Imm.keep hI K105 (fun _ _ h => h)
    have Kb116 := Kb98.tn K105
    refine Dr1.go (v := (Value.slice A106 (([] ++ [t]).length) c107)) (by kernel_rfl) (Runs.append (ts := #[83, 83]) (ty := 83) (vs := [(Value.slice none 0 0), (Value.slice (some ⟨b89, 0, none⟩) 1 1)]) (by kernel_rfl) hr101) (d := (some 97)) (by kernel_rfl) rfl (SH.cons (SH.nil Kb116) (.inr H71)) ?_
    clear K105 hr101 hK103
    refine soQ 11 ?_
    obtain ⟨w117, hr118, K119, H120⟩ := HasMap.update KTU Tryd.underlying79 H71 t.done (⟨A106, c107, [t]⟩ : DRow)
    have Kb121 := Kb116.t1 K119 fun _ => rfl
    refine Dr1.goU (by kernel_rfl) (RunsU.of_update (by kernel_rfl) hr118) (d := none) (by kernel_rfl) rfl (SH.cons (SH.nil Kb121) (.inl (by kernel_rfl))) ?_
    replace K69 := K69.t1 K119 fun _ => by omega
    replace H70 := H70.k1 K119 (by omega)
    replace Htb := Htb.k1 K119 (by omega)
    replace H92 := H92.k1 K119 (by omega)
    replace hSO := own_keep hSO K119 (fun i hi => by have := hSb2 i hi; omega)
    replace hI := Imm.keep hI K119 (fun i hi hs => by have hs : i = mb36 := hs; have := hFb2 i hi; omega)
    replace hO102 := own_keep hO102 K119 (fun i hi => by have := ob109 i hi; omega)
    clear K119 hr118
    refine DrS.keep (R := [(5, ptr b5), (10, ptr b1), (11, .map (some mb36)), (12, ptr tb), (13, .bool true)]) (by kernel_rfl) ?_
    refine DrS.done (by kernel_rfl) ?_
    obtain ⟨Gn, hGn⟩ : ∃ Z : Nat → Prop, Z = fun i => Gd i ∨ Ow (.slice A106 (([] ++ [t]).length) c107) i := ⟨_, rfl⟩
    have hD2 : DullW w117 w.heap.size 69 (putM md t.done (⟨A106, c107, [t]⟩ : DRow)) (t :: Dl) Gn := by rw [hGn]; exact DullW.put0 hD0 hg79 Kb121 (fun i hs hgd => by have hs : i = mb36 := hs; exact absurd hs (hGb2 i hgd)) hO102 (fun i hi => (hg104 i hi).elim (fun h => by cases h) (fun h => Nat.le_trans hzb h))
    have hGn_b1 : ∀ i, Gn i → i ≠ b1 := fun i hi => by rw [hGn] at hi; rcases hi with q | q; (have := hGb1 i q; omega); (have := ob108 i q; omega)
    have hGn_mb36 : ∀ i, Gn i → i ≠ mb36 := fun i hi => by rw [hGn] at hi; rcases hi with q | q; (have := hGb2 i q; omega); (have := ob109 i q; omega)
    have hSGn : ∀ i, Ow (.slice SA stk.length sc) i → Gn i → False := fun i hv hi => by rw [hGn] at hi; rcases hi with q | q; exact hSb4 i hv q; exact oo113 i q hv
    have hGnF : ∀ i, Gn i → F i → False := fun i hi hf => by rw [hGn] at hi; rcases hi with q | q; exact hGb3 i q hf; exact oo114 i q hf
    refine rsg Open.wide ?_
    refine onew (rowL [(Value.slice none 0 0)] 75) (fun b => (ptr b)) 14 (fun b => rfl) (fun b122 w123 hb124 H125 K126 hs127 => ?_)
    have lb122b1 : b1 < b122 := by have := H70.lt; omega
    have lb122mb36 : mb36 < b122 := by have := H120.lt; omega
    have lb122tb : tb < b122 := by have := Htb.lt; omega
    have lb122b89 : b89 < b122 := by have := H92.lt; omega
    have nb122 : w.heap.size ≤ b122 := by have := K69.size; omega
    have ob128 : ∀ i, Ow (.slice SA stk.length sc) i → i < b122 := fun i hi => by have := (World.ownsRow.lt hSO i hi).2; omega
    have of129 : ∀ i, F i → i ≠ b122 := fun i hi => by have := Imm.lt hI i hi; omega
    have of130 : ∀ i, Gn i → i ≠ b122 := fun i hi => by have := hD2.lt i hi; omega
    replace K69 := K69.tn K126
    replace H70 := H70.kn K126
    replace H120 := H120.kn K126
    replace Htb := Htb.kn K126
    replace H92 := H92.kn K126
    replace hSO := own_keep0 hSO K126
    replace hI := Imm.keep hI K126 (fun _ _ h => h)
    replace hD2 := DullW.keep hD2 K126 (fun _ _ h => h)
    clear K126 hs127
    refine od ?_
    refine rsQ ?_
    refine rsQ ?_
    have H5 := hI.h5
    skip
    refine rgQ Open.wide ?_
    refine ogo (agg [(Value.slice LA l.length lc), (Value.slice AA a.length ac)]) 98 (rld 68 b5 0 H5) rfl ?_
    refine ogo (agg [(Value.slice t.A t.order.length t.k), (Value.int IntKind.u64 ((t.done : Nat) : Int)), (i64 t.left), (ptr t.b)]) 99 (rld 73 tb 0 Htb) rfl ?_
    refine ocQ 100 (next_calls _ (Value.slice LA l.length lc) (Value.slice AA a.length ac) (Value.slice t.A t.order.length t.k) (Value.int IntKind.u64 ((t.done : Nat) : Int)) (i64 t.left) (ptr t.b)) ?_
    rintro _ w133 ⟨b131, b132, rfl, K134, H135, H136, hb137, hb138, hb139⟩
    have lb131b1 : b1 < b131 := by have := H70.lt; omega
    have lb132b1 : b1 < b132 := by have := H70.lt; omega
    have lb131mb36 : mb36 < b131 := by have := H120.lt; omega
    have lb132mb36 : mb36 < b132 := by have := H120.lt; omega
    have lb131tb : tb < b131 := by have := Htb.lt; omega
    have lb132tb : tb < b132 := by have := Htb.lt; omega
    have lb131b89 : b89 < b131 := by have := H92.lt; omega
    have lb132b89 : b89 < b132 := by have := H92.lt; omega
    have lb131b122 : b122 < b131 := by have := H125.lt; omega
    have lb132b122 : b122 < b132 := by have := H125.lt; omega
    have lb131b5 : b5 < b131 := by have := H5.lt; omega
    have lb132b5 : b5 < b132 := by have := H5.lt; omega
    have nb131 : w.heap.size ≤ b131 := by have := K69.size; omega
    have of140 : ∀ i, Ow (.slice SA stk.length sc) i → i ≠ b131 := fun i hi => by have := (World.ownsRow.lt hSO i hi).2; omega
    have of141 : ∀ i, F i → i ≠ b131 := fun i hi => by have := Imm.lt hI i hi; omega
    have nb132 : w.heap.size ≤ b132 := by have := K69.size; omega
    have of143 : ∀ i, Ow (.slice SA stk.length sc) i → i ≠ b132 := fun i hi => by have := (World.ownsRow.lt hSO i hi).2; omega
    have of144 : ∀ i, F i → i ≠ b132 := fun i hi => by have := Imm.lt hI i hi; omega
    refine ⟨_, _, rfl, rfl, ?_⟩
    replace K69 := K69.tn K134
    replace H70 := H70.kn K134
    replace H120 := H120.kn K134
    replace Htb := Htb.kn K134
    replace H125 := H125.kn K134
    replace hSO := own_keep0 hSO K134
    replace hI := Imm.keep hI K134 (fun _ _ h => h)
    replace hD2 := DullW.keep hD2 K134 (fun _ _ h => h)
    refine od ?_
    refine qr_block (id := 5) (by kernel_rfl) ?_
    have zb1 := H70.lt
    have zmb36 := H120.lt
    have ztb := Htb.lt
    have zb122 := H125.lt
    have zb131 := H135.lt
    have zb132 := H136.lt
    have hFl : ∀ i, F i → i < w133.heap.size := fun i hi => Imm.lt hI i hi
    have hGl : ∀ i, Gn i → i < w133.heap.size := fun i hi => hD2.lt i hi
    have hSl : ∀ i, Ow (.slice SA stk.length sc) i → i < w133.heap.size := fun i hi => (World.ownsRow.lt hSO i hi).2
    obtain ⟨G, hG, hGF⟩ := hI.rows
    have hFq : ∀ i, F i → i < w133.heap.size ∧ i ≠ b131 ∧ i ≠ b132 ∧ ¬ (i = b122 ∨ w133.heap.size ≤ i) := fun i hi => by have q1 := hFl i hi; have q2 := of141 i hi; have q3 := of144 i hi; have q4 := of129 i hi; omega
    have hwW : w.heap.size ≤ w133.heap.size := K69.size
    refine qr_keep (R := [(5, ptr b5), (10, ptr b1), (11, .map (some mb36)), (12, ptr tb), (13, .bool true), (14, ptr b122), (100, .func (Fn.func 47) ⟨[]⟩ ⟨[(ptr b131), (ptr b132)]⟩)]) (by kernel_rfl) ?_
    refine qr_eachW (g := .tmp 100) (t := 101) (m := 11) (T := fun i => i = b122 ∨ w133.heap.size ≤ i) (w0 := w133) (by kernel_rfl) (by decide) (gf := 47) (lb := [ptr b131, ptr b132]) rfl (enters Tryd.func47 (by kernel_rfl) (by kernel_rfl))
     (next_tells w133 9 b131 b132 LA lc l AA ac a t F _ G H135 H136 (hI.pool.at_ t (List.mem_cons_self ..)) hI.rl hI.ra hal hG ho (fun i hi => hFq i (by rcases hi with h | h | h | h; exact hI.fl i h; exact hI.fa i h; exact h; exact hGF i h)) ⟨(by omega), (by omega)⟩ hb139 h8 hsot)
     (fun i h => .inr h) ((Keeps.refl _).mono (fun _ _ h => h.elim)) (fun k V => MoreI w133 110 75 73 b122 ((probH (XS l a)).nexts t.m) k V) (fun k V V2 h K => h.keep K) (fun b k v V V2 hb ⟨y, e, hn, hy⟩ K => ⟨y, e, hn, (hy.keep K (fun i hi hs => by have hs : i = w133.heap.size ∨ i = w133.heap.size + 1 := hs; have := hi.1; omega)).mono (fun i hi => ⟨hi.1, Nat.lt_of_lt_of_le hi.2 K.size⟩)⟩) (MoreI.zero H125)
     (fun v => (101, v) :: [(5, (ptr b5)), (10, (ptr b1)), (11, (Value.map (some mb36))), (12, (ptr tb)), (13, (Value.bool true)), (14, (ptr b122)), (100, (Value.func (Fn.func 47) ⟨[]⟩ ⟨[(ptr b131), (ptr b132)]⟩))]) (fun v => rfl)
     (fun b v L1 V => ∃ b15, L1 = [(14, ptr b122), (15, ptr b15)] ∧ b ≤ b15 ∧ ∃ y : StC, v = agg y.cells ∧ Has V b15 (rowL y.cells 73)) (fun b v L1 V V2 hb ⟨b15, e, hb2, y, hy, H15⟩ K => ⟨b15, e, hb2, y, hy, H15.keep K (by intro h; have h : b15 = w133.heap.size ∨ b15 = w133.heap.size + 1 := h; omega)⟩) ?_ ?_ ?_
    ·rintro ln bb kk v V hkN ⟨y, rfl, hyn, hyA⟩ hb1 hb2
     refine rgQ (Open.round ln) ?_
     refine Ops.new (o := rowL [(Value.slice none 0 0), (Value.int IntKind.u64 0), (i64 0), (Value.pointer none)] 73) (V := fun b => ptr b) (by kernel_rfl) (d := some 15) (by kernel_rfl) (fun b => rfl) (fun b w3 hb H3 k3 hs3 => ?_)
     refine Ops.put (t := 73) (b := b) (off := 0) (v := agg [(Value.slice y.A y.order.length y.k), (Value.int IntKind.u64 ((y.done : Nat) : Int)), (i64 y.left), (ptr y.b)]) (ys := [(Value.slice y.A y.order.length y.k), (Value.int IntKind.u64 ((y.done : Nat) : Int)), (i64 y.left), (ptr y.b)]) (by kernel_rfl) (by kernel_rfl) H3 (by kernel_rfl) (d := none) (by kernel_rfl) rfl (fun w4 H4 k4 => ?_)
     refine ok_ [(14, ptr b122), (15, ptr b)] ?_
     refine od ?_
     exact ⟨rfl, rfl, k3.trans k4 (fun _ _ h => h) (fun i hi h => by have h : i = b := h; omega), b, rfl, by omega, y, rfl, H4⟩
    ·rintro ln kk v L1 Vp V hM hkp hbp hkN ⟨x, rfl, hxn, hxA⟩ ⟨b15, rfl, hb15, y, hy, H15⟩
     have e15 : x.cells = y.cells := by have h := hy; simp only [Value.agg.injEq, Array.mk.injEq] at h; exact h
     rw [← e15] at H15
     obtain ⟨lm, A, c, FP, h1, h2, h3, h4, h5, h6, h7, h8q⟩ := hM
     have hlo : ∀ i, (Value.slice A lm.length c).ownBlock = some i → w133.heap.size + 2 ≤ i ∧ i < Vp.heap.size := fun i hi => World.ownsRow.lt h2 i hi
     have q1 := h1.keep hkp (by intro h; have h : b122 = w133.heap.size ∨ b122 = w133.heap.size + 1 := h; omega)
     have q2 := own_keep h2 hkp (fun i hi h => by have h : i = w133.heap.size ∨ i = w133.heap.size + 1 := h; have := hlo i hi; omega)
     have q4 := h4.keep hkp (fun i hi h => by have h : i = w133.heap.size ∨ i = w133.heap.size + 1 := h; have := h5 i hi; omega)
     have q7 := h7.trans hkp (U := fun i => i = b122) (fun _ _ h => h) (fun i hi h => by have h : i = w133.heap.size ∨ i = w133.heap.size + 1 := h; exfalso; omega)
     have hll : lm.length ≤ 8 := by have h := congrArg List.length h3; rw [List.length_map, List.length_take] at h; have h9 := Prob.nexts_len (P := (probH (XS l a))) t.m; have h10 : ((probH (XS l a))).n = l.length := xs_len hal; omega
     have hkz := hkp.size
     refine qr_mono (Order_body V ln b122 b15 (w133.heap.size + 2) A c lm x q1 H15 q2 (fun i hi => by have := hlo i hi; omega) (fun i hi => by have := hlo i hi; omega) (by omega) (by omega) (by omega)) ?_
     rintro ds e L W2 ⟨rfl, A2, c2, k2, H2, hO2, hg2⟩
     exact ⟨rfl, keepsFrom_of k2 (fun i hi hB => by have hi : i = b122 ∨ (Value.slice A lm.length c).ownBlock = some i := hi; rcases hi with hi | hi; (exfalso; omega); (exact own_is_cells q2 hi)), k2.mono (fun i _ h => by have h : i = b122 ∨ (Value.slice A lm.length c).ownBlock = some i := h; rcases h with h | h; exact .inl h; exact .inr (by have := hlo i h; omega)), MoreI.add q2 h3 q4 h5 h6 q7 h8q hxA (fun i hi => ⟨by have := hi.1; omega, hi.2⟩) (fun i hi hf => by have := hlo i hi; have := hf.1; omega) hxn k2 H2 hO2 hg2⟩
    ·rintro D V hDw hM hDD
     obtain ⟨lm146, A147, c148, FP149, H150, hO151, hlm, hFP, hFPl, hFPo, k152, _⟩ := hM
     rw [List.take_of_length_le (Nat.le_refl _)] at hlm
     have hlml : lm146.length ≤ 8 := by have h := congrArg List.length hlm; rw [List.length_map] at h; have h9 := Prob.nexts_len (P := (probH (XS l a))) t.m; have h10 : ((probH (XS l a))).n = l.length := xs_len hal; omega
     replace K69 := K69.t1 k152 fun _ => by omega
     replace H70 := H70.keep k152 (by intro h; change b1 = b122 at h; omega)
     replace H120 := H120.keep k152 (by intro h; change mb36 = b122 at h; omega)
     replace Htb := Htb.keep k152 (by intro h; change tb = b122 at h; omega)
     replace H135 := H135.keep k152 (by intro h; change b131 = b122 at h; omega)
     replace H136 := H136.keep k152 (by intro h; change b132 = b122 at h; omega)
     replace hSO := own_keep hSO k152 (fun i hi hs => by have hs : i = b122 := hs; have := ob128 i hi; omega)
     replace hI := Imm.keep hI k152 (fun i hi hs => by have hs : i = b122 := hs; have := of129 i hi; omega)
     replace hD2 := DullW.keep hD2 k152 (fun i hi hs => by have hs : i = b122 := hs; have := of130 i hi; omega)
     have hlo : ∀ i, Ow (.slice A147 lm146.length c148) i → w133.heap.size + 2 ≤ i ∧ i < V.heap.size := fun i hi => World.ownsRow.lt hO151 i hi
     have hO154 := own_base (base' := w.heap.size) hO151 (by omega)
     have hmlow : ∀ i, Ow (.slice A147 lm146.length c148) i → w.heap.size ≤ i := fun i hi => by have := hlo i hi; omega
     have ob155 : ∀ i, Ow (.slice A147 lm146.length c148) i → i ≠ b1 := fun i hi => by have := hlo i hi; omega
     have ob156 : ∀ i, Ow (.slice A147 lm146.length c148) i → i ≠ mb36 := fun i hi => by have := hlo i hi; omega
     have ob157 : ∀ i, Ow (.slice A147 lm146.length c148) i → i ≠ tb := fun i hi => by have := hlo i hi; omega
     have ob158 : ∀ i, Ow (.slice A147 lm146.length c148) i → i ≠ b122 := fun i hi => by have := hlo i hi; omega
     have ob159 : ∀ i, Ow (.slice A147 lm146.length c148) i → i ≠ b131 := fun i hi => by have := hlo i hi; omega
     have ob160 : ∀ i, Ow (.slice A147 lm146.length c148) i → i ≠ b132 := fun i hi => by have := hlo i hi; omega
     have oo161 : ∀ i, Ow (.slice A147 lm146.length c148) i → F i → False := fun i hv hi => by have := hlo i hv; have := hFl i hi; omega
     have oo162 : ∀ i, Ow (.slice A147 lm146.length c148) i → Gn i → False := fun i hv hi => by have := hlo i hv; have := hGl i hi; omega
     have oo163 : ∀ i, Ow (.slice A147 lm146.length c148) i → Ow (.slice SA stk.length sc) i → False := fun i hv hi => by have := hlo i hv; have := hSl i hi; omega
     have oo164 : ∀ i, Ow (.slice SA stk.length sc) i → Ow (.slice A147 lm146.length c148) i → False := fun i hi hv => oo163 i hv hi
     have hDlt : D < V.heap.size := (Array.getElem?_eq_some_iff.1 hDD).1
     obtain ⟨F165, hF166⟩ : ∃ Z : Nat → Prop, Z = fun i => F i ∨ FP149 i ∨ i = D := ⟨_, rfl⟩
     have hF166_b1 : ∀ i, F165 i → i ≠ b1 := fun i hi => by rw [hF166] at hi; rcases hi with q | q | q; (have := hFb1 i q; omega); (have := hFPl i q; omega); (omega)
     have hF166_mb36 : ∀ i, F165 i → i ≠ mb36 := fun i hi => by rw [hF166] at hi; rcases hi with q | q | q; (have := hFb2 i q; omega); (have := hFPl i q; omega); (omega)
     have oo168 : ∀ i, Ow (.slice SA stk.length sc) i → F165 i → False := fun i hv hi => by rw [hF166] at hi; rcases hi with q | q | q; (exact hSb3 i hv q); (have := hFPl i q; have := hSl i hv; omega); (have hq : i = D := q; subst hq; obtain ⟨o, h1, h2⟩ := own_is_cells hSO hv; rw [hDD] at h1; cases h1; cases h2)
     have oo169 : ∀ i, Ow (.slice A147 lm146.length c148) i → F165 i → False := fun i hv hi => by rw [hF166] at hi; rcases hi with q | q | q; (exact oo161 i hv q); (exact hFPo i hv q); (have hq : i = D := q; subst hq; obtain ⟨o, h1, h2⟩ := own_is_cells hO154 hv; rw [hDD] at h1; cases h1; cases h2)
     have gg170 : ∀ i, Gn i → F165 i → False := fun i hg hi => by rw [hF166] at hi; rcases hi with q | q | q; (exact hGnF i hg q); (have := hFPl i q; have := hGl i hg; omega); (have := hGl i hg; omega)
     have hI167 : Imm V 110 68 73 F165 b5 LA lc l AA ac a ok t tb ((t :: (stk ++ Dl)) ++ lm146) (D :: Ds) := Imm.next hI (fun i hi => by rw [hF166]; exact .inl hi) (fun i hi => by rw [hF166] at hi; rcases hi with q | q | q; (exact Imm.lt hI i q); (exact hFP.lt i q); (omega)) (fun x hx => by rw [hF166]; rcases List.mem_append.1 hx with hx | hx; exact ((Imm.pool hI).at_ x hx).mono (fun i hi => .inl hi); exact (hFP.at_ x hx).mono (fun i hi => .inr (.inl hi))) hI.tcell (by rw [hF166]; exact .inl hI.ft) (hI.defs.cons hDD (fun h => by have := hFl D (hI.fd D h); omega)) (fun E hE => by rw [hF166]; rcases List.mem_cons.1 hE with rfl | hE; exact .inr (.inr rfl); exact .inl (hI.fd E hE))
     have hso2 : ∀ x ∈ (t :: (stk ++ Dl)) ++ lm146, SrOk (XS l a) x.m := fun x hx => by rcases List.mem_append.1 hx with hx | hx; exact hso x hx; exact SrOk.nexts hXa (by rw [← hlm]; exact List.mem_map.2 ⟨x, hx, rfl⟩) hsot
     have hDs2 : ∀ E ∈ D :: Ds, w.heap.size ≤ E := fun E hE => by rcases List.mem_cons.1 hE with rfl | hE; omega; exact hDs E hE
     refine rsg Open.wide ?_
     refine ogo (Value.slice A147 lm146.length c148) 106 (rld 75 b122 0 H150) rfl ?_
     refine ocQ 107 (Rev_calls _ w.heap.size A147 c148 lm146 hO154) ?_
     rintro _ w171 ⟨rfl, K172, hO173⟩
     obtain ⟨lr174, hlr175⟩ : ∃ z, z = lm146.reverse := ⟨_, rfl⟩
     rw [← hlr175] at hO173
     have hll176 : lr174.length = lm146.length := by rw [hlr175, List.length_reverse]
     refine ⟨_, _, rfl, rfl, ?_⟩
     replace K69 := K69.trans K172 (U := none_) (fun i h1 h2 => h2) (fun i h1 h2 => by have h2 : Ow (.slice A147 lm146.length c148) i := h2; exfalso; have := hmlow i h2; omega)
     replace H70 := H70.keep K172 (by intro h; change Ow (.slice A147 lm146.length c148) b1 at h; have := ob155 b1 h; omega)
     replace H120 := H120.keep K172 (by intro h; change Ow (.slice A147 lm146.length c148) mb36 at h; have := ob156 mb36 h; omega)
     replace Htb := Htb.keep K172 (by intro h; change Ow (.slice A147 lm146.length c148) tb at h; have := ob157 tb h; omega)
     replace H150 := H150.keep K172 (by intro h; change Ow (.slice A147 lm146.length c148) b122 at h; have := ob158 b122 h; omega)
     replace H135 := H135.keep K172 (by intro h; change Ow (.slice A147 lm146.length c148) b131 at h; have := ob159 b131 h; omega)
     replace H136 := H136.keep K172 (by intro h; change Ow (.slice A147 lm146.length c148) b132 at h; have := ob160 b132 h; omega)
     replace hSO := own_keep hSO K172 (fun i hi hs => by have hs : Ow (.slice A147 lm146.length c148) i := hs; exact oo164 i hi hs)
     replace hD2 := DullW.keep hD2 K172 (fun i hi hs => by have hs : Ow (.slice A147 lm146.length c148) i := hs; exact oo162 i hs hi)
     replace hI167 := Imm.keep hI167 K172 (fun i hi hs => by have hs : Ow (.slice A147 lm146.length c148) i := hs; exact oo169 i hs hi)
     refine od ?_
     refine rgQ Open.wide ?_
     refine ogo (Value.slice A147 lm146.length c148) 108 (rld 75 b122 0 H150) rfl ?_
     refine ocQ 109 (push_calls _ b1 w.heap.size SA sc stk A147 lm146.length c148 lr174 H70 hSO K69.size hSb1 (OwnT.rd hO173) (by omega)) ?_
     rintro _ w180 ⟨_, A178, c179, rfl, K181, H182, hO183, hg184⟩
     obtain ⟨Z186, hZ187⟩ : ∃ z, z = stk ++ lr174 := ⟨_, rfl⟩
     rw [← hZ187] at H182 hO183 hg184
     have ob189 : ∀ i, Ow (.slice A178 Z186.length c179) i → i ≠ b1 := fun i hi => by rcases hg184 i hi with h | h; (have := hSb1 i h; omega); (have := H70.lt; omega)
     have ob190 : ∀ i, Ow (.slice A178 Z186.length c179) i → i ≠ mb36 := fun i hi => by rcases hg184 i hi with h | h; (have := hSb2 i h; omega); (have := H120.lt; omega)
     have oo195 : ∀ i, Ow (.slice A178 Z186.length c179) i → Gn i → False := fun i hs hi => by rcases hg184 i hs with h | h; (exact hSGn i h hi); (have := hD2.lt i hi; omega)
     have oo196 : ∀ i, Ow (.slice A178 Z186.length c179) i → F165 i → False := fun i hs hi => by rcases hg184 i hs with h | h; (exact oo168 i h hi); (have := Imm.lt hI167 i hi; omega)
     refine ⟨_, _, rfl, rfl, ?_⟩
     replace K69 := K69.trans K181 (U := none_) (fun i h1 h2 => h2) (fun i h1 h2 => by have h2 : i = b1 ∨ Ow (.slice SA stk.length sc) i := h2; rcases h2 with h2 | h2; (exfalso; omega); (exfalso; have := hSlw i h2; omega))
     replace H120 := H120.keep K181 (by intro h; change mb36 = b1 ∨ Ow (.slice SA stk.length sc) mb36 at h; rcases h with h | h; (omega); (have := hSb2 mb36 h; omega))
     replace Htb := Htb.keep K181 (by intro h; change tb = b1 ∨ Ow (.slice SA stk.length sc) tb at h; rcases h with h | h; (omega); (have := hStb tb h; omega))
     replace H150 := H150.keep K181 (by intro h; change b122 = b1 ∨ Ow (.slice SA stk.length sc) b122 at h; rcases h with h | h; (omega); (have := ob128 b122 h; omega))
     replace H135 := H135.keep K181 (by intro h; change b131 = b1 ∨ Ow (.slice SA stk.length sc) b131 at h; rcases h with h | h; (omega); (have := of140 b131 h; omega))
     replace H136 := H136.keep K181 (by intro h; change b132 = b1 ∨ Ow (.slice SA stk.length sc) b132 at h; rcases h with h | h; (omega); (have := of143 b132 h; omega))
     clear hSO
     replace hD2 := DullW.keep hD2 K181 (fun i hi hs => by have hs : i = b1 ∨ Ow (.slice SA stk.length sc) i := hs; rcases hs with hs | hs; (have := hGn_b1 i hi; omega); (exact hSGn i hs hi))
     replace hI167 := Imm.keep hI167 K181 (fun i hi hs => by have hs : i = b1 ∨ Ow (.slice SA stk.length sc) i := hs; rcases hs with hs | hs; (have := hF166_b1 i hi; omega); (exact oo168 i hs hi))
     have hzq199 : Z186.length = stk.length + lr174.length := by rw [hZ187, List.length_append]
     refine od ?_
     refine rsQ ?_
     refine rsg Open.wide ?_
     refine ogo (agg [(Value.slice t.A t.order.length t.k), (Value.int IntKind.u64 ((t.done : Nat) : Int)), (i64 t.left), (ptr t.b)]) 110 (rld 73 tb 0 Htb) rfl ?_
     refine od ?_
     refine rgQ Open.wide ?_
     refine onew (rowL [(Value.slice none 0 0), (Value.int IntKind.u64 0), (i64 0), (Value.pointer none)] 73) (fun b => (ptr b)) 12 (fun b => rfl) (fun b201 w202 hb203 H204 K205 hs206 => ?_)
     have lb201b1 : b1 < b201 := by have := H182.lt; omega
     have lb201mb36 : mb36 < b201 := by have := H120.lt; omega
     have lb201tb : tb < b201 := by have := Htb.lt; omega
     have lb201b122 : b122 < b201 := by have := H150.lt; omega
     have lb201b131 : b131 < b201 := by have := H135.lt; omega
     have lb201b132 : b132 < b201 := by have := H136.lt; omega
     have nb201 : w.heap.size ≤ b201 := by have := K69.size; omega
     have of207 : ∀ i, Gn i → i ≠ b201 := fun i hi => by have := hD2.lt i hi; omega
     have of208 : ∀ i, F165 i → i ≠ b201 := fun i hi => by have := Imm.lt hI167 i hi; omega
     have ob210 : ∀ i, Ow (.slice A178 Z186.length c179) i → i < b201 := fun i hi => by have := (World.ownsRow.lt hO183 i hi).2; omega
     replace K69 := K69.tn K205
     replace H182 := H182.kn K205
     replace H120 := H120.kn K205
     replace hD2 := DullW.keep hD2 K205 (fun _ _ h => h)
     replace hI167 := Imm.keep hI167 K205 (fun _ _ h => h)
     replace hO183 := own_keep0 hO183 K205
     clear K205 hs206
     refine oput 73 b201 [(Value.slice t.A t.order.length t.k), (Value.int IntKind.u64 ((t.done : Nat) : Int)), (i64 t.left), (ptr t.b)] H204 rfl (fun w211 H212 K213 => ?_)
     replace K69 := K69.t1 K213 fun _ => by omega
     replace H182 := H182.k1 K213 (by omega)
     replace H120 := H120.k1 K213 (by omega)
     replace hD2 := DullW.keep hD2 K213 (fun i hi hs => by have hs : i = b201 := hs; have := of207 i hi; omega)
     replace hI167 := Imm.keep hI167 K213 (fun i hi hs => by have hs : i = b201 := hs; have := of208 i hi; omega)
     replace hO183 := own_keep hO183 K213 (fun i hi => by have := ob210 i hi; omega)
     refine od ?_
     refine rgQ Open.wide ?_
     rcases eq_nil_or_snoc Z186 with hz214 | ⟨zl215, zx216, hz214⟩
     ·skip
      have H219 : Has w211 b1 (rowL [(Value.slice A178 (([] : List StC).length) c179)] 77) := by have h := H182; rw [hz214] at h; exact h
      have hO220 : OwnT w211 w.heap.size 73 4 StC.cells ((Value.slice A178 (([] : List StC).length) c179)) [] := by have h := hO183; rw [hz214] at h; exact h
      have ob221 : ∀ i, Ow (.slice A178 (([] : List StC).length) c179) i → i ≠ b1 := fun i hi => by have := ob189 i (ownN.trans hi); omega
      have ob222 : ∀ i, Ow (.slice A178 (([] : List StC).length) c179) i → i ≠ mb36 := fun i hi => by have := ob190 i (ownN.trans hi); omega
      have ob227 : ∀ i, Ow (.slice A178 (([] : List StC).length) c179) i → i ≠ b201 := fun i hi => by have := ob210 i (ownN.trans hi); omega
      have oo228 : ∀ i, Ow (.slice A178 (([] : List StC).length) c179) i → _ := fun i hi => oo195 i (ownN.trans hi)
      have oo229 : ∀ i, Ow (.slice A178 (([] : List StC).length) c179) i → _ := fun i hi => oo196 i (ownN.trans hi)
      refine ocQ 71 (pop_nil _ b1 A178 c179 H219) ?_
      rintro _ w217 ⟨rfl, K218⟩
      refine ⟨_, _, rfl, rfl, ?_⟩
      replace K69 := K69.tn K218
      replace H219 := H219.kn K218
      replace H120 := H120.kn K218
      replace H212 := H212.kn K218
      replace hD2 := DullW.keep hD2 K218 (fun _ _ h => h)
      replace hI167 := Imm.keep hI167 K218 (fun _ _ h => h)
      replace hO220 := own_keep0 hO220 K218
      refine og 3 [(5, ptr b5), (10, ptr b1), (11, .map (some mb36)), (12, ptr b201), (13, .bool true), (72, (agg [(Value.slice none 0 0), (Value.int IntKind.u64 0), (i64 0), (Value.pointer none)])), (73, .bool false)] 4 ?_
      refine oput 73 b201 [(Value.slice none 0 0), (Value.int IntKind.u64 0), (i64 0), (Value.pointer none)] H212 rfl (fun w231 H232 K233 => ?_)
      replace K69 := K69.t1 K233 fun _ => by omega
      replace H219 := H219.k1 K233 (by omega)
      replace H120 := H120.k1 K233 (by omega)
      replace hD2 := DullW.keep hD2 K233 (fun i hi hs => by have hs : i = b201 := hs; have := of207 i hi; omega)
      replace hI167 := Imm.keep hI167 K233 (fun i hi hs => by have hs : i = b201 := hs; have := of208 i hi; omega)
      replace hO220 := own_keep hO220 K233 (fun i hi => by have := ob227 i hi; omega)
      refine og 1 [(5, ptr b5), (10, ptr b1), (11, .map (some mb36)), (12, ptr b201), (13, .bool false)] 6 ?_
      have hP9 : ∀ x, x ∈ (t :: ([] ++ (t :: Dl))) → x ∈ ((t :: (stk ++ Dl)) ++ lm146) := fun x hx => by rcases List.mem_cons.1 hx with hx | hx; (rw [hx]; exact List.mem_append_left _ (List.mem_cons_self ..)); (rcases List.mem_cons.1 hx with hx | hx; (rw [hx]; exact List.mem_append_left _ (List.mem_cons_self ..)); (exact List.mem_append_left _ (List.mem_cons_of_mem _ (List.mem_append_right _ hx))))
      obtain ⟨F234, hF235⟩ : ∃ Z : Nat → Prop, Z = fun i => F165 i ∨ i = b201 := ⟨_, rfl⟩
      have hF235_b1 : ∀ i, F234 i → i ≠ b1 := fun i hi => by rw [hF235] at hi; rcases hi with q | q; (have := hF166_b1 i q; omega); (omega)
      have hF235_mb36 : ∀ i, F234 i → i ≠ mb36 := fun i hi => by rw [hF235] at hi; rcases hi with q | q; (have := hF166_mb36 i q; omega); (omega)
      have oo238 : ∀ i, Ow (.slice A178 (([] : List StC).length) c179) i → F234 i → False := fun i hv hi => by rw [hF235] at hi; rcases hi with q | q; (exact oo229 i hv q); (have := ob227 i hv; omega)
      have gg239 : ∀ i, Gn i → F234 i → False := fun i hg hi => by rw [hF235] at hi; rcases hi with q | q; (exact gg170 i hg q); (have := of207 i hg; omega)
      have hI236 : Imm w231 110 68 73 F234 b5 LA lc l AA ac a false t b201 (t :: ([] ++ (t :: Dl))) (D :: Ds) := Imm.next hI167 (fun i hi => by rw [hF235]; exact .inl hi) (fun i hi => by rw [hF235] at hi; rcases hi with q | q; (exact Imm.lt hI167 i q); (have := H232.lt; omega)) (fun x hx => ((Imm.pool hI167).at_ x (hP9 x hx)).mono (fun i hi => by rw [hF235]; exact .inl hi)) (fun h => by cases h) (by rw [hF235]; exact .inr rfl) (Imm.defs hI167) (fun E hE => by rw [hF235]; exact .inl (Imm.fd hI167 E hE))
      have hzr : Z186.reverse.map StC.m = ((probH (XS l a)).nexts t.m) ++ stk.reverse.map StC.m := by rw [hZ187, hlr175, List.reverse_append, List.reverse_reverse, List.map_append, hlm]
      have hrun3 : (probH (XS l a)).run sameB f2 (Z186.reverse.map StC.m) ((t :: Dl).map StC.ds) = some R0 := by rw [hzr]; exact hrun2
      have hzlen := congrArg List.length hZ187
      rw [List.length_append] at hzlen
      have hrun4 : (probH (XS l a)).run sameB f2 (cond false (StC.m t :: ([] : List StC).reverse.map StC.m) []) ((t :: Dl).map StC.ds) = some R0 := by have h := hrun3; rw [hz214] at h; exact h
      refine ok_ [(5, ptr b5), (10, ptr b1), (11, .map (some mb36)), (12, ptr b201), (13, .bool false)] ?_
      refine od ?_
      exact ⟨(f2, false, t, b201, A178, c179, ([] : List StC), putM md t.done (⟨A106, c107, [t]⟩ : DRow), (t :: Dl), F234, Gn, (D :: Ds)), ⟨rfl, rfl, hrun4, (fun _ => rfl), (fun x hx => hso2 x (hP9 x hx)), hI236, hD2, hO220, (fun i hi => ⟨by have := ob221 i hi; omega, by have := ob222 i hi; omega, fun q => oo238 i hi q, fun q => oo228 i hi q⟩), (fun i hi => ⟨by have := hGn_b1 i hi; omega, by have := hGn_mb36 i hi; omega, fun q => gg239 i hi q⟩), (fun i hi => ⟨by have := hF235_b1 i hi; omega, by have := hF235_mb36 i hi; omega⟩), (by rw [hz214] at hzlen; show 0 ≤ _; omega), (by simp only [List.length_cons]; omega), hDs2, K69, H219, H120⟩, (show f2 < f from by omega)⟩
     ·skip
      have hn244 : Z186.length = zl215.length + 1 := by rw [hz214, List.length_append]; rfl
      have hO245 : OwnT w211 w.heap.size 73 4 StC.cells ((Value.slice A178 Z186.length c179)) (zl215 ++ [zx216]) := by rw [← hz214]; exact hO183
      refine ocQ 71 (pop_some _ b1 w.heap.size A178 c179 Z186.length zl215 zx216 H182 hO245 hn244 ob189 (by first | omega | (show 0 ≤ 1000000000; omega))) ?_
      rintro _ w240 ⟨rfl, K241, H242, hO243⟩
      refine ⟨_, _, rfl, rfl, ?_⟩
      replace K69 := K69.t1 K241 fun _ => by omega
      replace H120 := H120.k1 K241 (by omega)
      replace H212 := H212.k1 K241 (by omega)
      replace hD2 := DullW.keep hD2 K241 (fun i hi hs => by have hs : i = b1 := hs; have := hGn_b1 i hi; omega)
      replace hI167 := Imm.keep hI167 K241 (fun i hi hs => by have hs : i = b1 := hs; have := hF166_b1 i hi; omega)
      have ob247 : ∀ i, Ow (.slice A178 zl215.length c179) i → i ≠ b1 := fun i hi => by have := ob189 i (ownN.trans hi); omega
      have ob248 : ∀ i, Ow (.slice A178 zl215.length c179) i → i ≠ mb36 := fun i hi => by have := ob190 i (ownN.trans hi); omega
      have ob253 : ∀ i, Ow (.slice A178 zl215.length c179) i → i ≠ b201 := fun i hi => by have := ob210 i (ownN.trans hi); omega
      have oo254 : ∀ i, Ow (.slice A178 zl215.length c179) i → _ := fun i hi => oo195 i (ownN.trans hi)
      have oo255 : ∀ i, Ow (.slice A178 zl215.length c179) i → _ := fun i hi => oo196 i (ownN.trans hi)
      refine og 3 [(5, ptr b5), (10, ptr b1), (11, .map (some mb36)), (12, ptr b201), (13, .bool true), (72, (agg [(Value.slice zx216.A zx216.order.length zx216.k), (Value.int IntKind.u64 ((zx216.done : Nat) : Int)), (i64 zx216.left), (ptr zx216.b)])), (73, .bool true)] 4 ?_
      refine oput 73 b201 [(Value.slice zx216.A zx216.order.length zx216.k), (Value.int IntKind.u64 ((zx216.done : Nat) : Int)), (i64 zx216.left), (ptr zx216.b)] H212 rfl (fun w257 H258 K259 => ?_)
      replace K69 := K69.t1 K259 fun _ => by omega
      replace H242 := H242.k1 K259 (by omega)
      replace H120 := H120.k1 K259 (by omega)
      replace hD2 := DullW.keep hD2 K259 (fun i hi hs => by have hs : i = b201 := hs; have := of207 i hi; omega)
      replace hI167 := Imm.keep hI167 K259 (fun i hi hs => by have hs : i = b201 := hs; have := of208 i hi; omega)
      replace hO243 := own_keep hO243 K259 (fun i hi => by have := ob253 i hi; omega)
      refine og 1 [(5, ptr b5), (10, ptr b1), (11, .map (some mb36)), (12, ptr b201), (13, .bool true)] 6 ?_
      have hZm : ∀ x, x ∈ Z186 → x ∈ (t :: (stk ++ Dl)) ++ lm146 := fun x hx => by rw [hZ187] at hx; rcases List.mem_append.1 hx with hx | hx; exact List.mem_append_left _ (List.mem_cons_of_mem _ (List.mem_append_left _ hx)); exact List.mem_append_right _ (by rw [hlr175] at hx; exact List.mem_reverse.1 hx)
      have hP9 : ∀ x, x ∈ (zx216 :: (zl215 ++ (t :: Dl))) → x ∈ ((t :: (stk ++ Dl)) ++ lm146) := fun x hx => by rcases List.mem_cons.1 hx with hx | hx; (exact hZm x (by rw [hz214, hx]; exact List.mem_append_right _ (List.mem_singleton.2 rfl))); (rcases List.mem_append.1 hx with hx | hx; (exact hZm x (by rw [hz214]; exact List.mem_append_left _ hx)); (rcases List.mem_cons.1 hx with hx | hx; (rw [hx]; exact List.mem_append_left _ (List.mem_cons_self ..)); (exact List.mem_append_left _ (List.mem_cons_of_mem _ (List.mem_append_right _ hx)))))
      obtain ⟨F260, hF261⟩ : ∃ Z : Nat → Prop, Z = fun i => F165 i ∨ i = b201 := ⟨_, rfl⟩
      have hF261_b1 : ∀ i, F260 i → i ≠ b1 := fun i hi => by rw [hF261] at hi; rcases hi with q | q; (have := hF166_b1 i q; omega); (omega)
      have hF261_mb36 : ∀ i, F260 i → i ≠ mb36 := fun i hi => by rw [hF261] at hi; rcases hi with q | q; (have := hF166_mb36 i q; omega); (omega)
      have oo264 : ∀ i, Ow (.slice A178 zl215.length c179) i → F260 i → False := fun i hv hi => by rw [hF261] at hi; rcases hi with q | q; (exact oo255 i hv q); (have := ob253 i hv; omega)
      have gg265 : ∀ i, Gn i → F260 i → False := fun i hg hi => by rw [hF261] at hi; rcases hi with q | q; (exact gg170 i hg q); (have := of207 i hg; omega)
      have hI262 : Imm w257 110 68 73 F260 b5 LA lc l AA ac a true zx216 b201 (zx216 :: (zl215 ++ (t :: Dl))) (D :: Ds) := Imm.next hI167 (fun i hi => by rw [hF261]; exact .inl hi) (fun i hi => by rw [hF261] at hi; rcases hi with q | q; (exact Imm.lt hI167 i q); (have := H258.lt; omega)) (fun x hx => ((Imm.pool hI167).at_ x (hP9 x hx)).mono (fun i hi => by rw [hF261]; exact .inl hi)) (fun _ => H258) (by rw [hF261]; exact .inr rfl) (Imm.defs hI167) (fun E hE => by rw [hF261]; exact .inl (Imm.fd hI167 E hE))
      have hzr : Z186.reverse.map StC.m = ((probH (XS l a)).nexts t.m) ++ stk.reverse.map StC.m := by rw [hZ187, hlr175, List.reverse_append, List.reverse_reverse, List.map_append, hlm]
      have hrun3 : (probH (XS l a)).run sameB f2 (Z186.reverse.map StC.m) ((t :: Dl).map StC.ds) = some R0 := by rw [hzr]; exact hrun2
      have hzlen := congrArg List.length hZ187
      rw [List.length_append] at hzlen
      have hrun4 : (probH (XS l a)).run sameB f2 (cond true (StC.m zx216 :: zl215.reverse.map StC.m) []) ((t :: Dl).map StC.ds) = some R0 := by have h := hrun3; rw [hz214, rev_snoc] at h; exact h
      refine ok_ [(5, ptr b5), (10, ptr b1), (11, .map (some mb36)), (12, ptr b201), (13, .bool true)] ?_
      refine od ?_
      exact ⟨(f2, true, zx216, b201, A178, c179, zl215, putM md t.done (⟨A106, c107, [t]⟩ : DRow), (t :: Dl), F260, Gn, (D :: Ds)), ⟨rfl, rfl, hrun4, (fun h => by cases h), (fun x hx => hso2 x (hP9 x hx)), hI262, hD2, hO243, (fun i hi => ⟨by have := ob247 i hi; omega, by have := ob248 i hi; omega, fun q => oo264 i hi q, fun q => oo254 i hi q⟩), (fun i hi => ⟨by have := hGn_b1 i hi; omega, by have := hGn_mb36 i hi; omega, fun q => gg265 i hi q⟩), (fun i hi => ⟨by have := hF261_b1 i hi; omega, by have := hF261_mb36 i hi; omega⟩), (by rw [hz214] at hzlen; rw [List.length_append] at hzlen; have : ([zx216] : List StC).length = 1 := rfl; simp only [List.length_cons]; omega), (by simp only [List.length_cons]; omega), hDs2, K69, H242, H120⟩, (show f2 < f from by omega)⟩
   ·skip
    refine ogo (Value.slice y80.A y80.bs.length y80.c) 82 (Runs.lookup_some (ok := false) (vf := DRow.v) (a := y80) KTU Tryd.underlying79 H71 hg79 (by kernel_rfl)) rfl ?_
    refine og 1 [(5, ptr b5), (10, ptr b1), (11, .map (some mb36)), (12, ptr tb), (13, .bool true), (82, .slice y80.A y80.bs.length y80.c), (83, .pointer (some ⟨tb, 3, none⟩))] 5 ?_
    refine ogo (ptr t.b) 84 (rld 69 tb 3 Htb) rfl ?_
    refine og 1 [(5, ptr b5), (10, ptr b1), (11, .map (some mb36)), (12, ptr tb), (13, .bool true), (82, .slice y80.A y80.bs.length y80.c), (85, .func (Fn.func 32) ⟨[(ptr t.b)]⟩ ⟨[]⟩)] 7 ?_
    refine ocQ 86 (Contains_calls _ t.b tmb tkb tm t.s.1 t.s.2 F y80.A y80.c y80.bs hTb hTm hTk hTn hTB (OwnT.rd (hD.own _ (getM_mem hg79))) (hI.pool.sub (fun x hx => List.mem_cons_of_mem _ (List.mem_append_right _ ((hD.mem x).2 ⟨_, getM_mem hg79, hx⟩))))) ?_
    rintro _ w269 ⟨t266, rfl, hc267, K268⟩
    refine ⟨_, _, rfl, rfl, ?_⟩
    replace K69 := K69.tn K268
    replace H70 := H70.kn K268
    replace H71 := H71.kn K268
    replace Htb := Htb.kn K268
    replace hSO := own_keep0 hSO K268
    replace hI := Imm.keep hI K268 (fun _ _ h => h)
    replace hD := DullW.keep hD K268 (fun _ _ h => h)
    refine od ?_
    refine rcQ 86 t266 rfl (fun h270 => ?_) (fun h270 => ?_)
    ·rw [h270]
     have p271 : t266 = true := h270
     have hdl := (hD.hit H71.nodup hg79).2 (hc267.1 h270)
     obtain ⟨f2, hf2, hrun2⟩ := run_dull hrun1 hl0 hdl
     refine qr_exit (id := 4) (by kernel_rfl) ?_
     refine rsQ ?_
     refine rsg Open.wide ?_
     refine ogo (agg [(Value.slice t.A t.order.length t.k), (Value.int IntKind.u64 ((t.done : Nat) : Int)), (i64 t.left), (ptr t.b)]) 110 (rld 73 tb 0 Htb) rfl ?_
     refine od ?_
     refine rgQ Open.wide ?_
     refine onew (rowL [(Value.slice none 0 0), (Value.int IntKind.u64 0), (i64 0), (Value.pointer none)] 73) (fun b => (ptr b)) 12 (fun b => rfl) (fun b272 w273 hb274 H275 K276 hs277 => ?_)
     have lb272b1 : b1 < b272 := by have := H70.lt; omega
     have lb272mb36 : mb36 < b272 := by have := H71.lt; omega
     have lb272tb : tb < b272 := by have := Htb.lt; omega
     have nb272 : w.heap.size ≤ b272 := by have := K69.size; omega
     have ob278 : ∀ i, Ow (.slice SA stk.length sc) i → i < b272 := fun i hi => by have := (World.ownsRow.lt hSO i hi).2; omega
     have of279 : ∀ i, F i → i ≠ b272 := fun i hi => by have := Imm.lt hI i hi; omega
     have of280 : ∀ i, Gd i → i ≠ b272 := fun i hi => by have := hD.lt i hi; omega
     replace K69 := K69.tn K276
     replace H70 := H70.kn K276
     replace H71 := H71.kn K276
     replace hSO := own_keep0 hSO K276
     replace hI := Imm.keep hI K276 (fun _ _ h => h)
     replace hD := DullW.keep hD K276 (fun _ _ h => h)
     clear K276 hs277
     refine oput 73 b272 [(Value.slice t.A t.order.length t.k), (Value.int IntKind.u64 ((t.done : Nat) : Int)), (i64 t.left), (ptr t.b)] H275 rfl (fun w281 H282 K283 => ?_)
     replace K69 := K69.t1 K283 fun _ => by omega
     replace H70 := H70.k1 K283 (by omega)
     replace H71 := H71.k1 K283 (by omega)
     replace hSO := own_keep hSO K283 (fun i hi => by have := ob278 i hi; omega)
     replace hI := Imm.keep hI K283 (fun i hi hs => by have hs : i = b272 := hs; have := of279 i hi; omega)
     replace hD := DullW.keep hD K283 (fun i hi hs => by have hs : i = b272 := hs; have := of280 i hi; omega)
     refine od ?_
     refine rgQ Open.wide ?_
     rcases eq_nil_or_snoc stk with hz284 | ⟨zl285, zx286, hz284⟩
     ·skip
      have H289 : Has w281 b1 (rowL [(Value.slice SA (([] : List StC).length) sc)] 77) := by have h := H70; rw [hz284] at h; exact h
      have hO290 : OwnT w281 w.heap.size 73 4 StC.cells ((Value.slice SA (([] : List StC).length) sc)) [] := by have h := hSO; rw [hz284] at h; exact h
      have ob291 : ∀ i, Ow (.slice SA (([] : List StC).length) sc) i → i ≠ b1 := fun i hi => by have := hSb1 i (ownN.trans hi); omega
      have ob292 : ∀ i, Ow (.slice SA (([] : List StC).length) sc) i → i ≠ mb36 := fun i hi => by have := hSb2 i (ownN.trans hi); omega
      have ob294 : ∀ i, Ow (.slice SA (([] : List StC).length) sc) i → i ≠ b272 := fun i hi => by have := ob278 i (ownN.trans hi); omega
      have oo295 : ∀ i, Ow (.slice SA (([] : List StC).length) sc) i → _ := fun i hi => hSb3 i (ownN.trans hi)
      have oo296 : ∀ i, Ow (.slice SA (([] : List StC).length) sc) i → _ := fun i hi => hSb4 i (ownN.trans hi)
      refine ocQ 71 (pop_nil _ b1 SA sc H289) ?_
      rintro _ w287 ⟨rfl, K288⟩
      refine ⟨_, _, rfl, rfl, ?_⟩
      replace K69 := K69.tn K288
      replace H289 := H289.kn K288
      replace H71 := H71.kn K288
      replace H282 := H282.kn K288
      replace hI := Imm.keep hI K288 (fun _ _ h => h)
      replace hD := DullW.keep hD K288 (fun _ _ h => h)
      replace hO290 := own_keep0 hO290 K288
      refine og 3 [(5, ptr b5), (10, ptr b1), (11, .map (some mb36)), (12, ptr b272), (13, .bool true), (72, (agg [(Value.slice none 0 0), (Value.int IntKind.u64 0), (i64 0), (Value.pointer none)])), (73, .bool false)] 4 ?_
      refine oput 73 b272 [(Value.slice none 0 0), (Value.int IntKind.u64 0), (i64 0), (Value.pointer none)] H282 rfl (fun w298 H299 K300 => ?_)
      replace K69 := K69.t1 K300 fun _ => by omega
      replace H289 := H289.k1 K300 (by omega)
      replace H71 := H71.k1 K300 (by omega)
      replace hI := Imm.keep hI K300 (fun i hi hs => by have hs : i = b272 := hs; have := of279 i hi; omega)
      replace hD := DullW.keep hD K300 (fun i hi hs => by have hs : i = b272 := hs; have := of280 i hi; omega)
      replace hO290 := own_keep hO290 K300 (fun i hi => by have := ob294 i hi; omega)
      refine og 1 [(5, ptr b5), (10, ptr b1), (11, .map (some mb36)), (12, ptr b272), (13, .bool false)] 6 ?_
      have hP9 : ∀ x, x ∈ (t :: ([] ++ Dl)) → x ∈ (t :: (stk ++ Dl)) := fun x hx => by rcases List.mem_cons.1 hx with hx | hx; (rw [hx]; exact List.mem_cons_self ..); (exact List.mem_cons_of_mem _ (List.mem_append_right _ hx))
      obtain ⟨F301, hF302⟩ : ∃ Z : Nat → Prop, Z = fun i => F i ∨ i = b272 := ⟨_, rfl⟩
      have hF302_b1 : ∀ i, F301 i → i ≠ b1 := fun i hi => by rw [hF302] at hi; rcases hi with q | q; (have := hFb1 i q; omega); (omega)
      have hF302_mb36 : ∀ i, F301 i → i ≠ mb36 := fun i hi => by rw [hF302] at hi; rcases hi with q | q; (have := hFb2 i q; omega); (omega)
      have oo304 : ∀ i, Ow (.slice SA (([] : List StC).length) sc) i → F301 i → False := fun i hv hi => by rw [hF302] at hi; rcases hi with q | q; (exact oo295 i hv q); (have := ob294 i hv; omega)
      have gg305 : ∀ i, Gd i → F301 i → False := fun i hg hi => by rw [hF302] at hi; rcases hi with q | q; (exact hGb3 i hg q); (have := of280 i hg; omega)
      have hI303 : Imm w298 110 68 73 F301 b5 LA lc l AA ac a false t b272 (t :: ([] ++ Dl)) Ds := Imm.next hI (fun i hi => by rw [hF302]; exact .inl hi) (fun i hi => by rw [hF302] at hi; rcases hi with q | q; (exact Imm.lt hI i q); (have := H299.lt; omega)) (fun x hx => ((Imm.pool hI).at_ x (hP9 x hx)).mono (fun i hi => by rw [hF302]; exact .inl hi)) (fun h => by cases h) (by rw [hF302]; exact .inr rfl) (Imm.defs hI) (fun E hE => by rw [hF302]; exact .inl (Imm.fd hI E hE))
      have hzlen := hf2
      have hrun4 : (probH (XS l a)).run sameB f2 (cond false (StC.m t :: ([] : List StC).reverse.map StC.m) []) (Dl.map StC.ds) = some R0 := by have h := hrun2; rw [hz284] at h; exact h
      refine ok_ [(5, ptr b5), (10, ptr b1), (11, .map (some mb36)), (12, ptr b272), (13, .bool false)] ?_
      refine od ?_
      exact ⟨(f2, false, t, b272, SA, sc, ([] : List StC), md, Dl, F301, Gd, Ds), ⟨rfl, rfl, hrun4, (fun _ => rfl), (fun x hx => hso x (hP9 x hx)), hI303, hD, hO290, (fun i hi => ⟨by have := ob291 i hi; omega, by have := ob292 i hi; omega, fun q => oo304 i hi q, fun q => oo296 i hi q⟩), (fun i hi => ⟨by have := hGb1 i hi; omega, by have := hGb2 i hi; omega, fun q => gg305 i hi q⟩), (fun i hi => ⟨by have := hF302_b1 i hi; omega, by have := hF302_mb36 i hi; omega⟩), (by rw [hz284] at hlen; show 0 ≤ _; omega), (by omega), hDs, K69, H289, H71⟩, (show f2 < f from by omega)⟩
     ·skip
      have hn310 : stk.length = zl285.length + 1 := by rw [hz284, List.length_append]; rfl
      have hO311 : OwnT w281 w.heap.size 73 4 StC.cells ((Value.slice SA stk.length sc)) (zl285 ++ [zx286]) := by rw [← hz284]; exact hSO
      refine ocQ 71 (pop_some _ b1 w.heap.size SA sc stk.length zl285 zx286 H70 hO311 hn310 hSb1 (by first | omega | (show 0 ≤ 1000000000; omega))) ?_
      rintro _ w306 ⟨rfl, K307, H308, hO309⟩
      refine ⟨_, _, rfl, rfl, ?_⟩
      replace K69 := K69.t1 K307 fun _ => by omega
      replace H71 := H71.k1 K307 (by omega)
      replace H282 := H282.k1 K307 (by omega)
      replace hI := Imm.keep hI K307 (fun i hi hs => by have hs : i = b1 := hs; have := hFb1 i hi; omega)
      replace hD := DullW.keep hD K307 (fun i hi hs => by have hs : i = b1 := hs; have := hGb1 i hi; omega)
      have ob313 : ∀ i, Ow (.slice SA zl285.length sc) i → i ≠ b1 := fun i hi => by have := hSb1 i (ownN.trans hi); omega
      have ob314 : ∀ i, Ow (.slice SA zl285.length sc) i → i ≠ mb36 := fun i hi => by have := hSb2 i (ownN.trans hi); omega
      have ob316 : ∀ i, Ow (.slice SA zl285.length sc) i → i ≠ b272 := fun i hi => by have := ob278 i (ownN.trans hi); omega
      have oo317 : ∀ i, Ow (.slice SA zl285.length sc) i → _ := fun i hi => hSb3 i (ownN.trans hi)
      have oo318 : ∀ i, Ow (.slice SA zl285.length sc) i → _ := fun i hi => hSb4 i (ownN.trans hi)
      refine og 3 [(5, ptr b5), (10, ptr b1), (11, .map (some mb36)), (12, ptr b272), (13, .bool true), (72, (agg [(Value.slice zx286.A zx286.order.length zx286.k), (Value.int IntKind.u64 ((zx286.done : Nat) : Int)), (i64 zx286.left), (ptr zx286.b)])), (73, .bool true)] 4 ?_
      refine oput 73 b272 [(Value.slice zx286.A zx286.order.length zx286.k), (Value.int IntKind.u64 ((zx286.done : Nat) : Int)), (i64 zx286.left), (ptr zx286.b)] H282 rfl (fun w320 H321 K322 => ?_)
      replace K69 := K69.t1 K322 fun _ => by omega
      replace H308 := H308.k1 K322 (by omega)
      replace H71 := H71.k1 K322 (by omega)
      replace hI := Imm.keep hI K322 (fun i hi hs => by have hs : i = b272 := hs; have := of279 i hi; omega)
      replace hD := DullW.keep hD K322 (fun i hi hs => by have hs : i = b272 := hs; have := of280 i hi; omega)
      replace hO309 := own_keep hO309 K322 (fun i hi => by have := ob316 i hi; omega)
      refine og 1 [(5, ptr b5), (10, ptr b1), (11, .map (some mb36)), (12, ptr b272), (13, .bool true)] 6 ?_
      have hP9 : ∀ x, x ∈ (zx286 :: (zl285 ++ Dl)) → x ∈ (t :: (stk ++ Dl)) := fun x hx => by rw [hz284]; rcases List.mem_cons.1 hx with hx | hx; (exact List.mem_cons_of_mem _ (List.mem_append_left _ (List.mem_append_right _ (List.mem_singleton.2 hx)))); (rcases List.mem_append.1 hx with hx | hx; exact List.mem_cons_of_mem _ (List.mem_append_left _ (List.mem_append_left _ hx)); exact List.mem_cons_of_mem _ (List.mem_append_right _ hx))
      obtain ⟨F323, hF324⟩ : ∃ Z : Nat → Prop, Z = fun i => F i ∨ i = b272 := ⟨_, rfl⟩
      have hF324_b1 : ∀ i, F323 i → i ≠ b1 := fun i hi => by rw [hF324] at hi; rcases hi with q | q; (have := hFb1 i q; omega); (omega)
      have hF324_mb36 : ∀ i, F323 i → i ≠ mb36 := fun i hi => by rw [hF324] at hi; rcases hi with q | q; (have := hFb2 i q; omega); (omega)
      have oo326 : ∀ i, Ow (.slice SA zl285.length sc) i → F323 i → False := fun i hv hi => by rw [hF324] at hi; rcases hi with q | q; (exact oo317 i hv q); (have := ob316 i hv; omega)
      have gg327 : ∀ i, Gd i → F323 i → False := fun i hg hi => by rw [hF324] at hi; rcases hi with q | q; (exact hGb3 i hg q); (have := of280 i hg; omega)
      have hI325 : Imm w320 110 68 73 F323 b5 LA lc l AA ac a true zx286 b272 (zx286 :: (zl285 ++ Dl)) Ds := Imm.next hI (fun i hi => by rw [hF324]; exact .inl hi) (fun i hi => by rw [hF324] at hi; rcases hi with q | q; (exact Imm.lt hI i q); (have := H321.lt; omega)) (fun x hx => ((Imm.pool hI).at_ x (hP9 x hx)).mono (fun i hi => by rw [hF324]; exact .inl hi)) (fun _ => H321) (by rw [hF324]; exact .inr rfl) (Imm.defs hI) (fun E hE => by rw [hF324]; exact .inl (Imm.fd hI E hE))
      have hzlen := hf2
      have hrun4 : (probH (XS l a)).run sameB f2 (cond true (StC.m zx286 :: zl285.reverse.map StC.m) []) (Dl.map StC.ds) = some R0 := by have h := hrun2; rw [hz284, rev_snoc] at h; exact h
      refine ok_ [(5, ptr b5), (10, ptr b1), (11, .map (some mb36)), (12, ptr b272), (13, .bool true)] ?_
      refine od ?_
      exact ⟨(f2, true, zx286, b272, SA, sc, zl285, md, Dl, F323, Gd, Ds), ⟨rfl, rfl, hrun4, (fun h => by cases h), (fun x hx => hso x (hP9 x hx)), hI325, hD, hO309, (fun i hi => ⟨by have := ob313 i hi; omega, by have := ob314 i hi; omega, fun q => oo326 i hi q, fun q => oo318 i hi q⟩), (fun i hi => ⟨by have := hGb1 i hi; omega, by have := hGb2 i hi; omega, fun q => gg327 i hi q⟩), (fun i hi => ⟨by have := hF324_b1 i hi; omega, by have := hF324_mb36 i hi; omega⟩), (by rw [hz284] at hlen; rw [List.length_append] at hlen; have : ([zx286] : List StC).length = 1 := rfl; omega), (by omega), hDs, K69, H308, H71⟩, (show f2 < f from by omega)⟩
    ·rw [h270]
     have p328 : t266 = false := h270
     have hnd : ¬ dullS sameB (Dl.map StC.ds) t.m = true := fun q => by have q2 := hc267.2 ((hD.hit H71.nodup hg79).1 q); rw [h270] at q2; cases q2
     refine rkQ ?_
     refine rsQ ?_
     have hWw : w.heap.size ≤ w269.heap.size := K69.size
     have hO329 : OwnT w269 w.heap.size 69 1 StC.led ((Value.slice y80.A y80.bs.length y80.c)) y80.bs := hD.own _ (getM_mem hg79)
     have hyG330 : ∀ i, Ow (.slice y80.A y80.bs.length y80.c) i → Gd i := hD.inG _ (getM_mem hg79)
     have ob331 : ∀ i, Ow (.slice y80.A y80.bs.length y80.c) i → i ≠ b1 := fun i hi => hGb1 i (hyG330 i hi)
     have ob332 : ∀ i, Ow (.slice y80.A y80.bs.length y80.c) i → i ≠ mb36 := fun i hi => hGb2 i (hyG330 i hi)
     have ob333 : ∀ i, Ow (.slice y80.A y80.bs.length y80.c) i → i ≠ tb := fun i hi => hGtb i (hyG330 i hi)
     have oo334 : ∀ i, Ow (.slice y80.A y80.bs.length y80.c) i → Ow (.slice SA stk.length sc) i → False := fun i h1 h2 => hSb4 i h2 (hyG330 i h1)
     have oo335 : ∀ i, Ow (.slice SA stk.length sc) i → Ow (.slice y80.A y80.bs.length y80.c) i → False := fun i h1 h2 => oo334 i h2 h1
     have oo336 : ∀ i, Ow (.slice y80.A y80.bs.length y80.c) i → F i → False := fun i h1 h2 => hGb3 i (hyG330 i h1) h2
     have lw337 : ∀ i, Ow (.slice y80.A y80.bs.length y80.c) i → w.heap.size ≤ i := fun i hi => (World.ownsRow.lt hO329 i hi).1
     refine qr_drawS Open.wide 12 (by kernel_rfl) (by kernel_rfl) (by kernel_rfl) (by kernel_rfl) (fun w338 K339 _ _ => ?_)
     replace K69 := K69.tn K339
     replace H70 := H70.kn K339
     replace H71 := H71.kn K339
     replace Htb := Htb.kn K339
     replace hSO := own_keep0 hSO K339
     replace hI := Imm.keep hI K339 (fun _ _ h => h)
     replace hD := DullW.keep hD K339 (fun _ _ h => h)
     replace hO329 := own_keep0 hO329 K339
     have Kb340 : Keeps (fun i => i = mb36 ∨ Ow (.slice y80.A y80.bs.length y80.c) i) w338 w338 := (Keeps.refl w338).mono (fun _ _ h => h.elim)
     have hD0 := hD
     have hNd := H71.nodup
     have hyl := hD.len _ (getM_mem hg79)
     simp only at hyl
     obtain ⟨f2, hf2, hrun2⟩ := run_go hrun1 hl0 hnd
     refine ⟨fun wz => Keeps (fun i => i = mb36 ∨ Ow (.slice y80.A y80.bs.length y80.c) i) w338 wz, [(11, fun wz => HasMap wz mb36 ku64 DRow.v md)], (SH.cons (SH.nil Kb340) (.inr H71)), ?_⟩
     refine skQ 10 [0, 1] [(5, ptr b5), (10, ptr b1), (11, .map (some mb36)), (12, ptr tb), (13, .bool true), (87, .map (some mb36)), (88, .pointer (some ⟨tb, 1, none⟩))] ?_
     refine stQ 2 (Value.int IntKind.u64 ((t.done : Nat) : Int)) 89 (fun wz hS => rld 71 tb 1 (Htb.keep hS (by intro h; change tb = mb36 ∨ Ow (.slice y80.A y80.bs.length y80.c) tb at h; rcases h with h | h; (omega); (have := ob333 tb h; omega)))) rfl ?_
     refine skQ 7 [3, 4] [(5, ptr b5), (10, ptr b1), (11, .map (some mb36)), (12, ptr tb), (13, .bool true), (87, .map (some mb36)), (89, (Value.int IntKind.u64 ((t.done : Nat) : Int))), (90, .map (some mb36)), (91, .pointer (some ⟨tb, 1, none⟩))] ?_
     refine stQ 5 (Value.int IntKind.u64 ((t.done : Nat) : Int)) 92 (fun wz hS => rld 71 tb 1 (Htb.keep hS (by intro h; change tb = mb36 ∨ Ow (.slice y80.A y80.bs.length y80.c) tb at h; rcases h with h | h; (omega); (have := ob333 tb h; omega)))) rfl ?_
     refine DrS.takeH (s := 11) (.head _) (i := 6) (v := (Value.slice y80.A y80.bs.length y80.c)) (by kernel_rfl) (by kernel_rfl) (by kernel_rfl) (fun wz hB hp => Runs.lookup_some (ok := false) (vf := DRow.v) (a := y80) KTU Tryd.underlying79 hp hg79 (by kernel_rfl)) (d := (some 93)) (by kernel_rfl) rfl ?_
     refine skQ 4 [7] [(5, ptr b5), (10, ptr b1), (11, .map (some mb36)), (12, ptr tb), (13, .bool true), (87, .map (some mb36)), (89, (Value.int IntKind.u64 ((t.done : Nat) : Int))), (93, .slice y80.A y80.bs.length y80.c), (94, .pointer (some ⟨tb, 3, none⟩))] ?_
     refine stQ 8 (ptr t.b) 95 (fun wz hS => rld 69 tb 3 (Htb.keep hS (by intro h; change tb = mb36 ∨ Ow (.slice y80.A y80.bs.length y80.c) tb at h; rcases h with h | h; (omega); (have := ob333 tb h; omega)))) rfl ?_
     refine soQ 9 ?_
     refine Dr1.new (o := rowL [(ptr t.b)] 69) (V := fun b => (Value.slice (some ⟨b, 0, none⟩) 1 1)) (by kernel_rfl) (d := (some 96)) (by kernel_rfl) (fun b => rfl) (fun b341 w342 hb343 H344 K345 hs346 => ?_)
     have lb341b1 : b1 < b341 := by have := H70.lt; omega
     have lb341mb36 : mb36 < b341 := by have := H71.lt; omega
     have lb341tb : tb < b341 := by have := Htb.lt; omega
     have nb341 : w.heap.size ≤ b341 := by have := K69.size; omega
     have ob350 : ∀ i, Ow (.slice y80.A y80.bs.length y80.c) i → i < b341 := fun i hi => by have := (World.ownsRow.lt hO329 i hi).2; omega
     have xb341 : w338.heap.size ≤ b341 := by have := Kb340.size; omega
     replace K69 := K69.tn K345
     replace H70 := H70.kn K345
     replace H71 := H71.kn K345
     replace Htb := Htb.kn K345
     replace hSO := own_keep0 hSO K345
     replace hI := Imm.keep hI K345 (fun _ _ h => h)
     replace hO329 := own_keep0 hO329 K345
     have Kb351 := Kb340.tn K345
     refine ⟨(SH.cons (SH.nil Kb351) (.inr H71)), ?_⟩
     clear K345 hs346
     refine soQ 10 ?_
     obtain ⟨v352, w353, hr354, hO355, hK356, hg357⟩ := OwnT.app (ty := 83) StC.led1 StC.led1c tyLp hO329 (show RdT _ 1 StC.led _ [t] from Rd.lit H344 (n := 1) rfl (by decide)) (by simp only [List.length_cons, List.length_nil]; omega) (by simp only [List.length_cons, List.length_nil]; omega) (K69.size)
     obtain ⟨A359, c360, rfl⟩ := RdT.form StC.led1 (by decide) (OwnT.rd hO355)
     have ob361 : ∀ i, Ow (.slice A359 ((y80.bs ++ [t]).length) c360) i → i ≠ b1 := fun i hi => by rcases hg357 i hi with h | h; (have := ob331 i h; omega); (have := H70.lt; omega)
     have ob362 : ∀ i, Ow (.slice A359 ((y80.bs ++ [t]).length) c360) i → i ≠ mb36 := fun i hi => by rcases hg357 i hi with h | h; (have := ob332 i h; omega); (have := H71.lt; omega)
     have oo365 : ∀ i, Ow (.slice SA stk.length sc) i → Ow (.slice A359 ((y80.bs ++ [t]).length) c360) i → False := fun i hi hs => by rcases hg357 i hs with h | h; (exact oo335 i hi h); (have := (World.ownsRow.lt hSO i hi).2; omega)
     have oo366 : ∀ i, Ow (.slice A359 ((y80.bs ++ [t]).length) c360) i → Ow (.slice SA stk.length sc) i → False := fun i hi hs => oo365 i hs hi
     have oo367 : ∀ i, Ow (.slice A359 ((y80.bs ++ [t]).length) c360) i → F i → False := fun i hs hi => by rcases hg357 i hs with h | h; (exact oo336 i h hi); (have := Imm.lt hI i hi; omega)
     have K358 := hK356
     have hzb := Kb351.size
     replace K69 := K69.trans K358 (U := none_) (fun i h1 h2 => h2) (fun i h1 h2 => by have h2 : Ow (.slice y80.A y80.bs.length y80.c) i := h2; exfalso; have := lw337 i h2; omega)
     replace H70 := H70.keep K358 (by intro h; change Ow (.slice y80.A y80.bs.length y80.c) b1 at h; have := ob331 b1 h; omega)
     replace H71 := H71.keep K358 (by intro h; change Ow (.slice y80.A y80.bs.length y80.c) mb36 at h; have := ob332 mb36 h; omega)
     replace Htb := Htb.keep K358 (by intro h; change Ow (.slice y80.A y80.bs.length y80.c) tb at h; have := ob333 tb h; omega)
     replace H344 := H344.keep K358 (by intro h; change Ow (.slice y80.A y80.bs.length y80.c) b341 at h; have := ob350 b341 h; omega)
     replace hSO := own_keep hSO K358 (fun i hi hs => by have hs : Ow (.slice y80.A y80.bs.length y80.c) i := hs; exact oo335 i hi hs)
     replace hI := Imm.keep hI K358 (fun i hi hs => by have hs : Ow (.slice y80.A y80.bs.length y80.c) i := hs; exact oo336 i hs hi)
     clear hD
     have Kb368 := Kb351.trans K358 (U := (fun i => i = mb36 ∨ Ow (.slice y80.A y80.bs.length y80.c) i)) (fun _ _ h => h) (fun i h1 h2 => by have h2 : Ow (.slice y80.A y80.bs.length y80.c) i := h2; exact .inr (h2))
     refine Dr1.go (v := (Value.slice A359 ((y80.bs ++ [t]).length) c360)) (by kernel_rfl) (Runs.append (ts := #[83, 83]) (ty := 83) (vs := [(Value.slice y80.A y80.bs.length y80.c), (Value.slice (some ⟨b341, 0, none⟩) 1 1)]) (by kernel_rfl) hr354) (d := (some 97)) (by kernel_rfl) rfl (SH.cons (SH.nil Kb368) (.inr H71)) ?_
     clear K358 hr354 hK356
     refine soQ 11 ?_
     obtain ⟨w369, hr370, K371, H372⟩ := HasMap.update KTU Tryd.underlying79 H71 t.done (⟨A359, c360, y80.bs ++ [t]⟩ : DRow)
     have Kb373 := Kb368.t1 K371 fun _ => .inl rfl
     refine Dr1.goU (by kernel_rfl) (RunsU.of_update (by kernel_rfl) hr370) (d := none) (by kernel_rfl) rfl (SH.cons (SH.nil Kb373) (.inl (by kernel_rfl))) ?_
     replace K69 := K69.t1 K371 fun _ => by omega
     replace H70 := H70.k1 K371 (by omega)
     replace Htb := Htb.k1 K371 (by omega)
     replace H344 := H344.k1 K371 (by omega)
     replace hSO := own_keep hSO K371 (fun i hi => by have := hSb2 i hi; omega)
     replace hI := Imm.keep hI K371 (fun i hi hs => by have hs : i = mb36 := hs; have := hFb2 i hi; omega)
     replace hO355 := own_keep hO355 K371 (fun i hi => by have := ob362 i hi; omega)
     clear K371 hr370
     refine DrS.keep (R := [(5, ptr b5), (10, ptr b1), (11, .map (some mb36)), (12, ptr tb), (13, .bool true)]) (by kernel_rfl) ?_
     refine DrS.done (by kernel_rfl) ?_
     obtain ⟨Gn, hGn⟩ : ∃ Z : Nat → Prop, Z = fun i => Gd i ∨ Ow (.slice A359 ((y80.bs ++ [t]).length) c360) i := ⟨_, rfl⟩
     have hD2 : DullW w369 w.heap.size 69 (putM md t.done (⟨A359, c360, y80.bs ++ [t]⟩ : DRow)) (t :: Dl) Gn := by rw [hGn]; exact DullW.put hD0 hNd hg79 Kb373 (fun i hs hgd => by have hs : i = mb36 ∨ Ow (.slice y80.A y80.bs.length y80.c) i := hs; rcases hs with hs | hs; exact absurd hs (hGb2 i hgd); exact hs) hO355 (fun i hi => (hg357 i hi).imp id (fun h => Nat.le_trans hzb h))
     have hGn_b1 : ∀ i, Gn i → i ≠ b1 := fun i hi => by rw [hGn] at hi; rcases hi with q | q; (have := hGb1 i q; omega); (have := ob361 i q; omega)
     have hGn_mb36 : ∀ i, Gn i → i ≠ mb36 := fun i hi => by rw [hGn] at hi; rcases hi with q | q; (have := hGb2 i q; omega); (have := ob362 i q; omega)
     have hSGn : ∀ i, Ow (.slice SA stk.length sc) i → Gn i → False := fun i hv hi => by rw [hGn] at hi; rcases hi with q | q; exact hSb4 i hv q; exact oo366 i q hv
     have hGnF : ∀ i, Gn i → F i → False := fun i hi hf => by rw [hGn] at hi; rcases hi with q | q; exact hGb3 i q hf; exact oo367 i q hf
     refine rsg Open.wide ?_
     refine onew (rowL [(Value.slice none 0 0)] 75) (fun b => (ptr b)) 14 (fun b => rfl) (fun b374 w375 hb376 H377 K378 hs379 => ?_)
     have lb374b1 : b1 < b374 := by have := H70.lt; omega
     have lb374mb36 : mb36 < b374 := by have := H372.lt; omega
     have lb374tb : tb < b374 := by have := Htb.lt; omega
     have lb374b341 : b341 < b374 := by have := H344.lt; omega
     have nb374 : w.heap.size ≤ b374 := by have := K69.size; omega
     have ob380 : ∀ i, Ow (.slice SA stk.length sc) i → i < b374 := fun i hi => by have := (World.ownsRow.lt hSO i hi).2; omega
     have of381 : ∀ i, F i → i ≠ b374 := fun i hi => by have := Imm.lt hI i hi; omega
     have of382 : ∀ i, Gn i → i ≠ b374 := fun i hi => by have := hD2.lt i hi; omega
     replace K69 := K69.tn K378
     replace H70 := H70.kn K378
     replace H372 := H372.kn K378
     replace Htb := Htb.kn K378
     replace H344 := H344.kn K378
     replace hSO := own_keep0 hSO K378
     replace hI := Imm.keep hI K378 (fun _ _ h => h)
     replace hD2 := DullW.keep hD2 K378 (fun _ _ h => h)
     clear K378 hs379
     refine od ?_
     refine rsQ ?_
     refine rsQ ?_
     have H5 := hI.h5
     skip
     refine rgQ Open.wide ?_
     refine ogo (agg [(Value.slice LA l.length lc), (Value.slice AA a.length ac)]) 98 (rld 68 b5 0 H5) rfl ?_
     refine ogo (agg [(Value.slice t.A t.order.length t.k), (Value.int IntKind.u64 ((t.done : Nat) : Int)), (i64 t.left), (ptr t.b)]) 99 (rld 73 tb 0 Htb) rfl ?_
     refine ocQ 100 (next_calls _ (Value.slice LA l.length lc) (Value.slice AA a.length ac) (Value.slice t.A t.order.length t.k) (Value.int IntKind.u64 ((t.done : Nat) : Int)) (i64 t.left) (ptr t.b)) ?_
     rintro _ w385 ⟨b383, b384, rfl, K386, H387, H388, hb389, hb390, hb391⟩
     have lb383b1 : b1 < b383 := by have := H70.lt; omega
     have lb384b1 : b1 < b384 := by have := H70.lt; omega
     have lb383mb36 : mb36 < b383 := by have := H372.lt; omega
     have lb384mb36 : mb36 < b384 := by have := H372.lt; omega
     have lb383tb : tb < b383 := by have := Htb.lt; omega
     have lb384tb : tb < b384 := by have := Htb.lt; omega
     have lb383b341 : b341 < b383 := by have := H344.lt; omega
     have lb384b341 : b341 < b384 := by have := H344.lt; omega
     have lb383b374 : b374 < b383 := by have := H377.lt; omega
     have lb384b374 : b374 < b384 := by have := H377.lt; omega
     have lb383b5 : b5 < b383 := by have := H5.lt; omega
     have lb384b5 : b5 < b384 := by have := H5.lt; omega
     have nb383 : w.heap.size ≤ b383 := by have := K69.size; omega
     have of392 : ∀ i, Ow (.slice SA stk.length sc) i → i ≠ b383 := fun i hi => by have := (World.ownsRow.lt hSO i hi).2; omega
     have of393 : ∀ i, F i → i ≠ b383 := fun i hi => by have := Imm.lt hI i hi; omega
     have nb384 : w.heap.size ≤ b384 := by have := K69.size; omega
     have of395 : ∀ i, Ow (.slice SA stk.length sc) i → i ≠ b384 := fun i hi => by have := (World.ownsRow.lt hSO i hi).2; omega
     have of396 : ∀ i, F i → i ≠ b384 := fun i hi => by have := Imm.lt hI i hi; omega
     refine ⟨_, _, rfl, rfl, ?_⟩
     replace K69 := K69.tn K386
     replace H70 := H70.kn K386
     replace H372 := H372.kn K386
     replace Htb := Htb.kn K386
     replace H377 := H377.kn K386
     replace hSO := own_keep0 hSO K386
     replace hI := Imm.keep hI K386 (fun _ _ h => h)
     replace hD2 := DullW.keep hD2 K386 (fun _ _ h => h)
     refine od ?_
     refine qr_block (id := 5) (by kernel_rfl) ?_
     have zb1 := H70.lt
     have zmb36 := H372.lt
     have ztb := Htb.lt
     have zb374 := H377.lt
     have zb383 := H387.lt
     have zb384 := H388.lt
     have hFl : ∀ i, F i → i < w385.heap.size := fun i hi => Imm.lt hI i hi
     have hGl : ∀ i, Gn i → i < w385.heap.size := fun i hi => hD2.lt i hi
     have hSl : ∀ i, Ow (.slice SA stk.length sc) i → i < w385.heap.size := fun i hi => (World.ownsRow.lt hSO i hi).2
     obtain ⟨G, hG, hGF⟩ := hI.rows
     have hFq : ∀ i, F i → i < w385.heap.size ∧ i ≠ b383 ∧ i ≠ b384 ∧ ¬ (i = b374 ∨ w385.heap.size ≤ i) := fun i hi => by have q1 := hFl i hi; have q2 := of393 i hi; have q3 := of396 i hi; have q4 := of381 i hi; omega
     have hwW : w.heap.size ≤ w385.heap.size := K69.size
     refine qr_keep (R := [(5, ptr b5), (10, ptr b1), (11, .map (some mb36)), (12, ptr tb), (13, .bool true), (14, ptr b374), (100, .func (Fn.func 47) ⟨[]⟩ ⟨[(ptr b383), (ptr b384)]⟩)]) (by kernel_rfl) ?_
     refine qr_eachW (g := .tmp 100) (t := 101) (m := 11) (T := fun i => i = b374 ∨ w385.heap.size ≤ i) (w0 := w385) (by kernel_rfl) (by decide) (gf := 47) (lb := [ptr b383, ptr b384]) rfl (enters Tryd.func47 (by kernel_rfl) (by kernel_rfl))
      (next_tells w385 9 b383 b384 LA lc l AA ac a t F _ G H387 H388 (hI.pool.at_ t (List.mem_cons_self ..)) hI.rl hI.ra hal hG ho (fun i hi => hFq i (by rcases hi with h | h | h | h; exact hI.fl i h; exact hI.fa i h; exact h; exact hGF i h)) ⟨(by omega), (by omega)⟩ hb391 h8 hsot)
      (fun i h => .inr h) ((Keeps.refl _).mono (fun _ _ h => h.elim)) (fun k V => MoreI w385 110 75 73 b374 ((probH (XS l a)).nexts t.m) k V) (fun k V V2 h K => h.keep K) (fun b k v V V2 hb ⟨y, e, hn, hy⟩ K => ⟨y, e, hn, (hy.keep K (fun i hi hs => by have hs : i = w385.heap.size ∨ i = w385.heap.size + 1 := hs; have := hi.1; omega)).mono (fun i hi => ⟨hi.1, Nat.lt_of_lt_of_le hi.2 K.size⟩)⟩) (MoreI.zero H377)
      (fun v => (101, v) :: [(5, (ptr b5)), (10, (ptr b1)), (11, (Value.map (some mb36))), (12, (ptr tb)), (13, (Value.bool true)), (14, (ptr b374)), (100, (Value.func (Fn.func 47) ⟨[]⟩ ⟨[(ptr b383), (ptr b384)]⟩))]) (fun v => rfl)
      (fun b v L1 V => ∃ b15, L1 = [(14, ptr b374), (15, ptr b15)] ∧ b ≤ b15 ∧ ∃ y : StC, v = agg y.cells ∧ Has V b15 (rowL y.cells 73)) (fun b v L1 V V2 hb ⟨b15, e, hb2, y, hy, H15⟩ K => ⟨b15, e, hb2, y, hy, H15.keep K (by intro h; have h : b15 = w385.heap.size ∨ b15 = w385.heap.size + 1 := h; omega)⟩) ?_ ?_ ?_
     ·rintro ln bb kk v V hkN ⟨y, rfl, hyn, hyA⟩ hb1 hb2
      refine rgQ (Open.round ln) ?_
      refine Ops.new (o := rowL [(Value.slice none 0 0), (Value.int IntKind.u64 0), (i64 0), (Value.pointer none)] 73) (V := fun b => ptr b) (by kernel_rfl) (d := some 15) (by kernel_rfl) (fun b => rfl) (fun b w3 hb H3 k3 hs3 => ?_)
      refine Ops.put (t := 73) (b := b) (off := 0) (v := agg [(Value.slice y.A y.order.length y.k), (Value.int IntKind.u64 ((y.done : Nat) : Int)), (i64 y.left), (ptr y.b)]) (ys := [(Value.slice y.A y.order.length y.k), (Value.int IntKind.u64 ((y.done : Nat) : Int)), (i64 y.left), (ptr y.b)]) (by kernel_rfl) (by kernel_rfl) H3 (by kernel_rfl) (d := none) (by kernel_rfl) rfl (fun w4 H4 k4 => ?_)
      refine ok_ [(14, ptr b374), (15, ptr b)] ?_
      refine od ?_
      exact ⟨rfl, rfl, k3.trans k4 (fun _ _ h => h) (fun i hi h => by have h : i = b := h; omega), b, rfl, by omega, y, rfl, H4⟩
     ·rintro ln kk v L1 Vp V hM hkp hbp hkN ⟨x, rfl, hxn, hxA⟩ ⟨b15, rfl, hb15, y, hy, H15⟩
      have e15 : x.cells = y.cells := by have h := hy; simp only [Value.agg.injEq, Array.mk.injEq] at h; exact h
      rw [← e15] at H15
      obtain ⟨lm, A, c, FP, h1, h2, h3, h4, h5, h6, h7, h8q⟩ := hM
      have hlo : ∀ i, (Value.slice A lm.length c).ownBlock = some i → w385.heap.size + 2 ≤ i ∧ i < Vp.heap.size := fun i hi => World.ownsRow.lt h2 i hi
      have q1 := h1.keep hkp (by intro h; have h : b374 = w385.heap.size ∨ b374 = w385.heap.size + 1 := h; omega)
      have q2 := own_keep h2 hkp (fun i hi h => by have h : i = w385.heap.size ∨ i = w385.heap.size + 1 := h; have := hlo i hi; omega)
      have q4 := h4.keep hkp (fun i hi h => by have h : i = w385.heap.size ∨ i = w385.heap.size + 1 := h; have := h5 i hi; omega)
      have q7 := h7.trans hkp (U := fun i => i = b374) (fun _ _ h => h) (fun i hi h => by have h : i = w385.heap.size ∨ i = w385.heap.size + 1 := h; exfalso; omega)
      have hll : lm.length ≤ 8 := by have h := congrArg List.length h3; rw [List.length_map, List.length_take] at h; have h9 := Prob.nexts_len (P := (probH (XS l a))) t.m; have h10 : ((probH (XS l a))).n = l.length := xs_len hal; omega
      have hkz := hkp.size
      refine qr_mono (Order_body V ln b374 b15 (w385.heap.size + 2) A c lm x q1 H15 q2 (fun i hi => by have := hlo i hi; omega) (fun i hi => by have := hlo i hi; omega) (by omega) (by omega) (by omega)) ?_
      rintro ds e L W2 ⟨rfl, A2, c2, k2, H2, hO2, hg2⟩
      exact ⟨rfl, keepsFrom_of k2 (fun i hi hB => by have hi : i = b374 ∨ (Value.slice A lm.length c).ownBlock = some i := hi; rcases hi with hi | hi; (exfalso; omega); (exact own_is_cells q2 hi)), k2.mono (fun i _ h => by have h : i = b374 ∨ (Value.slice A lm.length c).ownBlock = some i := h; rcases h with h | h; exact .inl h; exact .inr (by have := hlo i h; omega)), MoreI.add q2 h3 q4 h5 h6 q7 h8q hxA (fun i hi => ⟨by have := hi.1; omega, hi.2⟩) (fun i hi hf => by have := hlo i hi; have := hf.1; omega) hxn k2 H2 hO2 hg2⟩
     ·rintro D V hDw hM hDD
      obtain ⟨lm398, A399, c400, FP401, H402, hO403, hlm, hFP, hFPl, hFPo, k404, _⟩ := hM
      rw [List.take_of_length_le (Nat.le_refl _)] at hlm
      have hlml : lm398.length ≤ 8 := by have h := congrArg List.length hlm; rw [List.length_map] at h; have h9 := Prob.nexts_len (P := (probH (XS l a))) t.m; have h10 : ((probH (XS l a))).n = l.length := xs_len hal; omega
      replace K69 := K69.t1 k404 fun _ => by omega
      replace H70 := H70.keep k404 (by intro h; change b1 = b374 at h; omega)
      replace H372 := H372.keep k404 (by intro h; change mb36 = b374 at h; omega)
      replace Htb := Htb.keep k404 (by intro h; change tb = b374 at h; omega)
      replace H387 := H387.keep k404 (by intro h; change b383 = b374 at h; omega)
      replace H388 := H388.keep k404 (by intro h; change b384 = b374 at h; omega)
      replace hSO := own_keep hSO k404 (fun i hi hs => by have hs : i = b374 := hs; have := ob380 i hi; omega)
      replace hI := Imm.keep hI k404 (fun i hi hs => by have hs : i = b374 := hs; have := of381 i hi; omega)
      replace hD2 := DullW.keep hD2 k404 (fun i hi hs => by have hs : i = b374 := hs; have := of382 i hi; omega)
      have hlo : ∀ i, Ow (.slice A399 lm398.length c400) i → w385.heap.size + 2 ≤ i ∧ i < V.heap.size := fun i hi => World.ownsRow.lt hO403 i hi
      have hO406 := own_base (base' := w.heap.size) hO403 (by omega)
      have hmlow : ∀ i, Ow (.slice A399 lm398.length c400) i → w.heap.size ≤ i := fun i hi => by have := hlo i hi; omega
      have ob407 : ∀ i, Ow (.slice A399 lm398.length c400) i → i ≠ b1 := fun i hi => by have := hlo i hi; omega
      have ob408 : ∀ i, Ow (.slice A399 lm398.length c400) i → i ≠ mb36 := fun i hi => by have := hlo i hi; omega
      have ob409 : ∀ i, Ow (.slice A399 lm398.length c400) i → i ≠ tb := fun i hi => by have := hlo i hi; omega
      have ob410 : ∀ i, Ow (.slice A399 lm398.length c400) i → i ≠ b374 := fun i hi => by have := hlo i hi; omega
      have ob411 : ∀ i, Ow (.slice A399 lm398.length c400) i → i ≠ b383 := fun i hi => by have := hlo i hi; omega
      have ob412 : ∀ i, Ow (.slice A399 lm398.length c400) i → i ≠ b384 := fun i hi => by have := hlo i hi; omega
      have oo413 : ∀ i, Ow (.slice A399 lm398.length c400) i → F i → False := fun i hv hi => by have := hlo i hv; have := hFl i hi; omega
      have oo414 : ∀ i, Ow (.slice A399 lm398.length c400) i → Gn i → False := fun i hv hi => by have := hlo i hv; have := hGl i hi; omega
      have oo415 : ∀ i, Ow (.slice A399 lm398.length c400) i → Ow (.slice SA stk.length sc) i → False := fun i hv hi => by have := hlo i hv; have := hSl i hi; omega
      have oo416 : ∀ i, Ow (.slice SA stk.length sc) i → Ow (.slice A399 lm398.length c400) i → False := fun i hi hv => oo415 i hv hi
      have hDlt : D < V.heap.size := (Array.getElem?_eq_some_iff.1 hDD).1
      obtain ⟨F417, hF418⟩ : ∃ Z : Nat → Prop, Z = fun i => F i ∨ FP401 i ∨ i = D := ⟨_, rfl⟩
      have hF418_b1 : ∀ i, F417 i → i ≠ b1 := fun i hi => by rw [hF418] at hi; rcases hi with q | q | q; (have := hFb1 i q; omega); (have := hFPl i q; omega); (omega)
      have hF418_mb36 : ∀ i, F417 i → i ≠ mb36 := fun i hi => by rw [hF418] at hi; rcases hi with q | q | q; (have := hFb2 i q; omega); (have := hFPl i q; omega); (omega)
      have oo420 : ∀ i, Ow (.slice SA stk.length sc) i → F417 i → False := fun i hv hi => by rw [hF418] at hi; rcases hi with q | q | q; (exact hSb3 i hv q); (have := hFPl i q; have := hSl i hv; omega); (have hq : i = D := q; subst hq; obtain ⟨o, h1, h2⟩ := own_is_cells hSO hv; rw [hDD] at h1; cases h1; cases h2)
      have oo421 : ∀ i, Ow (.slice A399 lm398.length c400) i → F417 i → False := fun i hv hi => by rw [hF418] at hi; rcases hi with q | q | q; (exact oo413 i hv q); (exact hFPo i hv q); (have hq : i = D := q; subst hq; obtain ⟨o, h1, h2⟩ := own_is_cells hO406 hv; rw [hDD] at h1; cases h1; cases h2)
      have gg422 : ∀ i, Gn i → F417 i → False := fun i hg hi => by rw [hF418] at hi; rcases hi with q | q | q; (exact hGnF i hg q); (have := hFPl i q; have := hGl i hg; omega); (have := hGl i hg; omega)
      have hI419 : Imm V 110 68 73 F417 b5 LA lc l AA ac a ok t tb ((t :: (stk ++ Dl)) ++ lm398) (D :: Ds) := Imm.next hI (fun i hi => by rw [hF418]; exact .inl hi) (fun i hi => by rw [hF418] at hi; rcases hi with q | q | q; (exact Imm.lt hI i q); (exact hFP.lt i q); (omega)) (fun x hx => by rw [hF418]; rcases List.mem_append.1 hx with hx | hx; exact ((Imm.pool hI).at_ x hx).mono (fun i hi => .inl hi); exact (hFP.at_ x hx).mono (fun i hi => .inr (.inl hi))) hI.tcell (by rw [hF418]; exact .inl hI.ft) (hI.defs.cons hDD (fun h => by have := hFl D (hI.fd D h); omega)) (fun E hE => by rw [hF418]; rcases List.mem_cons.1 hE with rfl | hE; exact .inr (.inr rfl); exact .inl (hI.fd E hE))
      have hso2 : ∀ x ∈ (t :: (stk ++ Dl)) ++ lm398, SrOk (XS l a) x.m := fun x hx => by rcases List.mem_append.1 hx with hx | hx; exact hso x hx; exact SrOk.nexts hXa (by rw [← hlm]; exact List.mem_map.2 ⟨x, hx, rfl⟩) hsot
      have hDs2 : ∀ E ∈ D :: Ds, w.heap.size ≤ E := fun E hE => by rcases List.mem_cons.1 hE with rfl | hE; omega; exact hDs E hE
      refine rsg Open.wide ?_
      refine ogo (Value.slice A399 lm398.length c400) 106 (rld 75 b374 0 H402) rfl ?_
      refine ocQ 107 (Rev_calls _ w.heap.size A399 c400 lm398 hO406) ?_
      rintro _ w423 ⟨rfl, K424, hO425⟩
      obtain ⟨lr426, hlr427⟩ : ∃ z, z = lm398.reverse := ⟨_, rfl⟩
      rw [← hlr427] at hO425
      have hll428 : lr426.length = lm398.length := by rw [hlr427, List.length_reverse]
      refine ⟨_, _, rfl, rfl, ?_⟩
      replace K69 := K69.trans K424 (U := none_) (fun i h1 h2 => h2) (fun i h1 h2 => by have h2 : Ow (.slice A399 lm398.length c400) i := h2; exfalso; have := hmlow i h2; omega)
      replace H70 := H70.keep K424 (by intro h; change Ow (.slice A399 lm398.length c400) b1 at h; have := ob407 b1 h; omega)
      replace H372 := H372.keep K424 (by intro h; change Ow (.slice A399 lm398.length c400) mb36 at h; have := ob408 mb36 h; omega)
      replace Htb := Htb.keep K424 (by intro h; change Ow (.slice A399 lm398.length c400) tb at h; have := ob409 tb h; omega)
      replace H402 := H402.keep K424 (by intro h; change Ow (.slice A399 lm398.length c400) b374 at h; have := ob410 b374 h; omega)
      replace H387 := H387.keep K424 (by intro h; change Ow (.slice A399 lm398.length c400) b383 at h; have := ob411 b383 h; omega)
      replace H388 := H388.keep K424 (by intro h; change Ow (.slice A399 lm398.length c400) b384 at h; have := ob412 b384 h; omega)
      replace hSO := own_keep hSO K424 (fun i hi hs => by have hs : Ow (.slice A399 lm398.length c400) i := hs; exact oo416 i hi hs)
      replace hD2 := DullW.keep hD2 K424 (fun i hi hs => by have hs : Ow (.slice A399 lm398.length c400) i := hs; exact oo414 i hs hi)
      replace hI419 := Imm.keep hI419 K424 (fun i hi hs => by have hs : Ow (.slice A399 lm398.length c400) i := hs; exact oo421 i hs hi)
      refine od ?_
      refine rgQ Open.wide ?_
      refine ogo (Value.slice A399 lm398.length c400) 108 (rld 75 b374 0 H402) rfl ?_
      refine ocQ 109 (push_calls _ b1 w.heap.size SA sc stk A399 lm398.length c400 lr426 H70 hSO K69.size hSb1 (OwnT.rd hO425) (by omega)) ?_
      rintro _ w432 ⟨_, A430, c431, rfl, K433, H434, hO435, hg436⟩
      obtain ⟨Z438, hZ439⟩ : ∃ z, z = stk ++ lr426 := ⟨_, rfl⟩
      rw [← hZ439] at H434 hO435 hg436
      have ob441 : ∀ i, Ow (.slice A430 Z438.length c431) i → i ≠ b1 := fun i hi => by rcases hg436 i hi with h | h; (have := hSb1 i h; omega); (have := H70.lt; omega)
      have ob442 : ∀ i, Ow (.slice A430 Z438.length c431) i → i ≠ mb36 := fun i hi => by rcases hg436 i hi with h | h; (have := hSb2 i h; omega); (have := H372.lt; omega)
      have oo447 : ∀ i, Ow (.slice A430 Z438.length c431) i → Gn i → False := fun i hs hi => by rcases hg436 i hs with h | h; (exact hSGn i h hi); (have := hD2.lt i hi; omega)
      have oo448 : ∀ i, Ow (.slice A430 Z438.length c431) i → F417 i → False := fun i hs hi => by rcases hg436 i hs with h | h; (exact oo420 i h hi); (have := Imm.lt hI419 i hi; omega)
      refine ⟨_, _, rfl, rfl, ?_⟩
      replace K69 := K69.trans K433 (U := none_) (fun i h1 h2 => h2) (fun i h1 h2 => by have h2 : i = b1 ∨ Ow (.slice SA stk.length sc) i := h2; rcases h2 with h2 | h2; (exfalso; omega); (exfalso; have := hSlw i h2; omega))
      replace H372 := H372.keep K433 (by intro h; change mb36 = b1 ∨ Ow (.slice SA stk.length sc) mb36 at h; rcases h with h | h; (omega); (have := hSb2 mb36 h; omega))
      replace Htb := Htb.keep K433 (by intro h; change tb = b1 ∨ Ow (.slice SA stk.length sc) tb at h; rcases h with h | h; (omega); (have := hStb tb h; omega))
      replace H402 := H402.keep K433 (by intro h; change b374 = b1 ∨ Ow (.slice SA stk.length sc) b374 at h; rcases h with h | h; (omega); (have := ob380 b374 h; omega))
      replace H387 := H387.keep K433 (by intro h; change b383 = b1 ∨ Ow (.slice SA stk.length sc) b383 at h; rcases h with h | h; (omega); (have := of392 b383 h; omega))
      replace H388 := H388.keep K433 (by intro h; change b384 = b1 ∨ Ow (.slice SA stk.length sc) b384 at h; rcases h with h | h; (omega); (have := of395 b384 h; omega))
      clear hSO
      replace hD2 := DullW.keep hD2 K433 (fun i hi hs => by have hs : i = b1 ∨ Ow (.slice SA stk.length sc) i := hs; rcases hs with hs | hs; (have := hGn_b1 i hi; omega); (exact hSGn i hs hi))
      replace hI419 := Imm.keep hI419 K433 (fun i hi hs => by have hs : i = b1 ∨ Ow (.slice SA stk.length sc) i := hs; rcases hs with hs | hs; (have := hF418_b1 i hi; omega); (exact oo420 i hs hi))
      have hzq451 : Z438.length = stk.length + lr426.length := by rw [hZ439, List.length_append]
      refine od ?_
      refine rsQ ?_
      refine rsg Open.wide ?_
      refine ogo (agg [(Value.slice t.A t.order.length t.k), (Value.int IntKind.u64 ((t.done : Nat) : Int)), (i64 t.left), (ptr t.b)]) 110 (rld 73 tb 0 Htb) rfl ?_
      refine od ?_
      refine rgQ Open.wide ?_
      refine onew (rowL [(Value.slice none 0 0), (Value.int IntKind.u64 0), (i64 0), (Value.pointer none)] 73) (fun b => (ptr b)) 12 (fun b => rfl) (fun b453 w454 hb455 H456 K457 hs458 => ?_)
      have lb453b1 : b1 < b453 := by have := H434.lt; omega
      have lb453mb36 : mb36 < b453 := by have := H372.lt; omega
      have lb453tb : tb < b453 := by have := Htb.lt; omega
      have lb453b374 : b374 < b453 := by have := H402.lt; omega
      have lb453b383 : b383 < b453 := by have := H387.lt; omega
      have lb453b384 : b384 < b453 := by have := H388.lt; omega
      have nb453 : w.heap.size ≤ b453 := by have := K69.size; omega
      have of459 : ∀ i, Gn i → i ≠ b453 := fun i hi => by have := hD2.lt i hi; omega
      have of460 : ∀ i, F417 i → i ≠ b453 := fun i hi => by have := Imm.lt hI419 i hi; omega
      have ob462 : ∀ i, Ow (.slice A430 Z438.length c431) i → i < b453 := fun i hi => by have := (World.ownsRow.lt hO435 i hi).2; omega
      replace K69 := K69.tn K457
      replace H434 := H434.kn K457
      replace H372 := H372.kn K457
      replace hD2 := DullW.keep hD2 K457 (fun _ _ h => h)
      replace hI419 := Imm.keep hI419 K457 (fun _ _ h => h)
      replace hO435 := own_keep0 hO435 K457
      clear K457 hs458
      refine oput 73 b453 [(Value.slice t.A t.order.length t.k), (Value.int IntKind.u64 ((t.done : Nat) : Int)), (i64 t.left), (ptr t.b)] H456 rfl (fun w463 H464 K465 => ?_)
      replace K69 := K69.t1 K465 fun _ => by omega
      replace H434 := H434.k1 K465 (by omega)
      replace H372 := H372.k1 K465 (by omega)
      replace hD2 := DullW.keep hD2 K465 (fun i hi hs => by have hs : i = b453 := hs; have := of459 i hi; omega)
      replace hI419 := Imm.keep hI419 K465 (fun i hi hs => by have hs : i = b453 := hs; have := of460 i hi; omega)
      replace hO435 := own_keep hO435 K465 (fun i hi => by have := ob462 i hi; omega)
      refine od ?_
      refine rgQ Open.wide ?_
      rcases eq_nil_or_snoc Z438 with hz466 | ⟨zl467, zx468, hz466⟩
      ·skip
       have H471 : Has w463 b1 (rowL [(Value.slice A430 (([] : List StC).length) c431)] 77) := by have h := H434; rw [hz466] at h; exact h
       have hO472 : OwnT w463 w.heap.size 73 4 StC.cells ((Value.slice A430 (([] : List StC).length) c431)) [] := by have h := hO435; rw [hz466] at h; exact h
       have ob473 : ∀ i, Ow (.slice A430 (([] : List StC).length) c431) i → i ≠ b1 := fun i hi => by have := ob441 i (ownN.trans hi); omega
       have ob474 : ∀ i, Ow (.slice A430 (([] : List StC).length) c431) i → i ≠ mb36 := fun i hi => by have := ob442 i (ownN.trans hi); omega
       have ob479 : ∀ i, Ow (.slice A430 (([] : List StC).length) c431) i → i ≠ b453 := fun i hi => by have := ob462 i (ownN.trans hi); omega
       have oo480 : ∀ i, Ow (.slice A430 (([] : List StC).length) c431) i → _ := fun i hi => oo447 i (ownN.trans hi)
       have oo481 : ∀ i, Ow (.slice A430 (([] : List StC).length) c431) i → _ := fun i hi => oo448 i (ownN.trans hi)
       refine ocQ 71 (pop_nil _ b1 A430 c431 H471) ?_
       rintro _ w469 ⟨rfl, K470⟩
       refine ⟨_, _, rfl, rfl, ?_⟩
       replace K69 := K69.tn K470
       replace H471 := H471.kn K470
       replace H372 := H372.kn K470
       replace H464 := H464.kn K470
       replace hD2 := DullW.keep hD2 K470 (fun _ _ h => h)
       replace hI419 := Imm.keep hI419 K470 (fun _ _ h => h)
       replace hO472 := own_keep0 hO472 K470
       refine og 3 [(5, ptr b5), (10, ptr b1), (11, .map (some mb36)), (12, ptr b453), (13, .bool true), (72, (agg [(Value.slice none 0 0), (Value.int IntKind.u64 0), (i64 0), (Value.pointer none)])), (73, .bool false)] 4 ?_
       refine oput 73 b453 [(Value.slice none 0 0), (Value.int IntKind.u64 0), (i64 0), (Value.pointer none)] H464 rfl (fun w483 H484 K485 => ?_)
       replace K69 := K69.t1 K485 fun _ => by omega
       replace H471 := H471.k1 K485 (by omega)
       replace H372 := H372.k1 K485 (by omega)
       replace hD2 := DullW.keep hD2 K485 (fun i hi hs => by have hs : i = b453 := hs; have := of459 i hi; omega)
       replace hI419 := Imm.keep hI419 K485 (fun i hi hs => by have hs : i = b453 := hs; have := of460 i hi; omega)
       replace hO472 := own_keep hO472 K485 (fun i hi => by have := ob479 i hi; omega)
       refine og 1 [(5, ptr b5), (10, ptr b1), (11, .map (some mb36)), (12, ptr b453), (13, .bool false)] 6 ?_
       have hP9 : ∀ x, x ∈ (t :: ([] ++ (t :: Dl))) → x ∈ ((t :: (stk ++ Dl)) ++ lm398) := fun x hx => by rcases List.mem_cons.1 hx with hx | hx; (rw [hx]; exact List.mem_append_left _ (List.mem_cons_self ..)); (rcases List.mem_cons.1 hx with hx | hx; (rw [hx]; exact List.mem_append_left _ (List.mem_cons_self ..)); (exact List.mem_append_left _ (List.mem_cons_of_mem _ (List.mem_append_right _ hx))))
       obtain ⟨F486, hF487⟩ : ∃ Z : Nat → Prop, Z = fun i => F417 i ∨ i = b453 := ⟨_, rfl⟩
       have hF487_b1 : ∀ i, F486 i → i ≠ b1 := fun i hi => by rw [hF487] at hi; rcases hi with q | q; (have := hF418_b1 i q; omega); (omega)
       have hF487_mb36 : ∀ i, F486 i → i ≠ mb36 := fun i hi => by rw [hF487] at hi; rcases hi with q | q; (have := hF418_mb36 i q; omega); (omega)
       have oo490 : ∀ i, Ow (.slice A430 (([] : List StC).length) c431) i → F486 i → False := fun i hv hi => by rw [hF487] at hi; rcases hi with q | q; (exact oo481 i hv q); (have := ob479 i hv; omega)
       have gg491 : ∀ i, Gn i → F486 i → False := fun i hg hi => by rw [hF487] at hi; rcases hi with q | q; (exact gg422 i hg q); (have := of459 i hg; omega)
       have hI488 : Imm w483 110 68 73 F486 b5 LA lc l AA ac a false t b453 (t :: ([] ++ (t :: Dl))) (D :: Ds) := Imm.next hI419 (fun i hi => by rw [hF487]; exact .inl hi) (fun i hi => by rw [hF487] at hi; rcases hi with q | q; (exact Imm.lt hI419 i q); (have := H484.lt; omega)) (fun x hx => ((Imm.pool hI419).at_ x (hP9 x hx)).mono (fun i hi => by rw [hF487]; exact .inl hi)) (fun h => by cases h) (by rw [hF487]; exact .inr rfl) (Imm.defs hI419) (fun E hE => by rw [hF487]; exact .inl (Imm.fd hI419 E hE))
       have hzr : Z438.reverse.map StC.m = ((probH (XS l a)).nexts t.m) ++ stk.reverse.map StC.m := by rw [hZ439, hlr427, List.reverse_append, List.reverse_reverse, List.map_append, hlm]
       have hrun3 : (probH (XS l a)).run sameB f2 (Z438.reverse.map StC.m) ((t :: Dl).map StC.ds) = some R0 := by rw [hzr]; exact hrun2
       have hzlen := congrArg List.length hZ439
       rw [List.length_append] at hzlen
       have hrun4 : (probH (XS l a)).run sameB f2 (cond false (StC.m t :: ([] : List StC).reverse.map StC.m) []) ((t :: Dl).map StC.ds) = some R0 := by have h := hrun3; rw [hz466] at h; exact h
       refine ok_ [(5, ptr b5), (10, ptr b1), (11, .map (some mb36)), (12, ptr b453), (13, .bool false)] ?_
       refine od ?_
       exact ⟨(f2, false, t, b453, A430, c431, ([] : List StC), putM md t.done (⟨A359, c360, y80.bs ++ [t]⟩ : DRow), (t :: Dl), F486, Gn, (D :: Ds)), ⟨rfl, rfl, hrun4, (fun _ => rfl), (fun x hx => hso2 x (hP9 x hx)), hI488, hD2, hO472, (fun i hi => ⟨by have := ob473 i hi; omega, by have := ob474 i hi; omega, fun q => oo490 i hi q, fun q => oo480 i hi q⟩), (fun i hi => ⟨by have := hGn_b1 i hi; omega, by have := hGn_mb36 i hi; omega, fun q => gg491 i hi q⟩), (fun i hi => ⟨by have := hF487_b1 i hi; omega, by have := hF487_mb36 i hi; omega⟩), (by rw [hz466] at hzlen; show 0 ≤ _; omega), (by simp only [List.length_cons]; omega), hDs2, K69, H471, H372⟩, (show f2 < f from by omega)⟩
      ·skip
       have hn496 : Z438.length = zl467.length + 1 := by rw [hz466, List.length_append]; rfl
       have hO497 : OwnT w463 w.heap.size 73 4 StC.cells ((Value.slice A430 Z438.length c431)) (zl467 ++ [zx468]) := by rw [← hz466]; exact hO435
       refine ocQ 71 (pop_some _ b1 w.heap.size A430 c431 Z438.length zl467 zx468 H434 hO497 hn496 ob441 (by first | omega | (show 0 ≤ 1000000000; omega))) ?_
       rintro _ w492 ⟨rfl, K493, H494, hO495⟩
       refine ⟨_, _, rfl, rfl, ?_⟩
       replace K69 := K69.t1 K493 fun _ => by omega
       replace H372 := H372.k1 K493 (by omega)
       replace H464 := H464.k1 K493 (by omega)
       replace hD2 := DullW.keep hD2 K493 (fun i hi hs => by have hs : i = b1 := hs; have := hGn_b1 i hi; omega)
       replace hI419 := Imm.keep hI419 K493 (fun i hi hs => by have hs : i = b1 := hs; have := hF418_b1 i hi; omega)
       have ob499 : ∀ i, Ow (.slice A430 zl467.length c431) i → i ≠ b1 := fun i hi => by have := ob441 i (ownN.trans hi); omega
       have ob500 : ∀ i, Ow (.slice A430 zl467.length c431) i → i ≠ mb36 := fun i hi => by have := ob442 i (ownN.trans hi); omega
       have ob505 : ∀ i, Ow (.slice A430 zl467.length c431) i → i ≠ b453 := fun i hi => by have := ob462 i (ownN.trans hi); omega
       have oo506 : ∀ i, Ow (.slice A430 zl467.length c431) i → _ := fun i hi => oo447 i (ownN.trans hi)
       have oo507 : ∀ i, Ow (.slice A430 zl467.length c431) i → _ := fun i hi => oo448 i (ownN.trans hi)
       refine og 3 [(5, ptr b5), (10, ptr b1), (11, .map (some mb36)), (12, ptr b453), (13, .bool true), (72, (agg [(Value.slice zx468.A zx468.order.length zx468.k), (Value.int IntKind.u64 ((zx468.done : Nat) : Int)), (i64 zx468.left), (ptr zx468.b)])), (73, .bool true)] 4 ?_
       refine oput 73 b453 [(Value.slice zx468.A zx468.order.length zx468.k), (Value.int IntKind.u64 ((zx468.done : Nat) : Int)), (i64 zx468.left), (ptr zx468.b)] H464 rfl (fun w509 H510 K511 => ?_)
       replace K69 := K69.t1 K511 fun _ => by omega
       replace H494 := H494.k1 K511 (by omega)
       replace H372 := H372.k1 K511 (by omega)
       replace hD2 := DullW.keep hD2 K511 (fun i hi hs => by have hs : i = b453 := hs; have := of459 i hi; omega)
       replace hI419 := Imm.keep hI419 K511 (fun i hi hs => by have hs : i = b453 := hs; have := of460 i hi; omega)
       replace hO495 := own_keep hO495 K511 (fun i hi => by have := ob505 i hi; omega)
       refine og 1 [(5, ptr b5), (10, ptr b1), (11, .map (some mb36)), (12, ptr b453), (13, .bool true)] 6 ?_
       have hZm : ∀ x, x ∈ Z438 → x ∈ (t :: (stk ++ Dl)) ++ lm398 := fun x hx => by rw [hZ439] at hx; rcases List.mem_append.1 hx with hx | hx; exact List.mem_append_left _ (List.mem_cons_of_mem _ (List.mem_append_left _ hx)); exact List.mem_append_right _ (by rw [hlr427] at hx; exact List.mem_reverse.1 hx)
       have hP9 : ∀ x, x ∈ (zx468 :: (zl467 ++ (t :: Dl))) → x ∈ ((t :: (stk ++ Dl)) ++ lm398) := fun x hx => by rcases List.mem_cons.1 hx with hx | hx; (exact hZm x (by rw [hz466, hx]; exact List.mem_append_right _ (List.mem_singleton.2 rfl))); (rcases List.mem_append.1 hx with hx | hx; (exact hZm x (by rw [hz466]; exact List.mem_append_left _ hx)); (rcases List.mem_cons.1 hx with hx | hx; (rw [hx]; exact List.mem_append_left _ (List.mem_cons_self ..)); (exact List.mem_append_left _ (List.mem_cons_of_mem _ (List.mem_append_right _ hx)))))
       obtain ⟨F512, hF513⟩ : ∃ Z : Nat → Prop, Z = fun i => F417 i ∨ i = b453 := ⟨_, rfl⟩
       have hF513_b1 : ∀ i, F512 i → i ≠ b1 := fun i hi => by rw [hF513] at hi; rcases hi with q | q; (have := hF418_b1 i q; omega); (omega)
       have hF513_mb36 : ∀ i, F512 i → i ≠ mb36 := fun i hi => by rw [hF513] at hi; rcases hi with q | q; (have := hF418_mb36 i q; omega); (omega)
       have oo516 : ∀ i, Ow (.slice A430 zl467.length c431) i → F512 i → False := fun i hv hi => by rw [hF513] at hi; rcases hi with q | q; (exact oo507 i hv q); (have := ob505 i hv; omega)
       have gg517 : ∀ i, Gn i → F512 i → False := fun i hg hi => by rw [hF513] at hi; rcases hi with q | q; (exact gg422 i hg q); (have := of459 i hg; omega)
       have hI514 : Imm w509 110 68 73 F512 b5 LA lc l AA ac a true zx468 b453 (zx468 :: (zl467 ++ (t :: Dl))) (D :: Ds) := Imm.next hI419 (fun i hi => by rw [hF513]; exact .inl hi) (fun i hi => by rw [hF513] at hi; rcases hi with q | q; (exact Imm.lt hI419 i q); (have := H510.lt; omega)) (fun x hx => ((Imm.pool hI419).at_ x (hP9 x hx)).mono (fun i hi => by rw [hF513]; exact .inl hi)) (fun _ => H510) (by rw [hF513]; exact .inr rfl) (Imm.defs hI419) (fun E hE => by rw [hF513]; exact .inl (Imm.fd hI419 E hE))
       have hzr : Z438.reverse.map StC.m = ((probH (XS l a)).nexts t.m) ++ stk.reverse.map StC.m := by rw [hZ439, hlr427, List.reverse_append, List.reverse_reverse, List.map_append, hlm]
       have hrun3 : (probH (XS l a)).run sameB f2 (Z438.reverse.map StC.m) ((t :: Dl).map StC.ds) = some R0 := by rw [hzr]; exact hrun2
       have hzlen := congrArg List.length hZ439
       rw [List.length_append] at hzlen
       have hrun4 : (probH (XS l a)).run sameB f2 (cond true (StC.m zx468 :: zl467.reverse.map StC.m) []) ((t :: Dl).map StC.ds) = some R0 := by have h := hrun3; rw [hz466, rev_snoc] at h; exact h
       refine ok_ [(5, ptr b5), (10, ptr b1), (11, .map (some mb36)), (12, ptr b453), (13, .bool true)] ?_
       refine od ?_
       exact ⟨(f2, true, zx468, b453, A430, c431, zl467, putM md t.done (⟨A359, c360, y80.bs ++ [t]⟩ : DRow), (t :: Dl), F512, Gn, (D :: Ds)), ⟨rfl, rfl, hrun4, (fun h => by cases h), (fun x hx => hso2 x (hP9 x hx)), hI514, hD2, hO495, (fun i hi => ⟨by have := ob499 i hi; omega, by have := ob500 i hi; omega, fun q => oo516 i hi q, fun q => oo506 i hi q⟩), (fun i hi => ⟨by have := hGn_b1 i hi; omega, by have := hGn_mb36 i hi; omega, fun q => gg517 i hi q⟩), (fun i hi => ⟨by have := hF513_b1 i hi; omega, by have := hF513_mb36 i hi; omega⟩), (by rw [hz466] at hzlen; rw [List.length_append] at hzlen; have : ([zx468] : List StC).length = 1 := rfl; simp only [List.length_cons]; omega), (by simp only [List.length_cons]; omega), hDs2, K69, H494, H372⟩, (show f2 < f from by omega)⟩
 ·rw [h72]
  have p518 : ok = false := h72
  have hR0 : R0 = ([], false) := run_end (by rw [h72] at hrun; exact hrun)
  refine qr_exit (id := 3) (by kernel_rfl) ?_
  refine rsg Open.wide ?_
  refine ogd 3 [(2, .slice none 0 0), (3, .bool false), (4, i64 0)] ?_
  refine rtQ ?_
  refine retR_many0 (v := (Value.tuple #[(Value.slice none 0 0), (Value.bool false), (i64 0)])) (fun _ => retv_tmp3 rfl rfl rfl rfl) (Imm.defs hI) (fun w519 k520 => ?_)
  have kz := (K00.trans K69 (U := none_) (fun _ _ h => h) (fun _ _ h => h)).trans k520 (U := none_) (fun _ _ h => h) (fun i hi hs => by have hs : i ∈ Ds := hs; have := hDs i hs; have := K00.size; exfalso; omega)
  exact hRR _ _ ⟨[], none, 0, false, rfl, kz, Rd.nil _ _, hR0.symm⟩
end Go.Proofs.YtnbcghbgeiocbaaDoor
namespace Go.Q
open Go.RowKit
theorem looked_step {m : List HCall} {i : Nat} {c : HCall} (h : m[i]? = some c) : lookedH (m.take (i + 1)) = lookedH (m.take i) ++ (if countsH c then [(c, i)] else []) := by
 have hi := (List.getElem?_eq_some_iff.1 h).1
 unfold lookedH
 rw [List.take_add_one, h, List.zipIdx_append, List.filter_append]
 congr 1
 rw [List.length_take, Nat.zero_add, Nat.min_eq_left (by omega)]
 show List.filter _ [(c, i)] = _
 by_cases q : countsH c = true
 ·rw [if_pos q]; simp [q]
 ·rw [if_neg q]; simp [q]
theorem xs_snoc {l : List HC} {a : List Nat} (ha : a.length = l.length) (x : HC) (n : Nat) : XS (l ++ [x]) (a ++ [n]) = XS l a ++ [(x.c, n)] := by
 unfold XS
 rw [List.map_append, List.zip_append (by rw [List.length_map]; exact ha.symm)]
 rfl
def badH (c : HCall) : Bool := c.told && decide (c.en < c.bg)
theorem order_end {m : List HCall} {l : List HC} {a : List Nat} (hX : XS l a = lookedH m) (ha : a.length = l.length) (hm : ∀ c ∈ m, -9223372036854775808 ≤ c.op.amount ∧ c.op.amount ≤ 9223372036854775807) (h8 : l.length ≤ 8) (hb : (lookedH m).any (fun c => badH c.1) = false) :
  ∃ f0 R0, f0 ≤ 100000000 ∧ (probH (XS l a)).run sameB f0 [startH (XS l a)] [] = some R0 ∧ ∀ o ok, (o, ok) = R0 → (o, ok, (0 : Int)) = orderH m := by
 obtain ⟨c, hc, hr⟩ := stack_law (l := m) hm (same := sameB) fun a b h => (sameB_iff a b).1 h
 have hlen : (lookedH m).length = l.length := by rw [← hX, xs_len ha]
 rw [← hX] at hr
 refine ⟨c, _, ?_, hr, fun o ok e => ?_⟩
 ·have := bd8 (n := (lookedH m).length) (k := (lookedH m).length - (probH (lookedH m)).pc 0) (by omega) (by omega)
  omega
 ·unfold orderH
  rw [if_neg (by omega), if_neg (by rw [show (fun c : HCall × Nat => c.1.told && decide (c.1.en < c.1.bg)) = fun c => badH c.1 from rfl, hb]; decide), ← hX]
  revert e
  cases (probH (XS l a)).sv (startH (XS l a)) with
  | some p => intro e; cases e; rfl
  | none => intro e; cases e; rfl
theorem order_size {m : List HCall} (h : 8 < (lookedH m).length) : ([], false, (3 : Int)) = orderH m := by unfold orderH; rw [if_pos h]
theorem order_bad {m : List HCall} (h : ¬ 8 < (lookedH m).length) (hb : (lookedH m).any (fun c => badH c.1) = true) : ([], false, (1 : Int)) = orderH m := by
 unfold orderH; rw [if_neg h]
 rw [show (fun c : HCall × Nat => c.1.told && decide (c.1.en < c.1.bg)) = fun c => badH c.1 from rfl, if_pos hb]
theorem left_snoc (X : List (HCall × Nat)) (c : HCall) (n : Nat) : (X ++ [(c, n)]).countP (fun c => c.1.told) = X.countP (fun c => c.1.told) + if c.told then 1 else 0 := by
 rw [List.countP_append, List.countP_cons, List.countP_nil]; simp
theorem any_snoc (X : List (HCall × Nat)) (c : HCall) (n : Nat) : (X ++ [(c, n)]).any (fun c => badH c.1) = (X.any (fun c => badH c.1) || badH c) := by
 rw [List.any_append]; simp
theorem rowsE_nil {w : World} {l : List HC} (h : ∀ x ∈ l, x.A = none ∧ x.k = 0 ∧ x.c.rep.rows = []) : RowsE w HC.rv HC.rows none_ l := by
 refine ⟨fun x hx => ?_, fun x hx hn => absurd (h x hx).2.2 hn, fun i hi => hi.elim⟩
 obtain ⟨h1, h2, h3⟩ := h x hx
 show RdT w 2 RowM.cells (.slice x.A x.c.rep.rows.length x.k) x.c.rep.rows
 rw [h1, h2, h3]
 exact Rd.nil _ _
def annB : List UInt8 := [97, 110, 110]
def kO1 : Opm := ⟨1, annB, [], 0, [107], 0, 0⟩
def kO2 : Opm := ⟨5, annB, [], 0, [], 0, 0⟩
end Go.Q
