/- chapter 09: RlogCompacts returns true -/
import Derived.Test.YtncjidepplaocaaProg
import Derived.Test.YtncjidepplaocaaKD
import Derived.Test.YtncjidepplaocaaKL
import Derived.Test.YtncjidepplaocaaKM
import Derived.Test.YtncjidepplaocaaMB
import Derived.Test.YtncjidepplaocaaLX
set_option linter.unusedVariables false
namespace Go.Proofs.Ytncjidepplaocaa
open Go.Q Go.RowKit

set_option maxHeartbeats 4000000 in
theorem Compacts_calls (w : World) (T : Nat → Prop) (A : Option Addr) (c : Nat) (l : List EntP) (n : Int) (hE : Ents w T (.slice A l.length c) l) (hBig : BigK (l.map EntP.key)) (hl32 : l.length * 32 ≤ 140737488351232) (hn : -9223372036854775808 ≤ n ∧ n ≤ 9223372036854775807) : Calls Try.prog 4 ⟨[(Value.slice A l.length c), (i64 n)]⟩ w (fun e w' => e = .returned (.bool true) ∧ Keeps none_ w w') := by
 have hcap := Ents.len hE
 have hll : (l.map EntP.key).length = l.length := List.length_map ..
 have K0 : Keeps none_ w w := Keeps.refl w
 refine q_calls Try.func4 (by kernel_rfl) (by kernel_rfl) ?_
 refine qs ?_
 refine qg ?_
 refine og 1 [(0, (Value.slice A l.length c)), (1, (i64 n)), (4, (Value.bool false))] 1 ?_
 refine od ?_
 refine qs ?_
 refine qg ?_
 refine og 1 [(0, (Value.slice A l.length c)), (1, (i64 n)), (4, (Value.bool false)), (18, (Value.slice A l.length c))] 1 ?_
 by_cases hq1 : newE 0 0 (l.map EntP.key) = 0
 ·skip
  refine Ops.call (by kernel_rfl) (d := (some 19)) (by kernel_rfl) (New_ok _ T 0 0 A c l hE hBig hq1) ?_
  rintro _ w6 ⟨g2, l3, A4, c5, rfl, hg11, K7, H8, hE9, hK10⟩
  have ot12 : ∀ i, T i → i ≠ g2 := fun i hi => by have := Ents.lt hE i hi; omega
  have ot13 : ∀ i, (fun i => (w.heap.size ≤ i ∧ i < w6.heap.size) ∧ i ≠ g2) i → i ≠ g2 := fun i hi => hi.2
  have ng2 : w.heap.size ≤ g2 := by have := K0.size; omega
  have hn14 := keys_len2 hK10
  try rw [List.length_drop] at hn14
  try rw [List.length_append] at hn14
  try rw [List.length_map] at hn14
  try rw [List.length_map] at hn14
  refine ⟨_, _, rfl, rfl, ?_⟩
  replace K0 := K0.t0 K7
  replace hE := Ents.keep0 hE K7
  clear K7
  refine og 5 [(0, (Value.slice A l.length c)), (1, (i64 n)), (4, (Value.bool false)), (5, (ptr g2)), (6, (i64 0))] 7 ?_
  refine od ?_
  refine qs ?_
  refine qs ?_
  refine qg ?_
  refine og 7 [(0, (Value.slice A l.length c)), (1, (i64 n)), (4, (Value.bool false)), (5, (ptr g2)), (28, (Value.bool (decide (((l.length : Nat) : Int) > 60))))] 7 ?_
  refine od ?_
  refine q_cond (o := .tmp 28) (b := (decide (((l.length : Nat) : Int) > 60))) (by kernel_rfl) rfl (fun h15 => ?_) (fun h15 => ?_)
  ·rw [h15]
   have p16 : ((l.length : Nat) : Int) > 60 := of_decide_eq_true h15
   refine qs ?_
   refine qg ?_
   refine Ops.call (by kernel_rfl) (d := (some 29)) (by kernel_rfl) (known_calls _) ?_
   rintro _ w18 ⟨rfl, K17⟩
   refine ⟨_, _, rfl, rfl, ?_⟩
   replace K0 := K0.t0 K17
   replace H8 := H8.keep K17 (fun h => h)
   replace hE := Ents.keep0 hE K17
   replace hE9 := Ents.keep0 hE9 K17
   clear K17
   refine og 1 [(0, (Value.slice A l.length c)), (1, (i64 n)), (4, (Value.bool true)), (5, (ptr g2))] 2 ?_
   refine od ?_
   refine q_ret (by kernel_rfl) ?_
   refine ⟨(Value.bool true), retv_tmp rfl rfl, ?_⟩
   exact ⟨rfl, K0⟩
  ·rw [h15]
   have p19 : ¬ (((l.length : Nat) : Int) > 60) := of_decide_eq_false h15
   refine q_skip (by kernel_rfl) ?_
   refine qs ?_
   refine qg ?_
   refine og 1 [(0, (Value.slice A l.length c)), (1, (i64 n)), (4, (Value.bool false)), (5, (ptr g2)), (30, (ptr g2))] 1 ?_
   refine Ops.call (by kernel_rfl) (d := (some 31)) (by kernel_rfl) (Copy_calls _ (fun i => (w.heap.size ≤ i ∧ i < w6.heap.size) ∧ i ≠ g2) g2 0 0 A4 c5 l3 H8 hE9 ot13 (by omega) (by omega) (BigK.keys hK10 hBig)) ?_
   rintro _ w24 ⟨g20, l21, A22, c23, rfl, hg29, K25, H26, hE27, hK28⟩
   have ot30 : ∀ i, (fun i => (w6.heap.size ≤ i ∧ i < w24.heap.size) ∧ i ≠ g20) i → i ≠ g2 := fun i hi => by have := hi.1.1; have := H8.lt; omega
   have lg20g2 : g2 < g20 := by have := H8.lt; omega
   have ot31 : ∀ i, T i → i ≠ g20 := fun i hi => by have := Ents.lt hE i hi; omega
   have ot32 : ∀ i, (fun i => (w.heap.size ≤ i ∧ i < w6.heap.size) ∧ i ≠ g2) i → i ≠ g20 := fun i hi => by have := Ents.lt hE9 i hi; omega
   have ot33 : ∀ i, (fun i => (w6.heap.size ≤ i ∧ i < w24.heap.size) ∧ i ≠ g20) i → i ≠ g20 := fun i hi => hi.2
   have ng20 : w.heap.size ≤ g20 := by have := K0.size; omega
   have hn34 := keys_len2 hK28
   try rw [List.length_drop] at hn34
   try rw [List.length_append] at hn34
   try rw [List.length_map] at hn34
   try rw [List.length_map] at hn34
   refine ⟨_, _, rfl, rfl, ?_⟩
   replace K0 := K0.t0 K25
   replace H8 := H8.keep K25 (fun h => h)
   replace hE := Ents.keep0 hE K25
   replace hE9 := Ents.keep0 hE9 K25
   clear K25
   refine og 1 [(0, (Value.slice A l.length c)), (1, (i64 n)), (4, (Value.bool false)), (5, (ptr g2)), (7, (ptr g20))] 3 ?_
   refine od ?_
   refine qs ?_
   refine qs ?_
   refine qg ?_
   refine og 2 [(0, (Value.slice A l.length c)), (1, (i64 n)), (4, (Value.bool false)), (5, (ptr g2)), (7, (ptr g20)), (33, (Value.bool false))] 2 ?_
   refine od ?_
   refine q_else (o := .tmp 33) (by kernel_rfl) rfl ?_
   refine q_skip (by kernel_rfl) ?_
   refine qs ?_
   refine qs ?_
   refine qg ?_
   refine og 2 [(0, (Value.slice A l.length c)), (1, (i64 n)), (4, (Value.bool false)), (5, (ptr g2)), (7, (ptr g20)), (34, (ptr g20)), (35, (i64 n))] 2 ?_
   rcases comp_or 0 l21.length n with q36 | ⟨k35, q36, q37⟩
   ·skip
    refine Ops.call (by kernel_rfl) (d := (some 36)) (by kernel_rfl) (Compact_bad _ (fun i => (w6.heap.size ≤ i ∧ i < w24.heap.size) ∧ i ≠ g20) g20 0 0 A22 c23 l21 n H26 hE27 ot33 (by omega) (by omega) (by omega) q36) ?_
    rintro _ w39 ⟨rfl, K38⟩
    refine ⟨_, _, rfl, rfl, ?_⟩
    replace K0 := K0.t0 K38
    replace H8 := H8.keep K38 (fun h => h)
    replace H26 := H26.keep K38 (fun h => h)
    replace hE := Ents.keep0 hE K38
    replace hE9 := Ents.keep0 hE9 K38
    replace hE27 := Ents.keep0 hE27 K38
    clear K38
    refine og 1 [(0, (Value.slice A l.length c)), (1, (i64 n)), (4, (Value.bool false)), (5, (ptr g2)), (7, (ptr g20)), (37, (Value.bool true))] 4 ?_
    refine od ?_
    refine q_then (o := .tmp 37) (by kernel_rfl) rfl ?_
    refine qs ?_
    refine qg ?_
    refine og 3 [(0, (Value.slice A l.length c)), (1, (i64 n)), (4, (Value.bool false)), (5, (ptr g2)), (7, (ptr g20)), (40, (Value.bool (decide (n < 0))))] 3 ?_
    refine Ops.split (decide (n < 0)) (fun h40 => ?_) (fun h40 => ?_)
    ·rw [h40]
     have p41 : n < 0 := of_decide_eq_true h40
     refine og 6 [(0, (Value.slice A l.length c)), (1, (i64 n)), (4, (Value.bool false)), (5, (ptr g2)), (7, (ptr g20)), (46, (Value.bool true))] 9 ?_
     refine Ops.call (by kernel_rfl) (d := (some 47)) (by kernel_rfl) (known_calls _) ?_
     rintro _ w43 ⟨rfl, K42⟩
     refine ⟨_, _, rfl, rfl, ?_⟩
     replace K0 := K0.t0 K42
     replace H8 := H8.keep K42 (fun h => h)
     replace H26 := H26.keep K42 (fun h => h)
     replace hE := Ents.keep0 hE K42
     replace hE9 := Ents.keep0 hE9 K42
     replace hE27 := Ents.keep0 hE27 K42
     clear K42
     refine og 2 [(0, (Value.slice A l.length c)), (1, (i64 n)), (4, (Value.bool true)), (5, (ptr g2)), (7, (ptr g20))] 12 ?_
     refine od ?_
     refine q_ret (by kernel_rfl) ?_
     refine ⟨(Value.bool true), retv_tmp rfl rfl, ?_⟩
     exact ⟨rfl, K0⟩
    ·rw [h40]
     have p44 : ¬ (n < 0) := of_decide_eq_false h40
     refine og 6 [(0, (Value.slice A l.length c)), (1, (i64 n)), (4, (Value.bool false)), (5, (ptr g2)), (7, (ptr g20)), (46, (Value.bool (decide (n > ((l.length : Nat) : Int)))))] 9 ?_
     have h45 : (decide (n > ((l.length : Nat) : Int))) = true := decide_eq_true (by omega)
     rw [h45]
     refine Ops.call (by kernel_rfl) (d := (some 47)) (by kernel_rfl) (known_calls _) ?_
     rintro _ w47 ⟨rfl, K46⟩
     refine ⟨_, _, rfl, rfl, ?_⟩
     replace K0 := K0.t0 K46
     replace H8 := H8.keep K46 (fun h => h)
     replace H26 := H26.keep K46 (fun h => h)
     replace hE := Ents.keep0 hE K46
     replace hE9 := Ents.keep0 hE9 K46
     replace hE27 := Ents.keep0 hE27 K46
     clear K46
     refine og 2 [(0, (Value.slice A l.length c)), (1, (i64 n)), (4, (Value.bool true)), (5, (ptr g2)), (7, (ptr g20))] 12 ?_
     refine od ?_
     refine q_ret (by kernel_rfl) ?_
     refine ⟨(Value.bool true), retv_tmp rfl rfl, ?_⟩
     exact ⟨rfl, K0⟩
   ·skip
    refine Ops.call (by kernel_rfl) (d := (some 36)) (by kernel_rfl) (Compact_ok _ (fun i => (w6.heap.size ≤ i ∧ i < w24.heap.size) ∧ i ≠ g20) g20 0 0 A22 c23 l21 n k35 H26 hE27 ot33 (by omega) (by omega) (by omega) q36 q37) ?_
    rintro _ w52 ⟨l48, A49, c50, T51, rfl, K53, H54, hE55, hK56, hT57⟩
    have ot58 : ∀ i, T51 i → i ≠ g2 := fun i hi => by rcases (hT57 i hi).2 with h | h; (exact ot30 i h); (have := H8.lt; omega)
    have ot59 : ∀ i, T51 i → i ≠ g20 := fun i hi => (hT57 i hi).1
    have hn60 := keys_len2 hK56
    try rw [List.length_drop] at hn60
    try rw [List.length_append] at hn60
    try rw [List.length_map] at hn60
    try rw [List.length_map] at hn60
    have hz61 := K0.size
    refine ⟨_, _, rfl, rfl, ?_⟩
    replace K0 := K0.trans K53 (U := none_) (fun i h1 h2 => h2) (fun i h1 h2 => by have h2 : i = g20 := h2; exfalso; omega)
    replace H8 := H8.keep K53 (by intro h; change g2 = g20 at h; omega)
    replace hE := Ents.keep hE K53 (fun i hi hs => by have hs : i = g20 := hs; have := ot31 i hi; omega)
    replace hE9 := Ents.keep hE9 K53 (fun i hi hs => by have hs : i = g20 := hs; have := ot32 i hi; omega)
    replace hE27 := Ents.keep hE27 K53 (fun i hi hs => by have hs : i = g20 := hs; have := ot33 i hi; omega)
    clear K53
    refine og 1 [(0, (Value.slice A l.length c)), (1, (i64 n)), (4, (Value.bool false)), (5, (ptr g2)), (7, (ptr g20)), (37, (Value.bool false))] 4 ?_
    refine od ?_
    refine q_else (o := .tmp 37) (by kernel_rfl) rfl ?_
    refine q_skip (by kernel_rfl) ?_
    refine qs ?_
    refine qs ?_
    refine qg ?_
    refine og 2 [(0, (Value.slice A l.length c)), (4, (Value.bool false)), (5, (ptr g2)), (7, (ptr g20)), (8, (i64 n))] 2 ?_
    refine od ?_
    refine q_block (id := 0) (by kernel_rfl) ?_
    have hkl2 : (l21.map EntP.key) = (l.map EntP.key) := by rw [hK28, hK10]
    refine q_keep (R := [(0, (Value.slice A l.length c)), (5, (ptr g2)), (7, (ptr g20)), (8, (i64 n))]) (by kernel_rfl) ?_
    refine q_loop (fun (k : Int) L (wx : World) => L = [(0, (Value.slice A l.length c)), (5, (ptr g2)), (7, (ptr g20)), (8, (i64 k))] ∧ n ≤ k ∧ k ≤ 1 + (l.length : Int) ∧ Ents wx T (Value.slice A l.length c) l ∧ Ents wx (fun i => (w.heap.size ≤ i ∧ i < w6.heap.size) ∧ i ≠ g2) (Value.slice A4 l3.length c5) l3 ∧ Ents wx T51 (Value.slice A49 l48.length c50) l48 ∧ Keeps none_ w wx ∧ Has wx g2 (rowL [(i64 0), (i64 0), (Value.slice A4 l3.length c5)] 55) ∧ Has wx g20 (rowL [(i64 n), (i64 ((termK 0 0 (l21.map EntP.key) n).1)), (Value.slice A49 l48.length c50)] 55)) (fun (k : Int) => (1 + (l.length : Int) - k).toNat) n (by kernel_rfl) ⟨rfl, (by omega), (by omega), hE, hE9, hE55, K0, H8, H54⟩ ?_
    clear H8 H54 hE hE9 hE27 hE55 K0
    rintro k _ w62 ⟨rfl, hk, hk2, hE, hE1, hE3, K63, H64, H65⟩
    refine qs ?_
    refine qs ?_
    refine qg ?_
    refine og 4 [(0, (Value.slice A l.length c)), (5, (ptr g2)), (7, (ptr g20)), (8, (i64 k)), (53, (Value.bool (decide (k ≤ ((l.length : Nat) : Int)))))] 4 ?_
    refine od ?_
    refine q_cond (o := .tmp 53) (b := (decide (k ≤ ((l.length : Nat) : Int)))) (by kernel_rfl) rfl (fun h66 => ?_) (fun h66 => ?_)
    ·rw [h66]
     have p67 : k ≤ ((l.length : Nat) : Int) := of_decide_eq_true h66
     refine q_skip (by kernel_rfl) ?_
     refine qs ?_
     refine q_block (id := 1) (by kernel_rfl) ?_
     refine qs ?_
     refine qg ?_
     refine og 2 [(0, (Value.slice A l.length c)), (5, (ptr g2)), (7, (ptr g20)), (8, (i64 k)), (53, (Value.bool true)), (57, (ptr g2)), (58, (i64 k))] 2 ?_
     refine Ops.call (by kernel_rfl) (d := (some 59)) (by kernel_rfl) (Term_calls _ (fun i => (w.heap.size ≤ i ∧ i < w6.heap.size) ∧ i ≠ g2) g2 0 0 A4 c5 l3 k H64 hE1 ot13 (by omega) (by omega) (by omega)) ?_
     rintro _ w69 ⟨rfl, K68⟩
     refine ⟨_, _, rfl, rfl, ?_⟩
     replace K63 := K63.trans K68 (U := none_) (fun i h1 h2 => h2) (fun i h1 h2 => by exact h2)
     replace H64 := H64.keep K68 (fun h => h)
     replace H65 := H65.keep K68 (fun h => h)
     replace hE := Ents.keep0 hE K68
     replace hE1 := Ents.keep0 hE1 K68
     replace hE3 := Ents.keep0 hE3 K68
     clear K68
     refine og 5 [(0, (Value.slice A l.length c)), (5, (ptr g2)), (7, (ptr g20)), (8, (i64 k)), (9, (i64 ((termK 0 0 (l3.map EntP.key) k).1))), (10, (i64 ((termK 0 0 (l3.map EntP.key) k).2))), (53, (Value.bool true))] 8 ?_
     refine od ?_
     refine qs ?_
     refine qg ?_
     refine og 2 [(0, (Value.slice A l.length c)), (5, (ptr g2)), (7, (ptr g20)), (8, (i64 k)), (9, (i64 ((termK 0 0 (l3.map EntP.key) k).1))), (10, (i64 ((termK 0 0 (l3.map EntP.key) k).2))), (53, (Value.bool true)), (63, (ptr g20)), (64, (i64 k))] 2 ?_
     refine Ops.call (by kernel_rfl) (d := (some 65)) (by kernel_rfl) (Term_calls _ T51 g20 n ((termK 0 0 (l21.map EntP.key) n).1) A49 c50 l48 k H65 hE3 ot59 (by omega) (by omega) (by omega)) ?_
     rintro _ w71 ⟨rfl, K70⟩
     refine ⟨_, _, rfl, rfl, ?_⟩
     replace K63 := K63.trans K70 (U := none_) (fun i h1 h2 => h2) (fun i h1 h2 => by exact h2)
     replace H64 := H64.keep K70 (fun h => h)
     replace H65 := H65.keep K70 (fun h => h)
     replace hE := Ents.keep0 hE K70
     replace hE1 := Ents.keep0 hE1 K70
     replace hE3 := Ents.keep0 hE3 K70
     clear K70
     refine og 5 [(0, (Value.slice A l.length c)), (5, (ptr g2)), (7, (ptr g20)), (8, (i64 k)), (9, (i64 ((termK 0 0 (l3.map EntP.key) k).1))), (10, (i64 ((termK 0 0 (l3.map EntP.key) k).2))), (11, (i64 ((termK n ((termK 0 0 (l21.map EntP.key) n).1) (l48.map EntP.key) k).1))), (12, (i64 ((termK n ((termK 0 0 (l21.map EntP.key) n).1) (l48.map EntP.key) k).2))), (53, (Value.bool true))] 8 ?_
     refine od ?_
     refine qs ?_
     refine qg ?_
     refine og 4 [(0, (Value.slice A l.length c)), (5, (ptr g2)), (7, (ptr g20)), (8, (i64 k)), (9, (i64 ((termK 0 0 (l3.map EntP.key) k).1))), (10, (i64 ((termK 0 0 (l3.map EntP.key) k).2))), (11, (i64 ((termK n ((termK 0 0 (l21.map EntP.key) n).1) (l48.map EntP.key) k).1))), (12, (i64 ((termK n ((termK 0 0 (l21.map EntP.key) n).1) (l48.map EntP.key) k).2))), (53, (Value.bool true)), (71, (Value.bool (((termK 0 0 (l3.map EntP.key) k).1) != ((termK n ((termK 0 0 (l21.map EntP.key) n).1) (l48.map EntP.key) k).1))))] 4 ?_
     have h72 : (((termK 0 0 (l3.map EntP.key) k).1) != ((termK n ((termK 0 0 (l21.map EntP.key) n).1) (l48.map EntP.key) k).1)) = false := bne_f (by rw [hK56, hK28, hK10, termK_compact (ks := (l.map EntP.key)) q36 (by rw [← hkl2, List.length_map]; exact q37) (by omega) (by rw [← hkl2, List.length_map]; omega)])
     rw [h72]
     refine og 5 [(0, (Value.slice A l.length c)), (5, (ptr g2)), (7, (ptr g20)), (8, (i64 k)), (9, (i64 ((termK 0 0 (l3.map EntP.key) k).1))), (10, (i64 ((termK 0 0 (l3.map EntP.key) k).2))), (11, (i64 ((termK n ((termK 0 0 (l21.map EntP.key) n).1) (l48.map EntP.key) k).1))), (12, (i64 ((termK n ((termK 0 0 (l21.map EntP.key) n).1) (l48.map EntP.key) k).2))), (53, (Value.bool true)), (76, (Value.bool (((termK 0 0 (l3.map EntP.key) k).2) != ((termK n ((termK 0 0 (l21.map EntP.key) n).1) (l48.map EntP.key) k).2))))] 9 ?_
     have h73 : (((termK 0 0 (l3.map EntP.key) k).2) != ((termK n ((termK 0 0 (l21.map EntP.key) n).1) (l48.map EntP.key) k).2)) = false := bne_f (by rw [hK56, hK28, hK10, termK_compact (ks := (l.map EntP.key)) q36 (by rw [← hkl2, List.length_map]; exact q37) (by omega) (by rw [← hkl2, List.length_map]; omega)])
     rw [h73]
     refine og 3 [(0, (Value.slice A l.length c)), (5, (ptr g2)), (7, (ptr g20)), (8, (i64 k)), (9, (i64 ((termK 0 0 (l3.map EntP.key) k).1))), (10, (i64 ((termK 0 0 (l3.map EntP.key) k).2))), (11, (i64 ((termK n ((termK 0 0 (l21.map EntP.key) n).1) (l48.map EntP.key) k).1))), (12, (i64 ((termK n ((termK 0 0 (l21.map EntP.key) n).1) (l48.map EntP.key) k).2))), (53, (Value.bool true)), (76, (Value.bool false)), (77, (ptr g2)), (79, (i64 (IntKind.i64.wrap (k + 1))))] 12 ?_
     have e74 : IntKind.i64.wrap (k + 1) = k + 1 := wrap_i64 (by omega) (by omega)
     rw [e74]
     have hp75 := partK_len 0 (l3.map EntP.key) (k + 1) 5
     rw [List.length_map] at hp75
     refine Ops.call (by kernel_rfl) (d := (some 80)) (by kernel_rfl) (Part_calls _ (fun i => (w.heap.size ≤ i ∧ i < w6.heap.size) ∧ i ≠ g2) g2 0 0 A4 c5 l3 (k + 1) 5 H64 hE1 ot13 (by omega) (by omega) (by omega) (by omega) (BigK.keys hK10 hBig)) ?_
     rintro _ w79 ⟨l76, A77, c78, rfl, K80, hE81, hK82⟩
     have ot83 : ∀ i, (fun i => w71.heap.size ≤ i ∧ i < w79.heap.size) i → i ≠ g2 := fun i hi => by have := hi.1; have := H64.lt; omega
     have ot84 : ∀ i, (fun i => w71.heap.size ≤ i ∧ i < w79.heap.size) i → i ≠ g20 := fun i hi => by have := hi.1; have := H65.lt; omega
     have hz85 := K63.size
     have hn86 := keys_len2 hK82
     try rw [List.length_drop] at hn86
     try rw [List.length_append] at hn86
     try rw [List.length_map] at hn86
     try rw [List.length_map] at hn86
     refine ⟨_, _, rfl, rfl, ?_⟩
     replace K63 := K63.trans K80 (U := none_) (fun i h1 h2 => h2) (fun i h1 h2 => by exact h2)
     replace H64 := H64.keep K80 (fun h => h)
     replace H65 := H65.keep K80 (fun h => h)
     replace hE := Ents.keep0 hE K80
     replace hE1 := Ents.keep0 hE1 K80
     replace hE3 := Ents.keep0 hE3 K80
     clear K80
     refine og 3 [(0, (Value.slice A l.length c)), (5, (ptr g2)), (7, (ptr g20)), (8, (i64 k)), (9, (i64 ((termK 0 0 (l3.map EntP.key) k).1))), (10, (i64 ((termK 0 0 (l3.map EntP.key) k).2))), (11, (i64 ((termK n ((termK 0 0 (l21.map EntP.key) n).1) (l48.map EntP.key) k).1))), (12, (i64 ((termK n ((termK 0 0 (l21.map EntP.key) n).1) (l48.map EntP.key) k).2))), (53, (Value.bool true)), (76, (Value.bool false)), (80, (Value.slice A77 l76.length c78)), (81, (ptr g20)), (83, (i64 (IntKind.i64.wrap (k + 1))))] 16 ?_
     have e87 : IntKind.i64.wrap (k + 1) = k + 1 := wrap_i64 (by omega) (by omega)
     rw [e87]
     have hp88 := partK_len n (l48.map EntP.key) (k + 1) 5
     rw [List.length_map] at hp88
     refine Ops.call (by kernel_rfl) (d := (some 84)) (by kernel_rfl) (Part_calls _ T51 g20 n ((termK 0 0 (l21.map EntP.key) n).1) A49 c50 l48 (k + 1) 5 H65 hE3 ot59 (by omega) (by omega) (by omega) (by omega) (BigK.keys hK56 (BigK.drop k35 (BigK.keys hK28 (BigK.keys hK10 hBig))))) ?_
     rintro _ w92 ⟨l89, A90, c91, rfl, K93, hE94, hK95⟩
     have ot96 : ∀ i, (fun i => w79.heap.size ≤ i ∧ i < w92.heap.size) i → i ≠ g2 := fun i hi => by have := hi.1; have := H64.lt; omega
     have ot97 : ∀ i, (fun i => w79.heap.size ≤ i ∧ i < w92.heap.size) i → i ≠ g20 := fun i hi => by have := hi.1; have := H65.lt; omega
     have hz98 := K63.size
     have hn99 := keys_len2 hK95
     try rw [List.length_drop] at hn99
     try rw [List.length_append] at hn99
     try rw [List.length_map] at hn99
     try rw [List.length_map] at hn99
     refine ⟨_, _, rfl, rfl, ?_⟩
     replace K63 := K63.trans K93 (U := none_) (fun i h1 h2 => h2) (fun i h1 h2 => by exact h2)
     replace H64 := H64.keep K93 (fun h => h)
     replace H65 := H65.keep K93 (fun h => h)
     replace hE := Ents.keep0 hE K93
     replace hE1 := Ents.keep0 hE1 K93
     replace hE3 := Ents.keep0 hE3 K93
     replace hE81 := Ents.keep0 hE81 K93
     clear K93
     refine Ops.call (by kernel_rfl) (d := (some 85)) (by kernel_rfl) (SameEntries_calls _ A77 c78 l76 A90 c91 l89 (Ents.rd hE81) (Ents.rd hE94) (Ents.ins hE81) (Ents.ins hE94)) ?_
     rintro _ w103 ⟨t100, rfl, ht101, K102⟩
     refine ⟨_, _, rfl, rfl, ?_⟩
     replace K63 := K63.trans K102 (U := none_) (fun i h1 h2 => h2) (fun i h1 h2 => by exact h2)
     replace H64 := H64.keep K102 (fun h => h)
     replace H65 := H65.keep K102 (fun h => h)
     replace hE := Ents.keep0 hE K102
     replace hE1 := Ents.keep0 hE1 K102
     replace hE3 := Ents.keep0 hE3 K102
     replace hE81 := Ents.keep0 hE81 K102
     replace hE94 := Ents.keep0 hE94 K102
     clear K102
     refine og 2 [(0, (Value.slice A l.length c)), (5, (ptr g2)), (7, (ptr g20)), (8, (i64 k)), (9, (i64 ((termK 0 0 (l3.map EntP.key) k).1))), (10, (i64 ((termK 0 0 (l3.map EntP.key) k).2))), (11, (i64 ((termK n ((termK 0 0 (l21.map EntP.key) n).1) (l48.map EntP.key) k).1))), (12, (i64 ((termK n ((termK 0 0 (l21.map EntP.key) n).1) (l48.map EntP.key) k).2))), (53, (Value.bool true)), (87, (Value.bool (!t100)))] 20 ?_
     refine od ?_
     have h104 : (!t100) = false := by rw [show t100 = true from ht101.2 (by rw [hK82, hK95, hK56, hK28, hK10]; exact (partK_compact q36 (by rw [← hkl2, List.length_map]; exact q37) (by omega)).symm)]; rfl
     rw [h104]
     refine q_else (o := .tmp 87) (by kernel_rfl) rfl ?_
     refine q_skip (by kernel_rfl) ?_
     refine qg ?_
     refine og 2 [(0, (Value.slice A l.length c)), (5, (ptr g2)), (7, (ptr g20)), (8, (i64 k)), (9, (i64 ((termK 0 0 (l3.map EntP.key) k).1))), (10, (i64 ((termK 0 0 (l3.map EntP.key) k).2))), (11, (i64 ((termK n ((termK 0 0 (l21.map EntP.key) n).1) (l48.map EntP.key) k).1))), (12, (i64 ((termK n ((termK 0 0 (l21.map EntP.key) n).1) (l48.map EntP.key) k).2))), (53, (Value.bool true)), (55, (i64 (IntKind.i64.wrap (k + 1)))), (87, (Value.bool false))] 2 ?_
     have e105 : IntKind.i64.wrap (k + 1) = k + 1 := wrap_i64 (by omega) (by omega)
     rw [e105]
     refine og 1 [(0, (Value.slice A l.length c)), (5, (ptr g2)), (7, (ptr g20)), (8, (i64 (k + 1))), (9, (i64 ((termK 0 0 (l3.map EntP.key) k).1))), (10, (i64 ((termK 0 0 (l3.map EntP.key) k).2))), (11, (i64 ((termK n ((termK 0 0 (l21.map EntP.key) n).1) (l48.map EntP.key) k).1))), (12, (i64 ((termK n ((termK 0 0 (l21.map EntP.key) n).1) (l48.map EntP.key) k).2))), (53, (Value.bool true)), (87, (Value.bool false))] 3 ?_
     refine Ops.keep (R := [(0, (Value.slice A l.length c)), (5, (ptr g2)), (7, (ptr g20)), (8, (i64 (k + 1)))]) (by kernel_rfl) ?_
     refine od ?_
     exact ⟨k + 1, ⟨rfl, (by omega), (by omega), hE, hE1, hE3, K63, H64, H65⟩, (show (1 + (l.length : Int) - (k + 1)).toNat < (1 + (l.length : Int) - k).toNat from by omega)⟩
    ·rw [h66]
     have p106 : ¬ (k ≤ ((l.length : Nat) : Int)) := of_decide_eq_false h66
     refine q_exit (id := 0) (by kernel_rfl) ?_
     refine qs ?_
     refine qg ?_
     refine og 1 [(5, (ptr g2)), (89, (ptr g20))] 1 ?_
     refine Ops.call (by kernel_rfl) (d := (some 90)) (by kernel_rfl) (Last_calls _ T51 g20 n ((termK 0 0 (l21.map EntP.key) n).1) A49 c50 l48 H65 hE3 ot59 (by omega) (by omega)) ?_
     rintro _ w108 ⟨rfl, K107⟩
     refine ⟨_, _, rfl, rfl, ?_⟩
     replace K63 := K63.trans K107 (U := none_) (fun i h1 h2 => h2) (fun i h1 h2 => by exact h2)
     replace H64 := H64.keep K107 (fun h => h)
     replace H65 := H65.keep K107 (fun h => h)
     replace hE := Ents.keep0 hE K107
     replace hE1 := Ents.keep0 hE1 K107
     replace hE3 := Ents.keep0 hE3 K107
     clear K107
     refine og 5 [(5, (ptr g2)), (13, (i64 (n + ((l48.length : Nat) : Int)))), (14, (i64 (lastK n ((termK 0 0 (l21.map EntP.key) n).1) (l48.map EntP.key))))] 7 ?_
     refine od ?_
     refine qs ?_
     refine qg ?_
     refine og 1 [(13, (i64 (n + ((l48.length : Nat) : Int)))), (14, (i64 (lastK n ((termK 0 0 (l21.map EntP.key) n).1) (l48.map EntP.key)))), (94, (ptr g2))] 1 ?_
     refine Ops.call (by kernel_rfl) (d := (some 95)) (by kernel_rfl) (Last_calls _ (fun i => (w.heap.size ≤ i ∧ i < w6.heap.size) ∧ i ≠ g2) g2 0 0 A4 c5 l3 H64 hE1 ot13 (by omega) (by omega)) ?_
     rintro _ w110 ⟨rfl, K109⟩
     refine ⟨_, _, rfl, rfl, ?_⟩
     replace K63 := K63.trans K109 (U := none_) (fun i h1 h2 => h2) (fun i h1 h2 => by exact h2)
     replace H64 := H64.keep K109 (fun h => h)
     replace H65 := H65.keep K109 (fun h => h)
     replace hE := Ents.keep0 hE K109
     replace hE1 := Ents.keep0 hE1 K109
     replace hE3 := Ents.keep0 hE3 K109
     clear K109
     refine og 5 [(13, (i64 (n + ((l48.length : Nat) : Int)))), (14, (i64 (lastK n ((termK 0 0 (l21.map EntP.key) n).1) (l48.map EntP.key)))), (15, (i64 (0 + ((l3.length : Nat) : Int)))), (16, (i64 (lastK 0 0 (l3.map EntP.key))))] 7 ?_
     refine od ?_
     refine qs ?_
     refine qg ?_
     refine og 4 [(14, (i64 (lastK n ((termK 0 0 (l21.map EntP.key) n).1) (l48.map EntP.key)))), (16, (i64 (lastK 0 0 (l3.map EntP.key)))), (101, (Value.bool ((n + ((l48.length : Nat) : Int)) == (0 + ((l3.length : Nat) : Int)))))] 4 ?_
     have h111 : ((n + ((l48.length : Nat) : Int)) == (0 + ((l3.length : Nat) : Int))) = true := beq_t (by omega)
     rw [h111]
     refine og 5 [(106, (Value.bool ((lastK n ((termK 0 0 (l21.map EntP.key) n).1) (l48.map EntP.key)) == (lastK 0 0 (l3.map EntP.key)))))] 9 ?_
     have h112 : ((lastK n ((termK 0 0 (l21.map EntP.key) n).1) (l48.map EntP.key)) == (lastK 0 0 (l3.map EntP.key))) = true := beq_t (by rw [hK56, hK28, hK10]; exact lastK_compact q36 (by rw [← hkl2, List.length_map]; exact q37))
     rw [h112]
     refine Ops.call (by kernel_rfl) (d := (some 107)) (by kernel_rfl) (known_calls _) ?_
     rintro _ w114 ⟨rfl, K113⟩
     refine ⟨_, _, rfl, rfl, ?_⟩
     replace K63 := K63.trans K113 (U := none_) (fun i h1 h2 => h2) (fun i h1 h2 => by exact h2)
     replace H64 := H64.keep K113 (fun h => h)
     replace H65 := H65.keep K113 (fun h => h)
     replace hE := Ents.keep0 hE K113
     replace hE1 := Ents.keep0 hE1 K113
     replace hE3 := Ents.keep0 hE3 K113
     clear K113
     refine og 2 [(4, (Value.bool true))] 12 ?_
     refine od ?_
     refine q_ret (by kernel_rfl) ?_
     refine ⟨(Value.bool true), retv_tmp rfl rfl, ?_⟩
     exact ⟨rfl, K63⟩
 ·skip
  refine Ops.call (by kernel_rfl) (d := (some 19)) (by kernel_rfl) (New_bad _ T 0 0 A c l hE hBig hq1) ?_
  rintro _ w116 ⟨rfl, K115⟩
  refine ⟨_, _, rfl, rfl, ?_⟩
  replace K0 := K0.t0 K115
  replace hE := Ents.keep0 hE K115
  clear K115
  refine og 5 [(0, (Value.slice A l.length c)), (1, (i64 n)), (4, (Value.bool false)), (5, (Value.pointer none)), (6, (i64 (newE 0 0 (l.map EntP.key))))] 7 ?_
  refine od ?_
  refine qs ?_
  refine qs ?_
  refine qg ?_
  refine og 3 [(0, (Value.slice A l.length c)), (1, (i64 n)), (4, (Value.bool false)), (5, (Value.pointer none)), (24, (Value.bool ((newE 0 0 (l.map EntP.key)) != 0)))] 3 ?_
  have h117 : ((newE 0 0 (l.map EntP.key)) != 0) = true := bne_t hq1
  rw [h117]
  refine og 4 [(0, (Value.slice A l.length c)), (1, (i64 n)), (4, (Value.bool false)), (5, (Value.pointer none)), (28, (Value.bool true))] 7 ?_
  refine od ?_
  refine q_then (o := .tmp 28) (by kernel_rfl) rfl ?_
  refine qs ?_
  refine qg ?_
  refine Ops.call (by kernel_rfl) (d := (some 29)) (by kernel_rfl) (known_calls _) ?_
  rintro _ w119 ⟨rfl, K118⟩
  refine ⟨_, _, rfl, rfl, ?_⟩
  replace K0 := K0.t0 K118
  replace hE := Ents.keep0 hE K118
  clear K118
  refine og 1 [(0, (Value.slice A l.length c)), (1, (i64 n)), (4, (Value.bool true)), (5, (Value.pointer none))] 2 ?_
  refine od ?_
  refine q_ret (by kernel_rfl) ?_
  refine ⟨(Value.bool true), retv_tmp rfl rfl, ?_⟩
  exact ⟨rfl, K0⟩
end Go.Proofs.Ytncjidepplaocaa
