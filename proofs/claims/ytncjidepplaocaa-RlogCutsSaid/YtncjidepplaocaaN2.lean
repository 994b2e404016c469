/- chapter 09: RlogCuts returns true -/
import Derived.Test.YtncjidepplaocaaProg
import Derived.Test.YtncjidepplaocaaKD
import Derived.Test.YtncjidepplaocaaKG
import Derived.Test.YtncjidepplaocaaKL
import Derived.Test.YtncjidepplaocaaKM
import Derived.Test.YtncjidepplaocaaMB
import Derived.Test.YtncjidepplaocaaLX
set_option linter.unusedVariables false
namespace Go.Proofs.Ytncjidepplaocaa
open Go.Q Go.RowKit

set_option maxHeartbeats 4000000 in
theorem Cuts_calls (w : World) (T : Nat → Prop) (A : Option Addr) (c : Nat) (l : List EntP) (n : Int) (hE : Ents w T (.slice A l.length c) l) (hBig : BigK (l.map EntP.key)) (hl32 : l.length * 32 ≤ 140737488351232) (hn : -9223372036854775808 ≤ n ∧ n ≤ 9223372036854775807) : Calls Try.prog 6 ⟨[(Value.slice A l.length c), (i64 n)]⟩ w (fun e w' => e = .returned (.bool true) ∧ Keeps none_ w w') := by
 have hcap := Ents.len hE
 have hll : (l.map EntP.key).length = l.length := List.length_map ..
 have K0 : Keeps none_ w w := Keeps.refl w
 refine q_calls Try.func6 (by kernel_rfl) (by kernel_rfl) ?_
 refine qs ?_
 refine qg ?_
 refine og 1 [(0, (Value.slice A l.length c)), (1, (i64 n)), (4, (Value.bool false))] 1 ?_
 refine od ?_
 refine qs ?_
 refine qg ?_
 refine og 1 [(0, (Value.slice A l.length c)), (1, (i64 n)), (4, (Value.bool false)), (10, (Value.slice A l.length c))] 1 ?_
 by_cases hq1 : newE 0 0 (l.map EntP.key) = 0
 ·skip
  refine Ops.call (by kernel_rfl) (d := (some 11)) (by kernel_rfl) (New_ok _ T 0 0 A c l hE hBig hq1) ?_
  rintro _ w6 ⟨g2, l3, A4, c5, rfl, hg11, K7, H8, hE9, hK10⟩
  have ot12 : ∀ i, T i → i ≠ g2 := fun i hi => by have := Ents.lt hE i hi; omega
  have ot13 : ∀ i, (fun i => (w.heap.size ≤ i ∧ i < w6.heap.size) ∧ i ≠ g2) i → i ≠ g2 := fun i hi => hi.2
  have ng2 : w.heap.size ≤ g2 := by have := K0.size; omega
  have hn14 := keys_len2 hK10
  try rw [List.length_append] at hn14
  try rw [List.length_map] at hn14
  try rw [List.length_map] at hn14
  refine ⟨_, _, rfl, rfl, ?_⟩
  replace K0 := K0.t0 K7
  replace hE := Ents.keep0 hE K7
  clear K7
  refine og 5 [(0, (Value.slice A l.length c)), (1, (i64 n)), (4, (Value.bool false)), (5, (ptr g2)), (6, (i64 0))] 7 ?_
  refine od ?_
  refine qs ?_
  refine qs ?_
  refine qg ?_
  refine og 7 [(0, (Value.slice A l.length c)), (1, (i64 n)), (4, (Value.bool false)), (5, (ptr g2)), (20, (Value.bool (decide (((l.length : Nat) : Int) > 60))))] 7 ?_
  refine od ?_
  refine q_cond (o := .tmp 20) (b := (decide (((l.length : Nat) : Int) > 60))) (by kernel_rfl) rfl (fun h15 => ?_) (fun h15 => ?_)
  ·rw [h15]
   have p16 : ((l.length : Nat) : Int) > 60 := of_decide_eq_true h15
   refine qs ?_
   refine qg ?_
   refine Ops.call (by kernel_rfl) (d := (some 21)) (by kernel_rfl) (known_calls _) ?_
   rintro _ w18 ⟨rfl, K17⟩
   refine ⟨_, _, rfl, rfl, ?_⟩
   replace K0 := K0.t0 K17
   replace H8 := H8.keep K17 (fun h => h)
   replace hE := Ents.keep0 hE K17
   replace hE9 := Ents.keep0 hE9 K17
   clear K17
   refine og 1 [(0, (Value.slice A l.length c)), (1, (i64 n)), (4, (Value.bool true)), (5, (ptr g2))] 2 ?_
   refine od ?_
   refine q_ret (by kernel_rfl) ?_
   refine ⟨(Value.bool true), retv_tmp rfl rfl, ?_⟩
   exact ⟨rfl, K0⟩
  ·rw [h15]
   have p19 : ¬ (((l.length : Nat) : Int) > 60) := of_decide_eq_false h15
   refine q_skip (by kernel_rfl) ?_
   refine qs ?_
   refine qs ?_
   refine qg ?_
   refine og 2 [(0, (Value.slice A l.length c)), (1, (i64 n)), (4, (Value.bool false)), (5, (ptr g2)), (23, (Value.bool false))] 2 ?_
   refine od ?_
   refine q_else (o := .tmp 23) (by kernel_rfl) rfl ?_
   refine q_skip (by kernel_rfl) ?_
   refine qs ?_
   refine qg ?_
   refine og 2 [(0, (Value.slice A l.length c)), (1, (i64 n)), (4, (Value.bool false)), (5, (ptr g2)), (24, (ptr g2)), (25, (i64 n))] 2 ?_
   have hp20 := partK_len 0 (l3.map EntP.key) n 99
   rw [List.length_map] at hp20
   refine Ops.call (by kernel_rfl) (d := (some 26)) (by kernel_rfl) (Part_calls _ (fun i => (w.heap.size ≤ i ∧ i < w6.heap.size) ∧ i ≠ g2) g2 0 0 A4 c5 l3 n 99 H8 hE9 ot13 (by omega) (by omega) (by omega) (by omega) (BigK.keys hK10 hBig)) ?_
   rintro _ w24 ⟨l21, A22, c23, rfl, K25, hE26, hK27⟩
   have ot28 : ∀ i, (fun i => w6.heap.size ≤ i ∧ i < w24.heap.size) i → i ≠ g2 := fun i hi => by have := hi.1; have := H8.lt; omega
   have hz29 := K0.size
   have hn30 := keys_len2 hK27
   try rw [List.length_append] at hn30
   try rw [List.length_map] at hn30
   try rw [List.length_map] at hn30
   refine ⟨_, _, rfl, rfl, ?_⟩
   replace K0 := K0.t0 K25
   replace H8 := H8.keep K25 (fun h => h)
   replace hE := Ents.keep0 hE K25
   replace hE9 := Ents.keep0 hE9 K25
   clear K25
   refine og 1 [(0, (Value.slice A l.length c)), (1, (i64 n)), (4, (Value.bool false)), (5, (ptr g2)), (7, (Value.slice A22 l21.length c23))] 4 ?_
   refine od ?_
   refine qs ?_
   refine qg ?_
   refine og 2 [(0, (Value.slice A l.length c)), (1, (i64 n)), (4, (Value.bool false)), (5, (ptr g2)), (7, (Value.slice A22 l21.length c23)), (27, (ptr g2)), (28, (i64 n))] 2 ?_
   rcases cut_or 0 l3.length n with q32 | ⟨k31, q32, q33⟩
   ·skip
    refine Ops.call (by kernel_rfl) (d := (some 29)) (by kernel_rfl) (Cut_bad _ (fun i => (w.heap.size ≤ i ∧ i < w6.heap.size) ∧ i ≠ g2) g2 0 0 A4 c5 l3 n H8 hE9 ot13 (by omega) (by omega) (by omega) q32) ?_
    rintro _ w35 ⟨rfl, K34⟩
    refine ⟨_, _, rfl, rfl, ?_⟩
    replace K0 := K0.t0 K34
    replace H8 := H8.keep K34 (fun h => h)
    replace hE := Ents.keep0 hE K34
    replace hE9 := Ents.keep0 hE9 K34
    replace hE26 := Ents.keep0 hE26 K34
    clear K34
    refine og 1 [(0, (Value.slice A l.length c)), (1, (i64 n)), (4, (Value.bool false)), (5, (ptr g2)), (7, (Value.slice A22 l21.length c23)), (8, (i64 1))] 4 ?_
    refine od ?_
    refine qs ?_
    refine qs ?_
    refine qg ?_
    refine og 2 [(0, (Value.slice A l.length c)), (1, (i64 n)), (4, (Value.bool false)), (5, (ptr g2)), (7, (Value.slice A22 l21.length c23)), (31, (Value.bool true))] 2 ?_
    refine od ?_
    refine q_then (o := .tmp 31) (by kernel_rfl) rfl ?_
    refine qs ?_
    refine qg ?_
    refine og 3 [(0, (Value.slice A l.length c)), (1, (i64 n)), (4, (Value.bool false)), (5, (ptr g2)), (7, (Value.slice A22 l21.length c23)), (34, (Value.bool (decide (n < 1))))] 3 ?_
    refine Ops.split (decide (n < 1)) (fun h36 => ?_) (fun h36 => ?_)
    ·rw [h36]
     have p37 : n < 1 := of_decide_eq_true h36
     refine og 7 [(0, (Value.slice A l.length c)), (1, (i64 n)), (4, (Value.bool false)), (5, (ptr g2)), (7, (Value.slice A22 l21.length c23)), (41, (Value.bool true))] 10 ?_
     refine Ops.call (by kernel_rfl) (d := (some 42)) (by kernel_rfl) (known_calls _) ?_
     rintro _ w39 ⟨rfl, K38⟩
     refine ⟨_, _, rfl, rfl, ?_⟩
     replace K0 := K0.t0 K38
     replace H8 := H8.keep K38 (fun h => h)
     replace hE := Ents.keep0 hE K38
     replace hE9 := Ents.keep0 hE9 K38
     replace hE26 := Ents.keep0 hE26 K38
     clear K38
     refine og 2 [(0, (Value.slice A l.length c)), (1, (i64 n)), (4, (Value.bool true)), (5, (ptr g2)), (7, (Value.slice A22 l21.length c23))] 13 ?_
     refine od ?_
     refine q_ret (by kernel_rfl) ?_
     refine ⟨(Value.bool true), retv_tmp rfl rfl, ?_⟩
     exact ⟨rfl, K0⟩
    ·rw [h36]
     have p40 : ¬ (n < 1) := of_decide_eq_false h36
     refine og 4 [(0, (Value.slice A l.length c)), (1, (i64 n)), (4, (Value.bool false)), (5, (ptr g2)), (7, (Value.slice A22 l21.length c23)), (34, (Value.bool false)), (35, (i64 n)), (38, (i64 (IntKind.i64.wrap (((l.length : Nat) : Int) + 1))))] 7 ?_
     have e41 : IntKind.i64.wrap (((l.length : Nat) : Int) + 1) = ((l.length + 1 : Nat) : Int) := by rw [wrap_i64 (by omega) (by omega)]; omega
     rw [e41]
     clear e41
     refine og 3 [(0, (Value.slice A l.length c)), (1, (i64 n)), (4, (Value.bool false)), (5, (ptr g2)), (7, (Value.slice A22 l21.length c23)), (41, (Value.bool (decide (n > ((l.length + 1 : Nat) : Int)))))] 10 ?_
     have h42 : (decide (n > ((l.length + 1 : Nat) : Int))) = true := decide_eq_true (by omega)
     rw [h42]
     refine Ops.call (by kernel_rfl) (d := (some 42)) (by kernel_rfl) (known_calls _) ?_
     rintro _ w44 ⟨rfl, K43⟩
     refine ⟨_, _, rfl, rfl, ?_⟩
     replace K0 := K0.t0 K43
     replace H8 := H8.keep K43 (fun h => h)
     replace hE := Ents.keep0 hE K43
     replace hE9 := Ents.keep0 hE9 K43
     replace hE26 := Ents.keep0 hE26 K43
     clear K43
     refine og 2 [(0, (Value.slice A l.length c)), (1, (i64 n)), (4, (Value.bool true)), (5, (ptr g2)), (7, (Value.slice A22 l21.length c23))] 13 ?_
     refine od ?_
     refine q_ret (by kernel_rfl) ?_
     refine ⟨(Value.bool true), retv_tmp rfl rfl, ?_⟩
     exact ⟨rfl, K0⟩
   ·skip
    refine Ops.call (by kernel_rfl) (d := (some 29)) (by kernel_rfl) (Cut_ok _ (fun i => (w.heap.size ≤ i ∧ i < w6.heap.size) ∧ i ≠ g2) g2 0 0 A4 c5 l3 n k31 H8 hE9 ot13 (by omega) (by omega) (by omega) q32 q33) ?_
    rintro _ w46 ⟨l45, rfl, K47, H48, hE49, hK50⟩
    have hn51 := keys_len2 hK50
    have hn52 : ((l3.map EntP.key).take k31).length = k31 := by rw [List.length_take, List.length_map]; omega
    refine ⟨_, _, rfl, rfl, ?_⟩
    replace K0 := K0.trans K47 (U := none_) (fun i h1 h2 => h2) (fun i h1 h2 => by have h2 : i = g2 := h2; exfalso; omega)
    replace hE := Ents.keep hE K47 (fun i hi hs => by have hs : i = g2 := hs; have := ot12 i hi; omega)
    replace hE9 := Ents.keep hE9 K47 (fun i hi hs => by have hs : i = g2 := hs; have := ot13 i hi; omega)
    replace hE26 := Ents.keep hE26 K47 (fun i hi hs => by have hs : i = g2 := hs; have := ot28 i hi; omega)
    clear K47
    refine og 1 [(0, (Value.slice A l.length c)), (1, (i64 n)), (4, (Value.bool false)), (5, (ptr g2)), (7, (Value.slice A22 l21.length c23)), (8, (i64 0))] 4 ?_
    refine od ?_
    refine qs ?_
    refine qs ?_
    refine qg ?_
    refine og 2 [(0, (Value.slice A l.length c)), (1, (i64 n)), (4, (Value.bool false)), (5, (ptr g2)), (7, (Value.slice A22 l21.length c23)), (31, (Value.bool false))] 2 ?_
    refine od ?_
    refine q_else (o := .tmp 31) (by kernel_rfl) rfl ?_
    refine q_skip (by kernel_rfl) ?_
    refine qs ?_
    refine qs ?_
    refine qg ?_
    refine og 1 [(0, (Value.slice A l.length c)), (1, (i64 n)), (4, (Value.bool false)), (5, (ptr g2)), (7, (Value.slice A22 l21.length c23)), (44, (ptr g2))] 1 ?_
    refine Ops.call (by kernel_rfl) (d := (some 45)) (by kernel_rfl) (Len_calls _ (fun i => (w.heap.size ≤ i ∧ i < w6.heap.size) ∧ i ≠ g2) g2 0 0 A4 l45.length l45 H48 hE49 ot13 (by omega) (by omega)) ?_
    rintro _ w54 ⟨rfl, K53⟩
    refine ⟨_, _, rfl, rfl, ?_⟩
    replace K0 := K0.t0 K53
    replace H48 := H48.keep K53 (fun h => h)
    replace hE := Ents.keep0 hE K53
    replace hE9 := Ents.keep0 hE9 K53
    replace hE26 := Ents.keep0 hE26 K53
    replace hE49 := Ents.keep0 hE49 K53
    clear K53
    refine og 2 [(0, (Value.slice A l.length c)), (4, (Value.bool false)), (5, (ptr g2)), (7, (Value.slice A22 l21.length c23)), (45, (i64 ((l45.length : Nat) : Int))), (47, (i64 (IntKind.i64.wrap (n - 1))))] 4 ?_
    have e55 : IntKind.i64.wrap (n - 1) = n - 1 := wrap_i64 (by omega) (by omega)
    rw [e55]
    refine og 2 [(0, (Value.slice A l.length c)), (4, (Value.bool false)), (5, (ptr g2)), (7, (Value.slice A22 l21.length c23)), (49, (Value.bool (((l45.length : Nat) : Int) != (n - 1))))] 6 ?_
    have h56 : (((l45.length : Nat) : Int) != (n - 1)) = false := bne_f (by omega)
    rw [h56]
    refine og 2 [(0, (Value.slice A l.length c)), (4, (Value.bool false)), (5, (ptr g2)), (49, (Value.bool false)), (50, (ptr g2)), (51, (Value.slice A22 l21.length c23))] 8 ?_
    have hq57 : appE 0 0 (l45.map EntP.key) (l21.map EntP.key) = 0 := by rw [hK50, hK27]; exact (cuts_law (ks := (l3.map EntP.key)) (by rw [hK10]; exact hq1) (by rw [List.length_map]; omega) q32 (by rw [List.length_map]; exact q33)).1
    refine Ops.call (by kernel_rfl) (d := (some 52)) (by kernel_rfl) (Append_ok _ (fun i => (w.heap.size ≤ i ∧ i < w6.heap.size) ∧ i ≠ g2) g2 0 0 A4 l45 (fun i => w6.heap.size ≤ i ∧ i < w24.heap.size) A22 c23 l21 H48 hE49 ot13 (by omega) (by omega) hE26 ot28 (BigK.keys hK50 (BigK.takeK k31 (BigK.keys hK10 hBig))) (BigK.keys hK27 (BigK.part 0 n 99 (BigK.keys hK10 hBig))) (by omega) hq57) ?_
    rintro _ w62 ⟨l58, A59, c60, T61, rfl, K63, H64, hE65, hK66, hT67⟩
    have ot68 : ∀ i, T61 i → i ≠ g2 := fun i hi => (hT67 i hi).1
    have hn69 := keys_len2 hK66
    try rw [List.length_append] at hn69
    try rw [List.length_map] at hn69
    try rw [List.length_map] at hn69
    have hz70 := K0.size
    refine ⟨_, _, rfl, rfl, ?_⟩
    replace K0 := K0.trans K63 (U := none_) (fun i h1 h2 => h2) (fun i h1 h2 => by have h2 : i = g2 := h2; exfalso; omega)
    replace hE := Ents.keep hE K63 (fun i hi hs => by have hs : i = g2 := hs; have := ot12 i hi; omega)
    replace hE9 := Ents.keep hE9 K63 (fun i hi hs => by have hs : i = g2 := hs; have := ot13 i hi; omega)
    replace hE26 := Ents.keep hE26 K63 (fun i hi hs => by have hs : i = g2 := hs; have := ot28 i hi; omega)
    replace hE49 := Ents.keep hE49 K63 (fun i hi hs => by have hs : i = g2 := hs; have := ot13 i hi; omega)
    clear K63
    refine og 2 [(0, (Value.slice A l.length c)), (4, (Value.bool false)), (5, (ptr g2)), (54, (Value.bool false))] 11 ?_
    refine od ?_
    refine q_else (o := .tmp 54) (by kernel_rfl) rfl ?_
    refine q_skip (by kernel_rfl) ?_
    refine qs ?_
    refine qg ?_
    refine og 1 [(0, (Value.slice A l.length c)), (4, (Value.bool false)), (55, (ptr g2))] 1 ?_
    have hp71 := partK_len 0 (l58.map EntP.key) 1 99
    rw [List.length_map] at hp71
    refine Ops.call (by kernel_rfl) (d := (some 56)) (by kernel_rfl) (Part_calls _ T61 g2 0 0 A59 c60 l58 1 99 H64 hE65 ot68 (by omega) (by omega) (by omega) (by omega) (BigK.keys hK66 (BigK.app (BigK.keys hK50 (BigK.takeK k31 (BigK.keys hK10 hBig))) (BigK.keys hK27 (BigK.part 0 n 99 (BigK.keys hK10 hBig)))))) ?_
    rintro _ w75 ⟨l72, A73, c74, rfl, K76, hE77, hK78⟩
    have ot79 : ∀ i, (fun i => w62.heap.size ≤ i ∧ i < w75.heap.size) i → i ≠ g2 := fun i hi => by have := hi.1; have := H64.lt; omega
    have hz80 := K0.size
    have hn81 := keys_len2 hK78
    try rw [List.length_append] at hn81
    try rw [List.length_map] at hn81
    try rw [List.length_map] at hn81
    refine ⟨_, _, rfl, rfl, ?_⟩
    replace K0 := K0.t0 K76
    replace H64 := H64.keep K76 (fun h => h)
    replace hE := Ents.keep0 hE K76
    replace hE9 := Ents.keep0 hE9 K76
    replace hE26 := Ents.keep0 hE26 K76
    replace hE49 := Ents.keep0 hE49 K76
    replace hE65 := Ents.keep0 hE65 K76
    clear K76
    refine og 1 [(4, (Value.bool false)), (56, (Value.slice A73 l72.length c74)), (57, (Value.slice A l.length c))] 3 ?_
    refine Ops.call (by kernel_rfl) (d := (some 58)) (by kernel_rfl) (SameEntries_calls _ A73 c74 l72 A c l (Ents.rd hE77) (Ents.rd hE) (Ents.ins hE77) (Ents.ins hE)) ?_
    rintro _ w85 ⟨t82, rfl, ht83, K84⟩
    refine ⟨_, _, rfl, rfl, ?_⟩
    replace K0 := K0.t0 K84
    replace H64 := H64.keep K84 (fun h => h)
    replace hE := Ents.keep0 hE K84
    replace hE9 := Ents.keep0 hE9 K84
    replace hE26 := Ents.keep0 hE26 K84
    replace hE49 := Ents.keep0 hE49 K84
    replace hE65 := Ents.keep0 hE65 K84
    replace hE77 := Ents.keep0 hE77 K84
    clear K84
    refine og 1 [(4, (Value.bool false)), (59, (Value.bool t82))] 5 ?_
    have h86 : t82 = true := ht83.2 (by rw [hK78, hK66, hK50, hK27, (cuts_law (ks := (l3.map EntP.key)) (by rw [hK10]; exact hq1) (by rw [List.length_map]; omega) q32 (by rw [List.length_map]; exact q33)).2, hK10]; exact part_all (by rw [List.length_map]; omega))
    rw [h86]
    refine Ops.call (by kernel_rfl) (d := (some 60)) (by kernel_rfl) (known_calls _) ?_
    rintro _ w88 ⟨rfl, K87⟩
    refine ⟨_, _, rfl, rfl, ?_⟩
    replace K0 := K0.t0 K87
    replace H64 := H64.keep K87 (fun h => h)
    replace hE := Ents.keep0 hE K87
    replace hE9 := Ents.keep0 hE9 K87
    replace hE26 := Ents.keep0 hE26 K87
    replace hE49 := Ents.keep0 hE49 K87
    replace hE65 := Ents.keep0 hE65 K87
    replace hE77 := Ents.keep0 hE77 K87
    clear K87
    refine og 2 [(4, (Value.bool true))] 8 ?_
    refine od ?_
    refine q_ret (by kernel_rfl) ?_
    refine ⟨(Value.bool true), retv_tmp rfl rfl, ?_⟩
    exact ⟨rfl, K0⟩
 ·skip
  refine Ops.call (by kernel_rfl) (d := (some 11)) (by kernel_rfl) (New_bad _ T 0 0 A c l hE hBig hq1) ?_
  rintro _ w90 ⟨rfl, K89⟩
  refine ⟨_, _, rfl, rfl, ?_⟩
  replace K0 := K0.t0 K89
  replace hE := Ents.keep0 hE K89
  clear K89
  refine og 5 [(0, (Value.slice A l.length c)), (1, (i64 n)), (4, (Value.bool false)), (5, (Value.pointer none)), (6, (i64 (newE 0 0 (l.map EntP.key))))] 7 ?_
  refine od ?_
  refine qs ?_
  refine qs ?_
  refine qg ?_
  refine og 3 [(0, (Value.slice A l.length c)), (1, (i64 n)), (4, (Value.bool false)), (5, (Value.pointer none)), (16, (Value.bool ((newE 0 0 (l.map EntP.key)) != 0)))] 3 ?_
  have h91 : ((newE 0 0 (l.map EntP.key)) != 0) = true := bne_t hq1
  rw [h91]
  refine og 4 [(0, (Value.slice A l.length c)), (1, (i64 n)), (4, (Value.bool false)), (5, (Value.pointer none)), (20, (Value.bool true))] 7 ?_
  refine od ?_
  refine q_then (o := .tmp 20) (by kernel_rfl) rfl ?_
  refine qs ?_
  refine qg ?_
  refine Ops.call (by kernel_rfl) (d := (some 21)) (by kernel_rfl) (known_calls _) ?_
  rintro _ w93 ⟨rfl, K92⟩
  refine ⟨_, _, rfl, rfl, ?_⟩
  replace K0 := K0.t0 K92
  replace hE := Ents.keep0 hE K92
  clear K92
  refine og 1 [(0, (Value.slice A l.length c)), (1, (i64 n)), (4, (Value.bool true)), (5, (Value.pointer none))] 2 ?_
  refine od ?_
  refine q_ret (by kernel_rfl) ?_
  refine ⟨(Value.bool true), retv_tmp rfl rfl, ?_⟩
  exact ⟨rfl, K0⟩
end Go.Proofs.Ytncjidepplaocaa
