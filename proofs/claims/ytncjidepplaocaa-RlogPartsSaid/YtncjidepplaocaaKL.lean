/- fixed calls -/
import Derived.Test.YtncjidepplaocaaProg
import Derived.Test.YtncjidepplaocaaKE
import Derived.Test.YtncjidepplaocaaKH
import Derived.Test.YtncjidepplaocaaKI
import Derived.Test.YtncjidepplaocaaKK
import Derived.Test.YtncjidepplaocaaLX
set_option linter.unusedVariables false
namespace Go.Proofs.Ytncjidepplaocaa
open Go.Q Go.RowKit

set_option maxHeartbeats 4000000 in
theorem known_calls (w : World)   : Calls Try.prog 9 ⟨[]⟩ w (fun e w' => e = .returned (.bool true) ∧ Keeps none_ w w') := by
 have K0 : Keeps none_ w w := Keeps.refl w
 refine q_calls Try.func9 (by kernel_rfl) (by kernel_rfl) ?_
 refine qs ?_
 refine qg ?_
 refine og 1 [(0, (Value.bool false))] 1 ?_
 refine od ?_
 refine qs ?_
 refine qg ?_
 refine Ops.new (o := rowL [(i64 1), (i64 1), (i64 2)] 2) (V := fun b => (Value.slice (some ⟨b, 0, none⟩) 3 3)) (by kernel_rfl) (d := (some 15)) (by kernel_rfl) (fun b => rfl) (fun b1 w2 hb3 H4 K5 hs6 => ?_)
 have nb1 : w.heap.size ≤ b1 := by have := K0.size; omega
 replace K0 := K0.t0 K5
 clear K5 hs6
 refine Ops.call (by kernel_rfl) (d := (some 16)) (by kernel_rfl) (terms3_calls _ b1 1 1 2 H4) ?_
 rintro _ w10 ⟨l7, A8, c9, rfl, K11, hE12, hK13⟩
 have ot14 : ∀ i, (fun i => w2.heap.size ≤ i ∧ i < w10.heap.size) i → i ≠ b1 := fun i hi => by have := hi.1; have := H4.lt; omega
 have hz15 := K0.size
 have hn16 := keys_len2 hK13
 try rw [List.length_drop] at hn16
 try rw [List.length_append] at hn16
 try rw [List.length_map] at hn16
 try rw [List.length_map] at hn16
 refine ⟨_, _, rfl, rfl, ?_⟩
 replace K0 := K0.t0 K11
 replace H4 := H4.keep K11 (fun h => h)
 clear K11
 have hc17 : (l7.map EntP.key) = ([(1, [byte 0]), (1, [byte 1]), (2, [byte 2])] : Ks) := by rw [hK13] <;> kernel_rfl
 have hn18 : l7.length = 3 := keys_len2 hc17
 have hq19 : newE 0 0 (l7.map EntP.key) = 0 := by rw [hc17] <;> kernel_rfl
 refine Ops.call (by kernel_rfl) (d := (some 17)) (by kernel_rfl) (New_ok _ (fun i => w2.heap.size ≤ i ∧ i < w10.heap.size) 0 0 A8 c9 l7 hE12 (by rw [hc17]; exact fun y hy => by simp only [List.mem_cons, List.not_mem_nil, or_false] at hy; rcases hy with rfl | rfl | rfl <;> decide) hq19) ?_
 rintro _ w24 ⟨g20, l21, A22, c23, rfl, hg29, K25, H26, hE27, hK28⟩
 have ot30 : ∀ i, (fun i => (w10.heap.size ≤ i ∧ i < w24.heap.size) ∧ i ≠ g20) i → i ≠ b1 := fun i hi => by have := hi.1.1; have := H4.lt; omega
 have lg20b1 : b1 < g20 := by have := H4.lt; omega
 have ot31 : ∀ i, (fun i => w2.heap.size ≤ i ∧ i < w10.heap.size) i → i ≠ g20 := fun i hi => by have := Ents.lt hE12 i hi; omega
 have ot32 : ∀ i, (fun i => (w10.heap.size ≤ i ∧ i < w24.heap.size) ∧ i ≠ g20) i → i ≠ g20 := fun i hi => hi.2
 have ng20 : w.heap.size ≤ g20 := by have := K0.size; omega
 have hn33 := keys_len2 hK28
 try rw [List.length_drop] at hn33
 try rw [List.length_append] at hn33
 try rw [List.length_map] at hn33
 try rw [List.length_map] at hn33
 refine ⟨_, _, rfl, rfl, ?_⟩
 replace K0 := K0.t0 K25
 replace H4 := H4.keep K25 (fun h => h)
 replace hE12 := Ents.keep0 hE12 K25
 clear K25
 have hc34 : (l21.map EntP.key) = ([(1, [byte 0]), (1, [byte 1]), (2, [byte 2])] : Ks) := by rw [hK28, hc17] <;> kernel_rfl
 have hn35 : l21.length = 3 := keys_len2 hc34
 refine og 5 [(0, (Value.bool false)), (1, (ptr g20)), (2, (i64 0))] 8 ?_
 refine od ?_
 refine qs ?_
 refine qs ?_
 refine qg ?_
 refine og 6 [(0, (Value.bool false)), (1, (ptr g20)), (25, (Value.bool false))] 6 ?_
 refine od ?_
 refine q_else (o := .tmp 25) (by kernel_rfl) rfl ?_
 refine q_skip (by kernel_rfl) ?_
 refine qs ?_
 refine qg ?_
 refine og 1 [(0, (Value.bool false)), (1, (ptr g20)), (27, (ptr g20))] 1 ?_
 refine Ops.new (o := rowL [(i64 3)] 2) (V := fun b => (Value.slice (some ⟨b, 0, none⟩) 1 1)) (by kernel_rfl) (d := (some 28)) (by kernel_rfl) (fun b => rfl) (fun b36 w37 hb38 H39 K40 hs41 => ?_)
 have lb36b1 : b1 < b36 := by have := H4.lt; omega
 have lb36g20 : g20 < b36 := by have := H26.lt; omega
 have nb36 : w.heap.size ≤ b36 := by have := K0.size; omega
 have ot42 : ∀ i, (fun i => w2.heap.size ≤ i ∧ i < w10.heap.size) i → i ≠ b36 := fun i hi => by have := Ents.lt hE12 i hi; omega
 have ot43 : ∀ i, (fun i => (w10.heap.size ≤ i ∧ i < w24.heap.size) ∧ i ≠ g20) i → i ≠ b36 := fun i hi => by have := Ents.lt hE27 i hi; omega
 replace K0 := K0.t0 K40
 replace H4 := H4.keep K40 (fun h => h)
 replace H26 := H26.keep K40 (fun h => h)
 replace hE12 := Ents.keep0 hE12 K40
 replace hE27 := Ents.keep0 hE27 K40
 clear K40 hs41
 refine Ops.call (by kernel_rfl) (d := (some 29)) (by kernel_rfl) (terms1_calls _ b36 3 H39) ?_
 rintro _ w47 ⟨l44, A45, c46, rfl, K48, hE49, hK50⟩
 have ot51 : ∀ i, (fun i => w37.heap.size ≤ i ∧ i < w47.heap.size) i → i ≠ b1 := fun i hi => by have := hi.1; have := H4.lt; omega
 have ot52 : ∀ i, (fun i => w37.heap.size ≤ i ∧ i < w47.heap.size) i → i ≠ g20 := fun i hi => by have := hi.1; have := H26.lt; omega
 have ot53 : ∀ i, (fun i => w37.heap.size ≤ i ∧ i < w47.heap.size) i → i ≠ b36 := fun i hi => by have := hi.1; have := H39.lt; omega
 have hz54 := K0.size
 have hn55 := keys_len2 hK50
 try rw [List.length_drop] at hn55
 try rw [List.length_append] at hn55
 try rw [List.length_map] at hn55
 try rw [List.length_map] at hn55
 refine ⟨_, _, rfl, rfl, ?_⟩
 replace K0 := K0.t0 K48
 replace H4 := H4.keep K48 (fun h => h)
 replace H26 := H26.keep K48 (fun h => h)
 replace H39 := H39.keep K48 (fun h => h)
 replace hE12 := Ents.keep0 hE12 K48
 replace hE27 := Ents.keep0 hE27 K48
 clear K48
 have hc56 : (l44.map EntP.key) = ([(3, [byte 0])] : Ks) := by rw [hK50] <;> kernel_rfl
 have hn57 : l44.length = 1 := keys_len2 hc56
 refine Ops.call (by kernel_rfl) (d := (some 30)) (by kernel_rfl) (Match_calls _ (fun i => (w10.heap.size ≤ i ∧ i < w24.heap.size) ∧ i ≠ g20) g20 0 0 A22 c23 l21 2 1 (fun i => w37.heap.size ≤ i ∧ i < w47.heap.size) A45 c46 l44 H26 hE27 ot32 (by omega) (by omega) (by omega) (by omega) hE49 ot52 (by rw [hc34]; exact fun y hy => by simp only [List.mem_cons, List.not_mem_nil, or_false] at hy; rcases hy with rfl | rfl | rfl <;> decide) (by rw [hc56]; exact fun y hy => by simp only [List.mem_cons, List.not_mem_nil, or_false] at hy; rcases hy with rfl <;> decide) (by omega)) ?_
 rintro _ w62 ⟨l58, A59, c60, T61, rfl, K63, H64, hE65, hK66, hT67⟩
 have ot68 : ∀ i, T61 i → i ≠ b1 := fun i hi => by rcases (hT67 i hi).2 with h | h; (exact ot30 i h); (have := H4.lt; omega)
 have ot69 : ∀ i, T61 i → i ≠ g20 := fun i hi => (hT67 i hi).1
 have ot70 : ∀ i, T61 i → i ≠ b36 := fun i hi => by rcases (hT67 i hi).2 with h | h; (exact ot43 i h); (have := H39.lt; omega)
 have hn71 := keys_len2 hK66
 try rw [List.length_drop] at hn71
 try rw [List.length_append] at hn71
 try rw [List.length_map] at hn71
 try rw [List.length_map] at hn71
 have hz72 := K0.size
 refine ⟨_, _, rfl, rfl, ?_⟩
 replace K0 := K0.trans K63 (U := none_) (fun i h1 h2 => h2) (fun i h1 h2 => by have h2 : i = g20 := h2; exfalso; omega)
 replace H4 := H4.keep K63 (by intro h; change b1 = g20 at h; omega)
 replace H39 := H39.keep K63 (by intro h; change b36 = g20 at h; omega)
 replace hE12 := Ents.keep hE12 K63 (fun i hi hs => by have hs : i = g20 := hs; have := ot31 i hi; omega)
 replace hE27 := Ents.keep hE27 K63 (fun i hi hs => by have hs : i = g20 := hs; have := ot32 i hi; omega)
 replace hE49 := Ents.keep hE49 K63 (fun i hi hs => by have hs : i = g20 := hs; have := ot52 i hi; omega)
 clear K63
 have hc73 : (l58.map EntP.key) = ([(1, [byte 0]), (1, [byte 1]), (3, [byte 0])] : Ks) := by rw [hK66, hc34, hc56] <;> kernel_rfl
 have hn74 : l58.length = 3 := keys_len2 hc73
 refine og 7 [(0, (Value.bool false)), (1, (ptr g20)), (3, (i64 ((matchK 0 0 (l21.map EntP.key) 2 1 (l44.map EntP.key)).1.1))), (4, (i64 ((matchK 0 0 (l21.map EntP.key) 2 1 (l44.map EntP.key)).1.2.1))), (5, (i64 ((matchK 0 0 (l21.map EntP.key) 2 1 (l44.map EntP.key)).1.2.2)))] 11 ?_
 refine od ?_
 refine qs ?_
 refine qg ?_
 refine og 1 [(0, (Value.bool false)), (1, (ptr g20)), (3, (i64 ((matchK 0 0 (l21.map EntP.key) 2 1 (l44.map EntP.key)).1.1))), (4, (i64 ((matchK 0 0 (l21.map EntP.key) 2 1 (l44.map EntP.key)).1.2.1))), (5, (i64 ((matchK 0 0 (l21.map EntP.key) 2 1 (l44.map EntP.key)).1.2.2))), (35, (ptr g20))] 1 ?_
 refine Ops.call (by kernel_rfl) (d := (some 36)) (by kernel_rfl) (Term_calls _ T61 g20 0 0 A59 c60 l58 3 H64 hE65 ot69 (by omega) (by omega) (by omega)) ?_
 rintro _ w76 ⟨rfl, K75⟩
 refine ⟨_, _, rfl, rfl, ?_⟩
 replace K0 := K0.t0 K75
 replace H4 := H4.keep K75 (fun h => h)
 replace H64 := H64.keep K75 (fun h => h)
 replace H39 := H39.keep K75 (fun h => h)
 replace hE12 := Ents.keep0 hE12 K75
 replace hE27 := Ents.keep0 hE27 K75
 replace hE49 := Ents.keep0 hE49 K75
 replace hE65 := Ents.keep0 hE65 K75
 clear K75
 refine og 5 [(0, (Value.bool false)), (1, (ptr g20)), (3, (i64 ((matchK 0 0 (l21.map EntP.key) 2 1 (l44.map EntP.key)).1.1))), (4, (i64 ((matchK 0 0 (l21.map EntP.key) 2 1 (l44.map EntP.key)).1.2.1))), (5, (i64 ((matchK 0 0 (l21.map EntP.key) 2 1 (l44.map EntP.key)).1.2.2))), (6, (i64 ((termK 0 0 (l58.map EntP.key) 3).1)))] 7 ?_
 refine od ?_
 refine qs ?_
 refine qg ?_
 refine og 1 [(0, (Value.bool false)), (1, (ptr g20)), (3, (i64 ((matchK 0 0 (l21.map EntP.key) 2 1 (l44.map EntP.key)).1.1))), (4, (i64 ((matchK 0 0 (l21.map EntP.key) 2 1 (l44.map EntP.key)).1.2.1))), (5, (i64 ((matchK 0 0 (l21.map EntP.key) 2 1 (l44.map EntP.key)).1.2.2))), (6, (i64 ((termK 0 0 (l58.map EntP.key) 3).1))), (39, (ptr g20))] 1 ?_
 rcases comp_or 0 l58.length 2 with q78 | ⟨k77, q78, q79⟩
 ·exfalso; omega
 ·skip
  refine Ops.call (by kernel_rfl) (d := (some 40)) (by kernel_rfl) (Compact_ok _ T61 g20 0 0 A59 c60 l58 2 k77 H64 hE65 ot69 (by omega) (by omega) (by omega) q78 q79) ?_
  rintro _ w84 ⟨l80, A81, c82, T83, rfl, K85, H86, hE87, hK88, hT89⟩
  have ot90 : ∀ i, T83 i → i ≠ b1 := fun i hi => by rcases (hT89 i hi).2 with h | h; (exact ot68 i h); (have := H4.lt; omega)
  have ot91 : ∀ i, T83 i → i ≠ g20 := fun i hi => (hT89 i hi).1
  have ot92 : ∀ i, T83 i → i ≠ b36 := fun i hi => by rcases (hT89 i hi).2 with h | h; (exact ot70 i h); (have := H39.lt; omega)
  have hn93 := keys_len2 hK88
  try rw [List.length_drop] at hn93
  try rw [List.length_append] at hn93
  try rw [List.length_map] at hn93
  try rw [List.length_map] at hn93
  have hz94 := K0.size
  refine ⟨_, _, rfl, rfl, ?_⟩
  replace K0 := K0.trans K85 (U := none_) (fun i h1 h2 => h2) (fun i h1 h2 => by have h2 : i = g20 := h2; exfalso; omega)
  replace H4 := H4.keep K85 (by intro h; change b1 = g20 at h; omega)
  replace H39 := H39.keep K85 (by intro h; change b36 = g20 at h; omega)
  replace hE12 := Ents.keep hE12 K85 (fun i hi hs => by have hs : i = g20 := hs; have := ot31 i hi; omega)
  replace hE27 := Ents.keep hE27 K85 (fun i hi hs => by have hs : i = g20 := hs; have := ot32 i hi; omega)
  replace hE49 := Ents.keep hE49 K85 (fun i hi hs => by have hs : i = g20 := hs; have := ot52 i hi; omega)
  replace hE65 := Ents.keep hE65 K85 (fun i hi hs => by have hs : i = g20 := hs; have := ot69 i hi; omega)
  clear K85
  have hkk : k77 = 2 := by omega
  have hc95 : (l80.map EntP.key) = ([(3, [byte 0])] : Ks) := by rw [hK88, hkk, hc73] <;> kernel_rfl
  have hn96 : l80.length = 1 := keys_len2 hc95
  refine og 1 [(0, (Value.bool false)), (1, (ptr g20)), (3, (i64 ((matchK 0 0 (l21.map EntP.key) 2 1 (l44.map EntP.key)).1.1))), (4, (i64 ((matchK 0 0 (l21.map EntP.key) 2 1 (l44.map EntP.key)).1.2.1))), (5, (i64 ((matchK 0 0 (l21.map EntP.key) 2 1 (l44.map EntP.key)).1.2.2))), (6, (i64 ((termK 0 0 (l58.map EntP.key) 3).1))), (8, (i64 0))] 3 ?_
  refine od ?_
  refine qs ?_
  refine qg ?_
  refine og 1 [(0, (Value.bool false)), (1, (ptr g20)), (3, (i64 ((matchK 0 0 (l21.map EntP.key) 2 1 (l44.map EntP.key)).1.1))), (4, (i64 ((matchK 0 0 (l21.map EntP.key) 2 1 (l44.map EntP.key)).1.2.1))), (5, (i64 ((matchK 0 0 (l21.map EntP.key) 2 1 (l44.map EntP.key)).1.2.2))), (6, (i64 ((termK 0 0 (l58.map EntP.key) 3).1))), (8, (i64 0)), (42, (ptr g20))] 1 ?_
  refine Ops.call (by kernel_rfl) (d := (some 43)) (by kernel_rfl) (Base_calls _ T83 g20 2 ((termK 0 0 (l58.map EntP.key) 2).1) A81 c82 l80 H86 hE87 ot91 (by omega) (by omega)) ?_
  rintro _ w98 ⟨rfl, K97⟩
  refine ⟨_, _, rfl, rfl, ?_⟩
  replace K0 := K0.t0 K97
  replace H4 := H4.keep K97 (fun h => h)
  replace H86 := H86.keep K97 (fun h => h)
  replace H39 := H39.keep K97 (fun h => h)
  replace hE12 := Ents.keep0 hE12 K97
  replace hE27 := Ents.keep0 hE27 K97
  replace hE49 := Ents.keep0 hE49 K97
  replace hE65 := Ents.keep0 hE65 K97
  replace hE87 := Ents.keep0 hE87 K97
  clear K97
  refine og 5 [(0, (Value.bool false)), (1, (ptr g20)), (3, (i64 ((matchK 0 0 (l21.map EntP.key) 2 1 (l44.map EntP.key)).1.1))), (4, (i64 ((matchK 0 0 (l21.map EntP.key) 2 1 (l44.map EntP.key)).1.2.1))), (5, (i64 ((matchK 0 0 (l21.map EntP.key) 2 1 (l44.map EntP.key)).1.2.2))), (6, (i64 ((termK 0 0 (l58.map EntP.key) 3).1))), (8, (i64 0)), (9, (i64 2)), (10, (i64 ((termK 0 0 (l58.map EntP.key) 2).1)))] 7 ?_
  refine od ?_
  refine qs ?_
  refine qg ?_
  refine og 1 [(0, (Value.bool false)), (3, (i64 ((matchK 0 0 (l21.map EntP.key) 2 1 (l44.map EntP.key)).1.1))), (4, (i64 ((matchK 0 0 (l21.map EntP.key) 2 1 (l44.map EntP.key)).1.2.1))), (5, (i64 ((matchK 0 0 (l21.map EntP.key) 2 1 (l44.map EntP.key)).1.2.2))), (6, (i64 ((termK 0 0 (l58.map EntP.key) 3).1))), (8, (i64 0)), (9, (i64 2)), (10, (i64 ((termK 0 0 (l58.map EntP.key) 2).1))), (47, (ptr g20))] 1 ?_
  refine Ops.new (o := rowL [(i64 1), (i64 1), (i64 3)] 2) (V := fun b => (Value.slice (some ⟨b, 0, none⟩) 3 3)) (by kernel_rfl) (d := (some 48)) (by kernel_rfl) (fun b => rfl) (fun b99 w100 hb101 H102 K103 hs104 => ?_)
  have lb99b1 : b1 < b99 := by have := H4.lt; omega
  have lb99g20 : g20 < b99 := by have := H86.lt; omega
  have lb99b36 : b36 < b99 := by have := H39.lt; omega
  have nb99 : w.heap.size ≤ b99 := by have := K0.size; omega
  have ot105 : ∀ i, (fun i => w2.heap.size ≤ i ∧ i < w10.heap.size) i → i ≠ b99 := fun i hi => by have := Ents.lt hE12 i hi; omega
  have ot106 : ∀ i, (fun i => (w10.heap.size ≤ i ∧ i < w24.heap.size) ∧ i ≠ g20) i → i ≠ b99 := fun i hi => by have := Ents.lt hE27 i hi; omega
  have ot107 : ∀ i, (fun i => w37.heap.size ≤ i ∧ i < w47.heap.size) i → i ≠ b99 := fun i hi => by have := Ents.lt hE49 i hi; omega
  have ot108 : ∀ i, T61 i → i ≠ b99 := fun i hi => by have := Ents.lt hE65 i hi; omega
  have ot109 : ∀ i, T83 i → i ≠ b99 := fun i hi => by have := Ents.lt hE87 i hi; omega
  replace K0 := K0.t0 K103
  replace H4 := H4.keep K103 (fun h => h)
  replace H86 := H86.keep K103 (fun h => h)
  replace H39 := H39.keep K103 (fun h => h)
  replace hE12 := Ents.keep0 hE12 K103
  replace hE27 := Ents.keep0 hE27 K103
  replace hE49 := Ents.keep0 hE49 K103
  replace hE65 := Ents.keep0 hE65 K103
  replace hE87 := Ents.keep0 hE87 K103
  clear K103 hs104
  refine Ops.call (by kernel_rfl) (d := (some 49)) (by kernel_rfl) (terms3_calls _ b99 1 1 3 H102) ?_
  rintro _ w113 ⟨l110, A111, c112, rfl, K114, hE115, hK116⟩
  have ot117 : ∀ i, (fun i => w100.heap.size ≤ i ∧ i < w113.heap.size) i → i ≠ b1 := fun i hi => by have := hi.1; have := H4.lt; omega
  have ot118 : ∀ i, (fun i => w100.heap.size ≤ i ∧ i < w113.heap.size) i → i ≠ g20 := fun i hi => by have := hi.1; have := H86.lt; omega
  have ot119 : ∀ i, (fun i => w100.heap.size ≤ i ∧ i < w113.heap.size) i → i ≠ b36 := fun i hi => by have := hi.1; have := H39.lt; omega
  have ot120 : ∀ i, (fun i => w100.heap.size ≤ i ∧ i < w113.heap.size) i → i ≠ b99 := fun i hi => by have := hi.1; have := H102.lt; omega
  have hz121 := K0.size
  have hn122 := keys_len2 hK116
  try rw [List.length_drop] at hn122
  try rw [List.length_append] at hn122
  try rw [List.length_map] at hn122
  try rw [List.length_map] at hn122
  refine ⟨_, _, rfl, rfl, ?_⟩
  replace K0 := K0.t0 K114
  replace H4 := H4.keep K114 (fun h => h)
  replace H86 := H86.keep K114 (fun h => h)
  replace H39 := H39.keep K114 (fun h => h)
  replace H102 := H102.keep K114 (fun h => h)
  replace hE12 := Ents.keep0 hE12 K114
  replace hE27 := Ents.keep0 hE27 K114
  replace hE49 := Ents.keep0 hE49 K114
  replace hE65 := Ents.keep0 hE65 K114
  replace hE87 := Ents.keep0 hE87 K114
  clear K114
  have hc123 : (l110.map EntP.key) = ([(1, [byte 0]), (1, [byte 1]), (3, [byte 2])] : Ks) := by rw [hK116] <;> kernel_rfl
  have hn124 : l110.length = 3 := keys_len2 hc123
  refine Ops.call (by kernel_rfl) (d := (some 50)) (by kernel_rfl) (Match_calls _ T83 g20 2 ((termK 0 0 (l58.map EntP.key) 2).1) A81 c82 l80 0 0 (fun i => w100.heap.size ≤ i ∧ i < w113.heap.size) A111 c112 l110 H86 hE87 ot91 (by omega) (by omega) (by omega) (by omega) hE115 ot118 (by rw [hc95]; exact fun y hy => by simp only [List.mem_cons, List.not_mem_nil, or_false] at hy; rcases hy with rfl <;> decide) (by rw [hc123]; exact fun y hy => by simp only [List.mem_cons, List.not_mem_nil, or_false] at hy; rcases hy with rfl | rfl | rfl <;> decide) (by omega)) ?_
  rintro _ w129 ⟨l125, A126, c127, T128, rfl, K130, H131, hE132, hK133, hT134⟩
  have ot135 : ∀ i, T128 i → i ≠ b1 := fun i hi => by rcases (hT134 i hi).2 with h | h; (exact ot90 i h); (have := H4.lt; omega)
  have ot136 : ∀ i, T128 i → i ≠ g20 := fun i hi => (hT134 i hi).1
  have ot137 : ∀ i, T128 i → i ≠ b36 := fun i hi => by rcases (hT134 i hi).2 with h | h; (exact ot92 i h); (have := H39.lt; omega)
  have ot138 : ∀ i, T128 i → i ≠ b99 := fun i hi => by rcases (hT134 i hi).2 with h | h; (exact ot109 i h); (have := H102.lt; omega)
  have hn139 := keys_len2 hK133
  try rw [List.length_drop] at hn139
  try rw [List.length_append] at hn139
  try rw [List.length_map] at hn139
  try rw [List.length_map] at hn139
  have hz140 := K0.size
  refine ⟨_, _, rfl, rfl, ?_⟩
  replace K0 := K0.trans K130 (U := none_) (fun i h1 h2 => h2) (fun i h1 h2 => by have h2 : i = g20 := h2; exfalso; omega)
  replace H4 := H4.keep K130 (by intro h; change b1 = g20 at h; omega)
  replace H39 := H39.keep K130 (by intro h; change b36 = g20 at h; omega)
  replace H102 := H102.keep K130 (by intro h; change b99 = g20 at h; omega)
  replace hE12 := Ents.keep hE12 K130 (fun i hi hs => by have hs : i = g20 := hs; have := ot31 i hi; omega)
  replace hE27 := Ents.keep hE27 K130 (fun i hi hs => by have hs : i = g20 := hs; have := ot32 i hi; omega)
  replace hE49 := Ents.keep hE49 K130 (fun i hi hs => by have hs : i = g20 := hs; have := ot52 i hi; omega)
  replace hE65 := Ents.keep hE65 K130 (fun i hi hs => by have hs : i = g20 := hs; have := ot69 i hi; omega)
  replace hE87 := Ents.keep hE87 K130 (fun i hi hs => by have hs : i = g20 := hs; have := ot91 i hi; omega)
  replace hE115 := Ents.keep hE115 K130 (fun i hi hs => by have hs : i = g20 := hs; have := ot118 i hi; omega)
  clear K130
  have hc141 : (l125.map EntP.key) = ([(3, [byte 0])] : Ks) := by rw [hK133, hc73, hc95, hc123] <;> kernel_rfl
  have hn142 : l125.length = 1 := keys_len2 hc141
  refine og 7 [(0, (Value.bool false)), (3, (i64 ((matchK 0 0 (l21.map EntP.key) 2 1 (l44.map EntP.key)).1.1))), (4, (i64 ((matchK 0 0 (l21.map EntP.key) 2 1 (l44.map EntP.key)).1.2.1))), (5, (i64 ((matchK 0 0 (l21.map EntP.key) 2 1 (l44.map EntP.key)).1.2.2))), (6, (i64 ((termK 0 0 (l58.map EntP.key) 3).1))), (8, (i64 0)), (9, (i64 2)), (10, (i64 ((termK 0 0 (l58.map EntP.key) 2).1))), (11, (i64 ((matchK 2 ((termK 0 0 (l58.map EntP.key) 2).1) (l80.map EntP.key) 0 0 (l110.map EntP.key)).1.1))), (12, (i64 ((matchK 2 ((termK 0 0 (l58.map EntP.key) 2).1) (l80.map EntP.key) 0 0 (l110.map EntP.key)).1.2.1))), (13, (i64 ((matchK 2 ((termK 0 0 (l58.map EntP.key) 2).1) (l80.map EntP.key) 0 0 (l110.map EntP.key)).1.2.2)))] 11 ?_
  refine od ?_
  refine qs ?_
  refine qg ?_
  refine og 3 [(0, (Value.bool false)), (4, (i64 ((matchK 0 0 (l21.map EntP.key) 2 1 (l44.map EntP.key)).1.2.1))), (5, (i64 ((matchK 0 0 (l21.map EntP.key) 2 1 (l44.map EntP.key)).1.2.2))), (6, (i64 ((termK 0 0 (l58.map EntP.key) 3).1))), (8, (i64 0)), (9, (i64 2)), (10, (i64 ((termK 0 0 (l58.map EntP.key) 2).1))), (11, (i64 ((matchK 2 ((termK 0 0 (l58.map EntP.key) 2).1) (l80.map EntP.key) 0 0 (l110.map EntP.key)).1.1))), (12, (i64 ((matchK 2 ((termK 0 0 (l58.map EntP.key) 2).1) (l80.map EntP.key) 0 0 (l110.map EntP.key)).1.2.1))), (13, (i64 ((matchK 2 ((termK 0 0 (l58.map EntP.key) 2).1) (l80.map EntP.key) 0 0 (l110.map EntP.key)).1.2.2))), (56, (Value.bool (((matchK 0 0 (l21.map EntP.key) 2 1 (l44.map EntP.key)).1.1) == 3)))] 3 ?_
  have h143 : (((matchK 0 0 (l21.map EntP.key) 2 1 (l44.map EntP.key)).1.1) == 3) = true := beq_t (by rw [hc34, hc56] <;> kernel_rfl)
  rw [h143]
  refine og 4 [(0, (Value.bool false)), (5, (i64 ((matchK 0 0 (l21.map EntP.key) 2 1 (l44.map EntP.key)).1.2.2))), (6, (i64 ((termK 0 0 (l58.map EntP.key) 3).1))), (8, (i64 0)), (9, (i64 2)), (10, (i64 ((termK 0 0 (l58.map EntP.key) 2).1))), (11, (i64 ((matchK 2 ((termK 0 0 (l58.map EntP.key) 2).1) (l80.map EntP.key) 0 0 (l110.map EntP.key)).1.1))), (12, (i64 ((matchK 2 ((termK 0 0 (l58.map EntP.key) 2).1) (l80.map EntP.key) 0 0 (l110.map EntP.key)).1.2.1))), (13, (i64 ((matchK 2 ((termK 0 0 (l58.map EntP.key) 2).1) (l80.map EntP.key) 0 0 (l110.map EntP.key)).1.2.2))), (60, (Value.bool (((matchK 0 0 (l21.map EntP.key) 2 1 (l44.map EntP.key)).1.2.1) == 3)))] 7 ?_
  have h144 : (((matchK 0 0 (l21.map EntP.key) 2 1 (l44.map EntP.key)).1.2.1) == 3) = true := beq_t (by rw [hc34, hc56] <;> kernel_rfl)
  rw [h144]
  refine og 4 [(0, (Value.bool false)), (6, (i64 ((termK 0 0 (l58.map EntP.key) 3).1))), (8, (i64 0)), (9, (i64 2)), (10, (i64 ((termK 0 0 (l58.map EntP.key) 2).1))), (11, (i64 ((matchK 2 ((termK 0 0 (l58.map EntP.key) 2).1) (l80.map EntP.key) 0 0 (l110.map EntP.key)).1.1))), (12, (i64 ((matchK 2 ((termK 0 0 (l58.map EntP.key) 2).1) (l80.map EntP.key) 0 0 (l110.map EntP.key)).1.2.1))), (13, (i64 ((matchK 2 ((termK 0 0 (l58.map EntP.key) 2).1) (l80.map EntP.key) 0 0 (l110.map EntP.key)).1.2.2))), (64, (Value.bool (((matchK 0 0 (l21.map EntP.key) 2 1 (l44.map EntP.key)).1.2.2) == 0)))] 11 ?_
  have h145 : (((matchK 0 0 (l21.map EntP.key) 2 1 (l44.map EntP.key)).1.2.2) == 0) = true := beq_t (by rw [hc34, hc56] <;> kernel_rfl)
  rw [h145]
  refine og 4 [(0, (Value.bool false)), (8, (i64 0)), (9, (i64 2)), (10, (i64 ((termK 0 0 (l58.map EntP.key) 2).1))), (11, (i64 ((matchK 2 ((termK 0 0 (l58.map EntP.key) 2).1) (l80.map EntP.key) 0 0 (l110.map EntP.key)).1.1))), (12, (i64 ((matchK 2 ((termK 0 0 (l58.map EntP.key) 2).1) (l80.map EntP.key) 0 0 (l110.map EntP.key)).1.2.1))), (13, (i64 ((matchK 2 ((termK 0 0 (l58.map EntP.key) 2).1) (l80.map EntP.key) 0 0 (l110.map EntP.key)).1.2.2))), (68, (Value.bool (((termK 0 0 (l58.map EntP.key) 3).1) == 3)))] 15 ?_
  have h146 : (((termK 0 0 (l58.map EntP.key) 3).1) == 3) = true := beq_t (by rw [hc73] <;> kernel_rfl)
  rw [h146]
  refine og 8 [(0, (Value.bool false)), (10, (i64 ((termK 0 0 (l58.map EntP.key) 2).1))), (11, (i64 ((matchK 2 ((termK 0 0 (l58.map EntP.key) 2).1) (l80.map EntP.key) 0 0 (l110.map EntP.key)).1.1))), (12, (i64 ((matchK 2 ((termK 0 0 (l58.map EntP.key) 2).1) (l80.map EntP.key) 0 0 (l110.map EntP.key)).1.2.1))), (13, (i64 ((matchK 2 ((termK 0 0 (l58.map EntP.key) 2).1) (l80.map EntP.key) 0 0 (l110.map EntP.key)).1.2.2))), (76, (Value.bool (2 == 2)))] 23 ?_
  have h147 : (2 == 2) = true := by simp
  rw [h147]
  refine og 4 [(0, (Value.bool false)), (11, (i64 ((matchK 2 ((termK 0 0 (l58.map EntP.key) 2).1) (l80.map EntP.key) 0 0 (l110.map EntP.key)).1.1))), (12, (i64 ((matchK 2 ((termK 0 0 (l58.map EntP.key) 2).1) (l80.map EntP.key) 0 0 (l110.map EntP.key)).1.2.1))), (13, (i64 ((matchK 2 ((termK 0 0 (l58.map EntP.key) 2).1) (l80.map EntP.key) 0 0 (l110.map EntP.key)).1.2.2))), (80, (Value.bool (((termK 0 0 (l58.map EntP.key) 2).1) == 1)))] 27 ?_
  have h148 : (((termK 0 0 (l58.map EntP.key) 2).1) == 1) = true := beq_t (by rw [hc73] <;> kernel_rfl)
  rw [h148]
  refine og 4 [(0, (Value.bool false)), (12, (i64 ((matchK 2 ((termK 0 0 (l58.map EntP.key) 2).1) (l80.map EntP.key) 0 0 (l110.map EntP.key)).1.2.1))), (13, (i64 ((matchK 2 ((termK 0 0 (l58.map EntP.key) 2).1) (l80.map EntP.key) 0 0 (l110.map EntP.key)).1.2.2))), (84, (Value.bool (((matchK 2 ((termK 0 0 (l58.map EntP.key) 2).1) (l80.map EntP.key) 0 0 (l110.map EntP.key)).1.1) == 3)))] 31 ?_
  have h149 : (((matchK 2 ((termK 0 0 (l58.map EntP.key) 2).1) (l80.map EntP.key) 0 0 (l110.map EntP.key)).1.1) == 3) = true := beq_t (by rw [hc73, hc95, hc123] <;> kernel_rfl)
  rw [h149]
  refine og 4 [(0, (Value.bool false)), (13, (i64 ((matchK 2 ((termK 0 0 (l58.map EntP.key) 2).1) (l80.map EntP.key) 0 0 (l110.map EntP.key)).1.2.2))), (88, (Value.bool (((matchK 2 ((termK 0 0 (l58.map EntP.key) 2).1) (l80.map EntP.key) 0 0 (l110.map EntP.key)).1.2.1) == 0)))] 35 ?_
  have h150 : (((matchK 2 ((termK 0 0 (l58.map EntP.key) 2).1) (l80.map EntP.key) 0 0 (l110.map EntP.key)).1.2.1) == 0) = true := beq_t (by rw [hc73, hc95, hc123] <;> kernel_rfl)
  rw [h150]
  refine og 4 [(0, (Value.bool (((matchK 2 ((termK 0 0 (l58.map EntP.key) 2).1) (l80.map EntP.key) 0 0 (l110.map EntP.key)).1.2.2) == 0)))] 39 ?_
  refine od ?_
  refine q_ret (by kernel_rfl) ?_
  refine ⟨(Value.bool (((matchK 2 ((termK 0 0 (l58.map EntP.key) 2).1) (l80.map EntP.key) 0 0 (l110.map EntP.key)).1.2.2) == 0)), retv_tmp rfl rfl, ?_⟩
  exact ⟨by rw [show (((matchK 2 ((termK 0 0 (l58.map EntP.key) 2).1) (l80.map EntP.key) 0 0 (l110.map EntP.key)).1.2.2) == 0) = true from beq_t (by rw [hc73, hc95, hc123] <;> kernel_rfl)], K0⟩
end Go.Proofs.Ytncjidepplaocaa
