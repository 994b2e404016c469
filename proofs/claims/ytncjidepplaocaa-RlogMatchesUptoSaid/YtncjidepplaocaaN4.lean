/- chapter 09: RlogMatches returns true -/
import Derived.Test.YtncjidepplaocaaProg
import Derived.Test.YtncjidepplaocaaKD
import Derived.Test.YtncjidepplaocaaKI
import Derived.Test.YtncjidepplaocaaKL
import Derived.Test.YtncjidepplaocaaKM
import Derived.Test.YtncjidepplaocaaMC
import Derived.Test.YtncjidepplaocaaLX
set_option linter.unusedVariables false
namespace Go.Proofs.Ytncjidepplaocaa
open Go.Q Go.RowKit

set_option maxHeartbeats 4000000 in
theorem Matches_calls (w : World) (T1 : Nat → Prop) (A1 : Option Addr) (c1 : Nat) (l1 : List EntP) (T2 : Nat → Prop) (A2 : Option Addr) (c2 : Nat) (l2 : List EntP) (T3 : Nat → Prop) (A3 : Option Addr) (c3 : Nat) (l3 : List EntP) (most : Int) (hE1 : Ents w T1 (.slice A1 l1.length c1) l1) (hBig1 : BigK (l1.map EntP.key)) (hs1 : l1.length ≤ 1048576) (hE2 : Ents w T2 (.slice A2 l2.length c2) l2) (hBig2 : BigK (l2.map EntP.key)) (hs2 : l2.length ≤ 1048576) (hE3 : Ents w T3 (.slice A3 l3.length c3) l3) (hBig3 : BigK (l3.map EntP.key)) (hs3 : l3.length ≤ 1048576) (hmo : -9223372036854775808 ≤ most ∧ most ≤ 9223372036854775807) : Calls Try.prog 3 ⟨[(Value.slice A1 l1.length c1), (Value.slice A2 l2.length c2), (Value.slice A3 l3.length c3), (i64 most)]⟩ w (fun e w' => e = .returned (.bool true) ∧ Keeps none_ w w') := by
 have hcap1 := Ents.len hE1
 have hcap2 := Ents.len hE2
 have hcap3 := Ents.len hE3
 have K0 : Keeps none_ w w := Keeps.refl w
 refine q_calls Try.func3 (by kernel_rfl) (by kernel_rfl) ?_
 refine qs ?_
 refine qg ?_
 refine og 1 [(0, (Value.slice A1 l1.length c1)), (1, (Value.slice A2 l2.length c2)), (2, (Value.slice A3 l3.length c3)), (3, (i64 most)), (8, (Value.bool false))] 1 ?_
 refine od ?_
 refine qs ?_
 refine qg ?_
 refine og 1 [(0, (Value.slice A1 l1.length c1)), (1, (Value.slice A2 l2.length c2)), (2, (Value.slice A3 l3.length c3)), (3, (i64 most)), (8, (Value.bool false)), (9, (Value.slice none 0 0))] 1 ?_
 refine od ?_
 refine qs ?_
 refine qg ?_
 refine og 2 [(0, (Value.slice A1 l1.length c1)), (1, (Value.slice A2 l2.length c2)), (2, (Value.slice A3 l3.length c3)), (3, (i64 most)), (8, (Value.bool false)), (9, (Value.slice none 0 0)), (30, (Value.slice none 0 0)), (31, (Value.slice A1 l1.length c1))] 2 ?_
 obtain ⟨v1, w2, hr3, hO4, hK5, hg6⟩ := OwnT.app (ty := 22) EntP.two EntP.one tyE (OwnT.nil _ w.heap.size 43 2 EntP.cells) (Ents.rd hE1) (by simp only [List.length_nil]; omega) (by simp only [List.length_nil]; omega) K0.size
 obtain ⟨A8, c9, rfl⟩ := RdT.form EntP.two (by decide) (OwnT.rd hO4)
 obtain ⟨l10, hl11⟩ : ∃ z, z = [] ++ l1 := ⟨_, rfl⟩
 rw [← hl11] at hr3 hO4 hg6
 have hn12 : l10.length = 0 + l1.length := by simp [hl11]
 have oo13 : ∀ i, ((Value.slice A8 l10.length c9)).ownBlock = some i → T1 i → False := fun i hs hi => by rcases hg6 i hs with h | h; (cases h); (have := Ents.lt hE1 i hi; omega)
 have oo14 : ∀ i, ((Value.slice A8 l10.length c9)).ownBlock = some i → T2 i → False := fun i hs hi => by rcases hg6 i hs with h | h; (cases h); (have := Ents.lt hE2 i hi; omega)
 have oo15 : ∀ i, ((Value.slice A8 l10.length c9)).ownBlock = some i → T3 i → False := fun i hs hi => by rcases hg6 i hs with h | h; (cases h); (have := Ents.lt hE3 i hi; omega)
 have K7 := Keeps.mono (U := none_) hK5 (fun _ _ h => by cases h)
 refine Ops.go (v := (Value.slice A8 l10.length c9)) (by kernel_rfl) (Runs.append (ts := #[22, 22]) (ty := 22) (vs := [(Value.slice none 0 0), (Value.slice A1 l1.length c1)]) (by kernel_rfl) hr3) (d := (some 32)) (by kernel_rfl) rfl ?_
 replace K0 := K0.t0 K7
 replace hE1 := Ents.keep0 hE1 K7
 replace hE2 := Ents.keep0 hE2 K7
 replace hE3 := Ents.keep0 hE3 K7
 clear K7 hr3 hK5 hg6
 refine og 1 [(0, (Value.slice A1 l1.length c1)), (1, (Value.slice A2 l2.length c2)), (2, (Value.slice A3 l3.length c3)), (3, (i64 most)), (8, (Value.bool false)), (9, (Value.slice A8 l10.length c9))] 4 ?_
 refine od ?_
 refine qs ?_
 refine qg ?_
 refine og 2 [(0, (Value.slice A1 l1.length c1)), (2, (Value.slice A3 l3.length c3)), (3, (i64 most)), (8, (Value.bool false)), (9, (Value.slice A8 l10.length c9)), (33, (Value.slice A8 l10.length c9)), (34, (Value.slice A2 l2.length c2))] 2 ?_
 obtain ⟨v16, w17, hr18, hO19, hK20, hg21⟩ := OwnT.app (ty := 22) EntP.two EntP.one tyE hO4 (Ents.rd hE2) (by omega) (by omega) K0.size
 obtain ⟨A23, c24, rfl⟩ := RdT.form EntP.two (by decide) (OwnT.rd hO19)
 obtain ⟨l25, hl26⟩ : ∃ z, z = l10 ++ l2 := ⟨_, rfl⟩
 rw [← hl26] at hr18 hO19 hg21
 have hn27 : l25.length = l10.length + l2.length := by simp [hl26]
 have oo28 : ∀ i, ((Value.slice A23 l25.length c24)).ownBlock = some i → T1 i → False := fun i hs hi => by rcases hg21 i hs with h | h; (exact oo13 i h hi); (have := Ents.lt hE1 i hi; omega)
 have oo29 : ∀ i, ((Value.slice A23 l25.length c24)).ownBlock = some i → T2 i → False := fun i hs hi => by rcases hg21 i hs with h | h; (exact oo14 i h hi); (have := Ents.lt hE2 i hi; omega)
 have oo30 : ∀ i, ((Value.slice A23 l25.length c24)).ownBlock = some i → T3 i → False := fun i hs hi => by rcases hg21 i hs with h | h; (exact oo15 i h hi); (have := Ents.lt hE3 i hi; omega)
 have K22 := hK20
 refine Ops.go (v := (Value.slice A23 l25.length c24)) (by kernel_rfl) (Runs.append (ts := #[22, 22]) (ty := 22) (vs := [(Value.slice A8 l10.length c9), (Value.slice A2 l2.length c2)]) (by kernel_rfl) hr18) (d := (some 35)) (by kernel_rfl) rfl ?_
 replace K0 := K0.trans K22 (U := none_) (fun i h1 h2 => h2) (fun i h1 h2 => by have h2 : ((Value.slice A8 l10.length c9)).ownBlock = some i := h2; exfalso; have := (World.ownsRow.lt hO4 i h2).1; omega)
 replace hE1 := Ents.keep hE1 K22 (fun i hi hs => by have hs : ((Value.slice A8 l10.length c9)).ownBlock = some i := hs; exact oo13 i hs hi)
 replace hE2 := Ents.keep hE2 K22 (fun i hi hs => by have hs : ((Value.slice A8 l10.length c9)).ownBlock = some i := hs; exact oo14 i hs hi)
 replace hE3 := Ents.keep hE3 K22 (fun i hi hs => by have hs : ((Value.slice A8 l10.length c9)).ownBlock = some i := hs; exact oo15 i hs hi)
 clear hO4
 clear K22 hr18 hK20 hg21
 have hE31 := Ents.join2 hO19 hl11 hl26 hE1 hE2
 have hK32 : (l25.map EntP.key) = (l1.map EntP.key) ++ (l2.map EntP.key) := by rw [hl26, hl11, List.map_append]; rfl
 clear hO19
 refine og 1 [(0, (Value.slice A1 l1.length c1)), (2, (Value.slice A3 l3.length c3)), (3, (i64 most)), (8, (Value.bool false)), (9, (Value.slice A23 l25.length c24))] 4 ?_
 refine od ?_
 refine qs ?_
 refine qg ?_
 refine og 1 [(0, (Value.slice A1 l1.length c1)), (2, (Value.slice A3 l3.length c3)), (3, (i64 most)), (8, (Value.bool false)), (9, (Value.slice A23 l25.length c24)), (10, (Value.slice none 0 0))] 1 ?_
 refine od ?_
 refine qs ?_
 refine qg ?_
 refine og 2 [(0, (Value.slice A1 l1.length c1)), (2, (Value.slice A3 l3.length c3)), (3, (i64 most)), (8, (Value.bool false)), (9, (Value.slice A23 l25.length c24)), (10, (Value.slice none 0 0)), (36, (Value.slice none 0 0)), (37, (Value.slice A1 l1.length c1))] 2 ?_
 obtain ⟨v34, w35, hr36, hO37, hK38, hg39⟩ := OwnT.app (ty := 22) EntP.two EntP.one tyE (OwnT.nil _ w.heap.size 43 2 EntP.cells) (Ents.rd hE1) (by simp only [List.length_nil]; omega) (by simp only [List.length_nil]; omega) K0.size
 obtain ⟨A41, c42, rfl⟩ := RdT.form EntP.two (by decide) (OwnT.rd hO37)
 obtain ⟨l43, hl44⟩ : ∃ z, z = [] ++ l1 := ⟨_, rfl⟩
 rw [← hl44] at hr36 hO37 hg39
 have hn45 : l43.length = 0 + l1.length := by simp [hl44]
 have oo46 : ∀ i, ((Value.slice A41 l43.length c42)).ownBlock = some i → T1 i → False := fun i hs hi => by rcases hg39 i hs with h | h; (cases h); (have := Ents.lt hE1 i hi; omega)
 have oo47 : ∀ i, ((Value.slice A41 l43.length c42)).ownBlock = some i → T2 i → False := fun i hs hi => by rcases hg39 i hs with h | h; (cases h); (have := Ents.lt hE2 i hi; omega)
 have oo48 : ∀ i, ((Value.slice A41 l43.length c42)).ownBlock = some i → T3 i → False := fun i hs hi => by rcases hg39 i hs with h | h; (cases h); (have := Ents.lt hE3 i hi; omega)
 have oo49 : ∀ i, ((Value.slice A41 l43.length c42)).ownBlock = some i → (fun i => (T1 i ∨ T2 i ∨ ((Value.slice A23 l25.length c24)).ownBlock = some i) ∧ i < w17.heap.size) i → False := fun i hs hi => by rcases hg39 i hs with h | h; (cases h); (have := Ents.lt hE31 i hi; omega)
 have K40 := Keeps.mono (U := none_) hK38 (fun _ _ h => by cases h)
 refine Ops.go (v := (Value.slice A41 l43.length c42)) (by kernel_rfl) (Runs.append (ts := #[22, 22]) (ty := 22) (vs := [(Value.slice none 0 0), (Value.slice A1 l1.length c1)]) (by kernel_rfl) hr36) (d := (some 38)) (by kernel_rfl) rfl ?_
 replace K0 := K0.t0 K40
 replace hE1 := Ents.keep0 hE1 K40
 replace hE2 := Ents.keep0 hE2 K40
 replace hE3 := Ents.keep0 hE3 K40
 replace hE31 := Ents.keep0 hE31 K40
 clear K40 hr36 hK38 hg39
 refine og 1 [(0, (Value.slice A1 l1.length c1)), (2, (Value.slice A3 l3.length c3)), (3, (i64 most)), (8, (Value.bool false)), (9, (Value.slice A23 l25.length c24)), (10, (Value.slice A41 l43.length c42))] 4 ?_
 refine od ?_
 refine qs ?_
 refine qg ?_
 refine og 2 [(0, (Value.slice A1 l1.length c1)), (3, (i64 most)), (8, (Value.bool false)), (9, (Value.slice A23 l25.length c24)), (10, (Value.slice A41 l43.length c42)), (39, (Value.slice A41 l43.length c42)), (40, (Value.slice A3 l3.length c3))] 2 ?_
 obtain ⟨v50, w51, hr52, hO53, hK54, hg55⟩ := OwnT.app (ty := 22) EntP.two EntP.one tyE hO37 (Ents.rd hE3) (by omega) (by omega) K0.size
 obtain ⟨A57, c58, rfl⟩ := RdT.form EntP.two (by decide) (OwnT.rd hO53)
 obtain ⟨l59, hl60⟩ : ∃ z, z = l43 ++ l3 := ⟨_, rfl⟩
 rw [← hl60] at hr52 hO53 hg55
 have hn61 : l59.length = l43.length + l3.length := by simp [hl60]
 have oo62 : ∀ i, ((Value.slice A57 l59.length c58)).ownBlock = some i → T1 i → False := fun i hs hi => by rcases hg55 i hs with h | h; (exact oo46 i h hi); (have := Ents.lt hE1 i hi; omega)
 have oo63 : ∀ i, ((Value.slice A57 l59.length c58)).ownBlock = some i → T2 i → False := fun i hs hi => by rcases hg55 i hs with h | h; (exact oo47 i h hi); (have := Ents.lt hE2 i hi; omega)
 have oo64 : ∀ i, ((Value.slice A57 l59.length c58)).ownBlock = some i → T3 i → False := fun i hs hi => by rcases hg55 i hs with h | h; (exact oo48 i h hi); (have := Ents.lt hE3 i hi; omega)
 have oo65 : ∀ i, ((Value.slice A57 l59.length c58)).ownBlock = some i → (fun i => (T1 i ∨ T2 i ∨ ((Value.slice A23 l25.length c24)).ownBlock = some i) ∧ i < w17.heap.size) i → False := fun i hs hi => by rcases hg55 i hs with h | h; (exact oo49 i h hi); (have := Ents.lt hE31 i hi; omega)
 have K56 := hK54
 refine Ops.go (v := (Value.slice A57 l59.length c58)) (by kernel_rfl) (Runs.append (ts := #[22, 22]) (ty := 22) (vs := [(Value.slice A41 l43.length c42), (Value.slice A3 l3.length c3)]) (by kernel_rfl) hr52) (d := (some 41)) (by kernel_rfl) rfl ?_
 replace K0 := K0.trans K56 (U := none_) (fun i h1 h2 => h2) (fun i h1 h2 => by have h2 : ((Value.slice A41 l43.length c42)).ownBlock = some i := h2; exfalso; have := (World.ownsRow.lt hO37 i h2).1; omega)
 replace hE1 := Ents.keep hE1 K56 (fun i hi hs => by have hs : ((Value.slice A41 l43.length c42)).ownBlock = some i := hs; exact oo46 i hs hi)
 replace hE2 := Ents.keep hE2 K56 (fun i hi hs => by have hs : ((Value.slice A41 l43.length c42)).ownBlock = some i := hs; exact oo47 i hs hi)
 replace hE3 := Ents.keep hE3 K56 (fun i hi hs => by have hs : ((Value.slice A41 l43.length c42)).ownBlock = some i := hs; exact oo48 i hs hi)
 replace hE31 := Ents.keep hE31 K56 (fun i hi hs => by have hs : ((Value.slice A41 l43.length c42)).ownBlock = some i := hs; exact oo49 i hs hi)
 clear hO37
 clear K56 hr52 hK54 hg55
 have hE66 := Ents.join2 hO53 hl44 hl60 hE1 hE3
 have hK67 : (l59.map EntP.key) = (l1.map EntP.key) ++ (l3.map EntP.key) := by rw [hl60, hl44, List.map_append]; rfl
 clear hO53
 refine og 1 [(0, (Value.slice A1 l1.length c1)), (3, (i64 most)), (8, (Value.bool false)), (9, (Value.slice A23 l25.length c24)), (10, (Value.slice A57 l59.length c58))] 4 ?_
 refine od ?_
 refine qs ?_
 refine qg ?_
 refine og 1 [(0, (Value.slice A1 l1.length c1)), (3, (i64 most)), (8, (Value.bool false)), (9, (Value.slice A23 l25.length c24)), (10, (Value.slice A57 l59.length c58)), (43, (Value.slice A23 l25.length c24))] 1 ?_
 by_cases hq69 : newE 0 0 (l25.map EntP.key) = 0
 ·skip
  refine Ops.call (by kernel_rfl) (d := (some 44)) (by kernel_rfl) (New_ok _ (fun i => (T1 i ∨ T2 i ∨ ((Value.slice A23 l25.length c24)).ownBlock = some i) ∧ i < w17.heap.size) 0 0 A23 c24 l25 hE31 (BigK.keys hK32 (BigK.app hBig1 hBig2)) hq69) ?_
  rintro _ w74 ⟨g70, l71, A72, c73, rfl, hg79, K75, H76, hE77, hK78⟩
  have ot80 : ∀ i, T1 i → i ≠ g70 := fun i hi => by have := Ents.lt hE1 i hi; omega
  have ot81 : ∀ i, T2 i → i ≠ g70 := fun i hi => by have := Ents.lt hE2 i hi; omega
  have ot82 : ∀ i, T3 i → i ≠ g70 := fun i hi => by have := Ents.lt hE3 i hi; omega
  have ot83 : ∀ i, (fun i => (T1 i ∨ T2 i ∨ ((Value.slice A23 l25.length c24)).ownBlock = some i) ∧ i < w17.heap.size) i → i ≠ g70 := fun i hi => by have := Ents.lt hE31 i hi; omega
  have ot84 : ∀ i, (fun i => (T1 i ∨ T3 i ∨ ((Value.slice A57 l59.length c58)).ownBlock = some i) ∧ i < w51.heap.size) i → i ≠ g70 := fun i hi => by have := Ents.lt hE66 i hi; omega
  have ot85 : ∀ i, (fun i => (w51.heap.size ≤ i ∧ i < w74.heap.size) ∧ i ≠ g70) i → i ≠ g70 := fun i hi => hi.2
  have ng70 : w.heap.size ≤ g70 := by have := K0.size; omega
  have hn86 := keys_len2 hK78
  try rw [List.length_drop] at hn86
  try rw [List.length_append] at hn86
  try rw [List.length_map] at hn86
  try rw [List.length_map] at hn86
  refine ⟨_, _, rfl, rfl, ?_⟩
  replace K0 := K0.t0 K75
  replace hE1 := Ents.keep0 hE1 K75
  replace hE2 := Ents.keep0 hE2 K75
  replace hE3 := Ents.keep0 hE3 K75
  replace hE31 := Ents.keep0 hE31 K75
  replace hE66 := Ents.keep0 hE66 K75
  clear K75
  refine og 5 [(0, (Value.slice A1 l1.length c1)), (3, (i64 most)), (8, (Value.bool false)), (9, (Value.slice A23 l25.length c24)), (10, (Value.slice A57 l59.length c58)), (11, (ptr g70)), (12, (i64 0))] 7 ?_
  refine od ?_
  refine qs ?_
  refine qg ?_
  refine og 1 [(0, (Value.slice A1 l1.length c1)), (3, (i64 most)), (8, (Value.bool false)), (9, (Value.slice A23 l25.length c24)), (10, (Value.slice A57 l59.length c58)), (11, (ptr g70)), (12, (i64 0)), (48, (Value.slice A57 l59.length c58))] 1 ?_
  by_cases hq87 : newE 0 0 (l59.map EntP.key) = 0
  ·skip
   refine Ops.call (by kernel_rfl) (d := (some 49)) (by kernel_rfl) (New_ok _ (fun i => (T1 i ∨ T3 i ∨ ((Value.slice A57 l59.length c58)).ownBlock = some i) ∧ i < w51.heap.size) 0 0 A57 c58 l59 hE66 (BigK.keys hK67 (BigK.app hBig1 hBig3)) hq87) ?_
   rintro _ w92 ⟨g88, l89, A90, c91, rfl, hg97, K93, H94, hE95, hK96⟩
   have ot98 : ∀ i, (fun i => (w74.heap.size ≤ i ∧ i < w92.heap.size) ∧ i ≠ g88) i → i ≠ g70 := fun i hi => by have := hi.1.1; have := H76.lt; omega
   have lg88g70 : g70 < g88 := by have := H76.lt; omega
   have ot99 : ∀ i, T1 i → i ≠ g88 := fun i hi => by have := Ents.lt hE1 i hi; omega
   have ot100 : ∀ i, T2 i → i ≠ g88 := fun i hi => by have := Ents.lt hE2 i hi; omega
   have ot101 : ∀ i, T3 i → i ≠ g88 := fun i hi => by have := Ents.lt hE3 i hi; omega
   have ot102 : ∀ i, (fun i => (T1 i ∨ T2 i ∨ ((Value.slice A23 l25.length c24)).ownBlock = some i) ∧ i < w17.heap.size) i → i ≠ g88 := fun i hi => by have := Ents.lt hE31 i hi; omega
   have ot103 : ∀ i, (fun i => (T1 i ∨ T3 i ∨ ((Value.slice A57 l59.length c58)).ownBlock = some i) ∧ i < w51.heap.size) i → i ≠ g88 := fun i hi => by have := Ents.lt hE66 i hi; omega
   have ot104 : ∀ i, (fun i => (w51.heap.size ≤ i ∧ i < w74.heap.size) ∧ i ≠ g70) i → i ≠ g88 := fun i hi => by have := Ents.lt hE77 i hi; omega
   have ot105 : ∀ i, (fun i => (w74.heap.size ≤ i ∧ i < w92.heap.size) ∧ i ≠ g88) i → i ≠ g88 := fun i hi => hi.2
   have ng88 : w.heap.size ≤ g88 := by have := K0.size; omega
   have hn106 := keys_len2 hK96
   try rw [List.length_drop] at hn106
   try rw [List.length_append] at hn106
   try rw [List.length_map] at hn106
   try rw [List.length_map] at hn106
   refine ⟨_, _, rfl, rfl, ?_⟩
   replace K0 := K0.t0 K93
   replace H76 := H76.keep K93 (fun h => h)
   replace hE1 := Ents.keep0 hE1 K93
   replace hE2 := Ents.keep0 hE2 K93
   replace hE3 := Ents.keep0 hE3 K93
   replace hE31 := Ents.keep0 hE31 K93
   replace hE66 := Ents.keep0 hE66 K93
   replace hE77 := Ents.keep0 hE77 K93
   clear K93
   refine og 5 [(0, (Value.slice A1 l1.length c1)), (3, (i64 most)), (8, (Value.bool false)), (9, (Value.slice A23 l25.length c24)), (10, (Value.slice A57 l59.length c58)), (11, (ptr g70)), (12, (i64 0)), (13, (ptr g88)), (14, (i64 0))] 7 ?_
   refine od ?_
   refine qs ?_
   refine qs ?_
   refine qg ?_
   refine og 12 [(0, (Value.slice A1 l1.length c1)), (3, (i64 most)), (8, (Value.bool false)), (10, (Value.slice A57 l59.length c58)), (11, (ptr g70)), (13, (ptr g88)), (63, (Value.bool (decide (((l25.length : Nat) : Int) > 60))))] 12 ?_
   refine Ops.split (decide (((l25.length : Nat) : Int) > 60)) (fun h107 => ?_) (fun h107 => ?_)
   ·rw [h107]
    have p108 : ((l25.length : Nat) : Int) > 60 := of_decide_eq_true h107
    refine og 4 [(0, (Value.slice A1 l1.length c1)), (3, (i64 most)), (8, (Value.bool false)), (11, (ptr g70)), (13, (ptr g88)), (67, (Value.bool true))] 16 ?_
    refine od ?_
    refine q_then (o := .tmp 67) (by kernel_rfl) rfl ?_
    refine qs ?_
    refine qg ?_
    refine Ops.call (by kernel_rfl) (d := (some 68)) (by kernel_rfl) (known_calls _) ?_
    rintro _ w110 ⟨rfl, K109⟩
    refine ⟨_, _, rfl, rfl, ?_⟩
    replace K0 := K0.t0 K109
    replace H76 := H76.keep K109 (fun h => h)
    replace H94 := H94.keep K109 (fun h => h)
    replace hE1 := Ents.keep0 hE1 K109
    replace hE2 := Ents.keep0 hE2 K109
    replace hE3 := Ents.keep0 hE3 K109
    replace hE31 := Ents.keep0 hE31 K109
    replace hE66 := Ents.keep0 hE66 K109
    replace hE77 := Ents.keep0 hE77 K109
    replace hE95 := Ents.keep0 hE95 K109
    clear K109
    refine og 1 [(0, (Value.slice A1 l1.length c1)), (3, (i64 most)), (8, (Value.bool true)), (11, (ptr g70)), (13, (ptr g88))] 2 ?_
    refine od ?_
    refine q_ret (by kernel_rfl) ?_
    refine ⟨(Value.bool true), retv_tmp rfl rfl, ?_⟩
    exact ⟨rfl, K0⟩
   ·rw [h107]
    have p111 : ¬ (((l25.length : Nat) : Int) > 60) := of_decide_eq_false h107
    refine og 4 [(0, (Value.slice A1 l1.length c1)), (3, (i64 most)), (8, (Value.bool false)), (11, (ptr g70)), (13, (ptr g88)), (67, (Value.bool (decide (((l59.length : Nat) : Int) > 60))))] 16 ?_
    refine od ?_
    refine q_cond (o := .tmp 67) (b := (decide (((l59.length : Nat) : Int) > 60))) (by kernel_rfl) rfl (fun h112 => ?_) (fun h112 => ?_)
    ·rw [h112]
     have p113 : ((l59.length : Nat) : Int) > 60 := of_decide_eq_true h112
     refine qs ?_
     refine qg ?_
     refine Ops.call (by kernel_rfl) (d := (some 68)) (by kernel_rfl) (known_calls _) ?_
     rintro _ w115 ⟨rfl, K114⟩
     refine ⟨_, _, rfl, rfl, ?_⟩
     replace K0 := K0.t0 K114
     replace H76 := H76.keep K114 (fun h => h)
     replace H94 := H94.keep K114 (fun h => h)
     replace hE1 := Ents.keep0 hE1 K114
     replace hE2 := Ents.keep0 hE2 K114
     replace hE3 := Ents.keep0 hE3 K114
     replace hE31 := Ents.keep0 hE31 K114
     replace hE66 := Ents.keep0 hE66 K114
     replace hE77 := Ents.keep0 hE77 K114
     replace hE95 := Ents.keep0 hE95 K114
     clear K114
     refine og 1 [(0, (Value.slice A1 l1.length c1)), (3, (i64 most)), (8, (Value.bool true)), (11, (ptr g70)), (13, (ptr g88))] 2 ?_
     refine od ?_
     refine q_ret (by kernel_rfl) ?_
     refine ⟨(Value.bool true), retv_tmp rfl rfl, ?_⟩
     exact ⟨rfl, K0⟩
    ·rw [h112]
     have p116 : ¬ (((l59.length : Nat) : Int) > 60) := of_decide_eq_false h112
     refine q_skip (by kernel_rfl) ?_
     refine qs ?_
     refine qs ?_
     refine qg ?_
     refine og 6 [(0, (Value.slice A1 l1.length c1)), (3, (i64 most)), (8, (Value.bool false)), (11, (ptr g70)), (13, (ptr g88)), (74, (Value.bool false))] 6 ?_
     refine od ?_
     refine q_else (o := .tmp 74) (by kernel_rfl) rfl ?_
     refine q_skip (by kernel_rfl) ?_
     refine qs ?_
     refine qg ?_
     refine og 3 [(3, (i64 most)), (8, (Value.bool false)), (11, (ptr g70)), (13, (ptr g88)), (15, (i64 ((l1.length : Nat) : Int)))] 3 ?_
     refine od ?_
     refine qs ?_
     refine qg ?_
     refine og 2 [(3, (i64 most)), (8, (Value.bool false)), (11, (ptr g70)), (13, (ptr g88)), (15, (i64 ((l1.length : Nat) : Int))), (78, (ptr g88)), (79, (i64 ((l1.length : Nat) : Int)))] 2 ?_
     refine Ops.call (by kernel_rfl) (d := (some 80)) (by kernel_rfl) (Term_calls _ (fun i => (w74.heap.size ≤ i ∧ i < w92.heap.size) ∧ i ≠ g88) g88 0 0 A90 c91 l89 ((l1.length : Nat) : Int) H94 hE95 ot105 (by omega) (by omega) (by omega)) ?_
     rintro _ w118 ⟨rfl, K117⟩
     have htr119 := termK_range (n := ((l1.length : Nat) : Int)) (show newE 0 0 (l89.map EntP.key) = 0 by rw [hK96]; exact hq87)
     refine ⟨_, _, rfl, rfl, ?_⟩
     replace K0 := K0.t0 K117
     replace H76 := H76.keep K117 (fun h => h)
     replace H94 := H94.keep K117 (fun h => h)
     replace hE1 := Ents.keep0 hE1 K117
     replace hE2 := Ents.keep0 hE2 K117
     replace hE3 := Ents.keep0 hE3 K117
     replace hE31 := Ents.keep0 hE31 K117
     replace hE66 := Ents.keep0 hE66 K117
     replace hE77 := Ents.keep0 hE77 K117
     replace hE95 := Ents.keep0 hE95 K117
     clear K117
     refine og 5 [(3, (i64 most)), (8, (Value.bool false)), (11, (ptr g70)), (13, (ptr g88)), (15, (i64 ((l1.length : Nat) : Int))), (16, (i64 ((termK 0 0 (l89.map EntP.key) ((l1.length : Nat) : Int)).1)))] 8 ?_
     refine od ?_
     refine qs ?_
     refine qg ?_
     refine og 3 [(3, (i64 most)), (8, (Value.bool false)), (11, (ptr g70)), (13, (ptr g88)), (15, (i64 ((l1.length : Nat) : Int))), (16, (i64 ((termK 0 0 (l89.map EntP.key) ((l1.length : Nat) : Int)).1))), (83, (ptr g88)), (85, (i64 (IntKind.i64.wrap (((l1.length : Nat) : Int) + 1))))] 3 ?_
     have e120 : IntKind.i64.wrap (((l1.length : Nat) : Int) + 1) = ((l1.length : Nat) : Int) + 1 := wrap_i64 (by omega) (by omega)
     rw [e120]
     refine og 1 [(8, (Value.bool false)), (11, (ptr g70)), (13, (ptr g88)), (15, (i64 ((l1.length : Nat) : Int))), (16, (i64 ((termK 0 0 (l89.map EntP.key) ((l1.length : Nat) : Int)).1))), (83, (ptr g88)), (85, (i64 (((l1.length : Nat) : Int) + 1))), (86, (i64 most))] 4 ?_
     have hp121 := partK_len 0 (l89.map EntP.key) (((l1.length : Nat) : Int) + 1) most
     rw [List.length_map] at hp121
     refine Ops.call (by kernel_rfl) (d := (some 87)) (by kernel_rfl) (Part_calls _ (fun i => (w74.heap.size ≤ i ∧ i < w92.heap.size) ∧ i ≠ g88) g88 0 0 A90 c91 l89 (((l1.length : Nat) : Int) + 1) most H94 hE95 ot105 (by omega) (by omega) (by omega) (by omega) (BigK.keys hK96 (BigK.keys hK67 (BigK.app hBig1 hBig3)))) ?_
     rintro _ w125 ⟨l122, A123, c124, rfl, K126, hE127, hK128⟩
     have ot129 : ∀ i, (fun i => w118.heap.size ≤ i ∧ i < w125.heap.size) i → i ≠ g70 := fun i hi => by have := hi.1; have := H76.lt; omega
     have ot130 : ∀ i, (fun i => w118.heap.size ≤ i ∧ i < w125.heap.size) i → i ≠ g88 := fun i hi => by have := hi.1; have := H94.lt; omega
     have hz131 := K0.size
     have hn132 := keys_len2 hK128
     try rw [List.length_drop] at hn132
     try rw [List.length_append] at hn132
     try rw [List.length_map] at hn132
     try rw [List.length_map] at hn132
     refine ⟨_, _, rfl, rfl, ?_⟩
     replace K0 := K0.t0 K126
     replace H76 := H76.keep K126 (fun h => h)
     replace H94 := H94.keep K126 (fun h => h)
     replace hE1 := Ents.keep0 hE1 K126
     replace hE2 := Ents.keep0 hE2 K126
     replace hE3 := Ents.keep0 hE3 K126
     replace hE31 := Ents.keep0 hE31 K126
     replace hE66 := Ents.keep0 hE66 K126
     replace hE77 := Ents.keep0 hE77 K126
     replace hE95 := Ents.keep0 hE95 K126
     clear K126
     refine og 1 [(8, (Value.bool false)), (11, (ptr g70)), (13, (ptr g88)), (15, (i64 ((l1.length : Nat) : Int))), (16, (i64 ((termK 0 0 (l89.map EntP.key) ((l1.length : Nat) : Int)).1))), (18, (Value.slice A123 l122.length c124))] 6 ?_
     refine od ?_
     refine qs ?_
     refine qg ?_
     refine og 4 [(8, (Value.bool false)), (11, (ptr g70)), (13, (ptr g88)), (15, (i64 ((l1.length : Nat) : Int))), (16, (i64 ((termK 0 0 (l89.map EntP.key) ((l1.length : Nat) : Int)).1))), (18, (Value.slice A123 l122.length c124)), (89, (ptr g70)), (90, (i64 ((l1.length : Nat) : Int))), (91, (i64 ((termK 0 0 (l89.map EntP.key) ((l1.length : Nat) : Int)).1))), (92, (Value.slice A123 l122.length c124))] 4 ?_
     refine Ops.call (by kernel_rfl) (d := (some 93)) (by kernel_rfl) (Match_calls _ (fun i => (w51.heap.size ≤ i ∧ i < w74.heap.size) ∧ i ≠ g70) g70 0 0 A72 c73 l71 ((l1.length : Nat) : Int) ((termK 0 0 (l89.map EntP.key) ((l1.length : Nat) : Int)).1) (fun i => w118.heap.size ≤ i ∧ i < w125.heap.size) A123 c124 l122 H76 hE77 ot85 (by omega) (by omega) (by omega) (by omega) hE127 ot129 (BigK.keys hK78 (BigK.keys hK32 (BigK.app hBig1 hBig2))) (BigK.keys hK128 (BigK.part 0 (((l1.length : Nat) : Int) + 1) most (BigK.keys hK96 (BigK.keys hK67 (BigK.app hBig1 hBig3))))) (by omega)) ?_
     rintro _ w137 ⟨l133, A134, c135, T136, rfl, K138, H139, hE140, hK141, hT142⟩
     have ot143 : ∀ i, T136 i → i ≠ g70 := fun i hi => (hT142 i hi).1
     have ot144 : ∀ i, T136 i → i ≠ g88 := fun i hi => by rcases (hT142 i hi).2 with h | h; (exact ot104 i h); (have := H94.lt; omega)
     have hn145 := keys_len2 hK141
     try rw [List.length_drop] at hn145
     try rw [List.length_append] at hn145
     try rw [List.length_map] at hn145
     try rw [List.length_map] at hn145
     have hz146 := K0.size
     have hml147 := matchK_len (base := 0) (old := 0) (n := ((l1.length : Nat) : Int)) (t := (termK 0 0 (l89.map EntP.key) ((l1.length : Nat) : Int)).1) (ks := (l71.map EntP.key)) (ys := (l122.map EntP.key)) (by rw [List.length_map]; omega)
     refine ⟨_, _, rfl, rfl, ?_⟩
     replace K0 := K0.trans K138 (U := none_) (fun i h1 h2 => h2) (fun i h1 h2 => by have h2 : i = g70 := h2; exfalso; omega)
     replace H94 := H94.keep K138 (by intro h; change g88 = g70 at h; omega)
     replace hE1 := Ents.keep hE1 K138 (fun i hi hs => by have hs : i = g70 := hs; have := ot80 i hi; omega)
     replace hE2 := Ents.keep hE2 K138 (fun i hi hs => by have hs : i = g70 := hs; have := ot81 i hi; omega)
     replace hE3 := Ents.keep hE3 K138 (fun i hi hs => by have hs : i = g70 := hs; have := ot82 i hi; omega)
     replace hE31 := Ents.keep hE31 K138 (fun i hi hs => by have hs : i = g70 := hs; have := ot83 i hi; omega)
     replace hE66 := Ents.keep hE66 K138 (fun i hi hs => by have hs : i = g70 := hs; have := ot84 i hi; omega)
     replace hE77 := Ents.keep hE77 K138 (fun i hi hs => by have hs : i = g70 := hs; have := ot85 i hi; omega)
     replace hE95 := Ents.keep hE95 K138 (fun i hi hs => by have hs : i = g70 := hs; have := ot98 i hi; omega)
     replace hE127 := Ents.keep hE127 K138 (fun i hi hs => by have hs : i = g70 := hs; have := ot129 i hi; omega)
     clear K138
     refine og 7 [(8, (Value.bool false)), (11, (ptr g70)), (13, (ptr g88)), (15, (i64 ((l1.length : Nat) : Int))), (16, (i64 ((termK 0 0 (l89.map EntP.key) ((l1.length : Nat) : Int)).1))), (18, (Value.slice A123 l122.length c124)), (19, (i64 ((matchK 0 0 (l71.map EntP.key) ((l1.length : Nat) : Int) ((termK 0 0 (l89.map EntP.key) ((l1.length : Nat) : Int)).1) (l122.map EntP.key)).1.1))), (21, (i64 ((matchK 0 0 (l71.map EntP.key) ((l1.length : Nat) : Int) ((termK 0 0 (l89.map EntP.key) ((l1.length : Nat) : Int)).1) (l122.map EntP.key)).1.2.2)))] 12 ?_
     refine od ?_
     refine qs ?_
     refine qs ?_
     refine qg ?_
     refine og 2 [(8, (Value.bool false)), (11, (ptr g70)), (13, (ptr g88)), (15, (i64 ((l1.length : Nat) : Int))), (16, (i64 ((termK 0 0 (l89.map EntP.key) ((l1.length : Nat) : Int)).1))), (18, (Value.slice A123 l122.length c124)), (19, (i64 ((matchK 0 0 (l71.map EntP.key) ((l1.length : Nat) : Int) ((termK 0 0 (l89.map EntP.key) ((l1.length : Nat) : Int)).1) (l122.map EntP.key)).1.1))), (21, (i64 ((matchK 0 0 (l71.map EntP.key) ((l1.length : Nat) : Int) ((termK 0 0 (l89.map EntP.key) ((l1.length : Nat) : Int)).1) (l122.map EntP.key)).1.2.2))), (98, (Value.bool (((matchK 0 0 (l71.map EntP.key) ((l1.length : Nat) : Int) ((termK 0 0 (l89.map EntP.key) ((l1.length : Nat) : Int)).1) (l122.map EntP.key)).1.2.2) != 0)))] 2 ?_
     refine od ?_
     have hM : MatchLaw (l71.map EntP.key) (l89.map EntP.key) ((l1.length : Nat) : Int) (termK 0 0 (l89.map EntP.key) ((l1.length : Nat) : Int)).1 (l122.map EntP.key) := by
      rw [hK128, hK96, hK78, hK32, hK67]
      have q := matches_law (s := (l1.map EntP.key)) (a := (l2.map EntP.key)) (b := (l3.map EntP.key)) (most := most) (by rw [← hK32]; exact hq69) (by rw [← hK67]; exact hq87) (by rw [List.length_append, List.length_map, List.length_map]; omega) (by rw [List.length_append, List.length_map, List.length_map]; omega)
      rw [List.length_map] at q
      exact q
     refine q_cond (o := .tmp 98) (b := (((matchK 0 0 (l71.map EntP.key) ((l1.length : Nat) : Int) ((termK 0 0 (l89.map EntP.key) ((l1.length : Nat) : Int)).1) (l122.map EntP.key)).1.2.2) != 0)) (by kernel_rfl) rfl (fun h148 => ?_) (fun h148 => ?_)
     ·rw [h148]
      have p149 : ¬ ((matchK 0 0 (l71.map EntP.key) ((l1.length : Nat) : Int) ((termK 0 0 (l89.map EntP.key) ((l1.length : Nat) : Int)).1) (l122.map EntP.key)).1.2.2 = 0) := of_bne_t h148
      refine qs ?_
      refine qg ?_
      refine og 3 [(8, (Value.bool false)), (11, (ptr g70)), (13, (ptr g88)), (15, (i64 ((l1.length : Nat) : Int))), (16, (i64 ((termK 0 0 (l89.map EntP.key) ((l1.length : Nat) : Int)).1))), (18, (Value.slice A123 l122.length c124)), (19, (i64 ((matchK 0 0 (l71.map EntP.key) ((l1.length : Nat) : Int) ((termK 0 0 (l89.map EntP.key) ((l1.length : Nat) : Int)).1) (l122.map EntP.key)).1.1))), (101, (Value.bool (((matchK 0 0 (l71.map EntP.key) ((l1.length : Nat) : Int) ((termK 0 0 (l89.map EntP.key) ((l1.length : Nat) : Int)).1) (l122.map EntP.key)).1.2.2) == 1)))] 3 ?_
      have h150 : (((matchK 0 0 (l71.map EntP.key) ((l1.length : Nat) : Int) ((termK 0 0 (l89.map EntP.key) ((l1.length : Nat) : Int)).1) (l122.map EntP.key)).1.2.2) == 1) = true := beq_t (by rcases hM.err with h | h; exact absurd h p149; exact h)
      rw [h150]
      refine Ops.call (by kernel_rfl) (d := (some 102)) (by kernel_rfl) (known_calls _) ?_
      rintro _ w152 ⟨rfl, K151⟩
      refine ⟨_, _, rfl, rfl, ?_⟩
      replace K0 := K0.t0 K151
      replace H139 := H139.keep K151 (fun h => h)
      replace H94 := H94.keep K151 (fun h => h)
      replace hE1 := Ents.keep0 hE1 K151
      replace hE2 := Ents.keep0 hE2 K151
      replace hE3 := Ents.keep0 hE3 K151
      replace hE31 := Ents.keep0 hE31 K151
      replace hE66 := Ents.keep0 hE66 K151
      replace hE77 := Ents.keep0 hE77 K151
      replace hE95 := Ents.keep0 hE95 K151
      replace hE127 := Ents.keep0 hE127 K151
      replace hE140 := Ents.keep0 hE140 K151
      clear K151
      refine og 2 [(8, (Value.bool true)), (11, (ptr g70)), (13, (ptr g88)), (15, (i64 ((l1.length : Nat) : Int))), (16, (i64 ((termK 0 0 (l89.map EntP.key) ((l1.length : Nat) : Int)).1))), (18, (Value.slice A123 l122.length c124)), (19, (i64 ((matchK 0 0 (l71.map EntP.key) ((l1.length : Nat) : Int) ((termK 0 0 (l89.map EntP.key) ((l1.length : Nat) : Int)).1) (l122.map EntP.key)).1.1)))] 6 ?_
      refine od ?_
      refine q_ret (by kernel_rfl) ?_
      refine ⟨(Value.bool true), retv_tmp rfl rfl, ?_⟩
      exact ⟨rfl, K0⟩
     ·rw [h148]
      have p153 : (matchK 0 0 (l71.map EntP.key) ((l1.length : Nat) : Int) ((termK 0 0 (l89.map EntP.key) ((l1.length : Nat) : Int)).1) (l122.map EntP.key)).1.2.2 = 0 := of_bne_f h148
      refine q_skip (by kernel_rfl) ?_
      refine qs ?_
      refine qs ?_
      refine qg ?_
      refine og 5 [(8, (Value.bool false)), (11, (ptr g70)), (13, (ptr g88)), (15, (i64 ((l1.length : Nat) : Int))), (16, (i64 ((termK 0 0 (l89.map EntP.key) ((l1.length : Nat) : Int)).1))), (18, (Value.slice A123 l122.length c124)), (19, (i64 ((matchK 0 0 (l71.map EntP.key) ((l1.length : Nat) : Int) ((termK 0 0 (l89.map EntP.key) ((l1.length : Nat) : Int)).1) (l122.map EntP.key)).1.1))), (104, (i64 ((matchK 0 0 (l71.map EntP.key) ((l1.length : Nat) : Int) ((termK 0 0 (l89.map EntP.key) ((l1.length : Nat) : Int)).1) (l122.map EntP.key)).1.1))), (108, (i64 (IntKind.i64.wrap (((l1.length : Nat) : Int) + ((l122.length : Nat) : Int)))))] 5 ?_
      have e154 : IntKind.i64.wrap (((l1.length : Nat) : Int) + ((l122.length : Nat) : Int)) = ((l1.length : Nat) : Int) + ((l122.length : Nat) : Int) := wrap_i64 (by omega) (by omega)
      rw [e154]
      refine og 1 [(8, (Value.bool false)), (11, (ptr g70)), (13, (ptr g88)), (15, (i64 ((l1.length : Nat) : Int))), (16, (i64 ((termK 0 0 (l89.map EntP.key) ((l1.length : Nat) : Int)).1))), (18, (Value.slice A123 l122.length c124)), (19, (i64 ((matchK 0 0 (l71.map EntP.key) ((l1.length : Nat) : Int) ((termK 0 0 (l89.map EntP.key) ((l1.length : Nat) : Int)).1) (l122.map EntP.key)).1.1))), (109, (Value.bool (((matchK 0 0 (l71.map EntP.key) ((l1.length : Nat) : Int) ((termK 0 0 (l89.map EntP.key) ((l1.length : Nat) : Int)).1) (l122.map EntP.key)).1.1) != (((l1.length : Nat) : Int) + ((l122.length : Nat) : Int)))))] 6 ?_
      refine od ?_
      have h155 : (((matchK 0 0 (l71.map EntP.key) ((l1.length : Nat) : Int) ((termK 0 0 (l89.map EntP.key) ((l1.length : Nat) : Int)).1) (l122.map EntP.key)).1.1) != (((l1.length : Nat) : Int) + ((l122.length : Nat) : Int))) = false := bne_f (by rw [hM.told p153, List.length_map])
      rw [h155]
      refine q_else (o := .tmp 109) (by kernel_rfl) rfl ?_
      refine q_skip (by kernel_rfl) ?_
      refine qs ?_
      refine qs ?_
      refine qg ?_
      refine og 1 [(8, (Value.bool false)), (11, (ptr g70)), (13, (ptr g88)), (15, (i64 ((l1.length : Nat) : Int))), (16, (i64 ((termK 0 0 (l89.map EntP.key) ((l1.length : Nat) : Int)).1))), (18, (Value.slice A123 l122.length c124)), (19, (i64 ((matchK 0 0 (l71.map EntP.key) ((l1.length : Nat) : Int) ((termK 0 0 (l89.map EntP.key) ((l1.length : Nat) : Int)).1) (l122.map EntP.key)).1.1))), (22, (i64 0))] 1 ?_
      refine od ?_
      refine q_block (id := 0) (by kernel_rfl) ?_
      have htd := hM.told p153
      have hpl : l122.length ≤ 60 := by omega
      have hpk : (l122.map EntP.key).length = l122.length := List.length_map ..
      skip
      refine q_keep (R := [(11, (ptr g70)), (13, (ptr g88)), (15, (i64 ((l1.length : Nat) : Int))), (16, (i64 ((termK 0 0 (l89.map EntP.key) ((l1.length : Nat) : Int)).1))), (18, (Value.slice A123 l122.length c124)), (19, (i64 ((matchK 0 0 (l71.map EntP.key) ((l1.length : Nat) : Int) ((termK 0 0 (l89.map EntP.key) ((l1.length : Nat) : Int)).1) (l122.map EntP.key)).1.1))), (22, (i64 0))]) (by kernel_rfl) ?_
      refine q_loop (fun (k : Int) L (wx : World) => L = [(11, (ptr g70)), (13, (ptr g88)), (15, (i64 ((l1.length : Nat) : Int))), (16, (i64 ((termK 0 0 (l89.map EntP.key) ((l1.length : Nat) : Int)).1))), (18, (Value.slice A123 l122.length c124)), (19, (i64 ((matchK 0 0 (l71.map EntP.key) ((l1.length : Nat) : Int) ((termK 0 0 (l89.map EntP.key) ((l1.length : Nat) : Int)).1) (l122.map EntP.key)).1.1))), (22, (i64 k))] ∧ 0 ≤ k ∧ k ≤ 121 ∧ Ents wx T136 (Value.slice A134 l133.length c135) l133 ∧ Ents wx (fun i => (w74.heap.size ≤ i ∧ i < w92.heap.size) ∧ i ≠ g88) (Value.slice A90 l89.length c91) l89 ∧ Ents wx (fun i => w118.heap.size ≤ i ∧ i < w125.heap.size) (Value.slice A123 l122.length c124) l122 ∧ Keeps none_ w wx ∧ Has wx g70 (rowL [(i64 0), (i64 0), (Value.slice A134 l133.length c135)] 55) ∧ Has wx g88 (rowL [(i64 0), (i64 0), (Value.slice A90 l89.length c91)] 55)) (fun (k : Int) => (121 - k).toNat) 0 (by kernel_rfl) ⟨rfl, (by omega), (by omega), hE140, hE95, hE127, K0, H139, H94⟩ ?_
      clear H139 H94 hE1 hE2 hE3 hE31 hE66 hE77 hE95 hE127 hE140 K0
      rintro k _ w156 ⟨rfl, hk, hk2, hEg, hEh, hEp, K157, H158, H159⟩
      refine qs ?_
      refine qs ?_
      refine qg ?_
      refine og 3 [(11, (ptr g70)), (13, (ptr g88)), (15, (i64 ((l1.length : Nat) : Int))), (16, (i64 ((termK 0 0 (l89.map EntP.key) ((l1.length : Nat) : Int)).1))), (18, (Value.slice A123 l122.length c124)), (19, (i64 ((matchK 0 0 (l71.map EntP.key) ((l1.length : Nat) : Int) ((termK 0 0 (l89.map EntP.key) ((l1.length : Nat) : Int)).1) (l122.map EntP.key)).1.1))), (22, (i64 k)), (112, (Value.bool (decide (k ≤ (matchK 0 0 (l71.map EntP.key) ((l1.length : Nat) : Int) ((termK 0 0 (l89.map EntP.key) ((l1.length : Nat) : Int)).1) (l122.map EntP.key)).1.1))))] 3 ?_
      refine od ?_
      refine q_cond (o := .tmp 112) (b := (decide (k ≤ (matchK 0 0 (l71.map EntP.key) ((l1.length : Nat) : Int) ((termK 0 0 (l89.map EntP.key) ((l1.length : Nat) : Int)).1) (l122.map EntP.key)).1.1))) (by kernel_rfl) rfl (fun h160 => ?_) (fun h160 => ?_)
      ·rw [h160]
       have p161 : k ≤ (matchK 0 0 (l71.map EntP.key) ((l1.length : Nat) : Int) ((termK 0 0 (l89.map EntP.key) ((l1.length : Nat) : Int)).1) (l122.map EntP.key)).1.1 := of_decide_eq_true h160
       have hkt : k ≤ (matchK 0 0 (l71.map EntP.key) ((l1.length : Nat) : Int) ((termK 0 0 (l89.map EntP.key) ((l1.length : Nat) : Int)).1) (l122.map EntP.key)).1.1 := by omega
       refine q_skip (by kernel_rfl) ?_
       refine qs ?_
       refine q_block (id := 1) (by kernel_rfl) ?_
       refine qs ?_
       refine qg ?_
       refine og 2 [(11, (ptr g70)), (13, (ptr g88)), (15, (i64 ((l1.length : Nat) : Int))), (16, (i64 ((termK 0 0 (l89.map EntP.key) ((l1.length : Nat) : Int)).1))), (18, (Value.slice A123 l122.length c124)), (19, (i64 ((matchK 0 0 (l71.map EntP.key) ((l1.length : Nat) : Int) ((termK 0 0 (l89.map EntP.key) ((l1.length : Nat) : Int)).1) (l122.map EntP.key)).1.1))), (22, (i64 k)), (112, (Value.bool true)), (116, (ptr g70)), (117, (i64 k))] 2 ?_
       refine Ops.call (by kernel_rfl) (d := (some 118)) (by kernel_rfl) (Term_calls _ T136 g70 0 0 A134 c135 l133 k H158 hEg ot143 (by omega) (by omega) (by omega)) ?_
       rintro _ w163 ⟨rfl, K162⟩
       refine ⟨_, _, rfl, rfl, ?_⟩
       replace K157 := K157.trans K162 (U := none_) (fun i h1 h2 => h2) (fun i h1 h2 => by exact h2)
       replace H158 := H158.keep K162 (fun h => h)
       replace H159 := H159.keep K162 (fun h => h)
       replace hEg := Ents.keep0 hEg K162
       replace hEh := Ents.keep0 hEh K162
       replace hEp := Ents.keep0 hEp K162
       clear K162
       refine og 5 [(11, (ptr g70)), (13, (ptr g88)), (15, (i64 ((l1.length : Nat) : Int))), (16, (i64 ((termK 0 0 (l89.map EntP.key) ((l1.length : Nat) : Int)).1))), (18, (Value.slice A123 l122.length c124)), (19, (i64 ((matchK 0 0 (l71.map EntP.key) ((l1.length : Nat) : Int) ((termK 0 0 (l89.map EntP.key) ((l1.length : Nat) : Int)).1) (l122.map EntP.key)).1.1))), (22, (i64 k)), (23, (i64 ((termK 0 0 (l133.map EntP.key) k).1))), (24, (i64 ((termK 0 0 (l133.map EntP.key) k).2))), (112, (Value.bool true))] 8 ?_
       refine od ?_
       refine qs ?_
       refine qg ?_
       refine og 2 [(11, (ptr g70)), (13, (ptr g88)), (15, (i64 ((l1.length : Nat) : Int))), (16, (i64 ((termK 0 0 (l89.map EntP.key) ((l1.length : Nat) : Int)).1))), (18, (Value.slice A123 l122.length c124)), (19, (i64 ((matchK 0 0 (l71.map EntP.key) ((l1.length : Nat) : Int) ((termK 0 0 (l89.map EntP.key) ((l1.length : Nat) : Int)).1) (l122.map EntP.key)).1.1))), (22, (i64 k)), (23, (i64 ((termK 0 0 (l133.map EntP.key) k).1))), (24, (i64 ((termK 0 0 (l133.map EntP.key) k).2))), (112, (Value.bool true)), (122, (ptr g88)), (123, (i64 k))] 2 ?_
       refine Ops.call (by kernel_rfl) (d := (some 124)) (by kernel_rfl) (Term_calls _ (fun i => (w74.heap.size ≤ i ∧ i < w92.heap.size) ∧ i ≠ g88) g88 0 0 A90 c91 l89 k H159 hEh ot105 (by omega) (by omega) (by omega)) ?_
       rintro _ w165 ⟨rfl, K164⟩
       refine ⟨_, _, rfl, rfl, ?_⟩
       replace K157 := K157.trans K164 (U := none_) (fun i h1 h2 => h2) (fun i h1 h2 => by exact h2)
       replace H158 := H158.keep K164 (fun h => h)
       replace H159 := H159.keep K164 (fun h => h)
       replace hEg := Ents.keep0 hEg K164
       replace hEh := Ents.keep0 hEh K164
       replace hEp := Ents.keep0 hEp K164
       clear K164
       refine og 5 [(11, (ptr g70)), (13, (ptr g88)), (15, (i64 ((l1.length : Nat) : Int))), (16, (i64 ((termK 0 0 (l89.map EntP.key) ((l1.length : Nat) : Int)).1))), (18, (Value.slice A123 l122.length c124)), (19, (i64 ((matchK 0 0 (l71.map EntP.key) ((l1.length : Nat) : Int) ((termK 0 0 (l89.map EntP.key) ((l1.length : Nat) : Int)).1) (l122.map EntP.key)).1.1))), (22, (i64 k)), (23, (i64 ((termK 0 0 (l133.map EntP.key) k).1))), (24, (i64 ((termK 0 0 (l133.map EntP.key) k).2))), (25, (i64 ((termK 0 0 (l89.map EntP.key) k).1))), (26, (i64 ((termK 0 0 (l89.map EntP.key) k).2))), (112, (Value.bool true))] 8 ?_
       refine od ?_
       refine qs ?_
       refine qg ?_
       refine og 4 [(11, (ptr g70)), (13, (ptr g88)), (15, (i64 ((l1.length : Nat) : Int))), (16, (i64 ((termK 0 0 (l89.map EntP.key) ((l1.length : Nat) : Int)).1))), (18, (Value.slice A123 l122.length c124)), (19, (i64 ((matchK 0 0 (l71.map EntP.key) ((l1.length : Nat) : Int) ((termK 0 0 (l89.map EntP.key) ((l1.length : Nat) : Int)).1) (l122.map EntP.key)).1.1))), (22, (i64 k)), (23, (i64 ((termK 0 0 (l133.map EntP.key) k).1))), (24, (i64 ((termK 0 0 (l133.map EntP.key) k).2))), (25, (i64 ((termK 0 0 (l89.map EntP.key) k).1))), (26, (i64 ((termK 0 0 (l89.map EntP.key) k).2))), (112, (Value.bool true)), (130, (Value.bool (((termK 0 0 (l133.map EntP.key) k).1) != ((termK 0 0 (l89.map EntP.key) k).1))))] 4 ?_
       have h166 : (((termK 0 0 (l133.map EntP.key) k).1) != ((termK 0 0 (l89.map EntP.key) k).1)) = false := bne_f (by rw [hK141]; exact congrArg Prod.fst (hM.same p153 k (by omega) (by rw [← hM.told p153]; exact hkt)).1)
       rw [h166]
       refine og 4 [(11, (ptr g70)), (13, (ptr g88)), (15, (i64 ((l1.length : Nat) : Int))), (16, (i64 ((termK 0 0 (l89.map EntP.key) ((l1.length : Nat) : Int)).1))), (18, (Value.slice A123 l122.length c124)), (19, (i64 ((matchK 0 0 (l71.map EntP.key) ((l1.length : Nat) : Int) ((termK 0 0 (l89.map EntP.key) ((l1.length : Nat) : Int)).1) (l122.map EntP.key)).1.1))), (22, (i64 k)), (23, (i64 ((termK 0 0 (l133.map EntP.key) k).1))), (24, (i64 ((termK 0 0 (l133.map EntP.key) k).2))), (25, (i64 ((termK 0 0 (l89.map EntP.key) k).1))), (26, (i64 ((termK 0 0 (l89.map EntP.key) k).2))), (112, (Value.bool true)), (134, (Value.bool (((termK 0 0 (l133.map EntP.key) k).2) != 0)))] 8 ?_
       have h167 : (((termK 0 0 (l133.map EntP.key) k).2) != 0) = false := bne_f (by rw [hK141, (hM.same p153 k (by omega) (by rw [← hM.told p153]; exact hkt)).1]; exact (hM.same p153 k (by omega) (by rw [← hM.told p153]; exact hkt)).2)
       rw [h167]
       refine og 3 [(11, (ptr g70)), (13, (ptr g88)), (15, (i64 ((l1.length : Nat) : Int))), (16, (i64 ((termK 0 0 (l89.map EntP.key) ((l1.length : Nat) : Int)).1))), (18, (Value.slice A123 l122.length c124)), (19, (i64 ((matchK 0 0 (l71.map EntP.key) ((l1.length : Nat) : Int) ((termK 0 0 (l89.map EntP.key) ((l1.length : Nat) : Int)).1) (l122.map EntP.key)).1.1))), (22, (i64 k)), (23, (i64 ((termK 0 0 (l133.map EntP.key) k).1))), (24, (i64 ((termK 0 0 (l133.map EntP.key) k).2))), (25, (i64 ((termK 0 0 (l89.map EntP.key) k).1))), (26, (i64 ((termK 0 0 (l89.map EntP.key) k).2))), (112, (Value.bool true)), (137, (Value.bool (((termK 0 0 (l89.map EntP.key) k).2) != 0)))] 11 ?_
       refine od ?_
       have h168 : (((termK 0 0 (l89.map EntP.key) k).2) != 0) = false := bne_f (hM.same p153 k (by omega) (by rw [← hM.told p153]; exact hkt)).2
       rw [h168]
       refine q_else (o := .tmp 137) (by kernel_rfl) rfl ?_
       refine q_skip (by kernel_rfl) ?_
       refine qg ?_
       refine og 2 [(11, (ptr g70)), (13, (ptr g88)), (15, (i64 ((l1.length : Nat) : Int))), (16, (i64 ((termK 0 0 (l89.map EntP.key) ((l1.length : Nat) : Int)).1))), (18, (Value.slice A123 l122.length c124)), (19, (i64 ((matchK 0 0 (l71.map EntP.key) ((l1.length : Nat) : Int) ((termK 0 0 (l89.map EntP.key) ((l1.length : Nat) : Int)).1) (l122.map EntP.key)).1.1))), (22, (i64 k)), (23, (i64 ((termK 0 0 (l133.map EntP.key) k).1))), (24, (i64 ((termK 0 0 (l133.map EntP.key) k).2))), (25, (i64 ((termK 0 0 (l89.map EntP.key) k).1))), (26, (i64 ((termK 0 0 (l89.map EntP.key) k).2))), (112, (Value.bool true)), (114, (i64 (IntKind.i64.wrap (k + 1)))), (137, (Value.bool false))] 2 ?_
       have e169 : IntKind.i64.wrap (k + 1) = k + 1 := wrap_i64 (by omega) (by omega)
       rw [e169]
       refine og 1 [(11, (ptr g70)), (13, (ptr g88)), (15, (i64 ((l1.length : Nat) : Int))), (16, (i64 ((termK 0 0 (l89.map EntP.key) ((l1.length : Nat) : Int)).1))), (18, (Value.slice A123 l122.length c124)), (19, (i64 ((matchK 0 0 (l71.map EntP.key) ((l1.length : Nat) : Int) ((termK 0 0 (l89.map EntP.key) ((l1.length : Nat) : Int)).1) (l122.map EntP.key)).1.1))), (22, (i64 (k + 1))), (23, (i64 ((termK 0 0 (l133.map EntP.key) k).1))), (24, (i64 ((termK 0 0 (l133.map EntP.key) k).2))), (25, (i64 ((termK 0 0 (l89.map EntP.key) k).1))), (26, (i64 ((termK 0 0 (l89.map EntP.key) k).2))), (112, (Value.bool true)), (137, (Value.bool false))] 3 ?_
       refine Ops.keep (R := [(11, (ptr g70)), (13, (ptr g88)), (15, (i64 ((l1.length : Nat) : Int))), (16, (i64 ((termK 0 0 (l89.map EntP.key) ((l1.length : Nat) : Int)).1))), (18, (Value.slice A123 l122.length c124)), (19, (i64 ((matchK 0 0 (l71.map EntP.key) ((l1.length : Nat) : Int) ((termK 0 0 (l89.map EntP.key) ((l1.length : Nat) : Int)).1) (l122.map EntP.key)).1.1))), (22, (i64 (k + 1)))]) (by kernel_rfl) ?_
       refine od ?_
       exact ⟨k + 1, ⟨rfl, (by omega), (by omega), hEg, hEh, hEp, K157, H158, H159⟩, (show (121 - (k + 1)).toNat < (121 - k).toNat from by omega)⟩
      ·rw [h160]
       have p170 : ¬ (k ≤ (matchK 0 0 (l71.map EntP.key) ((l1.length : Nat) : Int) ((termK 0 0 (l89.map EntP.key) ((l1.length : Nat) : Int)).1) (l122.map EntP.key)).1.1) := of_decide_eq_false h160
       refine q_exit (id := 0) (by kernel_rfl) ?_
       refine qs ?_
       refine qg ?_
       refine og 4 [(19, (i64 ((matchK 0 0 (l71.map EntP.key) ((l1.length : Nat) : Int) ((termK 0 0 (l89.map EntP.key) ((l1.length : Nat) : Int)).1) (l122.map EntP.key)).1.1))), (139, (ptr g70)), (140, (i64 ((l1.length : Nat) : Int))), (141, (i64 ((termK 0 0 (l89.map EntP.key) ((l1.length : Nat) : Int)).1))), (142, (Value.slice A123 l122.length c124))] 4 ?_
       refine Ops.call (by kernel_rfl) (d := (some 143)) (by kernel_rfl) (Match_calls _ T136 g70 0 0 A134 c135 l133 ((l1.length : Nat) : Int) ((termK 0 0 (l89.map EntP.key) ((l1.length : Nat) : Int)).1) (fun i => w118.heap.size ≤ i ∧ i < w125.heap.size) A123 c124 l122 H158 hEg ot143 (by omega) (by omega) (by omega) (by omega) hEp ot129 (BigK.keys hK141 (BigK.match_ (BigK.keys hK78 (BigK.keys hK32 (BigK.app hBig1 hBig2))) (BigK.keys hK128 (BigK.part 0 (((l1.length : Nat) : Int) + 1) most (BigK.keys hK96 (BigK.keys hK67 (BigK.app hBig1 hBig3))))))) (BigK.keys hK128 (BigK.part 0 (((l1.length : Nat) : Int) + 1) most (BigK.keys hK96 (BigK.keys hK67 (BigK.app hBig1 hBig3))))) (by omega)) ?_
       rintro _ w175 ⟨l171, A172, c173, T174, rfl, K176, H177, hE178, hK179, hT180⟩
       have ot181 : ∀ i, T174 i → i ≠ g70 := fun i hi => (hT180 i hi).1
       have ot182 : ∀ i, T174 i → i ≠ g88 := fun i hi => by rcases (hT180 i hi).2 with h | h; (exact ot144 i h); (have := H159.lt; omega)
       have hn183 := keys_len2 hK179
       try rw [List.length_drop] at hn183
       try rw [List.length_append] at hn183
       try rw [List.length_map] at hn183
       try rw [List.length_map] at hn183
       have hz184 := K157.size
       have hml185 := matchK_len (base := 0) (old := 0) (n := ((l1.length : Nat) : Int)) (t := (termK 0 0 (l89.map EntP.key) ((l1.length : Nat) : Int)).1) (ks := (l133.map EntP.key)) (ys := (l122.map EntP.key)) (by rw [List.length_map]; omega)
       refine ⟨_, _, rfl, rfl, ?_⟩
       replace K157 := K157.trans K176 (U := none_) (fun i h1 h2 => h2) (fun i h1 h2 => by have h2 : i = g70 := h2; exfalso; omega)
       replace H159 := H159.keep K176 (by intro h; change g88 = g70 at h; omega)
       replace hEg := Ents.keep hEg K176 (fun i hi hs => by have hs : i = g70 := hs; have := ot143 i hi; omega)
       replace hEh := Ents.keep hEh K176 (fun i hi hs => by have hs : i = g70 := hs; have := ot98 i hi; omega)
       replace hEp := Ents.keep hEp K176 (fun i hi hs => by have hs : i = g70 := hs; have := ot129 i hi; omega)
       clear K176
       refine og 7 [(19, (i64 ((matchK 0 0 (l71.map EntP.key) ((l1.length : Nat) : Int) ((termK 0 0 (l89.map EntP.key) ((l1.length : Nat) : Int)).1) (l122.map EntP.key)).1.1))), (27, (i64 ((matchK 0 0 (l133.map EntP.key) ((l1.length : Nat) : Int) ((termK 0 0 (l89.map EntP.key) ((l1.length : Nat) : Int)).1) (l122.map EntP.key)).1.1))), (28, (i64 ((matchK 0 0 (l133.map EntP.key) ((l1.length : Nat) : Int) ((termK 0 0 (l89.map EntP.key) ((l1.length : Nat) : Int)).1) (l122.map EntP.key)).1.2.1))), (29, (i64 ((matchK 0 0 (l133.map EntP.key) ((l1.length : Nat) : Int) ((termK 0 0 (l89.map EntP.key) ((l1.length : Nat) : Int)).1) (l122.map EntP.key)).1.2.2)))] 12 ?_
       refine od ?_
       refine qs ?_
       refine qg ?_
       refine og 4 [(28, (i64 ((matchK 0 0 (l133.map EntP.key) ((l1.length : Nat) : Int) ((termK 0 0 (l89.map EntP.key) ((l1.length : Nat) : Int)).1) (l122.map EntP.key)).1.2.1))), (29, (i64 ((matchK 0 0 (l133.map EntP.key) ((l1.length : Nat) : Int) ((termK 0 0 (l89.map EntP.key) ((l1.length : Nat) : Int)).1) (l122.map EntP.key)).1.2.2))), (150, (Value.bool (((matchK 0 0 (l133.map EntP.key) ((l1.length : Nat) : Int) ((termK 0 0 (l89.map EntP.key) ((l1.length : Nat) : Int)).1) (l122.map EntP.key)).1.1) == ((matchK 0 0 (l71.map EntP.key) ((l1.length : Nat) : Int) ((termK 0 0 (l89.map EntP.key) ((l1.length : Nat) : Int)).1) (l122.map EntP.key)).1.1))))] 4 ?_
       have h186 : (((matchK 0 0 (l133.map EntP.key) ((l1.length : Nat) : Int) ((termK 0 0 (l89.map EntP.key) ((l1.length : Nat) : Int)).1) (l122.map EntP.key)).1.1) == ((matchK 0 0 (l71.map EntP.key) ((l1.length : Nat) : Int) ((termK 0 0 (l89.map EntP.key) ((l1.length : Nat) : Int)).1) (l122.map EntP.key)).1.1)) = true := beq_t (by rw [hK141]; rw [hM.again p153]; exact (hM.told p153).symm)
       rw [h186]
       refine og 4 [(29, (i64 ((matchK 0 0 (l133.map EntP.key) ((l1.length : Nat) : Int) ((termK 0 0 (l89.map EntP.key) ((l1.length : Nat) : Int)).1) (l122.map EntP.key)).1.2.2))), (154, (Value.bool (((matchK 0 0 (l133.map EntP.key) ((l1.length : Nat) : Int) ((termK 0 0 (l89.map EntP.key) ((l1.length : Nat) : Int)).1) (l122.map EntP.key)).1.2.1) == 0)))] 8 ?_
       have h187 : (((matchK 0 0 (l133.map EntP.key) ((l1.length : Nat) : Int) ((termK 0 0 (l89.map EntP.key) ((l1.length : Nat) : Int)).1) (l122.map EntP.key)).1.2.1) == 0) = true := beq_t (by rw [hK141]; rw [hM.again p153])
       rw [h187]
       refine og 4 [(158, (Value.bool (((matchK 0 0 (l133.map EntP.key) ((l1.length : Nat) : Int) ((termK 0 0 (l89.map EntP.key) ((l1.length : Nat) : Int)).1) (l122.map EntP.key)).1.2.2) == 0)))] 12 ?_
       have h188 : (((matchK 0 0 (l133.map EntP.key) ((l1.length : Nat) : Int) ((termK 0 0 (l89.map EntP.key) ((l1.length : Nat) : Int)).1) (l122.map EntP.key)).1.2.2) == 0) = true := beq_t (by rw [hK141]; rw [hM.again p153])
       rw [h188]
       refine Ops.call (by kernel_rfl) (d := (some 159)) (by kernel_rfl) (known_calls _) ?_
       rintro _ w190 ⟨rfl, K189⟩
       refine ⟨_, _, rfl, rfl, ?_⟩
       replace K157 := K157.trans K189 (U := none_) (fun i h1 h2 => h2) (fun i h1 h2 => by exact h2)
       replace H177 := H177.keep K189 (fun h => h)
       replace H159 := H159.keep K189 (fun h => h)
       replace hEg := Ents.keep0 hEg K189
       replace hEh := Ents.keep0 hEh K189
       replace hEp := Ents.keep0 hEp K189
       replace hE178 := Ents.keep0 hE178 K189
       clear K189
       refine og 2 [(8, (Value.bool true))] 15 ?_
       refine od ?_
       refine q_ret (by kernel_rfl) ?_
       refine ⟨(Value.bool true), retv_tmp rfl rfl, ?_⟩
       exact ⟨rfl, K157⟩
  ·skip
   refine Ops.call (by kernel_rfl) (d := (some 49)) (by kernel_rfl) (New_bad _ (fun i => (T1 i ∨ T3 i ∨ ((Value.slice A57 l59.length c58)).ownBlock = some i) ∧ i < w51.heap.size) 0 0 A57 c58 l59 hE66 (BigK.keys hK67 (BigK.app hBig1 hBig3)) hq87) ?_
   rintro _ w192 ⟨rfl, K191⟩
   refine ⟨_, _, rfl, rfl, ?_⟩
   replace K0 := K0.t0 K191
   replace H76 := H76.keep K191 (fun h => h)
   replace hE1 := Ents.keep0 hE1 K191
   replace hE2 := Ents.keep0 hE2 K191
   replace hE3 := Ents.keep0 hE3 K191
   replace hE31 := Ents.keep0 hE31 K191
   replace hE66 := Ents.keep0 hE66 K191
   replace hE77 := Ents.keep0 hE77 K191
   clear K191
   refine og 5 [(0, (Value.slice A1 l1.length c1)), (3, (i64 most)), (8, (Value.bool false)), (9, (Value.slice A23 l25.length c24)), (10, (Value.slice A57 l59.length c58)), (11, (ptr g70)), (12, (i64 0)), (13, (Value.pointer none)), (14, (i64 (newE 0 0 (l59.map EntP.key))))] 7 ?_
   refine od ?_
   refine qs ?_
   refine qs ?_
   refine qg ?_
   refine og 7 [(0, (Value.slice A1 l1.length c1)), (3, (i64 most)), (8, (Value.bool false)), (9, (Value.slice A23 l25.length c24)), (10, (Value.slice A57 l59.length c58)), (11, (ptr g70)), (13, (Value.pointer none)), (58, (Value.bool ((newE 0 0 (l59.map EntP.key)) != 0)))] 7 ?_
   have h193 : ((newE 0 0 (l59.map EntP.key)) != 0) = true := bne_t hq87
   rw [h193]
   refine og 9 [(0, (Value.slice A1 l1.length c1)), (3, (i64 most)), (8, (Value.bool false)), (11, (ptr g70)), (13, (Value.pointer none)), (67, (Value.bool true))] 16 ?_
   refine od ?_
   refine q_then (o := .tmp 67) (by kernel_rfl) rfl ?_
   refine qs ?_
   refine qg ?_
   refine Ops.call (by kernel_rfl) (d := (some 68)) (by kernel_rfl) (known_calls _) ?_
   rintro _ w195 ⟨rfl, K194⟩
   refine ⟨_, _, rfl, rfl, ?_⟩
   replace K0 := K0.t0 K194
   replace H76 := H76.keep K194 (fun h => h)
   replace hE1 := Ents.keep0 hE1 K194
   replace hE2 := Ents.keep0 hE2 K194
   replace hE3 := Ents.keep0 hE3 K194
   replace hE31 := Ents.keep0 hE31 K194
   replace hE66 := Ents.keep0 hE66 K194
   replace hE77 := Ents.keep0 hE77 K194
   clear K194
   refine og 1 [(0, (Value.slice A1 l1.length c1)), (3, (i64 most)), (8, (Value.bool true)), (11, (ptr g70)), (13, (Value.pointer none))] 2 ?_
   refine od ?_
   refine q_ret (by kernel_rfl) ?_
   refine ⟨(Value.bool true), retv_tmp rfl rfl, ?_⟩
   exact ⟨rfl, K0⟩
 ·skip
  refine Ops.call (by kernel_rfl) (d := (some 44)) (by kernel_rfl) (New_bad _ (fun i => (T1 i ∨ T2 i ∨ ((Value.slice A23 l25.length c24)).ownBlock = some i) ∧ i < w17.heap.size) 0 0 A23 c24 l25 hE31 (BigK.keys hK32 (BigK.app hBig1 hBig2)) hq69) ?_
  rintro _ w197 ⟨rfl, K196⟩
  refine ⟨_, _, rfl, rfl, ?_⟩
  replace K0 := K0.t0 K196
  replace hE1 := Ents.keep0 hE1 K196
  replace hE2 := Ents.keep0 hE2 K196
  replace hE3 := Ents.keep0 hE3 K196
  replace hE31 := Ents.keep0 hE31 K196
  replace hE66 := Ents.keep0 hE66 K196
  clear K196
  refine og 5 [(0, (Value.slice A1 l1.length c1)), (3, (i64 most)), (8, (Value.bool false)), (9, (Value.slice A23 l25.length c24)), (10, (Value.slice A57 l59.length c58)), (11, (Value.pointer none)), (12, (i64 (newE 0 0 (l25.map EntP.key))))] 7 ?_
  refine od ?_
  refine qs ?_
  refine qg ?_
  refine og 1 [(0, (Value.slice A1 l1.length c1)), (3, (i64 most)), (8, (Value.bool false)), (9, (Value.slice A23 l25.length c24)), (10, (Value.slice A57 l59.length c58)), (11, (Value.pointer none)), (12, (i64 (newE 0 0 (l25.map EntP.key)))), (48, (Value.slice A57 l59.length c58))] 1 ?_
  by_cases hq198 : newE 0 0 (l59.map EntP.key) = 0
  ·skip
   refine Ops.call (by kernel_rfl) (d := (some 49)) (by kernel_rfl) (New_ok _ (fun i => (T1 i ∨ T3 i ∨ ((Value.slice A57 l59.length c58)).ownBlock = some i) ∧ i < w51.heap.size) 0 0 A57 c58 l59 hE66 (BigK.keys hK67 (BigK.app hBig1 hBig3)) hq198) ?_
   rintro _ w203 ⟨g199, l200, A201, c202, rfl, hg208, K204, H205, hE206, hK207⟩
   have ot209 : ∀ i, T1 i → i ≠ g199 := fun i hi => by have := Ents.lt hE1 i hi; omega
   have ot210 : ∀ i, T2 i → i ≠ g199 := fun i hi => by have := Ents.lt hE2 i hi; omega
   have ot211 : ∀ i, T3 i → i ≠ g199 := fun i hi => by have := Ents.lt hE3 i hi; omega
   have ot212 : ∀ i, (fun i => (T1 i ∨ T2 i ∨ ((Value.slice A23 l25.length c24)).ownBlock = some i) ∧ i < w17.heap.size) i → i ≠ g199 := fun i hi => by have := Ents.lt hE31 i hi; omega
   have ot213 : ∀ i, (fun i => (T1 i ∨ T3 i ∨ ((Value.slice A57 l59.length c58)).ownBlock = some i) ∧ i < w51.heap.size) i → i ≠ g199 := fun i hi => by have := Ents.lt hE66 i hi; omega
   have ot214 : ∀ i, (fun i => (w197.heap.size ≤ i ∧ i < w203.heap.size) ∧ i ≠ g199) i → i ≠ g199 := fun i hi => hi.2
   have ng199 : w.heap.size ≤ g199 := by have := K0.size; omega
   have hn215 := keys_len2 hK207
   try rw [List.length_drop] at hn215
   try rw [List.length_append] at hn215
   try rw [List.length_map] at hn215
   try rw [List.length_map] at hn215
   refine ⟨_, _, rfl, rfl, ?_⟩
   replace K0 := K0.t0 K204
   replace hE1 := Ents.keep0 hE1 K204
   replace hE2 := Ents.keep0 hE2 K204
   replace hE3 := Ents.keep0 hE3 K204
   replace hE31 := Ents.keep0 hE31 K204
   replace hE66 := Ents.keep0 hE66 K204
   clear K204
   refine og 5 [(0, (Value.slice A1 l1.length c1)), (3, (i64 most)), (8, (Value.bool false)), (9, (Value.slice A23 l25.length c24)), (10, (Value.slice A57 l59.length c58)), (11, (Value.pointer none)), (12, (i64 (newE 0 0 (l25.map EntP.key)))), (13, (ptr g199)), (14, (i64 0))] 7 ?_
   refine od ?_
   refine qs ?_
   refine qs ?_
   refine qg ?_
   refine og 3 [(0, (Value.slice A1 l1.length c1)), (3, (i64 most)), (8, (Value.bool false)), (9, (Value.slice A23 l25.length c24)), (10, (Value.slice A57 l59.length c58)), (11, (Value.pointer none)), (13, (ptr g199)), (14, (i64 0)), (54, (Value.bool ((newE 0 0 (l25.map EntP.key)) != 0)))] 3 ?_
   have h216 : ((newE 0 0 (l25.map EntP.key)) != 0) = true := bne_t hq69
   rw [h216]
   refine og 13 [(0, (Value.slice A1 l1.length c1)), (3, (i64 most)), (8, (Value.bool false)), (11, (Value.pointer none)), (13, (ptr g199)), (67, (Value.bool true))] 16 ?_
   refine od ?_
   refine q_then (o := .tmp 67) (by kernel_rfl) rfl ?_
   refine qs ?_
   refine qg ?_
   refine Ops.call (by kernel_rfl) (d := (some 68)) (by kernel_rfl) (known_calls _) ?_
   rintro _ w218 ⟨rfl, K217⟩
   refine ⟨_, _, rfl, rfl, ?_⟩
   replace K0 := K0.t0 K217
   replace H205 := H205.keep K217 (fun h => h)
   replace hE1 := Ents.keep0 hE1 K217
   replace hE2 := Ents.keep0 hE2 K217
   replace hE3 := Ents.keep0 hE3 K217
   replace hE31 := Ents.keep0 hE31 K217
   replace hE66 := Ents.keep0 hE66 K217
   replace hE206 := Ents.keep0 hE206 K217
   clear K217
   refine og 1 [(0, (Value.slice A1 l1.length c1)), (3, (i64 most)), (8, (Value.bool true)), (11, (Value.pointer none)), (13, (ptr g199))] 2 ?_
   refine od ?_
   refine q_ret (by kernel_rfl) ?_
   refine ⟨(Value.bool true), retv_tmp rfl rfl, ?_⟩
   exact ⟨rfl, K0⟩
  ·skip
   refine Ops.call (by kernel_rfl) (d := (some 49)) (by kernel_rfl) (New_bad _ (fun i => (T1 i ∨ T3 i ∨ ((Value.slice A57 l59.length c58)).ownBlock = some i) ∧ i < w51.heap.size) 0 0 A57 c58 l59 hE66 (BigK.keys hK67 (BigK.app hBig1 hBig3)) hq198) ?_
   rintro _ w220 ⟨rfl, K219⟩
   refine ⟨_, _, rfl, rfl, ?_⟩
   replace K0 := K0.t0 K219
   replace hE1 := Ents.keep0 hE1 K219
   replace hE2 := Ents.keep0 hE2 K219
   replace hE3 := Ents.keep0 hE3 K219
   replace hE31 := Ents.keep0 hE31 K219
   replace hE66 := Ents.keep0 hE66 K219
   clear K219
   refine og 5 [(0, (Value.slice A1 l1.length c1)), (3, (i64 most)), (8, (Value.bool false)), (9, (Value.slice A23 l25.length c24)), (10, (Value.slice A57 l59.length c58)), (11, (Value.pointer none)), (12, (i64 (newE 0 0 (l25.map EntP.key)))), (13, (Value.pointer none)), (14, (i64 (newE 0 0 (l59.map EntP.key))))] 7 ?_
   refine od ?_
   refine qs ?_
   refine qs ?_
   refine qg ?_
   refine og 3 [(0, (Value.slice A1 l1.length c1)), (3, (i64 most)), (8, (Value.bool false)), (9, (Value.slice A23 l25.length c24)), (10, (Value.slice A57 l59.length c58)), (11, (Value.pointer none)), (13, (Value.pointer none)), (14, (i64 (newE 0 0 (l59.map EntP.key)))), (54, (Value.bool ((newE 0 0 (l25.map EntP.key)) != 0)))] 3 ?_
   have h221 : ((newE 0 0 (l25.map EntP.key)) != 0) = true := bne_t hq69
   rw [h221]
   refine og 13 [(0, (Value.slice A1 l1.length c1)), (3, (i64 most)), (8, (Value.bool false)), (11, (Value.pointer none)), (13, (Value.pointer none)), (67, (Value.bool true))] 16 ?_
   refine od ?_
   refine q_then (o := .tmp 67) (by kernel_rfl) rfl ?_
   refine qs ?_
   refine qg ?_
   refine Ops.call (by kernel_rfl) (d := (some 68)) (by kernel_rfl) (known_calls _) ?_
   rintro _ w223 ⟨rfl, K222⟩
   refine ⟨_, _, rfl, rfl, ?_⟩
   replace K0 := K0.t0 K222
   replace hE1 := Ents.keep0 hE1 K222
   replace hE2 := Ents.keep0 hE2 K222
   replace hE3 := Ents.keep0 hE3 K222
   replace hE31 := Ents.keep0 hE31 K222
   replace hE66 := Ents.keep0 hE66 K222
   clear K222
   refine og 1 [(0, (Value.slice A1 l1.length c1)), (3, (i64 most)), (8, (Value.bool true)), (11, (Value.pointer none)), (13, (Value.pointer none))] 2 ?_
   refine od ?_
   refine q_ret (by kernel_rfl) ?_
   refine ⟨(Value.bool true), retv_tmp rfl rfl, ?_⟩
   exact ⟨rfl, K0⟩
end Go.Proofs.Ytncjidepplaocaa
