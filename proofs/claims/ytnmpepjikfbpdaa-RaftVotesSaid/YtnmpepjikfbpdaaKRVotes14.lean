/- What the claim stands on, part 14: rules of the walk, contracts of the functions, plain laws. -/
import Derived.Test.YtnmpepjikfbpdaaProg
import Derived.Test.YtnmpepjikfbpdaaKRVotes8
import Derived.Test.YtnmpepjikfbpdaaKRVotes12
import Derived.Test.YtnmpepjikfbpdaaKRVotes13
import Derived.Test.YtnmpepjikfbpdaaKRVotes5
set_option linter.unusedVariables false
namespace Go.Proofs.Ytnmpepjikfbpdaa
open Go.Q Go.RowKit

set_option maxHeartbeats 4000000 in
theorem Votes_calls (w : World) (me : Int) (EA : Option Addr) (ec : Nat) (l : List EntP) (MA : Option Addr) (mc : Nat) (ml : List MsgR) (hE : RdE w (.slice EA l.length ec) l) (hI : EntsIn w l) (hBig : BigK (l.map EntP.key)) (hl9 : l.length * 32 ≤ 140737488351232) (hMl : RdT w 11 MsgR.cells (.slice MA ml.length mc) ml) (hMi : ∀ x ∈ ml, x.In w) : Calls Try.prog 6 ⟨[(i64 me), (Value.slice EA l.length ec), (Value.slice MA ml.length mc)]⟩ w (fun e w' => e = .returned (.bool true) ∧ Keeps none_ w w') := by
 have hE0 := Ents.given hE hI
 have hcap := Ents.len hE0
 have hmlm := (RdT.len MsgR.two (by decide) hMl).2
 unfold maxLen at hmlm
 have K0 : Keeps none_ w w := Keeps.refl w
 refine q_calls Try.func6 (by kernel_rfl) (by kernel_rfl) ?_
 refine qs ?_
 refine qg ?_
 refine og 1 [(0, (i64 me)), (1, (Value.slice EA l.length ec)), (2, (Value.slice MA ml.length mc)), (6, (Value.bool false))] 1 ?_
 refine od ?_
 refine qs ?_
 refine qg ?_
 refine og 1 [(0, (i64 me)), (1, (Value.slice EA l.length ec)), (2, (Value.slice MA ml.length mc)), (6, (Value.bool false)), (27, (Value.slice EA l.length ec))] 1 ?_
 by_cases hq1 : newE 0 0 (l.map EntP.key) = 0
 ·skip
  refine Ops.call (by kernel_rfl) (d := (some 28)) (by kernel_rfl) (New_ok _ (fun i => i < w.heap.size) 0 0 EA ec l hE0 hBig hq1) ?_
  rintro _ w6 ⟨g2, l3, A4, c5, rfl, hg11, K7, H8, hE9, hK10⟩
  have ot12 : ∀ i, (fun i => i < w.heap.size) i → i ≠ g2 := fun i hi => by have := Ents.lt hE0 i hi; omega
  have ot13 : ∀ i, (fun i => (w.heap.size ≤ i ∧ i < w6.heap.size) ∧ i ≠ g2) i → i ≠ g2 := fun i hi => hi.2
  have ng2 : w.heap.size ≤ g2 := by have := K0.size; omega
  have hn14 := keys_len2 hK10
  try rw [List.length_drop] at hn14
  try rw [List.length_append] at hn14
  try rw [List.length_map] at hn14
  try rw [List.length_map] at hn14
  refine ⟨_, _, rfl, rfl, ?_⟩
  replace K0 := K0.t0 K7
  replace hE0 := Ents.keep0 hE0 K7
  clear K7
  refine og 5 [(0, (i64 me)), (1, (Value.slice EA l.length ec)), (2, (Value.slice MA ml.length mc)), (6, (Value.bool false)), (7, (ptr g2)), (8, (i64 0))] 7 ?_
  refine od ?_
  refine qs ?_
  refine qg ?_
  refine og 1 [(0, (i64 me)), (1, (Value.slice EA l.length ec)), (2, (Value.slice MA ml.length mc)), (6, (Value.bool false)), (7, (ptr g2)), (8, (i64 0)), (31, (i64 me))] 1 ?_
  refine Ops.call (by kernel_rfl) (d := (some 32)) (by kernel_rfl) (Count01_calls _ me 5 (by omega)) ?_
  rintro _ _ ⟨rfl, rfl⟩
  have hc15 := cnt_range me (k := 5) (by omega)
  refine ⟨_, _, rfl, rfl, ?_⟩
  refine og 1 [(0, (i64 (cnt me 5))), (1, (Value.slice EA l.length ec)), (2, (Value.slice MA ml.length mc)), (6, (Value.bool false)), (7, (ptr g2)), (8, (i64 0))] 3 ?_
  refine od ?_
  refine qs ?_
  refine qs ?_
  refine qg ?_
  refine og 7 [(0, (i64 (cnt me 5))), (2, (Value.slice MA ml.length mc)), (6, (Value.bool false)), (7, (ptr g2)), (39, (Value.bool (decide (((l.length : Nat) : Int) > 50))))] 7 ?_
  refine od ?_
  refine q_cond (o := .tmp 39) (b := (decide (((l.length : Nat) : Int) > 50))) (by kernel_rfl) rfl (fun h16 => ?_) (fun h16 => ?_)
  ·rw [h16]
   have p17 : ((l.length : Nat) : Int) > 50 := of_decide_eq_true h16
   refine qs ?_
   refine qg ?_
   refine Ops.call (by kernel_rfl) (d := (some 40)) (by kernel_rfl) (known_calls _) ?_
   rintro _ w19 ⟨rfl, K18⟩
   refine ⟨_, _, rfl, rfl, ?_⟩
   replace K0 := K0.t0 K18
   replace H8 := H8.keep K18 (fun h => h)
   replace hE0 := Ents.keep0 hE0 K18
   replace hE9 := Ents.keep0 hE9 K18
   clear K18
   refine og 1 [(0, (i64 (cnt me 5))), (2, (Value.slice MA ml.length mc)), (6, (Value.bool true)), (7, (ptr g2))] 2 ?_
   refine od ?_
   refine q_ret (by kernel_rfl) ?_
   refine ⟨(Value.bool true), retv_tmp rfl rfl, ?_⟩
   exact ⟨rfl, K0⟩
  ·rw [h16]
   have p20 : ¬ (((l.length : Nat) : Int) > 50) := of_decide_eq_false h16
   refine q_skip (by kernel_rfl) ?_
   refine qs ?_
   refine qg ?_
   refine og 1 [(0, (i64 (cnt me 5))), (2, (Value.slice MA ml.length mc)), (6, (Value.bool false)), (7, (ptr g2)), (42, (ptr g2))] 1 ?_
   refine Ops.call (by kernel_rfl) (d := (some 43)) (by kernel_rfl) (Last_calls _ (fun i => (w.heap.size ≤ i ∧ i < w6.heap.size) ∧ i ≠ g2) g2 0 0 A4 c5 l3 H8 hE9 ot13 (by omega) (by omega)) ?_
   rintro _ w22 ⟨rfl, K21⟩
   refine ⟨_, _, rfl, rfl, ?_⟩
   replace K0 := K0.t0 K21
   replace H8 := H8.keep K21 (fun h => h)
   replace hE0 := Ents.keep0 hE0 K21
   replace hE9 := Ents.keep0 hE9 K21
   clear K21
   refine og 5 [(0, (i64 (cnt me 5))), (2, (Value.slice MA ml.length mc)), (6, (Value.bool false)), (7, (ptr g2)), (10, (i64 (lastK 0 0 (l3.map EntP.key))))] 7 ?_
   refine od ?_
   refine qs ?_
   refine qg ?_
   refine og 3 [(2, (Value.slice MA ml.length mc)), (6, (Value.bool false)), (10, (i64 (lastK 0 0 (l3.map EntP.key)))), (47, (i64 (cnt me 5))), (48, (i64 (lastK 0 0 (l3.map EntP.key)))), (49, (ptr g2))] 3 ?_
   have hlk60 : lastK 0 0 (l3.map EntP.key) ≤ 1152921504606846976 := by rw [hK10]; exact lastK_le60 (by decide) (newE_ok hq1).2.2
   refine Ops.call (by kernel_rfl) (d := (some 50)) (by kernel_rfl) (FNew_calls _ 1 (cnt me 5) 5 (lastK 0 0 (l3.map EntP.key)) (-1) 0 (fun i => (w.heap.size ≤ i ∧ i < w6.heap.size) ∧ i ≠ g2) g2 0 0 A4 c5 l3 H8 hE9 ot13 (by omega) (by omega) (BigK.keys hK10 hBig) (by omega) (by omega) (by omega) ⟨Int.le_refl _, hlk60⟩ (by omega) (by omega) (by omega)) ?_
   rintro _ w24 ⟨r23, rfl, K25, hr26, hF27⟩
   have hz28 := K0.size
   have hF27L : FolL w24 (fun i => w22.heap.size ≤ i ∧ i < w24.heap.size) r23 (⟨1, cnt me 5, 5, 10 + 2 * (cnt me 5)⟩ : FolQ) (⟨lastK 0 0 (l3.map EntP.key), (-1), -1, 0, 0, 0, 0, (l3.map EntP.key)⟩ : FolS) (.slice none 0 0) := ⟨hF27, fun i hi => hi.2⟩
   have of29 : ∀ i, (fun i => w22.heap.size ≤ i ∧ i < w24.heap.size) i → i ≠ g2 := fun i hi => by have h1 := hi.1; have := H8.lt; omega
   have sl30 : ∀ i, (fun i => w22.heap.size ≤ i ∧ i < w24.heap.size) i → w.heap.size ≤ i := fun i hi => Nat.le_trans hz28 hi.1
   refine ⟨_, _, rfl, rfl, ?_⟩
   replace K0 := K0.t0 K25
   replace H8 := H8.keep K25 (fun h => h)
   replace hE0 := Ents.keep0 hE0 K25
   replace hE9 := Ents.keep0 hE9 K25
   clear K25
   refine og 5 [(2, (Value.slice MA ml.length mc)), (6, (Value.bool false)), (10, (i64 (lastK 0 0 (l3.map EntP.key)))), (11, (ptr r23)), (12, (i64 0))] 9 ?_
   refine od ?_
   refine qs ?_
   refine qs ?_
   refine qg ?_
   refine og 6 [(2, (Value.slice MA ml.length mc)), (6, (Value.bool false)), (10, (i64 (lastK 0 0 (l3.map EntP.key)))), (11, (ptr r23)), (58, (Value.bool false))] 6 ?_
   refine od ?_
   refine q_else (o := .tmp 58) (by kernel_rfl) rfl ?_
   refine q_skip (by kernel_rfl) ?_
   refine qs ?_
   refine qg ?_
   refine Ops.new (o := rowL [(i64 0), (i64 0), (i64 0), (i64 0), (i64 0), (i64 0), (i64 0), (i64 0), (i64 0), (i64 0), (i64 0), (i64 0), (i64 0), (i64 0), (i64 0), (i64 0), (i64 0), (i64 0), (i64 0), (i64 0), (i64 0), (i64 0), (i64 0), (i64 0), (i64 0), (i64 0), (i64 0), (i64 0), (i64 0), (i64 0), (i64 0), (i64 0), (i64 0), (i64 0), (i64 0), (i64 0), (i64 0), (i64 0), (i64 0), (i64 0), (i64 0), (i64 0), (i64 0), (i64 0), (i64 0), (i64 0), (i64 0), (i64 0), (i64 0), (i64 0), (i64 0), (i64 0), (i64 0), (i64 0), (i64 0), (i64 0), (i64 0), (i64 0), (i64 0), (i64 0), (i64 0), (i64 0), (i64 0), (i64 0), (i64 0), (i64 0), (i64 0), (i64 0), (i64 0), (i64 0), (i64 0), (i64 0), (i64 0), (i64 0), (i64 0), (i64 0), (i64 0), (i64 0), (i64 0), (i64 0), (i64 0), (i64 0), (i64 0), (i64 0), (i64 0), (i64 0), (i64 0), (i64 0), (i64 0), (i64 0), (i64 0), (i64 0), (i64 0), (i64 0), (i64 0), (i64 0), (i64 0), (i64 0), (i64 0), (i64 0)] 2) (V := fun b => (Value.slice (some ⟨b, 0, none⟩) 100 100)) (by kernel_rfl) (d := (some 64)) (by kernel_rfl) (fun b => rfl) (fun b31 w32 hb33 H34 K35 hs36 => ?_)
   have lb31g2 : g2 < b31 := by have := H8.lt; omega
   have nb31 : w.heap.size ≤ b31 := by have := K0.size; omega
   have ot37 : ∀ i, (fun i => i < w.heap.size) i → i ≠ b31 := fun i hi => by have := Ents.lt hE0 i hi; omega
   have ot38 : ∀ i, (fun i => (w.heap.size ≤ i ∧ i < w6.heap.size) ∧ i ≠ g2) i → i ≠ b31 := fun i hi => by have := Ents.lt hE9 i hi; omega
   have of39 : ∀ i, (fun i => w22.heap.size ≤ i ∧ i < w24.heap.size) i → i ≠ b31 := fun i hi => by have := hF27L.2 i hi; omega
   replace K0 := K0.t0 K35
   replace H8 := H8.keep K35 (fun h => h)
   replace hE0 := Ents.keep0 hE0 K35
   replace hE9 := Ents.keep0 hE9 K35
   replace hF27L := FolL.keep hF27L K35 (fun _ _ h => h)
   clear K35 hs36
   refine og 1 [(2, (Value.slice MA ml.length mc)), (6, (Value.bool false)), (11, (ptr r23)), (13, (Value.slice (some ⟨b31, 0, none⟩) 100 100))] 2 ?_
   refine od ?_
   refine qs ?_
   refine qg ?_
   refine Ops.new (o := rowL [(i64 0), (i64 0), (i64 0), (i64 0), (i64 0), (i64 0), (i64 0), (i64 0), (i64 0), (i64 0), (i64 0), (i64 0), (i64 0), (i64 0), (i64 0), (i64 0), (i64 0), (i64 0), (i64 0), (i64 0), (i64 0), (i64 0), (i64 0), (i64 0), (i64 0), (i64 0), (i64 0), (i64 0), (i64 0), (i64 0), (i64 0), (i64 0), (i64 0), (i64 0), (i64 0), (i64 0), (i64 0), (i64 0), (i64 0), (i64 0), (i64 0), (i64 0), (i64 0), (i64 0), (i64 0), (i64 0), (i64 0), (i64 0), (i64 0), (i64 0), (i64 0), (i64 0), (i64 0), (i64 0), (i64 0), (i64 0), (i64 0), (i64 0), (i64 0), (i64 0), (i64 0), (i64 0), (i64 0), (i64 0), (i64 0), (i64 0), (i64 0), (i64 0), (i64 0), (i64 0), (i64 0), (i64 0), (i64 0), (i64 0), (i64 0), (i64 0), (i64 0), (i64 0), (i64 0), (i64 0), (i64 0), (i64 0), (i64 0), (i64 0), (i64 0), (i64 0), (i64 0), (i64 0), (i64 0), (i64 0), (i64 0), (i64 0), (i64 0), (i64 0), (i64 0), (i64 0), (i64 0), (i64 0), (i64 0), (i64 0)] 3) (V := fun b => (Value.slice (some ⟨b, 0, none⟩) 100 100)) (by kernel_rfl) (d := (some 65)) (by kernel_rfl) (fun b => rfl) (fun b40 w41 hb42 H43 K44 hs45 => ?_)
   have lb40g2 : g2 < b40 := by have := H8.lt; omega
   have lb40b31 : b31 < b40 := by have := H34.lt; omega
   have nb40 : w.heap.size ≤ b40 := by have := K0.size; omega
   have ot46 : ∀ i, (fun i => i < w.heap.size) i → i ≠ b40 := fun i hi => by have := Ents.lt hE0 i hi; omega
   have ot47 : ∀ i, (fun i => (w.heap.size ≤ i ∧ i < w6.heap.size) ∧ i ≠ g2) i → i ≠ b40 := fun i hi => by have := Ents.lt hE9 i hi; omega
   have of48 : ∀ i, (fun i => w22.heap.size ≤ i ∧ i < w24.heap.size) i → i ≠ b40 := fun i hi => by have := hF27L.2 i hi; omega
   replace K0 := K0.t0 K44
   replace H8 := H8.keep K44 (fun h => h)
   replace H34 := H34.keep K44 (fun h => h)
   replace hE0 := Ents.keep0 hE0 K44
   replace hE9 := Ents.keep0 hE9 K44
   replace hF27L := FolL.keep hF27L K44 (fun _ _ h => h)
   clear K44 hs45
   refine og 1 [(2, (Value.slice MA ml.length mc)), (6, (Value.bool false)), (11, (ptr r23)), (13, (Value.slice (some ⟨b31, 0, none⟩) 100 100)), (14, (Value.slice (some ⟨b40, 0, none⟩) 100 100))] 2 ?_
   refine od ?_
   refine qs ?_
   refine qg ?_
   refine og 1 [(2, (Value.slice MA ml.length mc)), (6, (Value.bool false)), (11, (ptr r23)), (13, (Value.slice (some ⟨b31, 0, none⟩) 100 100)), (14, (Value.slice (some ⟨b40, 0, none⟩) 100 100)), (15, (i64 0))] 1 ?_
   refine od ?_
   refine qs ?_
   refine qs ?_
   refine qg ?_
   refine og 1 [(2, (Value.slice MA ml.length mc)), (6, (Value.bool false)), (11, (ptr r23)), (13, (Value.slice (some ⟨b31, 0, none⟩) 100 100)), (14, (Value.slice (some ⟨b40, 0, none⟩) 100 100)), (15, (i64 0)), (16, (i64 0))] 1 ?_
   refine od ?_
   refine q_block (id := 0) (by kernel_rfl) ?_
   refine q_keep (R := [(2, (Value.slice MA ml.length mc)), (11, (ptr r23)), (13, (Value.slice (some ⟨b31, 0, none⟩) 100 100)), (14, (Value.slice (some ⟨b40, 0, none⟩) 100 100)), (15, (i64 0)), (16, (i64 0))]) (by kernel_rfl) ?_
   refine q_loop (fun (gs : Nat × (Nat → Prop) × FolS × (List Int) × (List Int) × Nat) L (wx : World) => match gs with | (kk, F, s, ts, ws, nn) => L = [(2, (Value.slice MA ml.length mc)), (11, (ptr r23)), (13, (Value.slice (some ⟨b31, 0, none⟩) 100 100)), (14, (Value.slice (some ⟨b40, 0, none⟩) 100 100)), (15, (i64 ((nn : Nat) : Int))), (16, (i64 ((kk : Nat) : Int)))] ∧ FolL wx F r23 (⟨1, cnt me 5, 5, 10 + 2 * (cnt me 5)⟩ : FolQ) s (.slice none 0 0) ∧ (∀ i, F i → i ≠ b31) ∧ (∀ i, F i → i ≠ b40) ∧ (∀ i, F i → w.heap.size ≤ i) ∧ ts.length = 100 ∧ ws.length = 100 ∧ nn ≤ kk ∧ kk ≤ ml.length ∧ kk ≤ 80 ∧ (∀ j, j < nn → ts.getD j 0 ≤ s.term ∧ (ts.getD j 0 = s.term → ws.getD j 0 = s.voted) ∧ 0 ≤ ws.getD j 0) ∧ Keeps none_ w wx ∧ Has wx b31 (rowL (ints ts) 2) ∧ Has wx b40 (rowL (ints ws) 3)) (fun (gs : Nat × (Nat → Prop) × FolS × (List Int) × (List Int) × Nat) => match gs with | (kk, F, s, ts, ws, nn) => ml.length - kk) (0, (fun i => w22.heap.size ≤ i ∧ i < w24.heap.size), (⟨lastK 0 0 (l3.map EntP.key), (-1), -1, 0, 0, 0, 0, (l3.map EntP.key)⟩ : FolS), (List.replicate 100 (0 : Int)), (List.replicate 100 (0 : Int)), 0) (by kernel_rfl) ⟨rfl, hF27L, of39, of48, sl30, (by rw [List.length_replicate]), (by rw [List.length_replicate]), Nat.le_refl _, Nat.zero_le _, Nat.zero_le _, (fun j hj => absurd hj (Nat.not_lt_zero j)), K0, (show Has _ b31 (rowL (ints (List.replicate 100 (0 : Int))) 2) from H34), (show Has _ b40 (rowL (ints (List.replicate 100 (0 : Int))) 3) from H43)⟩ ?_
   clear H34 H43 hE0 hE9 hF27L K0
   rintro ⟨kk, F, s, ts, ws, nn⟩ _ w49 ⟨rfl, hFL, hFT, hFW, hlow, hts, hws, hnn, hk, hk80, hinv, K50, H51, H52⟩
   refine qs ?_
   refine qs ?_
   refine qg ?_
   refine og 5 [(2, (Value.slice MA ml.length mc)), (11, (ptr r23)), (13, (Value.slice (some ⟨b31, 0, none⟩) 100 100)), (14, (Value.slice (some ⟨b40, 0, none⟩) 100 100)), (15, (i64 ((nn : Nat) : Int))), (16, (i64 ((kk : Nat) : Int))), (70, (Value.bool (decide (((kk : Nat) : Int) < ((ml.length : Nat) : Int)))))] 5 ?_
   refine Ops.split (decide (((kk : Nat) : Int) < ((ml.length : Nat) : Int))) (fun h53 => ?_) (fun h53 => ?_)
   ·rw [h53]
    have p54 : ((kk : Nat) : Int) < ((ml.length : Nat) : Int) := of_decide_eq_true h53
    refine og 3 [(2, (Value.slice MA ml.length mc)), (11, (ptr r23)), (13, (Value.slice (some ⟨b31, 0, none⟩) 100 100)), (14, (Value.slice (some ⟨b40, 0, none⟩) 100 100)), (15, (i64 ((nn : Nat) : Int))), (16, (i64 ((kk : Nat) : Int))), (73, (Value.bool (decide (((kk : Nat) : Int) < 80))))] 8 ?_
    refine od ?_
    refine q_cond (o := .tmp 73) (b := (decide (((kk : Nat) : Int) < 80))) (by kernel_rfl) rfl (fun h55 => ?_) (fun h55 => ?_)
    ·rw [h55]
     have p56 : ((kk : Nat) : Int) < 80 := of_decide_eq_true h55
     refine q_skip (by kernel_rfl) ?_
     refine qs ?_
     refine q_block (id := 1) (by kernel_rfl) ?_
     refine qs ?_
     refine qg ?_
     refine og 1 [(2, (Value.slice MA ml.length mc)), (11, (ptr r23)), (13, (Value.slice (some ⟨b31, 0, none⟩) 100 100)), (14, (Value.slice (some ⟨b40, 0, none⟩) 100 100)), (15, (i64 ((nn : Nat) : Int))), (16, (i64 ((kk : Nat) : Int))), (76, (ptr r23))] 1 ?_
     refine Ops.call (by kernel_rfl) (d := (some 77)) (by kernel_rfl) (InfoF_calls _ F r23 (⟨1, cnt me 5, 5, 10 + 2 * (cnt me 5)⟩ : FolQ) s (.slice none 0 0) hFL.1) ?_
     rintro _ w58 ⟨rfl, K57⟩
     refine ⟨_, _, rfl, rfl, ?_⟩
     replace K50 := K50.trans K57 (U := none_) (fun i h1 h2 => h2) (fun i h1 h2 => by exact h2)
     replace H51 := H51.keep K57 (fun h => h)
     replace H52 := H52.keep K57 (fun h => h)
     replace hFL := FolL.keep hFL K57 (fun _ _ h => h)
     clear K57
     refine Ops.new (o := rowL [(i64 0), (i64 0), (i64 0), (i64 0), (i64 0)] 35) (V := fun b => (ptr b)) (by kernel_rfl) (d := (some 17)) (by kernel_rfl) (fun b => rfl) (fun b59 w60 hb61 H62 K63 hs64 => ?_)
     have lb59b31 : b31 < b59 := by have := H51.lt; omega
     have lb59b40 : b40 < b59 := by have := H52.lt; omega
     have nb59 : w.heap.size ≤ b59 := by have := K50.size; omega
     have of65 : ∀ i, F i → i ≠ b59 := fun i hi => by have := hFL.2 i hi; omega
     replace K50 := K50.trans K63 (U := none_) (fun i h1 h2 => h2) (fun i h1 h2 => by exact h2)
     replace H51 := H51.keep K63 (fun h => h)
     replace H52 := H52.keep K63 (fun h => h)
     replace hFL := FolL.keep hFL K63 (fun _ _ h => h)
     clear K63 hs64
     refine Ops.put (t := 35) (b := b59) (off := 0) (v := (agg [(i64 s.term), (i64 s.voted), (i64 0), (i64 s.leader), (i64 s.commit)])) (ys := [(i64 s.term), (i64 s.voted), (i64 0), (i64 s.leader), (i64 s.commit)]) (by kernel_rfl) (by kernel_rfl) H62 (by kernel_rfl) (d := none) (by kernel_rfl) rfl (fun w66 H67 K68 => ?_)
     clear H62
     replace K50 := K50.trans K68 (U := none_) (fun i h1 h2 => h2) (fun i h1 h2 => by have h2 : i = b59 := h2; exfalso; omega)
     replace H51 := H51.k1 K68 (by omega)
     replace H52 := H52.k1 K68 (by omega)
     replace hFL := FolL.keep hFL K68 of65
     clear K68
     refine od ?_
     refine qs ?_
     refine qg ?_
     refine og 3 [(2, (Value.slice MA ml.length mc)), (11, (ptr r23)), (13, (Value.slice (some ⟨b31, 0, none⟩) 100 100)), (14, (Value.slice (some ⟨b40, 0, none⟩) 100 100)), (15, (i64 ((nn : Nat) : Int))), (16, (i64 ((kk : Nat) : Int))), (17, (ptr b59)), (78, (ptr r23)), (79, (Value.slice MA ml.length mc)), (80, (i64 ((kk : Nat) : Int)))] 3 ?_
     obtain ⟨rb69, ro70, x, hA71, hx72⟩ := RdT.open (Rd.keep0 (by omega) hMl K50) rfl (k := kk) (by omega)
     have hx := hMi x (List.mem_of_getElem? hx72)
     refine Ops.go (by kernel_rfl) (Runs.ixSliceE (k := IntKind.i64) (t := 32) (len := ml.length) (cap := mc) (s := 11) (off' := ro70 + kk * 11) (i := ((kk : Nat) : Int)) hA71 (by kernel_rfl) (by kernel_rfl) (by omega) (by omega) (by omega)) (d := (some 81)) (by kernel_rfl) rfl ?_
     refine Ops.go (v := (agg x.cells)) (by kernel_rfl) (Runs.load (t := 46) (a := ⟨rb69, ro70 + kk * 11, none⟩) (by kernel_rfl) (RdT.ld (f := MsgR.cells) (x := x) MsgR.two (Rd.keep0 (by omega) hMl K50) (by kernel_rfl) (by kernel_rfl) hA71 hx72)) (d := (some 82)) (by kernel_rfl) rfl ?_
     refine Ops.call (by kernel_rfl) (d := (some 83)) (by kernel_rfl) (Step_calls _ F r23 (⟨1, cnt me 5, 5, 10 + 2 * (cnt me 5)⟩ : FolQ) s x.m x.E x.ec x.D x.dc (fun i => i < w.heap.size) hFL.1 hFL.2 ((Ents.given hx.ents hx.ins).keep0 K50) hx.big hx.elen hx.ok (fun i hi h => by have z1 : i < w.heap.size := hi; have := hlow i h; omega) (hx.data.keep0 (by omega) K50) (fun hb i hi => ⟨fun h => by have := Rd.lt hx.data (bv_ne hb) i hi; have := hlow i h; omega, Nat.lt_of_lt_of_le (Rd.lt hx.data (bv_ne hb) i hi) K50.size⟩) hx.dlen) ?_
     rintro _ w76 ⟨s73, ov74, (_ | o75), rfl, K77, hF78, hO79, hR80⟩
     ·refine ⟨_, _, rfl, rfl, ?_⟩
      have of81 : ∀ i, (fun i => (F i ∨ w66.heap.size ≤ i) ∧ i < w76.heap.size) i → i ≠ b31 := fun i hi => by rcases hi.1 with z | z; (exact hFT i z); (have := H51.lt; omega)
      have of82 : ∀ i, (fun i => (F i ∨ w66.heap.size ≤ i) ∧ i < w76.heap.size) i → i ≠ b40 := fun i hi => by rcases hi.1 with z | z; (exact hFW i z); (have := H52.lt; omega)
      have of83 : ∀ i, (fun i => (F i ∨ w66.heap.size ≤ i) ∧ i < w76.heap.size) i → i ≠ b59 := fun i hi => by rcases hi.1 with z | z; (exact of65 i z); (have := H67.lt; omega)
      have sl84 : ∀ i, (fun i => (F i ∨ w66.heap.size ≤ i) ∧ i < w76.heap.size) i → w.heap.size ≤ i := fun i hi => hi.1.elim (fun z => hlow i z) (fun z => Nat.le_trans K50.size z)
      have hO79 : ov74 = .slice none 0 0 := hO79
      subst hO79
      have hm1 : s.term ≤ s73.term := by rcases hR80 with ⟨_, z, _⟩ | ⟨_, _, z, _⟩; (rw [z]; exact Int.le_refl _); exact z
      have hm2 : s.commit ≤ s73.commit := by rcases hR80 with ⟨_, z, _⟩ | ⟨_, _, _, z, _⟩; (rw [z]; exact Int.le_refl _); exact z
      have hm3 : s73.term = s.term → 0 ≤ s.voted → s73.voted = s.voted := by rcases hR80 with ⟨_, z, _⟩ | ⟨_, _, _, _, z, _⟩; (intro _ _; rw [z]); exact z
      have hF78L : FolL w76 (fun i => (F i ∨ w66.heap.size ≤ i) ∧ i < w76.heap.size) r23 (⟨1, cnt me 5, 5, 10 + 2 * (cnt me 5)⟩ : FolQ) s73 (.slice none 0 0) := ⟨hF78, fun i hi => hi.2⟩
      replace K50 := K50.trans K77 (U := none_) (fun i h1 h2 => h2) (fun i h1 h2 => by have h2 : F i := h2; exfalso; have := hlow i h2; omega)
      replace H51 := H51.keep K77 (by intro h; change F b31 at h; have := hFT b31 h; omega)
      replace H52 := H52.keep K77 (by intro h; change F b40 at h; have := hFW b40 h; omega)
      replace H67 := H67.keep K77 (by intro h; change F b59 at h; have := of65 b59 h; omega)
      clear K77
      refine og 1 [(2, (Value.slice MA ml.length mc)), (11, (ptr r23)), (13, (Value.slice (some ⟨b31, 0, none⟩) 100 100)), (14, (Value.slice (some ⟨b40, 0, none⟩) 100 100)), (15, (i64 ((nn : Nat) : Int))), (16, (i64 ((kk : Nat) : Int))), (17, (ptr b59)), (18, (Value.slice none 0 0))] 7 ?_
      refine od ?_
      refine qs ?_
      refine qg ?_
      refine og 1 [(2, (Value.slice MA ml.length mc)), (11, (ptr r23)), (13, (Value.slice (some ⟨b31, 0, none⟩) 100 100)), (14, (Value.slice (some ⟨b40, 0, none⟩) 100 100)), (15, (i64 ((nn : Nat) : Int))), (16, (i64 ((kk : Nat) : Int))), (17, (ptr b59)), (18, (Value.slice none 0 0)), (84, (ptr r23))] 1 ?_
      refine Ops.call (by kernel_rfl) (d := (some 85)) (by kernel_rfl) (InfoF_calls _ (fun i => (F i ∨ w66.heap.size ≤ i) ∧ i < w76.heap.size) r23 (⟨1, cnt me 5, 5, 10 + 2 * (cnt me 5)⟩ : FolQ) s73 (.slice none 0 0) hF78L.1) ?_
      rintro _ w92 ⟨rfl, K91⟩
      refine ⟨_, _, rfl, rfl, ?_⟩
      replace K50 := K50.trans K91 (U := none_) (fun i h1 h2 => h2) (fun i h1 h2 => by exact h2)
      replace H51 := H51.keep K91 (fun h => h)
      replace H52 := H52.keep K91 (fun h => h)
      replace H67 := H67.keep K91 (fun h => h)
      replace hF78L := FolL.keep hF78L K91 (fun _ _ h => h)
      clear K91
      refine Ops.new (o := rowL [(i64 0), (i64 0), (i64 0), (i64 0), (i64 0)] 35) (V := fun b => (ptr b)) (by kernel_rfl) (d := (some 19)) (by kernel_rfl) (fun b => rfl) (fun b93 w94 hb95 H96 K97 hs98 => ?_)
      have lb93b31 : b31 < b93 := by have := H51.lt; omega
      have lb93b40 : b40 < b93 := by have := H52.lt; omega
      have lb93b59 : b59 < b93 := by have := H67.lt; omega
      have nb93 : w.heap.size ≤ b93 := by have := K50.size; omega
      have of99 : ∀ i, (fun i => (F i ∨ w66.heap.size ≤ i) ∧ i < w76.heap.size) i → i ≠ b93 := fun i hi => by have := hF78L.2 i hi; omega
      replace K50 := K50.trans K97 (U := none_) (fun i h1 h2 => h2) (fun i h1 h2 => by exact h2)
      replace H51 := H51.keep K97 (fun h => h)
      replace H52 := H52.keep K97 (fun h => h)
      replace H67 := H67.keep K97 (fun h => h)
      replace hF78L := FolL.keep hF78L K97 (fun _ _ h => h)
      clear K97 hs98
      refine Ops.put (t := 35) (b := b93) (off := 0) (v := (agg [(i64 s73.term), (i64 s73.voted), (i64 0), (i64 s73.leader), (i64 s73.commit)])) (ys := [(i64 s73.term), (i64 s73.voted), (i64 0), (i64 s73.leader), (i64 s73.commit)]) (by kernel_rfl) (by kernel_rfl) H96 (by kernel_rfl) (d := none) (by kernel_rfl) rfl (fun w100 H101 K102 => ?_)
      clear H96
      replace K50 := K50.trans K102 (U := none_) (fun i h1 h2 => h2) (fun i h1 h2 => by have h2 : i = b93 := h2; exfalso; omega)
      replace H51 := H51.k1 K102 (by omega)
      replace H52 := H52.k1 K102 (by omega)
      replace H67 := H67.k1 K102 (by omega)
      replace hF78L := FolL.keep hF78L K102 of99
      clear K102
      refine od ?_
      refine qs ?_
      refine q_seq2 [(2, (Value.slice MA ml.length mc)), (11, (ptr r23)), (13, (Value.slice (some ⟨b31, 0, none⟩) 100 100)), (14, (Value.slice (some ⟨b40, 0, none⟩) 100 100)), (15, (i64 ((nn : Nat) : Int))), (16, (i64 ((kk : Nat) : Int))), (18, (Value.slice none 0 0)), (116, (Value.bool false))] (by kernel_rfl) ?_ ?_
      ·skip
       refine qg ?_
       refine og 1 [(2, (Value.slice MA ml.length mc)), (11, (ptr r23)), (13, (Value.slice (some ⟨b31, 0, none⟩) 100 100)), (14, (Value.slice (some ⟨b40, 0, none⟩) 100 100)), (15, (i64 ((nn : Nat) : Int))), (16, (i64 ((kk : Nat) : Int))), (17, (ptr b59)), (18, (Value.slice none 0 0)), (19, (ptr b93)), (86, (ptr b93))] 1 ?_
       refine Ops.go (v := (i64 s73.term)) (by kernel_rfl) (Runs.load (t := 2) (a := ⟨b93, 0, none⟩) (by kernel_rfl) (H101.loads (by kernel_rfl))) (d := (some 87)) (by kernel_rfl) rfl ?_
       refine og 1 [(2, (Value.slice MA ml.length mc)), (11, (ptr r23)), (13, (Value.slice (some ⟨b31, 0, none⟩) 100 100)), (14, (Value.slice (some ⟨b40, 0, none⟩) 100 100)), (15, (i64 ((nn : Nat) : Int))), (16, (i64 ((kk : Nat) : Int))), (17, (ptr b59)), (18, (Value.slice none 0 0)), (19, (ptr b93)), (87, (i64 s73.term)), (88, (ptr b59))] 3 ?_
       refine Ops.go (v := (i64 s.term)) (by kernel_rfl) (Runs.load (t := 2) (a := ⟨b59, 0, none⟩) (by kernel_rfl) (H67.loads (by kernel_rfl))) (d := (some 89)) (by kernel_rfl) rfl ?_
       refine og 2 [(2, (Value.slice MA ml.length mc)), (11, (ptr r23)), (13, (Value.slice (some ⟨b31, 0, none⟩) 100 100)), (14, (Value.slice (some ⟨b40, 0, none⟩) 100 100)), (15, (i64 ((nn : Nat) : Int))), (16, (i64 ((kk : Nat) : Int))), (17, (ptr b59)), (18, (Value.slice none 0 0)), (19, (ptr b93)), (91, (Value.bool (decide (s73.term < s.term))))] 6 ?_
       have h103 : (decide (s73.term < s.term)) = false := decide_eq_false (by omega)
       rw [h103]
       refine og 1 [(2, (Value.slice MA ml.length mc)), (11, (ptr r23)), (13, (Value.slice (some ⟨b31, 0, none⟩) 100 100)), (14, (Value.slice (some ⟨b40, 0, none⟩) 100 100)), (15, (i64 ((nn : Nat) : Int))), (16, (i64 ((kk : Nat) : Int))), (17, (ptr b59)), (18, (Value.slice none 0 0)), (19, (ptr b93)), (91, (Value.bool false)), (92, (Value.pointer (some ⟨b93, 4, none⟩)))] 7 ?_
       refine Ops.go (v := (i64 s73.commit)) (by kernel_rfl) (Runs.load (t := 2) (a := ⟨b93, 4, none⟩) (by kernel_rfl) (H101.loads (by kernel_rfl))) (d := (some 93)) (by kernel_rfl) rfl ?_
       refine og 1 [(2, (Value.slice MA ml.length mc)), (11, (ptr r23)), (13, (Value.slice (some ⟨b31, 0, none⟩) 100 100)), (14, (Value.slice (some ⟨b40, 0, none⟩) 100 100)), (15, (i64 ((nn : Nat) : Int))), (16, (i64 ((kk : Nat) : Int))), (17, (ptr b59)), (18, (Value.slice none 0 0)), (19, (ptr b93)), (91, (Value.bool false)), (93, (i64 s73.commit)), (94, (Value.pointer (some ⟨b59, 4, none⟩)))] 9 ?_
       refine Ops.go (v := (i64 s.commit)) (by kernel_rfl) (Runs.load (t := 2) (a := ⟨b59, 4, none⟩) (by kernel_rfl) (H67.loads (by kernel_rfl))) (d := (some 95)) (by kernel_rfl) rfl ?_
       refine og 3 [(2, (Value.slice MA ml.length mc)), (11, (ptr r23)), (13, (Value.slice (some ⟨b31, 0, none⟩) 100 100)), (14, (Value.slice (some ⟨b40, 0, none⟩) 100 100)), (15, (i64 ((nn : Nat) : Int))), (16, (i64 ((kk : Nat) : Int))), (17, (ptr b59)), (18, (Value.slice none 0 0)), (19, (ptr b93)), (98, (Value.bool (decide (s73.commit < s.commit))))] 13 ?_
       have h104 : (decide (s73.commit < s.commit)) = false := decide_eq_false (by omega)
       rw [h104]
       refine og 1 [(2, (Value.slice MA ml.length mc)), (11, (ptr r23)), (13, (Value.slice (some ⟨b31, 0, none⟩) 100 100)), (14, (Value.slice (some ⟨b40, 0, none⟩) 100 100)), (15, (i64 ((nn : Nat) : Int))), (16, (i64 ((kk : Nat) : Int))), (17, (ptr b59)), (18, (Value.slice none 0 0)), (19, (ptr b93)), (98, (Value.bool false)), (99, (ptr b93))] 14 ?_
       refine Ops.go (v := (i64 s73.term)) (by kernel_rfl) (Runs.load (t := 2) (a := ⟨b93, 0, none⟩) (by kernel_rfl) (H101.loads (by kernel_rfl))) (d := (some 100)) (by kernel_rfl) rfl ?_
       refine og 1 [(2, (Value.slice MA ml.length mc)), (11, (ptr r23)), (13, (Value.slice (some ⟨b31, 0, none⟩) 100 100)), (14, (Value.slice (some ⟨b40, 0, none⟩) 100 100)), (15, (i64 ((nn : Nat) : Int))), (16, (i64 ((kk : Nat) : Int))), (17, (ptr b59)), (18, (Value.slice none 0 0)), (19, (ptr b93)), (98, (Value.bool false)), (100, (i64 s73.term)), (101, (ptr b59))] 16 ?_
       refine Ops.go (v := (i64 s.term)) (by kernel_rfl) (Runs.load (t := 2) (a := ⟨b59, 0, none⟩) (by kernel_rfl) (H67.loads (by kernel_rfl))) (d := (some 102)) (by kernel_rfl) rfl ?_
       refine og 2 [(2, (Value.slice MA ml.length mc)), (11, (ptr r23)), (13, (Value.slice (some ⟨b31, 0, none⟩) 100 100)), (14, (Value.slice (some ⟨b40, 0, none⟩) 100 100)), (15, (i64 ((nn : Nat) : Int))), (16, (i64 ((kk : Nat) : Int))), (17, (ptr b59)), (18, (Value.slice none 0 0)), (19, (ptr b93)), (98, (Value.bool false)), (104, (Value.bool (s73.term == s.term)))] 19 ?_
       refine Ops.split (s73.term == s.term) (fun h105 => ?_) (fun h105 => ?_)
       ·rw [h105]
        have p106 : s73.term = s.term := of_beq_t h105
        refine og 1 [(2, (Value.slice MA ml.length mc)), (11, (ptr r23)), (13, (Value.slice (some ⟨b31, 0, none⟩) 100 100)), (14, (Value.slice (some ⟨b40, 0, none⟩) 100 100)), (15, (i64 ((nn : Nat) : Int))), (16, (i64 ((kk : Nat) : Int))), (17, (ptr b59)), (18, (Value.slice none 0 0)), (19, (ptr b93)), (98, (Value.bool false)), (104, (Value.bool true)), (105, (Value.pointer (some ⟨b59, 1, none⟩)))] 20 ?_
        refine Ops.go (v := (i64 s.voted)) (by kernel_rfl) (Runs.load (t := 3) (a := ⟨b59, 1, none⟩) (by kernel_rfl) (H67.loads (by kernel_rfl))) (d := (some 106)) (by kernel_rfl) rfl ?_
        refine og 3 [(2, (Value.slice MA ml.length mc)), (11, (ptr r23)), (13, (Value.slice (some ⟨b31, 0, none⟩) 100 100)), (14, (Value.slice (some ⟨b40, 0, none⟩) 100 100)), (15, (i64 ((nn : Nat) : Int))), (16, (i64 ((kk : Nat) : Int))), (17, (ptr b59)), (18, (Value.slice none 0 0)), (19, (ptr b93)), (98, (Value.bool false)), (109, (Value.bool (decide (s.voted ≥ 0))))] 24 ?_
        refine Ops.split (decide (s.voted ≥ 0)) (fun h107 => ?_) (fun h107 => ?_)
        ·rw [h107]
         have p108 : s.voted ≥ 0 := of_decide_eq_true h107
         refine og 1 [(2, (Value.slice MA ml.length mc)), (11, (ptr r23)), (13, (Value.slice (some ⟨b31, 0, none⟩) 100 100)), (14, (Value.slice (some ⟨b40, 0, none⟩) 100 100)), (15, (i64 ((nn : Nat) : Int))), (16, (i64 ((kk : Nat) : Int))), (17, (ptr b59)), (18, (Value.slice none 0 0)), (98, (Value.bool false)), (109, (Value.bool true)), (110, (Value.pointer (some ⟨b93, 1, none⟩)))] 25 ?_
         refine Ops.go (v := (i64 s73.voted)) (by kernel_rfl) (Runs.load (t := 3) (a := ⟨b93, 1, none⟩) (by kernel_rfl) (H101.loads (by kernel_rfl))) (d := (some 111)) (by kernel_rfl) rfl ?_
         refine og 1 [(2, (Value.slice MA ml.length mc)), (11, (ptr r23)), (13, (Value.slice (some ⟨b31, 0, none⟩) 100 100)), (14, (Value.slice (some ⟨b40, 0, none⟩) 100 100)), (15, (i64 ((nn : Nat) : Int))), (16, (i64 ((kk : Nat) : Int))), (18, (Value.slice none 0 0)), (98, (Value.bool false)), (109, (Value.bool true)), (111, (i64 s73.voted)), (112, (Value.pointer (some ⟨b59, 1, none⟩)))] 27 ?_
         refine Ops.go (v := (i64 s.voted)) (by kernel_rfl) (Runs.load (t := 3) (a := ⟨b59, 1, none⟩) (by kernel_rfl) (H67.loads (by kernel_rfl))) (d := (some 113)) (by kernel_rfl) rfl ?_
         refine og 3 [(2, (Value.slice MA ml.length mc)), (11, (ptr r23)), (13, (Value.slice (some ⟨b31, 0, none⟩) 100 100)), (14, (Value.slice (some ⟨b40, 0, none⟩) 100 100)), (15, (i64 ((nn : Nat) : Int))), (16, (i64 ((kk : Nat) : Int))), (18, (Value.slice none 0 0)), (116, (Value.bool (s73.voted != s.voted)))] 31 ?_
         have h109 : (s73.voted != s.voted) = false := bne_f (by omega)
         rw [h109]
         refine Ops.keep (R := [(2, (Value.slice MA ml.length mc)), (11, (ptr r23)), (13, (Value.slice (some ⟨b31, 0, none⟩) 100 100)), (14, (Value.slice (some ⟨b40, 0, none⟩) 100 100)), (15, (i64 ((nn : Nat) : Int))), (16, (i64 ((kk : Nat) : Int))), (18, (Value.slice none 0 0)), (116, (Value.bool false))]) (by kernel_rfl) ?_
         refine od ?_
         exact ⟨rfl, rfl, rfl⟩
        ·rw [h107]
         have p110 : ¬ (s.voted ≥ 0) := of_decide_eq_false h107
         refine og 7 [(2, (Value.slice MA ml.length mc)), (11, (ptr r23)), (13, (Value.slice (some ⟨b31, 0, none⟩) 100 100)), (14, (Value.slice (some ⟨b40, 0, none⟩) 100 100)), (15, (i64 ((nn : Nat) : Int))), (16, (i64 ((kk : Nat) : Int))), (18, (Value.slice none 0 0)), (116, (Value.bool false))] 31 ?_
         refine Ops.keep (R := [(2, (Value.slice MA ml.length mc)), (11, (ptr r23)), (13, (Value.slice (some ⟨b31, 0, none⟩) 100 100)), (14, (Value.slice (some ⟨b40, 0, none⟩) 100 100)), (15, (i64 ((nn : Nat) : Int))), (16, (i64 ((kk : Nat) : Int))), (18, (Value.slice none 0 0)), (116, (Value.bool false))]) (by kernel_rfl) ?_
         refine od ?_
         exact ⟨rfl, rfl, rfl⟩
       ·rw [h105]
        have p111 : ¬ (s73.term = s.term) := of_beq_f h105
        refine og 12 [(2, (Value.slice MA ml.length mc)), (11, (ptr r23)), (13, (Value.slice (some ⟨b31, 0, none⟩) 100 100)), (14, (Value.slice (some ⟨b40, 0, none⟩) 100 100)), (15, (i64 ((nn : Nat) : Int))), (16, (i64 ((kk : Nat) : Int))), (18, (Value.slice none 0 0)), (116, (Value.bool false))] 31 ?_
        refine Ops.keep (R := [(2, (Value.slice MA ml.length mc)), (11, (ptr r23)), (13, (Value.slice (some ⟨b31, 0, none⟩) 100 100)), (14, (Value.slice (some ⟨b40, 0, none⟩) 100 100)), (15, (i64 ((nn : Nat) : Int))), (16, (i64 ((kk : Nat) : Int))), (18, (Value.slice none 0 0)), (116, (Value.bool false))]) (by kernel_rfl) ?_
        refine od ?_
        exact ⟨rfl, rfl, rfl⟩
      ·skip
       refine q_else (o := .tmp 116) (by kernel_rfl) rfl ?_
       refine q_skip (by kernel_rfl) ?_
       refine qs ?_
       refine qg ?_
       refine og 1 [(2, (Value.slice MA ml.length mc)), (11, (ptr r23)), (13, (Value.slice (some ⟨b31, 0, none⟩) 100 100)), (14, (Value.slice (some ⟨b40, 0, none⟩) 100 100)), (15, (i64 ((nn : Nat) : Int))), (16, (i64 ((kk : Nat) : Int))), (18, (Value.slice none 0 0)), (20, (i64 0))] 1 ?_
       refine od ?_
       refine q_block (id := 2) (by kernel_rfl) ?_
       refine q_roll 2 (by kernel_rfl) ?_
       refine roll_step ?_
       refine qs ?_
       refine qs ?_
       refine qg ?_
       refine og 4 [(2, (Value.slice MA ml.length mc)), (11, (ptr r23)), (13, (Value.slice (some ⟨b31, 0, none⟩) 100 100)), (14, (Value.slice (some ⟨b40, 0, none⟩) 100 100)), (15, (i64 ((nn : Nat) : Int))), (16, (i64 ((kk : Nat) : Int))), (18, (Value.slice none 0 0)), (20, (i64 0)), (120, (Value.bool false))] 4 ?_
       refine od ?_
       refine q_else (o := .tmp 120) (by kernel_rfl) rfl ?_
       refine q_exit (id := 2) (by kernel_rfl) ?_
       refine qg ?_
       refine og 2 [(2, (Value.slice MA ml.length mc)), (11, (ptr r23)), (13, (Value.slice (some ⟨b31, 0, none⟩) 100 100)), (14, (Value.slice (some ⟨b40, 0, none⟩) 100 100)), (15, (i64 ((nn : Nat) : Int))), (16, (i64 ((kk : Nat) : Int))), (20, (i64 0)), (75, (i64 (IntKind.i64.wrap (((kk : Nat) : Int) + 1))))] 2 ?_
       have e112 : IntKind.i64.wrap (((kk : Nat) : Int) + 1) = ((kk + 1 : Nat) : Int) := by rw [wrap_i64 (by omega) (by omega)]; omega
       rw [e112]
       clear e112
       refine og 1 [(2, (Value.slice MA ml.length mc)), (11, (ptr r23)), (13, (Value.slice (some ⟨b31, 0, none⟩) 100 100)), (14, (Value.slice (some ⟨b40, 0, none⟩) 100 100)), (15, (i64 ((nn : Nat) : Int))), (16, (i64 ((kk + 1 : Nat) : Int))), (20, (i64 0))] 3 ?_
       refine Ops.keep (R := [(2, (Value.slice MA ml.length mc)), (11, (ptr r23)), (13, (Value.slice (some ⟨b31, 0, none⟩) 100 100)), (14, (Value.slice (some ⟨b40, 0, none⟩) 100 100)), (15, (i64 ((nn : Nat) : Int))), (16, (i64 ((kk + 1 : Nat) : Int)))]) (by kernel_rfl) ?_
       refine od ?_
       exact ⟨(kk + 1, (fun i => (F i ∨ w66.heap.size ≤ i) ∧ i < w76.heap.size), s73, ts, ws, nn), ⟨rfl, hF78L, of81, of82, sl84, hts, hws, (by omega), (by omega), (by omega), (fun j hj => by have z := hinv j hj; exact ⟨by omega, fun h => by omega, z.2.2⟩), K50, H51, H52⟩, (show ml.length - (kk + 1) < ml.length - kk from by omega)⟩
     ·refine ⟨_, _, rfl, rfl, ?_⟩
      have of81 : ∀ i, (fun i => (F i ∨ w66.heap.size ≤ i) ∧ i < w76.heap.size) i → i ≠ b31 := fun i hi => by rcases hi.1 with z | z; (exact hFT i z); (have := H51.lt; omega)
      have of82 : ∀ i, (fun i => (F i ∨ w66.heap.size ≤ i) ∧ i < w76.heap.size) i → i ≠ b40 := fun i hi => by rcases hi.1 with z | z; (exact hFW i z); (have := H52.lt; omega)
      have of83 : ∀ i, (fun i => (F i ∨ w66.heap.size ≤ i) ∧ i < w76.heap.size) i → i ≠ b59 := fun i hi => by rcases hi.1 with z | z; (exact of65 i z); (have := H67.lt; omega)
      have sl84 : ∀ i, (fun i => (F i ∨ w66.heap.size ≤ i) ∧ i < w76.heap.size) i → w.heap.size ≤ i := fun i hi => hi.1.elim (fun z => hlow i z) (fun z => Nat.le_trans K50.size z)
      obtain ⟨ob85, cap86, rest87, e88, e89, H90⟩ := hO79
      subst e88
      have lob85b31 : b31 < ob85 := by have := H51.lt; omega
      have lob85b40 : b40 < ob85 := by have := H52.lt; omega
      have lob85b59 : b59 < ob85 := by have := H67.lt; omega
      have nob85 : w.heap.size ≤ ob85 := Nat.le_trans K50.size e89
      have hm1 : s.term ≤ s73.term := by rcases hR80 with ⟨_, z, _⟩ | ⟨_, _, z, _⟩; (rw [z]; exact Int.le_refl _); exact z
      have hm2 : s.commit ≤ s73.commit := by rcases hR80 with ⟨_, z, _⟩ | ⟨_, _, _, z, _⟩; (rw [z]; exact Int.le_refl _); exact z
      have hm3 : s73.term = s.term → 0 ≤ s.voted → s73.voted = s.voted := by rcases hR80 with ⟨_, z, _⟩ | ⟨_, _, _, _, z, _⟩; (intro _ _; rw [z]); exact z
      have hF78L : FolL w76 (fun i => (F i ∨ w66.heap.size ≤ i) ∧ i < w76.heap.size) r23 (⟨1, cnt me 5, 5, 10 + 2 * (cnt me 5)⟩ : FolQ) s73 (.slice none 0 0) := ⟨hF78, fun i hi => hi.2⟩
      have hv : o75.kind = 2 → o75.ok = true → o75.term = s73.term ∧ o75.to = s73.voted ∧ 0 ≤ s73.voted ∧ s73.base = s.base ∧ s73.old = s.old ∧ s73.ks = s.ks ∧ (lastK s.base s.old s.ks < x.m.logTerm ∨ x.m.logTerm = lastK s.base s.old s.ks ∧ s.base + ((s.ks.length : Nat) : Int) ≤ x.m.index) := by rcases hR80 with ⟨_, _, z⟩ | ⟨_, _, _, _, _, z⟩; (cases z); exact z _ rfl
      replace K50 := K50.trans K77 (U := none_) (fun i h1 h2 => h2) (fun i h1 h2 => by have h2 : F i := h2; exfalso; have := hlow i h2; omega)
      replace H51 := H51.keep K77 (by intro h; change F b31 at h; have := hFT b31 h; omega)
      replace H52 := H52.keep K77 (by intro h; change F b40 at h; have := hFW b40 h; omega)
      replace H67 := H67.keep K77 (by intro h; change F b59 at h; have := of65 b59 h; omega)
      clear K77
      refine og 1 [(2, (Value.slice MA ml.length mc)), (11, (ptr r23)), (13, (Value.slice (some ⟨b31, 0, none⟩) 100 100)), (14, (Value.slice (some ⟨b40, 0, none⟩) 100 100)), (15, (i64 ((nn : Nat) : Int))), (16, (i64 ((kk : Nat) : Int))), (17, (ptr b59)), (18, (Value.slice (some ⟨ob85, 0, none⟩) 1 cap86))] 7 ?_
      refine od ?_
      refine qs ?_
      refine qg ?_
      refine og 1 [(2, (Value.slice MA ml.length mc)), (11, (ptr r23)), (13, (Value.slice (some ⟨b31, 0, none⟩) 100 100)), (14, (Value.slice (some ⟨b40, 0, none⟩) 100 100)), (15, (i64 ((nn : Nat) : Int))), (16, (i64 ((kk : Nat) : Int))), (17, (ptr b59)), (18, (Value.slice (some ⟨ob85, 0, none⟩) 1 cap86)), (84, (ptr r23))] 1 ?_
      refine Ops.call (by kernel_rfl) (d := (some 85)) (by kernel_rfl) (InfoF_calls _ (fun i => (F i ∨ w66.heap.size ≤ i) ∧ i < w76.heap.size) r23 (⟨1, cnt me 5, 5, 10 + 2 * (cnt me 5)⟩ : FolQ) s73 (.slice none 0 0) hF78L.1) ?_
      rintro _ w114 ⟨rfl, K113⟩
      refine ⟨_, _, rfl, rfl, ?_⟩
      replace K50 := K50.trans K113 (U := none_) (fun i h1 h2 => h2) (fun i h1 h2 => by exact h2)
      replace H51 := H51.keep K113 (fun h => h)
      replace H52 := H52.keep K113 (fun h => h)
      replace H67 := H67.keep K113 (fun h => h)
      replace H90 := H90.keep K113 (fun h => h)
      replace hF78L := FolL.keep hF78L K113 (fun _ _ h => h)
      clear K113
      refine Ops.new (o := rowL [(i64 0), (i64 0), (i64 0), (i64 0), (i64 0)] 35) (V := fun b => (ptr b)) (by kernel_rfl) (d := (some 19)) (by kernel_rfl) (fun b => rfl) (fun b115 w116 hb117 H118 K119 hs120 => ?_)
      have lb115b31 : b31 < b115 := by have := H51.lt; omega
      have lb115b40 : b40 < b115 := by have := H52.lt; omega
      have lb115b59 : b59 < b115 := by have := H67.lt; omega
      have lb115ob85 : ob85 < b115 := by have := H90.lt; omega
      have nb115 : w.heap.size ≤ b115 := by have := K50.size; omega
      have of121 : ∀ i, (fun i => (F i ∨ w66.heap.size ≤ i) ∧ i < w76.heap.size) i → i ≠ b115 := fun i hi => by have := hF78L.2 i hi; omega
      replace K50 := K50.trans K119 (U := none_) (fun i h1 h2 => h2) (fun i h1 h2 => by exact h2)
      replace H51 := H51.keep K119 (fun h => h)
      replace H52 := H52.keep K119 (fun h => h)
      replace H67 := H67.keep K119 (fun h => h)
      replace H90 := H90.keep K119 (fun h => h)
      replace hF78L := FolL.keep hF78L K119 (fun _ _ h => h)
      clear K119 hs120
      refine Ops.put (t := 35) (b := b115) (off := 0) (v := (agg [(i64 s73.term), (i64 s73.voted), (i64 0), (i64 s73.leader), (i64 s73.commit)])) (ys := [(i64 s73.term), (i64 s73.voted), (i64 0), (i64 s73.leader), (i64 s73.commit)]) (by kernel_rfl) (by kernel_rfl) H118 (by kernel_rfl) (d := none) (by kernel_rfl) rfl (fun w122 H123 K124 => ?_)
      clear H118
      replace K50 := K50.trans K124 (U := none_) (fun i h1 h2 => h2) (fun i h1 h2 => by have h2 : i = b115 := h2; exfalso; omega)
      replace H51 := H51.k1 K124 (by omega)
      replace H52 := H52.k1 K124 (by omega)
      replace H67 := H67.k1 K124 (by omega)
      replace H90 := H90.k1 K124 (by omega)
      replace hF78L := FolL.keep hF78L K124 of121
      clear K124
      refine od ?_
      refine qs ?_
      refine q_seq2 [(2, (Value.slice MA ml.length mc)), (11, (ptr r23)), (13, (Value.slice (some ⟨b31, 0, none⟩) 100 100)), (14, (Value.slice (some ⟨b40, 0, none⟩) 100 100)), (15, (i64 ((nn : Nat) : Int))), (16, (i64 ((kk : Nat) : Int))), (18, (Value.slice (some ⟨ob85, 0, none⟩) 1 cap86)), (116, (Value.bool false))] (by kernel_rfl) ?_ ?_
      ·skip
       refine qg ?_
       refine og 1 [(2, (Value.slice MA ml.length mc)), (11, (ptr r23)), (13, (Value.slice (some ⟨b31, 0, none⟩) 100 100)), (14, (Value.slice (some ⟨b40, 0, none⟩) 100 100)), (15, (i64 ((nn : Nat) : Int))), (16, (i64 ((kk : Nat) : Int))), (17, (ptr b59)), (18, (Value.slice (some ⟨ob85, 0, none⟩) 1 cap86)), (19, (ptr b115)), (86, (ptr b115))] 1 ?_
       refine Ops.go (v := (i64 s73.term)) (by kernel_rfl) (Runs.load (t := 2) (a := ⟨b115, 0, none⟩) (by kernel_rfl) (H123.loads (by kernel_rfl))) (d := (some 87)) (by kernel_rfl) rfl ?_
       refine og 1 [(2, (Value.slice MA ml.length mc)), (11, (ptr r23)), (13, (Value.slice (some ⟨b31, 0, none⟩) 100 100)), (14, (Value.slice (some ⟨b40, 0, none⟩) 100 100)), (15, (i64 ((nn : Nat) : Int))), (16, (i64 ((kk : Nat) : Int))), (17, (ptr b59)), (18, (Value.slice (some ⟨ob85, 0, none⟩) 1 cap86)), (19, (ptr b115)), (87, (i64 s73.term)), (88, (ptr b59))] 3 ?_
       refine Ops.go (v := (i64 s.term)) (by kernel_rfl) (Runs.load (t := 2) (a := ⟨b59, 0, none⟩) (by kernel_rfl) (H67.loads (by kernel_rfl))) (d := (some 89)) (by kernel_rfl) rfl ?_
       refine og 2 [(2, (Value.slice MA ml.length mc)), (11, (ptr r23)), (13, (Value.slice (some ⟨b31, 0, none⟩) 100 100)), (14, (Value.slice (some ⟨b40, 0, none⟩) 100 100)), (15, (i64 ((nn : Nat) : Int))), (16, (i64 ((kk : Nat) : Int))), (17, (ptr b59)), (18, (Value.slice (some ⟨ob85, 0, none⟩) 1 cap86)), (19, (ptr b115)), (91, (Value.bool (decide (s73.term < s.term))))] 6 ?_
       have h125 : (decide (s73.term < s.term)) = false := decide_eq_false (by omega)
       rw [h125]
       refine og 1 [(2, (Value.slice MA ml.length mc)), (11, (ptr r23)), (13, (Value.slice (some ⟨b31, 0, none⟩) 100 100)), (14, (Value.slice (some ⟨b40, 0, none⟩) 100 100)), (15, (i64 ((nn : Nat) : Int))), (16, (i64 ((kk : Nat) : Int))), (17, (ptr b59)), (18, (Value.slice (some ⟨ob85, 0, none⟩) 1 cap86)), (19, (ptr b115)), (91, (Value.bool false)), (92, (Value.pointer (some ⟨b115, 4, none⟩)))] 7 ?_
       refine Ops.go (v := (i64 s73.commit)) (by kernel_rfl) (Runs.load (t := 2) (a := ⟨b115, 4, none⟩) (by kernel_rfl) (H123.loads (by kernel_rfl))) (d := (some 93)) (by kernel_rfl) rfl ?_
       refine og 1 [(2, (Value.slice MA ml.length mc)), (11, (ptr r23)), (13, (Value.slice (some ⟨b31, 0, none⟩) 100 100)), (14, (Value.slice (some ⟨b40, 0, none⟩) 100 100)), (15, (i64 ((nn : Nat) : Int))), (16, (i64 ((kk : Nat) : Int))), (17, (ptr b59)), (18, (Value.slice (some ⟨ob85, 0, none⟩) 1 cap86)), (19, (ptr b115)), (91, (Value.bool false)), (93, (i64 s73.commit)), (94, (Value.pointer (some ⟨b59, 4, none⟩)))] 9 ?_
       refine Ops.go (v := (i64 s.commit)) (by kernel_rfl) (Runs.load (t := 2) (a := ⟨b59, 4, none⟩) (by kernel_rfl) (H67.loads (by kernel_rfl))) (d := (some 95)) (by kernel_rfl) rfl ?_
       refine og 3 [(2, (Value.slice MA ml.length mc)), (11, (ptr r23)), (13, (Value.slice (some ⟨b31, 0, none⟩) 100 100)), (14, (Value.slice (some ⟨b40, 0, none⟩) 100 100)), (15, (i64 ((nn : Nat) : Int))), (16, (i64 ((kk : Nat) : Int))), (17, (ptr b59)), (18, (Value.slice (some ⟨ob85, 0, none⟩) 1 cap86)), (19, (ptr b115)), (98, (Value.bool (decide (s73.commit < s.commit))))] 13 ?_
       have h126 : (decide (s73.commit < s.commit)) = false := decide_eq_false (by omega)
       rw [h126]
       refine og 1 [(2, (Value.slice MA ml.length mc)), (11, (ptr r23)), (13, (Value.slice (some ⟨b31, 0, none⟩) 100 100)), (14, (Value.slice (some ⟨b40, 0, none⟩) 100 100)), (15, (i64 ((nn : Nat) : Int))), (16, (i64 ((kk : Nat) : Int))), (17, (ptr b59)), (18, (Value.slice (some ⟨ob85, 0, none⟩) 1 cap86)), (19, (ptr b115)), (98, (Value.bool false)), (99, (ptr b115))] 14 ?_
       refine Ops.go (v := (i64 s73.term)) (by kernel_rfl) (Runs.load (t := 2) (a := ⟨b115, 0, none⟩) (by kernel_rfl) (H123.loads (by kernel_rfl))) (d := (some 100)) (by kernel_rfl) rfl ?_
       refine og 1 [(2, (Value.slice MA ml.length mc)), (11, (ptr r23)), (13, (Value.slice (some ⟨b31, 0, none⟩) 100 100)), (14, (Value.slice (some ⟨b40, 0, none⟩) 100 100)), (15, (i64 ((nn : Nat) : Int))), (16, (i64 ((kk : Nat) : Int))), (17, (ptr b59)), (18, (Value.slice (some ⟨ob85, 0, none⟩) 1 cap86)), (19, (ptr b115)), (98, (Value.bool false)), (100, (i64 s73.term)), (101, (ptr b59))] 16 ?_
       refine Ops.go (v := (i64 s.term)) (by kernel_rfl) (Runs.load (t := 2) (a := ⟨b59, 0, none⟩) (by kernel_rfl) (H67.loads (by kernel_rfl))) (d := (some 102)) (by kernel_rfl) rfl ?_
       refine og 2 [(2, (Value.slice MA ml.length mc)), (11, (ptr r23)), (13, (Value.slice (some ⟨b31, 0, none⟩) 100 100)), (14, (Value.slice (some ⟨b40, 0, none⟩) 100 100)), (15, (i64 ((nn : Nat) : Int))), (16, (i64 ((kk : Nat) : Int))), (17, (ptr b59)), (18, (Value.slice (some ⟨ob85, 0, none⟩) 1 cap86)), (19, (ptr b115)), (98, (Value.bool false)), (104, (Value.bool (s73.term == s.term)))] 19 ?_
       refine Ops.split (s73.term == s.term) (fun h127 => ?_) (fun h127 => ?_)
       ·rw [h127]
        have p128 : s73.term = s.term := of_beq_t h127
        refine og 1 [(2, (Value.slice MA ml.length mc)), (11, (ptr r23)), (13, (Value.slice (some ⟨b31, 0, none⟩) 100 100)), (14, (Value.slice (some ⟨b40, 0, none⟩) 100 100)), (15, (i64 ((nn : Nat) : Int))), (16, (i64 ((kk : Nat) : Int))), (17, (ptr b59)), (18, (Value.slice (some ⟨ob85, 0, none⟩) 1 cap86)), (19, (ptr b115)), (98, (Value.bool false)), (104, (Value.bool true)), (105, (Value.pointer (some ⟨b59, 1, none⟩)))] 20 ?_
        refine Ops.go (v := (i64 s.voted)) (by kernel_rfl) (Runs.load (t := 3) (a := ⟨b59, 1, none⟩) (by kernel_rfl) (H67.loads (by kernel_rfl))) (d := (some 106)) (by kernel_rfl) rfl ?_
        refine og 3 [(2, (Value.slice MA ml.length mc)), (11, (ptr r23)), (13, (Value.slice (some ⟨b31, 0, none⟩) 100 100)), (14, (Value.slice (some ⟨b40, 0, none⟩) 100 100)), (15, (i64 ((nn : Nat) : Int))), (16, (i64 ((kk : Nat) : Int))), (17, (ptr b59)), (18, (Value.slice (some ⟨ob85, 0, none⟩) 1 cap86)), (19, (ptr b115)), (98, (Value.bool false)), (109, (Value.bool (decide (s.voted ≥ 0))))] 24 ?_
        refine Ops.split (decide (s.voted ≥ 0)) (fun h129 => ?_) (fun h129 => ?_)
        ·rw [h129]
         have p130 : s.voted ≥ 0 := of_decide_eq_true h129
         refine og 1 [(2, (Value.slice MA ml.length mc)), (11, (ptr r23)), (13, (Value.slice (some ⟨b31, 0, none⟩) 100 100)), (14, (Value.slice (some ⟨b40, 0, none⟩) 100 100)), (15, (i64 ((nn : Nat) : Int))), (16, (i64 ((kk : Nat) : Int))), (17, (ptr b59)), (18, (Value.slice (some ⟨ob85, 0, none⟩) 1 cap86)), (98, (Value.bool false)), (109, (Value.bool true)), (110, (Value.pointer (some ⟨b115, 1, none⟩)))] 25 ?_
         refine Ops.go (v := (i64 s73.voted)) (by kernel_rfl) (Runs.load (t := 3) (a := ⟨b115, 1, none⟩) (by kernel_rfl) (H123.loads (by kernel_rfl))) (d := (some 111)) (by kernel_rfl) rfl ?_
         refine og 1 [(2, (Value.slice MA ml.length mc)), (11, (ptr r23)), (13, (Value.slice (some ⟨b31, 0, none⟩) 100 100)), (14, (Value.slice (some ⟨b40, 0, none⟩) 100 100)), (15, (i64 ((nn : Nat) : Int))), (16, (i64 ((kk : Nat) : Int))), (18, (Value.slice (some ⟨ob85, 0, none⟩) 1 cap86)), (98, (Value.bool false)), (109, (Value.bool true)), (111, (i64 s73.voted)), (112, (Value.pointer (some ⟨b59, 1, none⟩)))] 27 ?_
         refine Ops.go (v := (i64 s.voted)) (by kernel_rfl) (Runs.load (t := 3) (a := ⟨b59, 1, none⟩) (by kernel_rfl) (H67.loads (by kernel_rfl))) (d := (some 113)) (by kernel_rfl) rfl ?_
         refine og 3 [(2, (Value.slice MA ml.length mc)), (11, (ptr r23)), (13, (Value.slice (some ⟨b31, 0, none⟩) 100 100)), (14, (Value.slice (some ⟨b40, 0, none⟩) 100 100)), (15, (i64 ((nn : Nat) : Int))), (16, (i64 ((kk : Nat) : Int))), (18, (Value.slice (some ⟨ob85, 0, none⟩) 1 cap86)), (116, (Value.bool (s73.voted != s.voted)))] 31 ?_
         have h131 : (s73.voted != s.voted) = false := bne_f (by omega)
         rw [h131]
         refine Ops.keep (R := [(2, (Value.slice MA ml.length mc)), (11, (ptr r23)), (13, (Value.slice (some ⟨b31, 0, none⟩) 100 100)), (14, (Value.slice (some ⟨b40, 0, none⟩) 100 100)), (15, (i64 ((nn : Nat) : Int))), (16, (i64 ((kk : Nat) : Int))), (18, (Value.slice (some ⟨ob85, 0, none⟩) 1 cap86)), (116, (Value.bool false))]) (by kernel_rfl) ?_
         refine od ?_
         exact ⟨rfl, rfl, rfl⟩
        ·rw [h129]
         have p132 : ¬ (s.voted ≥ 0) := of_decide_eq_false h129
         refine og 7 [(2, (Value.slice MA ml.length mc)), (11, (ptr r23)), (13, (Value.slice (some ⟨b31, 0, none⟩) 100 100)), (14, (Value.slice (some ⟨b40, 0, none⟩) 100 100)), (15, (i64 ((nn : Nat) : Int))), (16, (i64 ((kk : Nat) : Int))), (18, (Value.slice (some ⟨ob85, 0, none⟩) 1 cap86)), (116, (Value.bool false))] 31 ?_
         refine Ops.keep (R := [(2, (Value.slice MA ml.length mc)), (11, (ptr r23)), (13, (Value.slice (some ⟨b31, 0, none⟩) 100 100)), (14, (Value.slice (some ⟨b40, 0, none⟩) 100 100)), (15, (i64 ((nn : Nat) : Int))), (16, (i64 ((kk : Nat) : Int))), (18, (Value.slice (some ⟨ob85, 0, none⟩) 1 cap86)), (116, (Value.bool false))]) (by kernel_rfl) ?_
         refine od ?_
         exact ⟨rfl, rfl, rfl⟩
       ·rw [h127]
        have p133 : ¬ (s73.term = s.term) := of_beq_f h127
        refine og 12 [(2, (Value.slice MA ml.length mc)), (11, (ptr r23)), (13, (Value.slice (some ⟨b31, 0, none⟩) 100 100)), (14, (Value.slice (some ⟨b40, 0, none⟩) 100 100)), (15, (i64 ((nn : Nat) : Int))), (16, (i64 ((kk : Nat) : Int))), (18, (Value.slice (some ⟨ob85, 0, none⟩) 1 cap86)), (116, (Value.bool false))] 31 ?_
        refine Ops.keep (R := [(2, (Value.slice MA ml.length mc)), (11, (ptr r23)), (13, (Value.slice (some ⟨b31, 0, none⟩) 100 100)), (14, (Value.slice (some ⟨b40, 0, none⟩) 100 100)), (15, (i64 ((nn : Nat) : Int))), (16, (i64 ((kk : Nat) : Int))), (18, (Value.slice (some ⟨ob85, 0, none⟩) 1 cap86)), (116, (Value.bool false))]) (by kernel_rfl) ?_
        refine od ?_
        exact ⟨rfl, rfl, rfl⟩
      ·skip
       refine q_else (o := .tmp 116) (by kernel_rfl) rfl ?_
       refine q_skip (by kernel_rfl) ?_
       refine qs ?_
       refine qg ?_
       refine og 1 [(2, (Value.slice MA ml.length mc)), (11, (ptr r23)), (13, (Value.slice (some ⟨b31, 0, none⟩) 100 100)), (14, (Value.slice (some ⟨b40, 0, none⟩) 100 100)), (15, (i64 ((nn : Nat) : Int))), (16, (i64 ((kk : Nat) : Int))), (18, (Value.slice (some ⟨ob85, 0, none⟩) 1 cap86)), (20, (i64 0))] 1 ?_
       refine od ?_
       refine q_block (id := 2) (by kernel_rfl) ?_
       refine q_roll 2 (by kernel_rfl) ?_
       refine roll_step ?_
       refine qs ?_
       refine qs ?_
       refine qg ?_
       refine og 4 [(2, (Value.slice MA ml.length mc)), (11, (ptr r23)), (13, (Value.slice (some ⟨b31, 0, none⟩) 100 100)), (14, (Value.slice (some ⟨b40, 0, none⟩) 100 100)), (15, (i64 ((nn : Nat) : Int))), (16, (i64 ((kk : Nat) : Int))), (18, (Value.slice (some ⟨ob85, 0, none⟩) 1 cap86)), (20, (i64 0)), (120, (Value.bool true))] 4 ?_
       refine od ?_
       refine q_then (o := .tmp 120) (by kernel_rfl) rfl ?_
       refine q_skip (by kernel_rfl) ?_
       refine qs ?_
       refine q_block (id := 3) (by kernel_rfl) ?_
       refine qs ?_
       refine qs ?_
       refine qg ?_
       refine og 4 [(2, (Value.slice MA ml.length mc)), (11, (ptr r23)), (13, (Value.slice (some ⟨b31, 0, none⟩) 100 100)), (14, (Value.slice (some ⟨b40, 0, none⟩) 100 100)), (15, (i64 ((nn : Nat) : Int))), (16, (i64 ((kk : Nat) : Int))), (18, (Value.slice (some ⟨ob85, 0, none⟩) 1 cap86)), (20, (i64 0)), (126, (ptr ob85))] 4 ?_
       refine Ops.go (v := (i64 o75.kind)) (by kernel_rfl) (Runs.load (t := 3) (a := ⟨ob85, 0, none⟩) (by kernel_rfl) (H90.loads (by kernel_rfl))) (d := (some 127)) (by kernel_rfl) rfl ?_
       refine og 2 [(2, (Value.slice MA ml.length mc)), (11, (ptr r23)), (13, (Value.slice (some ⟨b31, 0, none⟩) 100 100)), (14, (Value.slice (some ⟨b40, 0, none⟩) 100 100)), (15, (i64 ((nn : Nat) : Int))), (16, (i64 ((kk : Nat) : Int))), (18, (Value.slice (some ⟨ob85, 0, none⟩) 1 cap86)), (20, (i64 0)), (129, (Value.bool (o75.kind != 2)))] 7 ?_
       refine Ops.split (o75.kind != 2) (fun h134 => ?_) (fun h134 => ?_)
       ·rw [h134]
        have p135 : ¬ (o75.kind = 2) := of_bne_t h134
        refine og 11 [(2, (Value.slice MA ml.length mc)), (11, (ptr r23)), (13, (Value.slice (some ⟨b31, 0, none⟩) 100 100)), (14, (Value.slice (some ⟨b40, 0, none⟩) 100 100)), (15, (i64 ((nn : Nat) : Int))), (16, (i64 ((kk : Nat) : Int))), (18, (Value.slice (some ⟨ob85, 0, none⟩) 1 cap86)), (20, (i64 0)), (140, (Value.bool true))] 18 ?_
        refine od ?_
        refine q_then (o := .tmp 140) (by kernel_rfl) rfl ?_
        refine q_exit (id := 3) (by kernel_rfl) ?_
        refine qg ?_
        refine og 3 [(2, (Value.slice MA ml.length mc)), (11, (ptr r23)), (13, (Value.slice (some ⟨b31, 0, none⟩) 100 100)), (14, (Value.slice (some ⟨b40, 0, none⟩) 100 100)), (15, (i64 ((nn : Nat) : Int))), (16, (i64 ((kk : Nat) : Int))), (18, (Value.slice (some ⟨ob85, 0, none⟩) 1 cap86)), (20, (i64 1))] 3 ?_
        refine od ?_
        refine roll_step ?_
        refine qs ?_
        refine qs ?_
        refine qg ?_
        refine og 4 [(2, (Value.slice MA ml.length mc)), (11, (ptr r23)), (13, (Value.slice (some ⟨b31, 0, none⟩) 100 100)), (14, (Value.slice (some ⟨b40, 0, none⟩) 100 100)), (15, (i64 ((nn : Nat) : Int))), (16, (i64 ((kk : Nat) : Int))), (18, (Value.slice (some ⟨ob85, 0, none⟩) 1 cap86)), (20, (i64 1)), (120, (Value.bool false))] 4 ?_
        refine od ?_
        refine q_else (o := .tmp 120) (by kernel_rfl) rfl ?_
        refine q_exit (id := 2) (by kernel_rfl) ?_
        refine qg ?_
        refine og 2 [(2, (Value.slice MA ml.length mc)), (11, (ptr r23)), (13, (Value.slice (some ⟨b31, 0, none⟩) 100 100)), (14, (Value.slice (some ⟨b40, 0, none⟩) 100 100)), (15, (i64 ((nn : Nat) : Int))), (16, (i64 ((kk : Nat) : Int))), (20, (i64 1)), (75, (i64 (IntKind.i64.wrap (((kk : Nat) : Int) + 1))))] 2 ?_
        have e136 : IntKind.i64.wrap (((kk : Nat) : Int) + 1) = ((kk + 1 : Nat) : Int) := by rw [wrap_i64 (by omega) (by omega)]; omega
        rw [e136]
        clear e136
        refine og 1 [(2, (Value.slice MA ml.length mc)), (11, (ptr r23)), (13, (Value.slice (some ⟨b31, 0, none⟩) 100 100)), (14, (Value.slice (some ⟨b40, 0, none⟩) 100 100)), (15, (i64 ((nn : Nat) : Int))), (16, (i64 ((kk + 1 : Nat) : Int))), (20, (i64 1))] 3 ?_
        refine Ops.keep (R := [(2, (Value.slice MA ml.length mc)), (11, (ptr r23)), (13, (Value.slice (some ⟨b31, 0, none⟩) 100 100)), (14, (Value.slice (some ⟨b40, 0, none⟩) 100 100)), (15, (i64 ((nn : Nat) : Int))), (16, (i64 ((kk + 1 : Nat) : Int)))]) (by kernel_rfl) ?_
        refine od ?_
        exact ⟨(kk + 1, (fun i => (F i ∨ w66.heap.size ≤ i) ∧ i < w76.heap.size), s73, ts, ws, nn), ⟨rfl, hF78L, of81, of82, sl84, hts, hws, (by omega), (by omega), (by omega), (fun j hj => by have z := hinv j hj; exact ⟨by omega, fun h => by omega, z.2.2⟩), K50, H51, H52⟩, (show ml.length - (kk + 1) < ml.length - kk from by omega)⟩
       ·rw [h134]
        have p137 : o75.kind = 2 := of_bne_f h134
        refine og 4 [(2, (Value.slice MA ml.length mc)), (11, (ptr r23)), (13, (Value.slice (some ⟨b31, 0, none⟩) 100 100)), (14, (Value.slice (some ⟨b40, 0, none⟩) 100 100)), (15, (i64 ((nn : Nat) : Int))), (16, (i64 ((kk : Nat) : Int))), (18, (Value.slice (some ⟨ob85, 0, none⟩) 1 cap86)), (20, (i64 0)), (129, (Value.bool false)), (133, (Value.pointer (some ⟨ob85, 8, none⟩)))] 11 ?_
        refine Ops.go (v := (Value.bool o75.ok)) (by kernel_rfl) (Runs.load (t := 4) (a := ⟨ob85, 8, none⟩) (by kernel_rfl) (H90.loads (by kernel_rfl))) (d := (some 134)) (by kernel_rfl) rfl ?_
        refine og 3 [(2, (Value.slice MA ml.length mc)), (11, (ptr r23)), (13, (Value.slice (some ⟨b31, 0, none⟩) 100 100)), (14, (Value.slice (some ⟨b40, 0, none⟩) 100 100)), (15, (i64 ((nn : Nat) : Int))), (16, (i64 ((kk : Nat) : Int))), (18, (Value.slice (some ⟨ob85, 0, none⟩) 1 cap86)), (20, (i64 0)), (137, (Value.bool (!o75.ok)))] 15 ?_
        refine Ops.split (!o75.ok) (fun h138 => ?_) (fun h138 => ?_)
        ·rw [h138]
         have p139 : o75.ok = false := (bnot_true h138)
         refine og 3 [(2, (Value.slice MA ml.length mc)), (11, (ptr r23)), (13, (Value.slice (some ⟨b31, 0, none⟩) 100 100)), (14, (Value.slice (some ⟨b40, 0, none⟩) 100 100)), (15, (i64 ((nn : Nat) : Int))), (16, (i64 ((kk : Nat) : Int))), (18, (Value.slice (some ⟨ob85, 0, none⟩) 1 cap86)), (20, (i64 0)), (140, (Value.bool true))] 18 ?_
         refine od ?_
         refine q_then (o := .tmp 140) (by kernel_rfl) rfl ?_
         refine q_exit (id := 3) (by kernel_rfl) ?_
         refine qg ?_
         refine og 3 [(2, (Value.slice MA ml.length mc)), (11, (ptr r23)), (13, (Value.slice (some ⟨b31, 0, none⟩) 100 100)), (14, (Value.slice (some ⟨b40, 0, none⟩) 100 100)), (15, (i64 ((nn : Nat) : Int))), (16, (i64 ((kk : Nat) : Int))), (18, (Value.slice (some ⟨ob85, 0, none⟩) 1 cap86)), (20, (i64 1))] 3 ?_
         refine od ?_
         refine roll_step ?_
         refine qs ?_
         refine qs ?_
         refine qg ?_
         refine og 4 [(2, (Value.slice MA ml.length mc)), (11, (ptr r23)), (13, (Value.slice (some ⟨b31, 0, none⟩) 100 100)), (14, (Value.slice (some ⟨b40, 0, none⟩) 100 100)), (15, (i64 ((nn : Nat) : Int))), (16, (i64 ((kk : Nat) : Int))), (18, (Value.slice (some ⟨ob85, 0, none⟩) 1 cap86)), (20, (i64 1)), (120, (Value.bool false))] 4 ?_
         refine od ?_
         refine q_else (o := .tmp 120) (by kernel_rfl) rfl ?_
         refine q_exit (id := 2) (by kernel_rfl) ?_
         refine qg ?_
         refine og 2 [(2, (Value.slice MA ml.length mc)), (11, (ptr r23)), (13, (Value.slice (some ⟨b31, 0, none⟩) 100 100)), (14, (Value.slice (some ⟨b40, 0, none⟩) 100 100)), (15, (i64 ((nn : Nat) : Int))), (16, (i64 ((kk : Nat) : Int))), (20, (i64 1)), (75, (i64 (IntKind.i64.wrap (((kk : Nat) : Int) + 1))))] 2 ?_
         have e140 : IntKind.i64.wrap (((kk : Nat) : Int) + 1) = ((kk + 1 : Nat) : Int) := by rw [wrap_i64 (by omega) (by omega)]; omega
         rw [e140]
         clear e140
         refine og 1 [(2, (Value.slice MA ml.length mc)), (11, (ptr r23)), (13, (Value.slice (some ⟨b31, 0, none⟩) 100 100)), (14, (Value.slice (some ⟨b40, 0, none⟩) 100 100)), (15, (i64 ((nn : Nat) : Int))), (16, (i64 ((kk + 1 : Nat) : Int))), (20, (i64 1))] 3 ?_
         refine Ops.keep (R := [(2, (Value.slice MA ml.length mc)), (11, (ptr r23)), (13, (Value.slice (some ⟨b31, 0, none⟩) 100 100)), (14, (Value.slice (some ⟨b40, 0, none⟩) 100 100)), (15, (i64 ((nn : Nat) : Int))), (16, (i64 ((kk + 1 : Nat) : Int)))]) (by kernel_rfl) ?_
         refine od ?_
         exact ⟨(kk + 1, (fun i => (F i ∨ w66.heap.size ≤ i) ∧ i < w76.heap.size), s73, ts, ws, nn), ⟨rfl, hF78L, of81, of82, sl84, hts, hws, (by omega), (by omega), (by omega), (fun j hj => by have z := hinv j hj; exact ⟨by omega, fun h => by omega, z.2.2⟩), K50, H51, H52⟩, (show ml.length - (kk + 1) < ml.length - kk from by omega)⟩
        ·rw [h138]
         have p141 : o75.ok = true := (bnot_false h138)
         obtain ⟨v1, v2, v3, v4, v5, v6, v7⟩ := hv (by omega) (bnot_false h138)
         refine og 3 [(2, (Value.slice MA ml.length mc)), (11, (ptr r23)), (13, (Value.slice (some ⟨b31, 0, none⟩) 100 100)), (14, (Value.slice (some ⟨b40, 0, none⟩) 100 100)), (15, (i64 ((nn : Nat) : Int))), (16, (i64 ((kk : Nat) : Int))), (18, (Value.slice (some ⟨ob85, 0, none⟩) 1 cap86)), (20, (i64 0)), (140, (Value.bool (decide (((nn : Nat) : Int) ≥ 100))))] 18 ?_
         refine od ?_
         have h142 : (decide (((nn : Nat) : Int) ≥ 100)) = false := decide_eq_false (by omega)
         rw [h142]
         refine q_else (o := .tmp 140) (by kernel_rfl) rfl ?_
         refine q_skip (by kernel_rfl) ?_
         refine qs ?_
         refine qg ?_
         refine og 2 [(2, (Value.slice MA ml.length mc)), (11, (ptr r23)), (13, (Value.slice (some ⟨b31, 0, none⟩) 100 100)), (14, (Value.slice (some ⟨b40, 0, none⟩) 100 100)), (15, (i64 ((nn : Nat) : Int))), (16, (i64 ((kk : Nat) : Int))), (18, (Value.slice (some ⟨ob85, 0, none⟩) 1 cap86)), (20, (i64 0)), (141, (Value.slice MA ml.length mc)), (142, (i64 ((kk : Nat) : Int)))] 2 ?_
         refine Ops.go (by kernel_rfl) (Runs.ixSliceE (k := IntKind.i64) (t := 32) (len := ml.length) (cap := mc) (s := 11) (off' := ro70 + kk * 11) (i := ((kk : Nat) : Int)) hA71 (by kernel_rfl) (by kernel_rfl) (by omega) (by omega) (by omega)) (d := (some 143)) (by kernel_rfl) rfl ?_
         refine Ops.go (v := (agg x.cells)) (by kernel_rfl) (Runs.load (t := 46) (a := ⟨rb69, ro70 + kk * 11, none⟩) (by kernel_rfl) (RdT.ld (f := MsgR.cells) (x := x) MsgR.two (Rd.keep0 (by omega) hMl K50) (by kernel_rfl) (by kernel_rfl) hA71 hx72)) (d := (some 144)) (by kernel_rfl) rfl ?_
         refine Ops.new (o := rowL [(i64 0), (i64 0), (i64 0), (i64 0), (i64 0), (i64 0), (i64 0), (i64 0), (Value.bool false), (Value.slice none 0 0), (Value.slice none 0 0)] 46) (V := fun b => (ptr b)) (by kernel_rfl) (d := (some 21)) (by kernel_rfl) (fun b => rfl) (fun b143 w144 hb145 H146 K147 hs148 => ?_)
         have lb143b31 : b31 < b143 := by have := H51.lt; omega
         have lb143b40 : b40 < b143 := by have := H52.lt; omega
         have lb143b59 : b59 < b143 := by have := H67.lt; omega
         have lb143ob85 : ob85 < b143 := by have := H90.lt; omega
         have lb143b115 : b115 < b143 := by have := H123.lt; omega
         have nb143 : w.heap.size ≤ b143 := by have := K50.size; omega
         have of149 : ∀ i, (fun i => (F i ∨ w66.heap.size ≤ i) ∧ i < w76.heap.size) i → i ≠ b143 := fun i hi => by have := hF78L.2 i hi; omega
         replace K50 := K50.trans K147 (U := none_) (fun i h1 h2 => h2) (fun i h1 h2 => by exact h2)
         replace H51 := H51.keep K147 (fun h => h)
         replace H52 := H52.keep K147 (fun h => h)
         replace H67 := H67.keep K147 (fun h => h)
         replace H90 := H90.keep K147 (fun h => h)
         replace H123 := H123.keep K147 (fun h => h)
         replace hF78L := FolL.keep hF78L K147 (fun _ _ h => h)
         clear K147 hs148
         refine Ops.put (t := 46) (b := b143) (off := 0) (v := (agg x.cells)) (ys := [(i64 x.m.kind), (i64 x.m.group), (i64 x.m.frm), (i64 x.m.to), (i64 x.m.term), (i64 x.m.index), (i64 x.m.logTerm), (i64 x.m.commit), (Value.bool x.m.ok), (Value.slice x.E x.m.entries.length x.ec), (Value.slice x.D x.m.data.length x.dc)]) (by kernel_rfl) (by kernel_rfl) H146 (by kernel_rfl) (d := none) (by kernel_rfl) rfl (fun w150 H151 K152 => ?_)
         clear H146
         replace K50 := K50.trans K152 (U := none_) (fun i h1 h2 => h2) (fun i h1 h2 => by have h2 : i = b143 := h2; exfalso; omega)
         replace H51 := H51.k1 K152 (by omega)
         replace H52 := H52.k1 K152 (by omega)
         replace H67 := H67.k1 K152 (by omega)
         replace H90 := H90.k1 K152 (by omega)
         replace H123 := H123.k1 K152 (by omega)
         replace hF78L := FolL.keep hF78L K152 of149
         clear K152
         refine od ?_
         refine qs ?_
         refine qg ?_
         refine og 1 [(2, (Value.slice MA ml.length mc)), (11, (ptr r23)), (13, (Value.slice (some ⟨b31, 0, none⟩) 100 100)), (14, (Value.slice (some ⟨b40, 0, none⟩) 100 100)), (15, (i64 ((nn : Nat) : Int))), (16, (i64 ((kk : Nat) : Int))), (18, (Value.slice (some ⟨ob85, 0, none⟩) 1 cap86)), (20, (i64 0)), (21, (ptr b143)), (145, (ptr r23))] 1 ?_
         refine Ops.call (by kernel_rfl) (d := (some 146)) (by kernel_rfl) (LogF_calls _ (fun i => (F i ∨ w66.heap.size ≤ i) ∧ i < w76.heap.size) r23 (⟨1, cnt me 5, 5, 10 + 2 * (cnt me 5)⟩ : FolQ) s73 (.slice none 0 0) hF78L.1) ?_
         rintro _ w157 ⟨g153, l154, A155, c156, rfl, hg162, K158, H159, hE160, hK161⟩
         have ot163 : ∀ i, (fun i => (w150.heap.size ≤ i ∧ i < w157.heap.size) ∧ i ≠ g153) i → i ≠ b31 := fun i hi => by have := hi.1.1; have := H51.lt; omega
         have lg153b31 : b31 < g153 := by have := H51.lt; omega
         have ot164 : ∀ i, (fun i => (w150.heap.size ≤ i ∧ i < w157.heap.size) ∧ i ≠ g153) i → i ≠ b40 := fun i hi => by have := hi.1.1; have := H52.lt; omega
         have lg153b40 : b40 < g153 := by have := H52.lt; omega
         have ot165 : ∀ i, (fun i => (w150.heap.size ≤ i ∧ i < w157.heap.size) ∧ i ≠ g153) i → i ≠ b59 := fun i hi => by have := hi.1.1; have := H67.lt; omega
         have lg153b59 : b59 < g153 := by have := H67.lt; omega
         have ot166 : ∀ i, (fun i => (w150.heap.size ≤ i ∧ i < w157.heap.size) ∧ i ≠ g153) i → i ≠ ob85 := fun i hi => by have := hi.1.1; have := H90.lt; omega
         have lg153ob85 : ob85 < g153 := by have := H90.lt; omega
         have ot167 : ∀ i, (fun i => (w150.heap.size ≤ i ∧ i < w157.heap.size) ∧ i ≠ g153) i → i ≠ b115 := fun i hi => by have := hi.1.1; have := H123.lt; omega
         have lg153b115 : b115 < g153 := by have := H123.lt; omega
         have ot168 : ∀ i, (fun i => (w150.heap.size ≤ i ∧ i < w157.heap.size) ∧ i ≠ g153) i → i ≠ b143 := fun i hi => by have := hi.1.1; have := H151.lt; omega
         have lg153b143 : b143 < g153 := by have := H151.lt; omega
         have ot169 : ∀ i, (fun i => (w150.heap.size ≤ i ∧ i < w157.heap.size) ∧ i ≠ g153) i → i ≠ g153 := fun i hi => hi.2
         have ng153 : w.heap.size ≤ g153 := by have := K50.size; omega
         have hn171 : l154.length = s73.ks.length := by have z := congrArg List.length hK161; rw [List.length_map] at z; exact z
         have hok9 := hF78L.1.ok
         have hb9 := hok9.base
         have hl9 := hok9.len
         have e9 : lastK s73.base s73.old (l154.map EntP.key) = lastK s.base s.old s.ks := by rw [hK161, v4, v5, v6]
         have e11 : s73.ks.length = s.ks.length := by rw [v6]
         refine ⟨_, _, rfl, rfl, ?_⟩
         replace K50 := K50.trans K158 (U := none_) (fun i h1 h2 => h2) (fun i h1 h2 => by exact h2)
         replace H51 := H51.keep K158 (fun h => h)
         replace H52 := H52.keep K158 (fun h => h)
         replace H67 := H67.keep K158 (fun h => h)
         replace H90 := H90.keep K158 (fun h => h)
         replace H123 := H123.keep K158 (fun h => h)
         replace H151 := H151.keep K158 (fun h => h)
         replace hF78L := FolL.keep hF78L K158 (fun _ _ h => h)
         clear K158
         refine og 1 [(2, (Value.slice MA ml.length mc)), (11, (ptr r23)), (13, (Value.slice (some ⟨b31, 0, none⟩) 100 100)), (14, (Value.slice (some ⟨b40, 0, none⟩) 100 100)), (15, (i64 ((nn : Nat) : Int))), (16, (i64 ((kk : Nat) : Int))), (18, (Value.slice (some ⟨ob85, 0, none⟩) 1 cap86)), (20, (i64 0)), (21, (ptr b143)), (22, (ptr g153))] 3 ?_
         refine od ?_
         refine qs ?_
         refine qs ?_
         refine qg ?_
         refine og 2 [(2, (Value.slice MA ml.length mc)), (11, (ptr r23)), (13, (Value.slice (some ⟨b31, 0, none⟩) 100 100)), (14, (Value.slice (some ⟨b40, 0, none⟩) 100 100)), (15, (i64 ((nn : Nat) : Int))), (16, (i64 ((kk : Nat) : Int))), (18, (Value.slice (some ⟨ob85, 0, none⟩) 1 cap86)), (20, (i64 0)), (21, (ptr b143)), (22, (ptr g153)), (148, (Value.bool false))] 2 ?_
         refine od ?_
         refine q_else (o := .tmp 148) (by kernel_rfl) rfl ?_
         refine q_skip (by kernel_rfl) ?_
         refine qs ?_
         refine qg ?_
         refine og 1 [(2, (Value.slice MA ml.length mc)), (11, (ptr r23)), (13, (Value.slice (some ⟨b31, 0, none⟩) 100 100)), (14, (Value.slice (some ⟨b40, 0, none⟩) 100 100)), (15, (i64 ((nn : Nat) : Int))), (16, (i64 ((kk : Nat) : Int))), (18, (Value.slice (some ⟨ob85, 0, none⟩) 1 cap86)), (20, (i64 0)), (21, (ptr b143)), (150, (ptr g153))] 1 ?_
         refine Ops.call (by kernel_rfl) (d := (some 151)) (by kernel_rfl) (Last_calls _ (fun i => (w150.heap.size ≤ i ∧ i < w157.heap.size) ∧ i ≠ g153) g153 s73.base s73.old A155 c156 l154 H159 hE160 ot169 (by omega) (by omega)) ?_
         rintro _ w173 ⟨rfl, K172⟩
         refine ⟨_, _, rfl, rfl, ?_⟩
         replace K50 := K50.trans K172 (U := none_) (fun i h1 h2 => h2) (fun i h1 h2 => by exact h2)
         replace H51 := H51.keep K172 (fun h => h)
         replace H52 := H52.keep K172 (fun h => h)
         replace H67 := H67.keep K172 (fun h => h)
         replace H90 := H90.keep K172 (fun h => h)
         replace H123 := H123.keep K172 (fun h => h)
         replace H151 := H151.keep K172 (fun h => h)
         replace H159 := H159.keep K172 (fun h => h)
         replace hF78L := FolL.keep hF78L K172 (fun _ _ h => h)
         replace hE160 := Ents.keep0 hE160 K172
         clear K172
         refine og 5 [(2, (Value.slice MA ml.length mc)), (11, (ptr r23)), (13, (Value.slice (some ⟨b31, 0, none⟩) 100 100)), (14, (Value.slice (some ⟨b40, 0, none⟩) 100 100)), (15, (i64 ((nn : Nat) : Int))), (16, (i64 ((kk : Nat) : Int))), (18, (Value.slice (some ⟨ob85, 0, none⟩) 1 cap86)), (20, (i64 0)), (21, (ptr b143)), (23, (i64 (s73.base + ((l154.length : Nat) : Int)))), (24, (i64 (lastK s73.base s73.old (l154.map EntP.key))))] 7 ?_
         refine od ?_
         refine qs ?_
         refine q_seq2 [(2, (Value.slice MA ml.length mc)), (11, (ptr r23)), (13, (Value.slice (some ⟨b31, 0, none⟩) 100 100)), (14, (Value.slice (some ⟨b40, 0, none⟩) 100 100)), (15, (i64 ((nn : Nat) : Int))), (16, (i64 ((kk : Nat) : Int))), (18, (Value.slice (some ⟨ob85, 0, none⟩) 1 cap86)), (20, (i64 0)), (169, (Value.bool false))] (by kernel_rfl) ?_ ?_
         ·skip
          refine qg ?_
          refine og 1 [(2, (Value.slice MA ml.length mc)), (11, (ptr r23)), (13, (Value.slice (some ⟨b31, 0, none⟩) 100 100)), (14, (Value.slice (some ⟨b40, 0, none⟩) 100 100)), (15, (i64 ((nn : Nat) : Int))), (16, (i64 ((kk : Nat) : Int))), (18, (Value.slice (some ⟨ob85, 0, none⟩) 1 cap86)), (20, (i64 0)), (21, (ptr b143)), (23, (i64 (s73.base + ((l154.length : Nat) : Int)))), (24, (i64 (lastK s73.base s73.old (l154.map EntP.key)))), (154, (Value.pointer (some ⟨b143, 6, none⟩)))] 1 ?_
          refine Ops.go (v := (i64 x.m.logTerm)) (by kernel_rfl) (Runs.load (t := 2) (a := ⟨b143, 6, none⟩) (by kernel_rfl) (H151.loads (by kernel_rfl))) (d := (some 155)) (by kernel_rfl) rfl ?_
          refine og 3 [(2, (Value.slice MA ml.length mc)), (11, (ptr r23)), (13, (Value.slice (some ⟨b31, 0, none⟩) 100 100)), (14, (Value.slice (some ⟨b40, 0, none⟩) 100 100)), (15, (i64 ((nn : Nat) : Int))), (16, (i64 ((kk : Nat) : Int))), (18, (Value.slice (some ⟨ob85, 0, none⟩) 1 cap86)), (20, (i64 0)), (21, (ptr b143)), (23, (i64 (s73.base + ((l154.length : Nat) : Int)))), (24, (i64 (lastK s73.base s73.old (l154.map EntP.key)))), (158, (Value.bool (decide (x.m.logTerm < lastK s73.base s73.old (l154.map EntP.key)))))] 5 ?_
          have h174 : (decide (x.m.logTerm < lastK s73.base s73.old (l154.map EntP.key))) = false := decide_eq_false (by omega)
          rw [h174]
          refine og 1 [(2, (Value.slice MA ml.length mc)), (11, (ptr r23)), (13, (Value.slice (some ⟨b31, 0, none⟩) 100 100)), (14, (Value.slice (some ⟨b40, 0, none⟩) 100 100)), (15, (i64 ((nn : Nat) : Int))), (16, (i64 ((kk : Nat) : Int))), (18, (Value.slice (some ⟨ob85, 0, none⟩) 1 cap86)), (20, (i64 0)), (21, (ptr b143)), (23, (i64 (s73.base + ((l154.length : Nat) : Int)))), (24, (i64 (lastK s73.base s73.old (l154.map EntP.key)))), (158, (Value.bool false)), (159, (Value.pointer (some ⟨b143, 6, none⟩)))] 6 ?_
          refine Ops.go (v := (i64 x.m.logTerm)) (by kernel_rfl) (Runs.load (t := 2) (a := ⟨b143, 6, none⟩) (by kernel_rfl) (H151.loads (by kernel_rfl))) (d := (some 160)) (by kernel_rfl) rfl ?_
          refine og 3 [(2, (Value.slice MA ml.length mc)), (11, (ptr r23)), (13, (Value.slice (some ⟨b31, 0, none⟩) 100 100)), (14, (Value.slice (some ⟨b40, 0, none⟩) 100 100)), (15, (i64 ((nn : Nat) : Int))), (16, (i64 ((kk : Nat) : Int))), (18, (Value.slice (some ⟨ob85, 0, none⟩) 1 cap86)), (20, (i64 0)), (21, (ptr b143)), (23, (i64 (s73.base + ((l154.length : Nat) : Int)))), (158, (Value.bool false)), (163, (Value.bool (x.m.logTerm == (lastK s73.base s73.old (l154.map EntP.key)))))] 10 ?_
          refine Ops.split (x.m.logTerm == (lastK s73.base s73.old (l154.map EntP.key))) (fun h175 => ?_) (fun h175 => ?_)
          ·rw [h175]
           have p176 : x.m.logTerm = lastK s73.base s73.old (l154.map EntP.key) := of_beq_t h175
           refine og 1 [(2, (Value.slice MA ml.length mc)), (11, (ptr r23)), (13, (Value.slice (some ⟨b31, 0, none⟩) 100 100)), (14, (Value.slice (some ⟨b40, 0, none⟩) 100 100)), (15, (i64 ((nn : Nat) : Int))), (16, (i64 ((kk : Nat) : Int))), (18, (Value.slice (some ⟨ob85, 0, none⟩) 1 cap86)), (20, (i64 0)), (23, (i64 (s73.base + ((l154.length : Nat) : Int)))), (158, (Value.bool false)), (163, (Value.bool true)), (164, (Value.pointer (some ⟨b143, 5, none⟩)))] 11 ?_
           refine Ops.go (v := (i64 x.m.index)) (by kernel_rfl) (Runs.load (t := 2) (a := ⟨b143, 5, none⟩) (by kernel_rfl) (H151.loads (by kernel_rfl))) (d := (some 165)) (by kernel_rfl) rfl ?_
           refine og 4 [(2, (Value.slice MA ml.length mc)), (11, (ptr r23)), (13, (Value.slice (some ⟨b31, 0, none⟩) 100 100)), (14, (Value.slice (some ⟨b40, 0, none⟩) 100 100)), (15, (i64 ((nn : Nat) : Int))), (16, (i64 ((kk : Nat) : Int))), (18, (Value.slice (some ⟨ob85, 0, none⟩) 1 cap86)), (20, (i64 0)), (169, (Value.bool (decide (x.m.index < s73.base + ((l154.length : Nat) : Int)))))] 16 ?_
           have h177 : (decide (x.m.index < s73.base + ((l154.length : Nat) : Int))) = false := decide_eq_false (by omega)
           rw [h177]
           refine Ops.keep (R := [(2, (Value.slice MA ml.length mc)), (11, (ptr r23)), (13, (Value.slice (some ⟨b31, 0, none⟩) 100 100)), (14, (Value.slice (some ⟨b40, 0, none⟩) 100 100)), (15, (i64 ((nn : Nat) : Int))), (16, (i64 ((kk : Nat) : Int))), (18, (Value.slice (some ⟨ob85, 0, none⟩) 1 cap86)), (20, (i64 0)), (169, (Value.bool false))]) (by kernel_rfl) ?_
           refine od ?_
           exact ⟨rfl, rfl, rfl⟩
          ·rw [h175]
           have p178 : ¬ (x.m.logTerm = lastK s73.base s73.old (l154.map EntP.key)) := of_beq_f h175
           refine og 6 [(2, (Value.slice MA ml.length mc)), (11, (ptr r23)), (13, (Value.slice (some ⟨b31, 0, none⟩) 100 100)), (14, (Value.slice (some ⟨b40, 0, none⟩) 100 100)), (15, (i64 ((nn : Nat) : Int))), (16, (i64 ((kk : Nat) : Int))), (18, (Value.slice (some ⟨ob85, 0, none⟩) 1 cap86)), (20, (i64 0)), (169, (Value.bool false))] 16 ?_
           refine Ops.keep (R := [(2, (Value.slice MA ml.length mc)), (11, (ptr r23)), (13, (Value.slice (some ⟨b31, 0, none⟩) 100 100)), (14, (Value.slice (some ⟨b40, 0, none⟩) 100 100)), (15, (i64 ((nn : Nat) : Int))), (16, (i64 ((kk : Nat) : Int))), (18, (Value.slice (some ⟨ob85, 0, none⟩) 1 cap86)), (20, (i64 0)), (169, (Value.bool false))]) (by kernel_rfl) ?_
           refine od ?_
           exact ⟨rfl, rfl, rfl⟩
         ·skip
          refine q_else (o := .tmp 169) (by kernel_rfl) rfl ?_
          refine q_skip (by kernel_rfl) ?_
          refine qs ?_
          refine qs ?_
          refine qg ?_
          refine og 1 [(2, (Value.slice MA ml.length mc)), (11, (ptr r23)), (13, (Value.slice (some ⟨b31, 0, none⟩) 100 100)), (14, (Value.slice (some ⟨b40, 0, none⟩) 100 100)), (15, (i64 ((nn : Nat) : Int))), (16, (i64 ((kk : Nat) : Int))), (18, (Value.slice (some ⟨ob85, 0, none⟩) 1 cap86)), (20, (i64 0)), (25, (i64 0))] 1 ?_
          refine od ?_
          refine q_block (id := 4) (by kernel_rfl) ?_
          refine q_keep (R := [(2, (Value.slice MA ml.length mc)), (11, (ptr r23)), (13, (Value.slice (some ⟨b31, 0, none⟩) 100 100)), (14, (Value.slice (some ⟨b40, 0, none⟩) 100 100)), (15, (i64 ((nn : Nat) : Int))), (16, (i64 ((kk : Nat) : Int))), (18, (Value.slice (some ⟨ob85, 0, none⟩) 1 cap86)), (20, (i64 0)), (25, (i64 0))]) (by kernel_rfl) ?_
          refine q_loop (fun (j : Nat) L (wx : World) => L = [(2, (Value.slice MA ml.length mc)), (11, (ptr r23)), (13, (Value.slice (some ⟨b31, 0, none⟩) 100 100)), (14, (Value.slice (some ⟨b40, 0, none⟩) 100 100)), (15, (i64 ((nn : Nat) : Int))), (16, (i64 ((kk : Nat) : Int))), (18, (Value.slice (some ⟨ob85, 0, none⟩) 1 cap86)), (20, (i64 0)), (25, (i64 ((j : Nat) : Int)))] ∧ j ≤ nn ∧ FolL wx (fun i => (F i ∨ w66.heap.size ≤ i) ∧ i < w76.heap.size) r23 (⟨1, cnt me 5, 5, 10 + 2 * (cnt me 5)⟩ : FolQ) s73 (.slice none 0 0) ∧ Keeps none_ w wx ∧ Has wx b31 (rowL (ints ts) 2) ∧ Has wx b40 (rowL (ints ws) 3) ∧ Has wx ob85 (rowL ([(i64 o75.kind), (i64 (⟨1, cnt me 5, 5, 10 + 2 * (cnt me 5)⟩ : FolQ).group), (i64 (⟨1, cnt me 5, 5, 10 + 2 * (cnt me 5)⟩ : FolQ).me), (i64 o75.to), (i64 o75.term), (i64 o75.index), (i64 0), (i64 o75.commit), (Value.bool o75.ok), (Value.slice none 0 0), (Value.slice none 0 0)] ++ rest87) 46)) (fun (j : Nat) => nn - j) 0 (by kernel_rfl) ⟨rfl, Nat.zero_le _, hF78L, K50, H51, H52, H90⟩ ?_
          clear H51 H52 H90 hF78L hE160 K50
          rintro j _ w179 ⟨rfl, hj, hFL2, K180, H181, H182, H183⟩
          refine qs ?_
          refine qs ?_
          refine qg ?_
          refine og 3 [(2, (Value.slice MA ml.length mc)), (11, (ptr r23)), (13, (Value.slice (some ⟨b31, 0, none⟩) 100 100)), (14, (Value.slice (some ⟨b40, 0, none⟩) 100 100)), (15, (i64 ((nn : Nat) : Int))), (16, (i64 ((kk : Nat) : Int))), (18, (Value.slice (some ⟨ob85, 0, none⟩) 1 cap86)), (20, (i64 0)), (25, (i64 ((j : Nat) : Int))), (172, (Value.bool (decide (((j : Nat) : Int) < ((nn : Nat) : Int)))))] 3 ?_
          refine od ?_
          refine q_cond (o := .tmp 172) (b := (decide (((j : Nat) : Int) < ((nn : Nat) : Int)))) (by kernel_rfl) rfl (fun h184 => ?_) (fun h184 => ?_)
          ·rw [h184]
           have p185 : ((j : Nat) : Int) < ((nn : Nat) : Int) := of_decide_eq_true h184
           refine q_skip (by kernel_rfl) ?_
           refine qs ?_
           refine q_block (id := 5) (by kernel_rfl) ?_
           refine qs ?_
           refine q_draw (fun wz => Keeps none_ w179 wz) 22 (by kernel_rfl) (by kernel_rfl) (by kernel_rfl) (fun w186 K187 _ _ => ⟨K187, ?_⟩)
           replace K180 := K180.trans K187 (U := none_) (fun i h1 h2 => h2) (fun i h1 h2 => by exact h2)
           replace H181 := H181.keep K187 (fun h => h)
           replace H182 := H182.keep K187 (fun h => h)
           replace H183 := H183.keep K187 (fun h => h)
           replace hFL2 := FolL.keep hFL2 K187 (fun _ _ h => h)
           refine Dr.strong (S' := (fun wz => Keeps none_ w186 wz)) (Keeps.refl w186) (fun wz hx => K187.trans hx (fun i _ h => h) (fun _ _ h => h)) ?_
           clear K187
           refine Dr.takes (fuel' := 20) (is' := _) [0, 1] [(2, (Value.slice MA ml.length mc)), (11, (ptr r23)), (13, (Value.slice (some ⟨b31, 0, none⟩) 100 100)), (14, (Value.slice (some ⟨b40, 0, none⟩) 100 100)), (15, (i64 ((nn : Nat) : Int))), (16, (i64 ((kk : Nat) : Int))), (18, (Value.slice (some ⟨ob85, 0, none⟩) 1 cap86)), (20, (i64 0)), (25, (i64 ((j : Nat) : Int))), (175, (Value.slice (some ⟨b31, 0, none⟩) 100 100)), (176, (i64 ((j : Nat) : Int)))] (by kernel_rfl) rfl (by kernel_rfl) ?_
           refine Dr.take (i := 2) (v := (Value.pointer (some ⟨b31, j, none⟩))) (by kernel_rfl) (by kernel_rfl) (fun wz hS => Runs.ixSlice (k := IntKind.i64) (t := 61) (b := b31) (off := 0) (len := 100) (cap := 100) (s := 1) (off' := j) (i := ((j : Nat) : Int)) (by kernel_rfl) (by kernel_rfl) (by omega) (by omega) (by omega)) (d := (some 177)) (by kernel_rfl) rfl ?_
           refine Dr.take (i := 3) (v := (i64 (ts.getD j 0))) (by kernel_rfl) (by kernel_rfl) (fun wz hS => Runs.load (t := 2) (a := ⟨b31, j, none⟩) (by kernel_rfl) ((H181.keep hS (fun h => h)).loads (loadC1 (by kernel_rfl) (intsL_at _ j (by rw [hts]; omega))))) (d := (some 178)) (by kernel_rfl) rfl ?_
           refine Dr.takes (fuel' := 14) (is' := _) [4, 5, 6, 7] [(2, (Value.slice MA ml.length mc)), (11, (ptr r23)), (13, (Value.slice (some ⟨b31, 0, none⟩) 100 100)), (14, (Value.slice (some ⟨b40, 0, none⟩) 100 100)), (15, (i64 ((nn : Nat) : Int))), (16, (i64 ((kk : Nat) : Int))), (18, (Value.slice (some ⟨ob85, 0, none⟩) 1 cap86)), (20, (i64 0)), (25, (i64 ((j : Nat) : Int))), (178, (i64 (ts.getD j 0))), (182, (Value.pointer (some ⟨ob85, 4, none⟩)))] (by kernel_rfl) rfl (by kernel_rfl) ?_
           refine Dr.take (i := 8) (v := (i64 o75.term)) (by kernel_rfl) (by kernel_rfl) (fun wz hS => Runs.load (t := 2) (a := ⟨ob85, 4, none⟩) (by kernel_rfl) ((H183.keep hS (fun h => h)).loads (by kernel_rfl))) (d := (some 183)) (by kernel_rfl) rfl ?_
           refine Dr.takes (fuel' := 11) (is' := _) [9, 10] [(2, (Value.slice MA ml.length mc)), (11, (ptr r23)), (13, (Value.slice (some ⟨b31, 0, none⟩) 100 100)), (14, (Value.slice (some ⟨b40, 0, none⟩) 100 100)), (15, (i64 ((nn : Nat) : Int))), (16, (i64 ((kk : Nat) : Int))), (18, (Value.slice (some ⟨ob85, 0, none⟩) 1 cap86)), (20, (i64 0)), (25, (i64 ((j : Nat) : Int))), (185, (Value.bool ((ts.getD j 0) == o75.term)))] (by kernel_rfl) rfl (by kernel_rfl) ?_
           refine Dr.split ((ts.getD j 0) == o75.term) (fun h188 => ?_) (fun h188 => ?_)
           ·rw [h188]
            have p189 : ts.getD j 0 = o75.term := of_beq_t h188
            refine Dr.takes (fuel' := 9) (is' := _) [11, 12] [(2, (Value.slice MA ml.length mc)), (11, (ptr r23)), (13, (Value.slice (some ⟨b31, 0, none⟩) 100 100)), (14, (Value.slice (some ⟨b40, 0, none⟩) 100 100)), (15, (i64 ((nn : Nat) : Int))), (16, (i64 ((kk : Nat) : Int))), (18, (Value.slice (some ⟨ob85, 0, none⟩) 1 cap86)), (20, (i64 0)), (25, (i64 ((j : Nat) : Int))), (185, (Value.bool true)), (186, (Value.slice (some ⟨b40, 0, none⟩) 100 100)), (187, (i64 ((j : Nat) : Int)))] (by kernel_rfl) rfl (by kernel_rfl) ?_
            refine Dr.take (i := 13) (v := (Value.pointer (some ⟨b40, j, none⟩))) (by kernel_rfl) (by kernel_rfl) (fun wz hS => Runs.ixSlice (k := IntKind.i64) (t := 53) (b := b40) (off := 0) (len := 100) (cap := 100) (s := 1) (off' := j) (i := ((j : Nat) : Int)) (by kernel_rfl) (by kernel_rfl) (by omega) (by omega) (by omega)) (d := (some 188)) (by kernel_rfl) rfl ?_
            refine Dr.take (i := 14) (v := (i64 (ws.getD j 0))) (by kernel_rfl) (by kernel_rfl) (fun wz hS => Runs.load (t := 3) (a := ⟨b40, j, none⟩) (by kernel_rfl) ((H182.keep hS (fun h => h)).loads (loadC1 (by kernel_rfl) (intsL_at _ j (by rw [hws]; omega))))) (d := (some 189)) (by kernel_rfl) rfl ?_
            refine Dr.takes (fuel' := 3) (is' := _) [15, 16, 17, 18] [(2, (Value.slice MA ml.length mc)), (11, (ptr r23)), (13, (Value.slice (some ⟨b31, 0, none⟩) 100 100)), (14, (Value.slice (some ⟨b40, 0, none⟩) 100 100)), (15, (i64 ((nn : Nat) : Int))), (16, (i64 ((kk : Nat) : Int))), (18, (Value.slice (some ⟨ob85, 0, none⟩) 1 cap86)), (20, (i64 0)), (25, (i64 ((j : Nat) : Int))), (185, (Value.bool true)), (189, (i64 (ws.getD j 0))), (193, (Value.pointer (some ⟨ob85, 3, none⟩)))] (by kernel_rfl) rfl (by kernel_rfl) ?_
            refine Dr.take (i := 19) (v := (i64 o75.to)) (by kernel_rfl) (by kernel_rfl) (fun wz hS => Runs.load (t := 3) (a := ⟨ob85, 3, none⟩) (by kernel_rfl) ((H183.keep hS (fun h => h)).loads (by kernel_rfl))) (d := (some 194)) (by kernel_rfl) rfl ?_
            refine Dr.takes (fuel' := 0) (is' := _) [20, 21] [(2, (Value.slice MA ml.length mc)), (11, (ptr r23)), (13, (Value.slice (some ⟨b31, 0, none⟩) 100 100)), (14, (Value.slice (some ⟨b40, 0, none⟩) 100 100)), (15, (i64 ((nn : Nat) : Int))), (16, (i64 ((kk : Nat) : Int))), (18, (Value.slice (some ⟨ob85, 0, none⟩) 1 cap86)), (20, (i64 0)), (25, (i64 ((j : Nat) : Int))), (196, (Value.bool ((ws.getD j 0) != o75.to)))] (by kernel_rfl) rfl (by kernel_rfl) ?_
            refine Dr.done (by kernel_rfl) ?_
            have h190 : ((ws.getD j 0) != o75.to) = false := bne_f (by have z := hinv j (by omega); omega)
            rw [h190]
            refine q_else (o := .tmp 196) (by kernel_rfl) rfl ?_
            refine q_skip (by kernel_rfl) ?_
            refine qg ?_
            refine og 2 [(2, (Value.slice MA ml.length mc)), (11, (ptr r23)), (13, (Value.slice (some ⟨b31, 0, none⟩) 100 100)), (14, (Value.slice (some ⟨b40, 0, none⟩) 100 100)), (15, (i64 ((nn : Nat) : Int))), (16, (i64 ((kk : Nat) : Int))), (18, (Value.slice (some ⟨ob85, 0, none⟩) 1 cap86)), (20, (i64 0)), (25, (i64 ((j : Nat) : Int))), (174, (i64 (IntKind.i64.wrap (((j : Nat) : Int) + 1))))] 2 ?_
            have e191 : IntKind.i64.wrap (((j : Nat) : Int) + 1) = ((j + 1 : Nat) : Int) := by rw [wrap_i64 (by omega) (by omega)]; omega
            rw [e191]
            clear e191
            refine og 1 [(2, (Value.slice MA ml.length mc)), (11, (ptr r23)), (13, (Value.slice (some ⟨b31, 0, none⟩) 100 100)), (14, (Value.slice (some ⟨b40, 0, none⟩) 100 100)), (15, (i64 ((nn : Nat) : Int))), (16, (i64 ((kk : Nat) : Int))), (18, (Value.slice (some ⟨ob85, 0, none⟩) 1 cap86)), (20, (i64 0)), (25, (i64 ((j + 1 : Nat) : Int)))] 3 ?_
            refine Ops.keep (R := [(2, (Value.slice MA ml.length mc)), (11, (ptr r23)), (13, (Value.slice (some ⟨b31, 0, none⟩) 100 100)), (14, (Value.slice (some ⟨b40, 0, none⟩) 100 100)), (15, (i64 ((nn : Nat) : Int))), (16, (i64 ((kk : Nat) : Int))), (18, (Value.slice (some ⟨ob85, 0, none⟩) 1 cap86)), (20, (i64 0)), (25, (i64 ((j + 1 : Nat) : Int)))]) (by kernel_rfl) ?_
            refine od ?_
            exact ⟨j + 1, ⟨rfl, (by omega), hFL2, K180, H181, H182, H183⟩, (show nn - (j + 1) < nn - j from by omega)⟩
           ·rw [h188]
            have p192 : ¬ (ts.getD j 0 = o75.term) := of_beq_f h188
            refine Dr.takes (fuel' := 0) (is' := _) [11, 12, 13, 14, 15, 16, 17, 18, 19, 20, 21] [(2, (Value.slice MA ml.length mc)), (11, (ptr r23)), (13, (Value.slice (some ⟨b31, 0, none⟩) 100 100)), (14, (Value.slice (some ⟨b40, 0, none⟩) 100 100)), (15, (i64 ((nn : Nat) : Int))), (16, (i64 ((kk : Nat) : Int))), (18, (Value.slice (some ⟨ob85, 0, none⟩) 1 cap86)), (20, (i64 0)), (25, (i64 ((j : Nat) : Int))), (196, (Value.bool false))] (by kernel_rfl) rfl (by kernel_rfl) ?_
            refine Dr.done (by kernel_rfl) ?_
            refine q_else (o := .tmp 196) (by kernel_rfl) rfl ?_
            refine q_skip (by kernel_rfl) ?_
            refine qg ?_
            refine og 2 [(2, (Value.slice MA ml.length mc)), (11, (ptr r23)), (13, (Value.slice (some ⟨b31, 0, none⟩) 100 100)), (14, (Value.slice (some ⟨b40, 0, none⟩) 100 100)), (15, (i64 ((nn : Nat) : Int))), (16, (i64 ((kk : Nat) : Int))), (18, (Value.slice (some ⟨ob85, 0, none⟩) 1 cap86)), (20, (i64 0)), (25, (i64 ((j : Nat) : Int))), (174, (i64 (IntKind.i64.wrap (((j : Nat) : Int) + 1))))] 2 ?_
            have e193 : IntKind.i64.wrap (((j : Nat) : Int) + 1) = ((j + 1 : Nat) : Int) := by rw [wrap_i64 (by omega) (by omega)]; omega
            rw [e193]
            clear e193
            refine og 1 [(2, (Value.slice MA ml.length mc)), (11, (ptr r23)), (13, (Value.slice (some ⟨b31, 0, none⟩) 100 100)), (14, (Value.slice (some ⟨b40, 0, none⟩) 100 100)), (15, (i64 ((nn : Nat) : Int))), (16, (i64 ((kk : Nat) : Int))), (18, (Value.slice (some ⟨ob85, 0, none⟩) 1 cap86)), (20, (i64 0)), (25, (i64 ((j + 1 : Nat) : Int)))] 3 ?_
            refine Ops.keep (R := [(2, (Value.slice MA ml.length mc)), (11, (ptr r23)), (13, (Value.slice (some ⟨b31, 0, none⟩) 100 100)), (14, (Value.slice (some ⟨b40, 0, none⟩) 100 100)), (15, (i64 ((nn : Nat) : Int))), (16, (i64 ((kk : Nat) : Int))), (18, (Value.slice (some ⟨ob85, 0, none⟩) 1 cap86)), (20, (i64 0)), (25, (i64 ((j + 1 : Nat) : Int)))]) (by kernel_rfl) ?_
            refine od ?_
            exact ⟨j + 1, ⟨rfl, (by omega), hFL2, K180, H181, H182, H183⟩, (show nn - (j + 1) < nn - j from by omega)⟩
          ·rw [h184]
           have p194 : ¬ (((j : Nat) : Int) < ((nn : Nat) : Int)) := of_decide_eq_false h184
           refine q_exit (id := 4) (by kernel_rfl) ?_
           refine qs ?_
           refine qg ?_
           refine og 6 [(2, (Value.slice MA ml.length mc)), (11, (ptr r23)), (13, (Value.slice (some ⟨b31, 0, none⟩) 100 100)), (14, (Value.slice (some ⟨b40, 0, none⟩) 100 100)), (15, (i64 ((nn : Nat) : Int))), (16, (i64 ((kk : Nat) : Int))), (18, (Value.slice (some ⟨ob85, 0, none⟩) 1 cap86)), (20, (i64 0)), (25, (i64 ((j : Nat) : Int))), (197, (Value.slice (some ⟨b31, 0, none⟩) 100 100)), (198, (i64 ((nn : Nat) : Int))), (202, (Value.pointer (some ⟨ob85, 4, none⟩)))] 6 ?_
           refine Ops.go (v := (i64 o75.term)) (by kernel_rfl) (Runs.load (t := 2) (a := ⟨ob85, 4, none⟩) (by kernel_rfl) (H183.loads (by kernel_rfl))) (d := (some 203)) (by kernel_rfl) rfl ?_
           refine Ops.go (by kernel_rfl) (Runs.ixSlice (k := IntKind.i64) (t := 61) (b := b31) (off := 0) (len := 100) (cap := 100) (s := 1) (off' := nn) (i := ((nn : Nat) : Int)) (by kernel_rfl) (by kernel_rfl) (by omega) (by omega) (by omega)) (d := (some 204)) (by kernel_rfl) rfl ?_
           refine Ops.put (t := 2) (b := b31) (off := nn) (v := (i64 o75.term)) (ys := (ints (ts.set nn o75.term))) (by kernel_rfl) (by kernel_rfl) H181 (storeC1 (by kernel_rfl) rfl (by rw [ints_length, hts]; omega) (ints_set _ nn _)) (d := none) (by kernel_rfl) rfl (fun w195 H196 K197 => ?_)
           clear H181
           replace K180 := K180.trans K197 (U := none_) (fun i h1 h2 => h2) (fun i h1 h2 => by have h2 : i = b31 := h2; exfalso; omega)
           replace H182 := H182.k1 K197 (by omega)
           replace H183 := H183.k1 K197 (by omega)
           replace hFL2 := FolL.keep hFL2 K197 of81
           clear K197
           refine od ?_
           refine qs ?_
           refine qg ?_
           refine og 6 [(2, (Value.slice MA ml.length mc)), (11, (ptr r23)), (13, (Value.slice (some ⟨b31, 0, none⟩) 100 100)), (14, (Value.slice (some ⟨b40, 0, none⟩) 100 100)), (15, (i64 ((nn : Nat) : Int))), (16, (i64 ((kk : Nat) : Int))), (18, (Value.slice (some ⟨ob85, 0, none⟩) 1 cap86)), (20, (i64 0)), (25, (i64 ((j : Nat) : Int))), (205, (Value.slice (some ⟨b40, 0, none⟩) 100 100)), (206, (i64 ((nn : Nat) : Int))), (210, (Value.pointer (some ⟨ob85, 3, none⟩)))] 6 ?_
           refine Ops.go (v := (i64 o75.to)) (by kernel_rfl) (Runs.load (t := 3) (a := ⟨ob85, 3, none⟩) (by kernel_rfl) (H183.loads (by kernel_rfl))) (d := (some 211)) (by kernel_rfl) rfl ?_
           refine Ops.go (by kernel_rfl) (Runs.ixSlice (k := IntKind.i64) (t := 53) (b := b40) (off := 0) (len := 100) (cap := 100) (s := 1) (off' := nn) (i := ((nn : Nat) : Int)) (by kernel_rfl) (by kernel_rfl) (by omega) (by omega) (by omega)) (d := (some 212)) (by kernel_rfl) rfl ?_
           refine Ops.put (t := 3) (b := b40) (off := nn) (v := (i64 o75.to)) (ys := (ints (ws.set nn o75.to))) (by kernel_rfl) (by kernel_rfl) H182 (storeC1 (by kernel_rfl) rfl (by rw [ints_length, hws]; omega) (ints_set _ nn _)) (d := none) (by kernel_rfl) rfl (fun w198 H199 K200 => ?_)
           clear H182
           replace K180 := K180.trans K200 (U := none_) (fun i h1 h2 => h2) (fun i h1 h2 => by have h2 : i = b40 := h2; exfalso; omega)
           replace H196 := H196.k1 K200 (by omega)
           replace H183 := H183.k1 K200 (by omega)
           replace hFL2 := FolL.keep hFL2 K200 of82
           clear K200
           refine od ?_
           refine qg ?_
           refine og 2 [(2, (Value.slice MA ml.length mc)), (11, (ptr r23)), (13, (Value.slice (some ⟨b31, 0, none⟩) 100 100)), (14, (Value.slice (some ⟨b40, 0, none⟩) 100 100)), (15, (i64 ((nn : Nat) : Int))), (16, (i64 ((kk : Nat) : Int))), (18, (Value.slice (some ⟨ob85, 0, none⟩) 1 cap86)), (20, (i64 0)), (25, (i64 ((j : Nat) : Int))), (214, (i64 (IntKind.i64.wrap (((nn : Nat) : Int) + 1))))] 2 ?_
           have e201 : IntKind.i64.wrap (((nn : Nat) : Int) + 1) = ((nn + 1 : Nat) : Int) := by rw [wrap_i64 (by omega) (by omega)]; omega
           rw [e201]
           clear e201
           refine og 1 [(2, (Value.slice MA ml.length mc)), (11, (ptr r23)), (13, (Value.slice (some ⟨b31, 0, none⟩) 100 100)), (14, (Value.slice (some ⟨b40, 0, none⟩) 100 100)), (15, (i64 ((nn + 1 : Nat) : Int))), (16, (i64 ((kk : Nat) : Int))), (18, (Value.slice (some ⟨ob85, 0, none⟩) 1 cap86)), (20, (i64 0)), (25, (i64 ((j : Nat) : Int)))] 3 ?_
           refine od ?_
           refine qg ?_
           refine og 3 [(2, (Value.slice MA ml.length mc)), (11, (ptr r23)), (13, (Value.slice (some ⟨b31, 0, none⟩) 100 100)), (14, (Value.slice (some ⟨b40, 0, none⟩) 100 100)), (15, (i64 ((nn + 1 : Nat) : Int))), (16, (i64 ((kk : Nat) : Int))), (18, (Value.slice (some ⟨ob85, 0, none⟩) 1 cap86)), (20, (i64 1)), (25, (i64 ((j : Nat) : Int)))] 3 ?_
           refine od ?_
           refine roll_step ?_
           refine qs ?_
           refine qs ?_
           refine qg ?_
           refine og 4 [(2, (Value.slice MA ml.length mc)), (11, (ptr r23)), (13, (Value.slice (some ⟨b31, 0, none⟩) 100 100)), (14, (Value.slice (some ⟨b40, 0, none⟩) 100 100)), (15, (i64 ((nn + 1 : Nat) : Int))), (16, (i64 ((kk : Nat) : Int))), (18, (Value.slice (some ⟨ob85, 0, none⟩) 1 cap86)), (20, (i64 1)), (25, (i64 ((j : Nat) : Int))), (120, (Value.bool false))] 4 ?_
           refine od ?_
           refine q_else (o := .tmp 120) (by kernel_rfl) rfl ?_
           refine q_exit (id := 2) (by kernel_rfl) ?_
           refine qg ?_
           refine og 2 [(2, (Value.slice MA ml.length mc)), (11, (ptr r23)), (13, (Value.slice (some ⟨b31, 0, none⟩) 100 100)), (14, (Value.slice (some ⟨b40, 0, none⟩) 100 100)), (15, (i64 ((nn + 1 : Nat) : Int))), (16, (i64 ((kk : Nat) : Int))), (20, (i64 1)), (25, (i64 ((j : Nat) : Int))), (75, (i64 (IntKind.i64.wrap (((kk : Nat) : Int) + 1))))] 2 ?_
           have e202 : IntKind.i64.wrap (((kk : Nat) : Int) + 1) = ((kk + 1 : Nat) : Int) := by rw [wrap_i64 (by omega) (by omega)]; omega
           rw [e202]
           clear e202
           refine og 1 [(2, (Value.slice MA ml.length mc)), (11, (ptr r23)), (13, (Value.slice (some ⟨b31, 0, none⟩) 100 100)), (14, (Value.slice (some ⟨b40, 0, none⟩) 100 100)), (15, (i64 ((nn + 1 : Nat) : Int))), (16, (i64 ((kk + 1 : Nat) : Int))), (20, (i64 1)), (25, (i64 ((j : Nat) : Int)))] 3 ?_
           refine Ops.keep (R := [(2, (Value.slice MA ml.length mc)), (11, (ptr r23)), (13, (Value.slice (some ⟨b31, 0, none⟩) 100 100)), (14, (Value.slice (some ⟨b40, 0, none⟩) 100 100)), (15, (i64 ((nn + 1 : Nat) : Int))), (16, (i64 ((kk + 1 : Nat) : Int)))]) (by kernel_rfl) ?_
           refine od ?_
           exact ⟨(kk + 1, (fun i => (F i ∨ w66.heap.size ≤ i) ∧ i < w76.heap.size), s73, ts.set nn o75.term, ws.set nn o75.to, nn + 1), ⟨rfl, hFL2, of81, of82, sl84, (by rw [List.length_set]; exact hts), (by rw [List.length_set]; exact hws), (by omega), (by omega), (by omega), (fun j hj => by rw [getD_set (by omega), getD_set (by omega)]; by_cases z : j = nn; (rw [if_pos z, if_pos z]; exact ⟨by omega, fun _ => by omega, by omega⟩); (rw [if_neg z, if_neg z]; have z2 := hinv j (by omega); exact ⟨by omega, fun h => by omega, z2.2.2⟩)), K180, H196, H199⟩, (show ml.length - (kk + 1) < ml.length - kk from by omega)⟩
    ·rw [h55]
     have p203 : ¬ (((kk : Nat) : Int) < 80) := of_decide_eq_false h55
     refine q_exit (id := 0) (by kernel_rfl) ?_
     refine qs ?_
     refine qg ?_
     refine Ops.call (by kernel_rfl) (d := (some 215)) (by kernel_rfl) (known_calls _) ?_
     rintro _ w205 ⟨rfl, K204⟩
     refine ⟨_, _, rfl, rfl, ?_⟩
     replace K50 := K50.trans K204 (U := none_) (fun i h1 h2 => h2) (fun i h1 h2 => by exact h2)
     replace H51 := H51.keep K204 (fun h => h)
     replace H52 := H52.keep K204 (fun h => h)
     replace hFL := FolL.keep hFL K204 (fun _ _ h => h)
     clear K204
     refine og 1 [(6, (Value.bool true))] 2 ?_
     refine od ?_
     refine q_ret (by kernel_rfl) ?_
     refine ⟨(Value.bool true), retv_tmp rfl rfl, ?_⟩
     exact ⟨rfl, K50⟩
   ·rw [h53]
    have p206 : ¬ (((kk : Nat) : Int) < ((ml.length : Nat) : Int)) := of_decide_eq_false h53
    refine og 3 [(2, (Value.slice MA ml.length mc)), (11, (ptr r23)), (13, (Value.slice (some ⟨b31, 0, none⟩) 100 100)), (14, (Value.slice (some ⟨b40, 0, none⟩) 100 100)), (15, (i64 ((nn : Nat) : Int))), (16, (i64 ((kk : Nat) : Int))), (73, (Value.bool false))] 8 ?_
    refine od ?_
    refine q_else (o := .tmp 73) (by kernel_rfl) rfl ?_
    refine q_exit (id := 0) (by kernel_rfl) ?_
    refine qs ?_
    refine qg ?_
    refine Ops.call (by kernel_rfl) (d := (some 215)) (by kernel_rfl) (known_calls _) ?_
    rintro _ w208 ⟨rfl, K207⟩
    refine ⟨_, _, rfl, rfl, ?_⟩
    replace K50 := K50.trans K207 (U := none_) (fun i h1 h2 => h2) (fun i h1 h2 => by exact h2)
    replace H51 := H51.keep K207 (fun h => h)
    replace H52 := H52.keep K207 (fun h => h)
    replace hFL := FolL.keep hFL K207 (fun _ _ h => h)
    clear K207
    refine og 1 [(6, (Value.bool true))] 2 ?_
    refine od ?_
    refine q_ret (by kernel_rfl) ?_
    refine ⟨(Value.bool true), retv_tmp rfl rfl, ?_⟩
    exact ⟨rfl, K50⟩
 ·skip
  refine Ops.call (by kernel_rfl) (d := (some 28)) (by kernel_rfl) (New_bad _ (fun i => i < w.heap.size) 0 0 EA ec l hE0 hBig hq1) ?_
  rintro _ w210 ⟨rfl, K209⟩
  refine ⟨_, _, rfl, rfl, ?_⟩
  replace K0 := K0.t0 K209
  replace hE0 := Ents.keep0 hE0 K209
  clear K209
  refine og 5 [(0, (i64 me)), (1, (Value.slice EA l.length ec)), (2, (Value.slice MA ml.length mc)), (6, (Value.bool false)), (7, (Value.pointer none)), (8, (i64 (newE 0 0 (l.map EntP.key))))] 7 ?_
  refine od ?_
  refine qs ?_
  refine qg ?_
  refine og 1 [(0, (i64 me)), (1, (Value.slice EA l.length ec)), (2, (Value.slice MA ml.length mc)), (6, (Value.bool false)), (7, (Value.pointer none)), (8, (i64 (newE 0 0 (l.map EntP.key)))), (31, (i64 me))] 1 ?_
  refine Ops.call (by kernel_rfl) (d := (some 32)) (by kernel_rfl) (Count01_calls _ me 5 (by omega)) ?_
  rintro _ _ ⟨rfl, rfl⟩
  have hc211 := cnt_range me (k := 5) (by omega)
  refine ⟨_, _, rfl, rfl, ?_⟩
  refine og 1 [(0, (i64 (cnt me 5))), (1, (Value.slice EA l.length ec)), (2, (Value.slice MA ml.length mc)), (6, (Value.bool false)), (7, (Value.pointer none)), (8, (i64 (newE 0 0 (l.map EntP.key))))] 3 ?_
  refine od ?_
  refine qs ?_
  refine qs ?_
  refine qg ?_
  refine og 3 [(0, (i64 (cnt me 5))), (1, (Value.slice EA l.length ec)), (2, (Value.slice MA ml.length mc)), (6, (Value.bool false)), (7, (Value.pointer none)), (35, (Value.bool ((newE 0 0 (l.map EntP.key)) != 0)))] 3 ?_
  have h212 : ((newE 0 0 (l.map EntP.key)) != 0) = true := bne_t hq1
  rw [h212]
  refine og 4 [(0, (i64 (cnt me 5))), (2, (Value.slice MA ml.length mc)), (6, (Value.bool false)), (7, (Value.pointer none)), (39, (Value.bool true))] 7 ?_
  refine od ?_
  refine q_then (o := .tmp 39) (by kernel_rfl) rfl ?_
  refine qs ?_
  refine qg ?_
  refine Ops.call (by kernel_rfl) (d := (some 40)) (by kernel_rfl) (known_calls _) ?_
  rintro _ w214 ⟨rfl, K213⟩
  refine ⟨_, _, rfl, rfl, ?_⟩
  replace K0 := K0.t0 K213
  replace hE0 := Ents.keep0 hE0 K213
  clear K213
  refine og 1 [(0, (i64 (cnt me 5))), (2, (Value.slice MA ml.length mc)), (6, (Value.bool true)), (7, (Value.pointer none))] 2 ?_
  refine od ?_
  refine q_ret (by kernel_rfl) ?_
  refine ⟨(Value.bool true), retv_tmp rfl rfl, ?_⟩
  exact ⟨rfl, K0⟩
end Go.Proofs.Ytnmpepjikfbpdaa
