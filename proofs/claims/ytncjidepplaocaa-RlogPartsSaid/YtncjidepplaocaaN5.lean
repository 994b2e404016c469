/- chapter 09: RlogParts returns true -/
import Derived.Test.YtncjidepplaocaaProg
import Derived.Test.YtncjidepplaocaaKD
import Derived.Test.YtncjidepplaocaaKI
import Derived.Test.YtncjidepplaocaaKL
import Derived.Test.YtncjidepplaocaaKM
import Derived.Test.YtncjidepplaocaaMC
import Derived.Test.YtncjidepplaocaaLX
set_option linter.unusedVariables false
namespace Go.Proofs.Ytncjidepplaocaa
open Go.Q Go.RowKit

theorem Count01_calls (w : World) (a k : Int) (hk : 0 < k ∧ k ≤ 9223372036854775807) : Calls Try.prog 17 ⟨[(i64 a), (i64 k)]⟩ w (fun e w' => e = .returned (i64 (cnt a k)) ∧ w = w') := by
 have htm := tmod_range a hk.1
 refine q_calls Try.func17 (by kernel_rfl) (by kernel_rfl) ?_
 refine qs ?_
 refine qg ?_
 refine og 1 [(0, (i64 a)), (1, (i64 k)), (4, (i64 0))] 1 ?_
 refine od ?_
 refine qs ?_
 refine qg ?_
 refine og 2 [(0, (i64 a)), (1, (i64 k)), (4, (i64 0)), (5, (i64 a)), (6, (i64 k))] 2 ?_
 refine Ops.go (by kernel_rfl) (Runs.int (op := .rem) (t := 3) (x := a) (y := k) (by kernel_rfl) (run_rem (k := IntKind.i64) (by omega))) (d := (some 7)) (by kernel_rfl) rfl ?_
 refine og 1 [(0, (i64 ((a : Int).tmod k))), (1, (i64 k)), (4, (i64 0))] 4 ?_
 refine od ?_
 refine qs ?_
 refine qs ?_
 refine qg ?_
 refine og 2 [(0, (i64 ((a : Int).tmod k))), (1, (i64 k)), (4, (i64 0)), (9, (Value.bool (decide ((a : Int).tmod k < 0))))] 2 ?_
 refine od ?_
 refine q_cond (o := .tmp 9) (b := (decide ((a : Int).tmod k < 0))) (by kernel_rfl) rfl (fun h1 => ?_) (fun h1 => ?_)
 ·rw [h1]
  have p2 : (a : Int).tmod k < 0 := of_decide_eq_true h1
  refine qg ?_
  refine og 3 [(0, (i64 ((a : Int).tmod k))), (4, (i64 0)), (12, (i64 (IntKind.i64.wrap (((a : Int).tmod k) + k))))] 3 ?_
  have e3 : IntKind.i64.wrap (((a : Int).tmod k) + k) = ((a : Int).tmod k) + k := wrap_i64 (by omega) (by omega)
  rw [e3]
  refine og 1 [(0, (i64 (((a : Int).tmod k) + k))), (4, (i64 0))] 4 ?_
  refine od ?_
  refine qs ?_
  refine qg ?_
  refine og 2 [(4, (i64 (((a : Int).tmod k) + k)))] 2 ?_
  refine od ?_
  refine q_ret (by kernel_rfl) ?_
  refine ⟨(i64 (((a : Int).tmod k) + k)), retv_tmp rfl rfl, ?_⟩
  exact ⟨by unfold cnt; first | (rw [if_pos (by omega)]; done) | (rw [if_neg (by omega)]; done), rfl⟩
 ·rw [h1]
  have p4 : ¬ ((a : Int).tmod k < 0) := of_decide_eq_false h1
  refine q_skip (by kernel_rfl) ?_
  refine qs ?_
  refine qg ?_
  refine og 2 [(4, (i64 ((a : Int).tmod k)))] 2 ?_
  refine od ?_
  refine q_ret (by kernel_rfl) ?_
  refine ⟨(i64 ((a : Int).tmod k)), retv_tmp rfl rfl, ?_⟩
  exact ⟨by unfold cnt; first | (rw [if_pos (by omega)]; done) | (rw [if_neg (by omega)]; done), rfl⟩

theorem Count_nat (w : World) (a : Int) (n : Nat) (hk : 0 < n ∧ ((n : Nat) : Int) ≤ 9223372036854775807) : Calls Try.prog 17 ⟨[i64 a, i64 ((n : Nat) : Int)]⟩ w (fun e w' => ∃ k : Nat, e = .returned (i64 ((k : Nat) : Int)) ∧ k < n ∧ w = w') := by
 refine (Count01_calls w a n (by omega)).mono fun e w' ⟨he, hw⟩ => ?_
 have h := cnt_range a (k := (n : Int)) (by omega)
 exact ⟨(cnt a n).toNat, by rw [he, Int.toNat_of_nonneg h.1], by omega, hw⟩

set_option maxHeartbeats 4000000 in
theorem Parts_calls (w : World) (T : Nat → Prop) (base t0 : Int) (A : Option Addr) (c : Nat) (l : List EntP) (cut : Int) (hE : Ents w T (.slice A l.length c) l) (hBig : BigK (l.map EntP.key)) (hl32 : l.length * 32 ≤ 140737488351232) : Calls Try.prog 5 ⟨[(i64 base), (i64 t0), (Value.slice A l.length c), (i64 cut)]⟩ w (fun e w' => e = .returned (.bool true) ∧ Keeps none_ w w') := by
 have hcap := Ents.len hE
 have hll : (l.map EntP.key).length = l.length := List.length_map ..
 have K0 : Keeps none_ w w := Keeps.refl w
 refine q_calls Try.func5 (by kernel_rfl) (by kernel_rfl) ?_
 refine qs ?_
 refine qg ?_
 refine og 1 [(0, (i64 base)), (1, (i64 t0)), (2, (Value.slice A l.length c)), (3, (i64 cut)), (8, (Value.bool false))] 1 ?_
 refine od ?_
 refine qs ?_
 refine qg ?_
 refine og 3 [(0, (i64 base)), (2, (Value.slice A l.length c)), (3, (i64 cut)), (8, (Value.bool false)), (18, (i64 base)), (19, (i64 t0)), (20, (Value.slice A l.length c))] 3 ?_
 by_cases hq1 : newE base t0 (l.map EntP.key) = 0
 ·skip
  refine Ops.call (by kernel_rfl) (d := (some 21)) (by kernel_rfl) (New_ok _ T base t0 A c l hE hBig hq1) ?_
  rintro _ w6 ⟨g2, l3, A4, c5, rfl, hg11, K7, H8, hE9, hK10⟩
  have ot12 : ∀ i, T i → i ≠ g2 := fun i hi => by have := Ents.lt hE i hi; omega
  have ot13 : ∀ i, (fun i => (w.heap.size ≤ i ∧ i < w6.heap.size) ∧ i ≠ g2) i → i ≠ g2 := fun i hi => hi.2
  have ng2 : w.heap.size ≤ g2 := by have := K0.size; omega
  have hn14 := keys_len2 hK10
  try rw [List.length_drop] at hn14
  try rw [List.length_append] at hn14
  try rw [List.length_map] at hn14
  try rw [List.length_map] at hn14
  have hnb := newE_ok hq1
  have htr := termK_range (n := base + ((l.map EntP.key).length : Int)) hq1
  refine ⟨_, _, rfl, rfl, ?_⟩
  replace K0 := K0.t0 K7
  replace hE := Ents.keep0 hE K7
  clear K7
  refine og 5 [(0, (i64 base)), (2, (Value.slice A l.length c)), (3, (i64 cut)), (8, (Value.bool false)), (9, (ptr g2)), (10, (i64 0))] 9 ?_
  refine od ?_
  refine qs ?_
  refine qs ?_
  refine qg ?_
  refine og 7 [(0, (i64 base)), (2, (Value.slice A l.length c)), (3, (i64 cut)), (8, (Value.bool false)), (9, (ptr g2)), (30, (Value.bool (decide (((l.length : Nat) : Int) > 60))))] 7 ?_
  refine od ?_
  refine q_cond (o := .tmp 30) (b := (decide (((l.length : Nat) : Int) > 60))) (by kernel_rfl) rfl (fun h15 => ?_) (fun h15 => ?_)
  ·rw [h15]
   have p16 : ((l.length : Nat) : Int) > 60 := of_decide_eq_true h15
   refine qs ?_
   refine qg ?_
   refine Ops.call (by kernel_rfl) (d := (some 31)) (by kernel_rfl) (known_calls _) ?_
   rintro _ w18 ⟨rfl, K17⟩
   refine ⟨_, _, rfl, rfl, ?_⟩
   replace K0 := K0.t0 K17
   replace H8 := H8.keep K17 (fun h => h)
   replace hE := Ents.keep0 hE K17
   replace hE9 := Ents.keep0 hE9 K17
   clear K17
   refine og 1 [(0, (i64 base)), (2, (Value.slice A l.length c)), (3, (i64 cut)), (8, (Value.bool true)), (9, (ptr g2))] 2 ?_
   refine od ?_
   refine q_ret (by kernel_rfl) ?_
   refine ⟨(Value.bool true), retv_tmp rfl rfl, ?_⟩
   exact ⟨rfl, K0⟩
  ·rw [h15]
   have p19 : ¬ (((l.length : Nat) : Int) > 60) := of_decide_eq_false h15
   refine q_skip (by kernel_rfl) ?_
   refine qs ?_
   refine qs ?_
   refine qg ?_
   refine og 2 [(0, (i64 base)), (2, (Value.slice A l.length c)), (3, (i64 cut)), (8, (Value.bool false)), (9, (ptr g2)), (33, (Value.bool false))] 2 ?_
   refine od ?_
   refine q_else (o := .tmp 33) (by kernel_rfl) rfl ?_
   refine q_skip (by kernel_rfl) ?_
   refine qs ?_
   refine qg ?_
   refine og 4 [(0, (i64 base)), (2, (Value.slice A l.length c)), (3, (i64 cut)), (8, (Value.bool false)), (9, (ptr g2)), (34, (i64 cut)), (37, (i64 (IntKind.i64.wrap (((l.length : Nat) : Int) + 1))))] 4 ?_
   have e20 : IntKind.i64.wrap (((l.length : Nat) : Int) + 1) = ((l.length + 1 : Nat) : Int) := by rw [wrap_i64 (by omega) (by omega)]; omega
   rw [e20]
   refine Ops.call (by kernel_rfl) (d := (some 38)) (by kernel_rfl) (Count_nat _ cut (l.length + 1) (by omega)) ?_
   rintro _ _ ⟨k21, rfl, hk22, rfl⟩
   refine ⟨_, _, rfl, rfl, ?_⟩
   refine og 1 [(0, (i64 base)), (2, (Value.slice A l.length c)), (3, (i64 ((k21 : Nat) : Int))), (8, (Value.bool false)), (9, (ptr g2))] 6 ?_
   refine od ?_
   refine qs ?_
   refine qg ?_
   refine og 1 [(0, (i64 base)), (2, (Value.slice A l.length c)), (3, (i64 ((k21 : Nat) : Int))), (8, (Value.bool false)), (9, (ptr g2)), (11, (Value.slice none 0 0))] 1 ?_
   refine od ?_
   refine qs ?_
   refine qs ?_
   refine qg ?_
   refine og 2 [(0, (i64 base)), (2, (Value.slice A l.length c)), (3, (i64 ((k21 : Nat) : Int))), (8, (Value.bool false)), (9, (ptr g2)), (11, (Value.slice none 0 0)), (40, (Value.bool (decide (((k21 : Nat) : Int) > 0))))] 2 ?_
   refine od ?_
   refine q_cond (o := .tmp 40) (b := (decide (((k21 : Nat) : Int) > 0))) (by kernel_rfl) rfl (fun h23 => ?_) (fun h23 => ?_)
   ·rw [h23]
    have p24 : ((k21 : Nat) : Int) > 0 := of_decide_eq_true h23
    refine qg ?_
    refine og 4 [(0, (i64 base)), (2, (Value.slice A l.length c)), (3, (i64 ((k21 : Nat) : Int))), (8, (Value.bool false)), (9, (ptr g2)), (11, (Value.slice none 0 0)), (41, (Value.slice none 0 0)), (42, (ptr g2)), (44, (i64 (IntKind.i64.wrap (base + 1))))] 4 ?_
    have e25 : IntKind.i64.wrap (base + 1) = base + 1 := wrap_i64 (by omega) (by omega)
    rw [e25]
    refine og 1 [(0, (i64 base)), (2, (Value.slice A l.length c)), (3, (i64 ((k21 : Nat) : Int))), (8, (Value.bool false)), (9, (ptr g2)), (11, (Value.slice none 0 0)), (41, (Value.slice none 0 0)), (42, (ptr g2)), (44, (i64 (base + 1))), (45, (i64 ((k21 : Nat) : Int)))] 5 ?_
    have hp26 := partK_len base (l3.map EntP.key) (base + 1) ((k21 : Nat) : Int)
    rw [List.length_map] at hp26
    refine Ops.call (by kernel_rfl) (d := (some 46)) (by kernel_rfl) (Part_calls _ (fun i => (w.heap.size ≤ i ∧ i < w6.heap.size) ∧ i ≠ g2) g2 base t0 A4 c5 l3 (base + 1) ((k21 : Nat) : Int) H8 hE9 ot13 (by omega) (by omega) (by omega) (by omega) (BigK.keys hK10 hBig)) ?_
    rintro _ w30 ⟨l27, A28, c29, rfl, K31, hE32, hK33⟩
    have ot34 : ∀ i, (fun i => w6.heap.size ≤ i ∧ i < w30.heap.size) i → i ≠ g2 := fun i hi => by have := hi.1; have := H8.lt; omega
    have hz35 := K0.size
    have hn36 := keys_len2 hK33
    try rw [List.length_drop] at hn36
    try rw [List.length_append] at hn36
    try rw [List.length_map] at hn36
    try rw [List.length_map] at hn36
    refine ⟨_, _, rfl, rfl, ?_⟩
    replace K0 := K0.t0 K31
    replace H8 := H8.keep K31 (fun h => h)
    replace hE := Ents.keep0 hE K31
    replace hE9 := Ents.keep0 hE9 K31
    clear K31
    obtain ⟨v37, w38, hr39, hO40, hK41, hg42⟩ := OwnT.app (ty := 22) EntP.two EntP.one tyE (OwnT.nil _ w.heap.size 43 2 EntP.cells) (Ents.rd hE32) (by simp only [List.length_nil]; omega) (by simp only [List.length_nil]; omega) K0.size
    obtain ⟨A44, c45, rfl⟩ := RdT.form EntP.two (by decide) (OwnT.rd hO40)
    obtain ⟨l46, hl47⟩ : ∃ z, z = [] ++ l27 := ⟨_, rfl⟩
    rw [← hl47] at hr39 hO40 hg42
    have hn48 : l46.length = 0 + l27.length := by simp [hl47]
    have ob49 : ∀ i, ((Value.slice A44 l46.length c45)).ownBlock = some i → i ≠ g2 := fun i hi => by rcases hg42 i hi with h | h; (cases h); (have := H8.lt; omega)
    have oo50 : ∀ i, ((Value.slice A44 l46.length c45)).ownBlock = some i → T i → False := fun i hs hi => by rcases hg42 i hs with h | h; (cases h); (have := Ents.lt hE i hi; omega)
    have oo51 : ∀ i, ((Value.slice A44 l46.length c45)).ownBlock = some i → (fun i => (w.heap.size ≤ i ∧ i < w6.heap.size) ∧ i ≠ g2) i → False := fun i hs hi => by rcases hg42 i hs with h | h; (cases h); (have := Ents.lt hE9 i hi; omega)
    have oo52 : ∀ i, ((Value.slice A44 l46.length c45)).ownBlock = some i → (fun i => w6.heap.size ≤ i ∧ i < w30.heap.size) i → False := fun i hs hi => by rcases hg42 i hs with h | h; (cases h); (have := Ents.lt hE32 i hi; omega)
    have K43 := Keeps.mono (U := none_) hK41 (fun _ _ h => by cases h)
    refine Ops.go (v := (Value.slice A44 l46.length c45)) (by kernel_rfl) (Runs.append (ts := #[22, 22]) (ty := 22) (vs := [(Value.slice none 0 0), (Value.slice A28 l27.length c29)]) (by kernel_rfl) hr39) (d := (some 47)) (by kernel_rfl) rfl ?_
    replace K0 := K0.t0 K43
    replace H8 := H8.keep K43 (fun h => h)
    replace hE := Ents.keep0 hE K43
    replace hE9 := Ents.keep0 hE9 K43
    replace hE32 := Ents.keep0 hE32 K43
    clear K43 hr39 hK41 hg42
    refine og 1 [(0, (i64 base)), (2, (Value.slice A l.length c)), (3, (i64 ((k21 : Nat) : Int))), (8, (Value.bool false)), (9, (ptr g2)), (11, (Value.slice A44 l46.length c45))] 8 ?_
    refine od ?_
    refine qs ?_
    refine qg ?_
    refine og 4 [(0, (i64 base)), (2, (Value.slice A l.length c)), (3, (i64 ((k21 : Nat) : Int))), (8, (Value.bool false)), (9, (ptr g2)), (11, (Value.slice A44 l46.length c45)), (48, (Value.slice A44 l46.length c45)), (49, (ptr g2)), (51, (i64 (IntKind.i64.wrap (base + 1))))] 4 ?_
    have e53 : IntKind.i64.wrap (base + 1) = base + 1 := wrap_i64 (by omega) (by omega)
    rw [e53]
    refine og 2 [(0, (i64 base)), (2, (Value.slice A l.length c)), (8, (Value.bool false)), (9, (ptr g2)), (11, (Value.slice A44 l46.length c45)), (48, (Value.slice A44 l46.length c45)), (49, (ptr g2)), (53, (i64 (IntKind.i64.wrap ((base + 1) + ((k21 : Nat) : Int)))))] 6 ?_
    have e54 : IntKind.i64.wrap ((base + 1) + ((k21 : Nat) : Int)) = (base + 1) + ((k21 : Nat) : Int) := wrap_i64 (by omega) (by omega)
    rw [e54]
    have hp55 := partK_len base (l3.map EntP.key) ((base + 1) + ((k21 : Nat) : Int)) 99
    rw [List.length_map] at hp55
    refine Ops.call (by kernel_rfl) (d := (some 54)) (by kernel_rfl) (Part_calls _ (fun i => (w.heap.size ≤ i ∧ i < w6.heap.size) ∧ i ≠ g2) g2 base t0 A4 c5 l3 ((base + 1) + ((k21 : Nat) : Int)) 99 H8 hE9 ot13 (by omega) (by omega) (by omega) (by omega) (BigK.keys hK10 hBig)) ?_
    rintro _ w59 ⟨l56, A57, c58, rfl, K60, hE61, hK62⟩
    have ot63 : ∀ i, (fun i => w38.heap.size ≤ i ∧ i < w59.heap.size) i → i ≠ g2 := fun i hi => by have := hi.1; have := H8.lt; omega
    have oo64 : ∀ i, ((Value.slice A44 l46.length c45)).ownBlock = some i → (fun i => w38.heap.size ≤ i ∧ i < w59.heap.size) i → False := fun i hs hi => by have := hi.1; have := (World.ownsRow.lt hO40 i hs).2; omega
    have hz65 := K0.size
    have hn66 := keys_len2 hK62
    try rw [List.length_drop] at hn66
    try rw [List.length_append] at hn66
    try rw [List.length_map] at hn66
    try rw [List.length_map] at hn66
    refine ⟨_, _, rfl, rfl, ?_⟩
    replace K0 := K0.t0 K60
    replace H8 := H8.keep K60 (fun h => h)
    replace hE := Ents.keep0 hE K60
    replace hE9 := Ents.keep0 hE9 K60
    replace hE32 := Ents.keep0 hE32 K60
    replace hO40 := own_keep0 hO40 K60
    clear K60
    obtain ⟨v67, w68, hr69, hO70, hK71, hg72⟩ := OwnT.app (ty := 22) EntP.two EntP.one tyE hO40 (Ents.rd hE61) (by omega) (by omega) K0.size
    obtain ⟨A74, c75, rfl⟩ := RdT.form EntP.two (by decide) (OwnT.rd hO70)
    obtain ⟨l76, hl77⟩ : ∃ z, z = l46 ++ l56 := ⟨_, rfl⟩
    rw [← hl77] at hr69 hO70 hg72
    have hn78 : l76.length = l46.length + l56.length := by simp [hl77]
    have ob79 : ∀ i, ((Value.slice A74 l76.length c75)).ownBlock = some i → i ≠ g2 := fun i hi => by rcases hg72 i hi with h | h; (have := ob49 i h; omega); (have := H8.lt; omega)
    have oo80 : ∀ i, ((Value.slice A74 l76.length c75)).ownBlock = some i → T i → False := fun i hs hi => by rcases hg72 i hs with h | h; (exact oo50 i h hi); (have := Ents.lt hE i hi; omega)
    have oo81 : ∀ i, ((Value.slice A74 l76.length c75)).ownBlock = some i → (fun i => (w.heap.size ≤ i ∧ i < w6.heap.size) ∧ i ≠ g2) i → False := fun i hs hi => by rcases hg72 i hs with h | h; (exact oo51 i h hi); (have := Ents.lt hE9 i hi; omega)
    have oo82 : ∀ i, ((Value.slice A74 l76.length c75)).ownBlock = some i → (fun i => w6.heap.size ≤ i ∧ i < w30.heap.size) i → False := fun i hs hi => by rcases hg72 i hs with h | h; (exact oo52 i h hi); (have := Ents.lt hE32 i hi; omega)
    have oo83 : ∀ i, ((Value.slice A74 l76.length c75)).ownBlock = some i → (fun i => w38.heap.size ≤ i ∧ i < w59.heap.size) i → False := fun i hs hi => by rcases hg72 i hs with h | h; (exact oo64 i h hi); (have := Ents.lt hE61 i hi; omega)
    have K73 := hK71
    refine Ops.go (v := (Value.slice A74 l76.length c75)) (by kernel_rfl) (Runs.append (ts := #[22, 22]) (ty := 22) (vs := [(Value.slice A44 l46.length c45), (Value.slice A57 l56.length c58)]) (by kernel_rfl) hr69) (d := (some 55)) (by kernel_rfl) rfl ?_
    replace K0 := K0.trans K73 (U := none_) (fun i h1 h2 => h2) (fun i h1 h2 => by have h2 : ((Value.slice A44 l46.length c45)).ownBlock = some i := h2; exfalso; have := (World.ownsRow.lt hO40 i h2).1; omega)
    replace H8 := H8.keep K73 (by intro h; change ((Value.slice A44 l46.length c45)).ownBlock = some g2 at h; have := ob49 g2 h; omega)
    replace hE := Ents.keep hE K73 (fun i hi hs => by have hs : ((Value.slice A44 l46.length c45)).ownBlock = some i := hs; exact oo50 i hs hi)
    replace hE9 := Ents.keep hE9 K73 (fun i hi hs => by have hs : ((Value.slice A44 l46.length c45)).ownBlock = some i := hs; exact oo51 i hs hi)
    replace hE32 := Ents.keep hE32 K73 (fun i hi hs => by have hs : ((Value.slice A44 l46.length c45)).ownBlock = some i := hs; exact oo52 i hs hi)
    clear hO40
    replace hE61 := Ents.keep hE61 K73 (fun i hi hs => by have hs : ((Value.slice A44 l46.length c45)).ownBlock = some i := hs; exact oo64 i hs hi)
    clear K73 hr69 hK71 hg72
    have hE84 := Ents.join2 hO70 hl47 hl77 hE32 hE61
    have hK85 : (l76.map EntP.key) = (l27.map EntP.key) ++ (l56.map EntP.key) := by rw [hl77, hl47, List.map_append]; rfl
    have ot87 : ∀ i, (fun i => ((fun i => w6.heap.size ≤ i ∧ i < w30.heap.size) i ∨ (fun i => w38.heap.size ≤ i ∧ i < w59.heap.size) i ∨ ((Value.slice A74 l76.length c75)).ownBlock = some i) ∧ i < w68.heap.size) i → i ≠ g2 := fun i hi => by rcases hi.1 with h | h | h; (exact ot34 i h); (exact ot63 i h); (exact ob79 i h)
    clear hO70
    refine og 1 [(0, (i64 base)), (2, (Value.slice A l.length c)), (8, (Value.bool false)), (9, (ptr g2)), (11, (Value.slice A74 l76.length c75))] 9 ?_
    refine od ?_
    refine qs ?_
    refine qs ?_
    refine qg ?_
    refine og 2 [(0, (i64 base)), (2, (Value.slice A l.length c)), (8, (Value.bool false)), (9, (ptr g2)), (56, (Value.slice A74 l76.length c75)), (57, (Value.slice A l.length c))] 2 ?_
    refine Ops.call (by kernel_rfl) (d := (some 58)) (by kernel_rfl) (SameEntries_calls _ A74 c75 l76 A c l (Ents.rd hE84) (Ents.rd hE) (Ents.ins hE84) (Ents.ins hE)) ?_
    rintro _ w91 ⟨t88, rfl, ht89, K90⟩
    refine ⟨_, _, rfl, rfl, ?_⟩
    replace K0 := K0.t0 K90
    replace H8 := H8.keep K90 (fun h => h)
    replace hE := Ents.keep0 hE K90
    replace hE9 := Ents.keep0 hE9 K90
    replace hE32 := Ents.keep0 hE32 K90
    replace hE61 := Ents.keep0 hE61 K90
    replace hE84 := Ents.keep0 hE84 K90
    clear K90
    refine og 1 [(0, (i64 base)), (2, (Value.slice A l.length c)), (8, (Value.bool false)), (9, (ptr g2)), (59, (Value.bool (!t88)))] 4 ?_
    refine od ?_
    have hpl := parts_law (base := base) (ks := (l.map EntP.key)) (k := k21) (by rw [List.length_map]; omega) (by rw [List.length_map]; omega)
    rw [if_pos (by omega)] at hpl
    have h92 : (!t88) = false := by rw [show t88 = true from ht89.2 (by rw [hK85, hK33, hK62, hK10]; exact hpl)]; rfl
    rw [h92]
    refine q_else (o := .tmp 59) (by kernel_rfl) rfl ?_
    refine q_skip (by kernel_rfl) ?_
    refine qs ?_
    refine qs ?_
    refine qg ?_
    refine og 1 [(0, (i64 base)), (2, (Value.slice A l.length c)), (8, (Value.bool false)), (9, (ptr g2)), (12, (i64 0))] 1 ?_
    refine od ?_
    refine q_block (id := 0) (by kernel_rfl) ?_
    refine q_keep (R := [(0, (i64 base)), (2, (Value.slice A l.length c)), (9, (ptr g2)), (12, (i64 0))]) (by kernel_rfl) ?_
    refine q_loop (fun (i : Nat) L (wx : World) => L = [(0, (i64 base)), (2, (Value.slice A l.length c)), (9, (ptr g2)), (12, (i64 ((i : Nat) : Int)))] ∧ i ≤ l.length ∧ Ents wx T (Value.slice A l.length c) l ∧ Ents wx (fun i => (w.heap.size ≤ i ∧ i < w6.heap.size) ∧ i ≠ g2) (Value.slice A4 l3.length c5) l3 ∧ Keeps none_ w wx ∧ Has wx g2 (rowL [(i64 base), (i64 t0), (Value.slice A4 l3.length c5)] 55)) (fun (i : Nat) => l.length - i) 0 (by kernel_rfl) ⟨rfl, Nat.zero_le _, hE, hE9, K0, H8⟩ ?_
    clear H8 hE hE9 hE32 hE61 hE84 K0
    rintro i _ w93 ⟨rfl, hi, hE, hEg, K94, H95⟩
    refine qs ?_
    refine qs ?_
    refine qg ?_
    refine og 4 [(0, (i64 base)), (2, (Value.slice A l.length c)), (9, (ptr g2)), (12, (i64 ((i : Nat) : Int))), (63, (Value.bool (decide (((i : Nat) : Int) < ((l.length : Nat) : Int)))))] 4 ?_
    refine od ?_
    refine q_cond (o := .tmp 63) (b := (decide (((i : Nat) : Int) < ((l.length : Nat) : Int)))) (by kernel_rfl) rfl (fun h96 => ?_) (fun h96 => ?_)
    ·rw [h96]
     have p97 : ((i : Nat) : Int) < ((l.length : Nat) : Int) := of_decide_eq_true h96
     refine q_skip (by kernel_rfl) ?_
     refine qs ?_
     refine q_block (id := 1) (by kernel_rfl) ?_
     refine qs ?_
     refine qg ?_
     refine og 3 [(0, (i64 base)), (2, (Value.slice A l.length c)), (9, (ptr g2)), (12, (i64 ((i : Nat) : Int))), (63, (Value.bool true)), (67, (ptr g2)), (69, (i64 (IntKind.i64.wrap (base + 1))))] 3 ?_
     have e98 : IntKind.i64.wrap (base + 1) = base + 1 := wrap_i64 (by omega) (by omega)
     rw [e98]
     refine og 2 [(0, (i64 base)), (2, (Value.slice A l.length c)), (9, (ptr g2)), (12, (i64 ((i : Nat) : Int))), (63, (Value.bool true)), (67, (ptr g2)), (71, (i64 (IntKind.i64.wrap ((base + 1) + ((i : Nat) : Int)))))] 5 ?_
     have e99 : IntKind.i64.wrap ((base + 1) + ((i : Nat) : Int)) = (base + 1) + ((i : Nat) : Int) := wrap_i64 (by omega) (by omega)
     rw [e99]
     refine Ops.call (by kernel_rfl) (d := (some 72)) (by kernel_rfl) (Term_calls _ (fun i => (w.heap.size ≤ i ∧ i < w6.heap.size) ∧ i ≠ g2) g2 base t0 A4 c5 l3 ((base + 1) + ((i : Nat) : Int)) H95 hEg ot13 (by omega) (by omega) (by omega)) ?_
     rintro _ w101 ⟨rfl, K100⟩
     refine ⟨_, _, rfl, rfl, ?_⟩
     replace K94 := K94.trans K100 (U := none_) (fun i h1 h2 => h2) (fun i h1 h2 => by exact h2)
     replace H95 := H95.keep K100 (fun h => h)
     replace hE := Ents.keep0 hE K100
     replace hEg := Ents.keep0 hEg K100
     clear K100
     refine og 5 [(0, (i64 base)), (2, (Value.slice A l.length c)), (9, (ptr g2)), (12, (i64 ((i : Nat) : Int))), (13, (i64 ((termK base t0 (l3.map EntP.key) ((base + 1) + ((i : Nat) : Int))).1))), (14, (i64 ((termK base t0 (l3.map EntP.key) ((base + 1) + ((i : Nat) : Int))).2))), (63, (Value.bool true))] 11 ?_
     refine od ?_
     refine qs ?_
     refine qg ?_
     refine og 3 [(0, (i64 base)), (2, (Value.slice A l.length c)), (9, (ptr g2)), (12, (i64 ((i : Nat) : Int))), (13, (i64 ((termK base t0 (l3.map EntP.key) ((base + 1) + ((i : Nat) : Int))).1))), (14, (i64 ((termK base t0 (l3.map EntP.key) ((base + 1) + ((i : Nat) : Int))).2))), (63, (Value.bool true)), (77, (Value.bool (((termK base t0 (l3.map EntP.key) ((base + 1) + ((i : Nat) : Int))).2) != 0)))] 3 ?_
     have h102 : (((termK base t0 (l3.map EntP.key) ((base + 1) + ((i : Nat) : Int))).2) != 0) = false := bne_f (congrArg Prod.snd (termK_in (base := base) (old := t0) (ks := (l3.map EntP.key)) (j := i) (n := base + 1 + ((i : Nat) : Int)) (by omega) (by rw [List.length_map]; omega)))
     rw [h102]
     refine og 3 [(0, (i64 base)), (2, (Value.slice A l.length c)), (9, (ptr g2)), (12, (i64 ((i : Nat) : Int))), (13, (i64 ((termK base t0 (l3.map EntP.key) ((base + 1) + ((i : Nat) : Int))).1))), (14, (i64 ((termK base t0 (l3.map EntP.key) ((base + 1) + ((i : Nat) : Int))).2))), (63, (Value.bool true)), (77, (Value.bool false)), (78, (i64 ((termK base t0 (l3.map EntP.key) ((base + 1) + ((i : Nat) : Int))).1))), (79, (Value.slice A l.length c)), (80, (i64 ((i : Nat) : Int)))] 6 ?_
     obtain ⟨x, hx⟩ : ∃ y, l[i]? = some y := ⟨_, List.getElem?_eq_getElem (by omega)⟩
     obtain ⟨rb103, ro104, hA105⟩ := Rd.addr (Ents.rd hE) (by omega)
     refine Ops.go (by kernel_rfl) (Runs.ixSliceE (k := IntKind.i64) (t := 22) (len := l.length) (cap := c) (s := 2) (off' := ro104 + i * 2) (i := ((i : Nat) : Int)) hA105 (by kernel_rfl) (by kernel_rfl) (by omega) (by omega) (by omega)) (d := (some 81)) (by kernel_rfl) rfl ?_
     refine og 1 [(0, (i64 base)), (2, (Value.slice A l.length c)), (9, (ptr g2)), (12, (i64 ((i : Nat) : Int))), (13, (i64 ((termK base t0 (l3.map EntP.key) ((base + 1) + ((i : Nat) : Int))).1))), (14, (i64 ((termK base t0 (l3.map EntP.key) ((base + 1) + ((i : Nat) : Int))).2))), (63, (Value.bool true)), (77, (Value.bool false)), (78, (i64 ((termK base t0 (l3.map EntP.key) ((base + 1) + ((i : Nat) : Int))).1))), (82, (Value.pointer (some ⟨rb103, ro104 + i * 2, none⟩)))] 8 ?_
     refine Ops.go (v := (i64 x.term)) (by kernel_rfl) (Runs.load (t := 2) (a := ⟨rb103, ro104 + i * 2, none⟩) (by kernel_rfl) (RdT.ldf (f := EntP.cells) (x := x) (o := 0) EntP.two (Ents.rd hE) (by kernel_rfl) hA105 hx rfl)) (d := (some 83)) (by kernel_rfl) rfl ?_
     refine og 2 [(0, (i64 base)), (2, (Value.slice A l.length c)), (9, (ptr g2)), (12, (i64 ((i : Nat) : Int))), (13, (i64 ((termK base t0 (l3.map EntP.key) ((base + 1) + ((i : Nat) : Int))).1))), (14, (i64 ((termK base t0 (l3.map EntP.key) ((base + 1) + ((i : Nat) : Int))).2))), (63, (Value.bool true)), (85, (Value.bool (((termK base t0 (l3.map EntP.key) ((base + 1) + ((i : Nat) : Int))).1) != x.term)))] 11 ?_
     refine od ?_
     have h106 : (((termK base t0 (l3.map EntP.key) ((base + 1) + ((i : Nat) : Int))).1) != x.term) = false := bne_f ((congrArg Prod.fst (termK_in (base := base) (old := t0) (ks := (l3.map EntP.key)) (j := i) (n := base + 1 + ((i : Nat) : Int)) (by omega) (by rw [List.length_map]; omega))).trans (by rw [hK10, List.getD_eq_getElem?_getD, List.getElem?_map, hx]; rfl))
     rw [h106]
     refine q_else (o := .tmp 85) (by kernel_rfl) rfl ?_
     refine q_skip (by kernel_rfl) ?_
     refine qg ?_
     refine og 2 [(0, (i64 base)), (2, (Value.slice A l.length c)), (9, (ptr g2)), (12, (i64 ((i : Nat) : Int))), (13, (i64 ((termK base t0 (l3.map EntP.key) ((base + 1) + ((i : Nat) : Int))).1))), (14, (i64 ((termK base t0 (l3.map EntP.key) ((base + 1) + ((i : Nat) : Int))).2))), (63, (Value.bool true)), (65, (i64 (IntKind.i64.wrap (((i : Nat) : Int) + 1)))), (85, (Value.bool false))] 2 ?_
     have e107 : IntKind.i64.wrap (((i : Nat) : Int) + 1) = ((i + 1 : Nat) : Int) := by rw [wrap_i64 (by omega) (by omega)]; omega
     rw [e107]
     refine og 1 [(0, (i64 base)), (2, (Value.slice A l.length c)), (9, (ptr g2)), (12, (i64 ((i + 1 : Nat) : Int))), (13, (i64 ((termK base t0 (l3.map EntP.key) ((base + 1) + ((i : Nat) : Int))).1))), (14, (i64 ((termK base t0 (l3.map EntP.key) ((base + 1) + ((i : Nat) : Int))).2))), (63, (Value.bool true)), (85, (Value.bool false))] 3 ?_
     refine Ops.keep (R := [(0, (i64 base)), (2, (Value.slice A l.length c)), (9, (ptr g2)), (12, (i64 ((i + 1 : Nat) : Int)))]) (by kernel_rfl) ?_
     refine od ?_
     exact ⟨i + 1, ⟨rfl, (by omega), hE, hEg, K94, H95⟩, (show l.length - (i + 1) < l.length - i from by omega)⟩
    ·rw [h96]
     have p108 : ¬ (((i : Nat) : Int) < ((l.length : Nat) : Int)) := of_decide_eq_false h96
     refine q_exit (id := 0) (by kernel_rfl) ?_
     refine qs ?_
     refine qg ?_
     refine og 1 [(0, (i64 base)), (2, (Value.slice A l.length c)), (9, (ptr g2)), (87, (ptr g2))] 1 ?_
     refine Ops.call (by kernel_rfl) (d := (some 88)) (by kernel_rfl) (Last_calls _ (fun i => (w.heap.size ≤ i ∧ i < w6.heap.size) ∧ i ≠ g2) g2 base t0 A4 c5 l3 H95 hEg ot13 (by omega) (by omega)) ?_
     rintro _ w110 ⟨rfl, K109⟩
     have htr2 : 0 ≤ lastK base t0 (l3.map EntP.key) ∧ lastK base t0 (l3.map EntP.key) ≤ 1152921504606846976 := by rw [hK10]; unfold lastK; exact htr
     refine ⟨_, _, rfl, rfl, ?_⟩
     replace K94 := K94.trans K109 (U := none_) (fun i h1 h2 => h2) (fun i h1 h2 => by exact h2)
     replace H95 := H95.keep K109 (fun h => h)
     replace hE := Ents.keep0 hE K109
     replace hEg := Ents.keep0 hEg K109
     clear K109
     refine og 5 [(0, (i64 base)), (2, (Value.slice A l.length c)), (9, (ptr g2)), (15, (i64 (base + ((l3.length : Nat) : Int)))), (16, (i64 (lastK base t0 (l3.map EntP.key))))] 7 ?_
     refine od ?_
     refine qs ?_
     refine qg ?_
     refine og 5 [(9, (ptr g2)), (15, (i64 (base + ((l3.length : Nat) : Int)))), (16, (i64 (lastK base t0 (l3.map EntP.key)))), (91, (i64 (base + ((l3.length : Nat) : Int)))), (95, (i64 (IntKind.i64.wrap (base + ((l.length : Nat) : Int)))))] 5 ?_
     have e111 : IntKind.i64.wrap (base + ((l.length : Nat) : Int)) = base + ((l.length : Nat) : Int) := wrap_i64 (by omega) (by omega)
     rw [e111]
     refine og 2 [(9, (ptr g2)), (15, (i64 (base + ((l3.length : Nat) : Int)))), (16, (i64 (lastK base t0 (l3.map EntP.key)))), (97, (Value.bool ((base + ((l3.length : Nat) : Int)) == (base + ((l.length : Nat) : Int)))))] 7 ?_
     have h112 : ((base + ((l3.length : Nat) : Int)) == (base + ((l.length : Nat) : Int))) = true := beq_t (by omega)
     rw [h112]
     refine og 3 [(9, (ptr g2)), (15, (i64 (base + ((l3.length : Nat) : Int)))), (16, (i64 (lastK base t0 (l3.map EntP.key)))), (97, (Value.bool true)), (98, (ptr g2)), (99, (i64 (base + ((l3.length : Nat) : Int)))), (100, (i64 (lastK base t0 (l3.map EntP.key))))] 10 ?_
     refine Ops.call (by kernel_rfl) (d := (some 101)) (by kernel_rfl) (Newer_calls _ (fun i => (w.heap.size ≤ i ∧ i < w6.heap.size) ∧ i ≠ g2) g2 base t0 A4 c5 l3 (base + ((l3.length : Nat) : Int)) (lastK base t0 (l3.map EntP.key)) H95 hEg ot13 (by omega) (by omega)) ?_
     rintro _ w114 ⟨b115, rfl, hb116, K113⟩
     refine ⟨_, _, rfl, rfl, ?_⟩
     replace K94 := K94.trans K113 (U := none_) (fun i h1 h2 => h2) (fun i h1 h2 => by exact h2)
     replace H95 := H95.keep K113 (fun h => h)
     replace hE := Ents.keep0 hE K113
     replace hEg := Ents.keep0 hEg K113
     clear K113
     refine og 2 [(9, (ptr g2)), (15, (i64 (base + ((l3.length : Nat) : Int)))), (16, (i64 (lastK base t0 (l3.map EntP.key)))), (103, (Value.bool b115))] 13 ?_
     have h117 : b115 = true := hb116.2 (by omega)
     rw [h117]
     refine og 3 [(9, (ptr g2)), (15, (i64 (base + ((l3.length : Nat) : Int)))), (16, (i64 (lastK base t0 (l3.map EntP.key)))), (103, (Value.bool true)), (104, (ptr g2)), (106, (i64 (IntKind.i64.wrap ((base + ((l3.length : Nat) : Int)) - 1))))] 16 ?_
     have e118 : IntKind.i64.wrap ((base + ((l3.length : Nat) : Int)) - 1) = (base + ((l3.length : Nat) : Int)) - 1 := wrap_i64 (by omega) (by omega)
     rw [e118]
     refine og 1 [(9, (ptr g2)), (15, (i64 (base + ((l3.length : Nat) : Int)))), (16, (i64 (lastK base t0 (l3.map EntP.key)))), (103, (Value.bool true)), (104, (ptr g2)), (106, (i64 ((base + ((l3.length : Nat) : Int)) - 1))), (107, (i64 (lastK base t0 (l3.map EntP.key))))] 17 ?_
     refine Ops.call (by kernel_rfl) (d := (some 108)) (by kernel_rfl) (Newer_calls _ (fun i => (w.heap.size ≤ i ∧ i < w6.heap.size) ∧ i ≠ g2) g2 base t0 A4 c5 l3 ((base + ((l3.length : Nat) : Int)) - 1) (lastK base t0 (l3.map EntP.key)) H95 hEg ot13 (by omega) (by omega)) ?_
     rintro _ w120 ⟨b121, rfl, hb122, K119⟩
     refine ⟨_, _, rfl, rfl, ?_⟩
     replace K94 := K94.trans K119 (U := none_) (fun i h1 h2 => h2) (fun i h1 h2 => by exact h2)
     replace H95 := H95.keep K119 (fun h => h)
     replace hE := Ents.keep0 hE K119
     replace hEg := Ents.keep0 hEg K119
     clear K119
     refine og 3 [(9, (ptr g2)), (15, (i64 (base + ((l3.length : Nat) : Int)))), (16, (i64 (lastK base t0 (l3.map EntP.key)))), (111, (Value.bool (!b121)))] 21 ?_
     have h123 : (!b121) = true := by rw [show b121 = false from Bool.eq_false_iff.2 (fun h => by have := hb122.1 h; omega)]; rfl
     rw [h123]
     refine og 3 [(9, (ptr g2)), (15, (i64 (base + ((l3.length : Nat) : Int)))), (16, (i64 (lastK base t0 (l3.map EntP.key)))), (111, (Value.bool true)), (112, (ptr g2)), (114, (i64 (IntKind.i64.wrap ((lastK base t0 (l3.map EntP.key)) + 1))))] 24 ?_
     have e124 : IntKind.i64.wrap ((lastK base t0 (l3.map EntP.key)) + 1) = (lastK base t0 (l3.map EntP.key)) + 1 := wrap_i64 (by omega) (by omega)
     rw [e124]
     refine Ops.call (by kernel_rfl) (d := (some 115)) (by kernel_rfl) (Newer_calls _ (fun i => (w.heap.size ≤ i ∧ i < w6.heap.size) ∧ i ≠ g2) g2 base t0 A4 c5 l3 0 ((lastK base t0 (l3.map EntP.key)) + 1) H95 hEg ot13 (by omega) (by omega)) ?_
     rintro _ w126 ⟨b127, rfl, hb128, K125⟩
     refine ⟨_, _, rfl, rfl, ?_⟩
     replace K94 := K94.trans K125 (U := none_) (fun i h1 h2 => h2) (fun i h1 h2 => by exact h2)
     replace H95 := H95.keep K125 (fun h => h)
     replace hE := Ents.keep0 hE K125
     replace hEg := Ents.keep0 hEg K125
     clear K125
     refine og 2 [(9, (ptr g2)), (15, (i64 (base + ((l3.length : Nat) : Int)))), (16, (i64 (lastK base t0 (l3.map EntP.key)))), (117, (Value.bool b127))] 27 ?_
     have h129 : b127 = true := hb128.2 (by omega)
     rw [h129]
     refine og 3 [(16, (i64 (lastK base t0 (l3.map EntP.key)))), (117, (Value.bool true)), (118, (ptr g2)), (120, (i64 (IntKind.i64.wrap ((base + ((l3.length : Nat) : Int)) + 5))))] 30 ?_
     have e130 : IntKind.i64.wrap ((base + ((l3.length : Nat) : Int)) + 5) = (base + ((l3.length : Nat) : Int)) + 5 := wrap_i64 (by omega) (by omega)
     rw [e130]
     refine og 2 [(117, (Value.bool true)), (118, (ptr g2)), (120, (i64 ((base + ((l3.length : Nat) : Int)) + 5))), (122, (i64 (IntKind.i64.wrap ((lastK base t0 (l3.map EntP.key)) - 1))))] 32 ?_
     have e131 : IntKind.i64.wrap ((lastK base t0 (l3.map EntP.key)) - 1) = (lastK base t0 (l3.map EntP.key)) - 1 := wrap_i64 (by omega) (by omega)
     rw [e131]
     refine Ops.call (by kernel_rfl) (d := (some 123)) (by kernel_rfl) (Newer_calls _ (fun i => (w.heap.size ≤ i ∧ i < w6.heap.size) ∧ i ≠ g2) g2 base t0 A4 c5 l3 ((base + ((l3.length : Nat) : Int)) + 5) ((lastK base t0 (l3.map EntP.key)) - 1) H95 hEg ot13 (by omega) (by omega)) ?_
     rintro _ w133 ⟨b134, rfl, hb135, K132⟩
     refine ⟨_, _, rfl, rfl, ?_⟩
     replace K94 := K94.trans K132 (U := none_) (fun i h1 h2 => h2) (fun i h1 h2 => by exact h2)
     replace H95 := H95.keep K132 (fun h => h)
     replace hE := Ents.keep0 hE K132
     replace hEg := Ents.keep0 hEg K132
     clear K132
     refine og 3 [(126, (Value.bool (!b134)))] 36 ?_
     have h136 : (!b134) = true := by rw [show b134 = false from Bool.eq_false_iff.2 (fun h => by have := hb135.1 h; omega)]; rfl
     rw [h136]
     refine Ops.call (by kernel_rfl) (d := (some 127)) (by kernel_rfl) (known_calls _) ?_
     rintro _ w138 ⟨rfl, K137⟩
     refine ⟨_, _, rfl, rfl, ?_⟩
     replace K94 := K94.trans K137 (U := none_) (fun i h1 h2 => h2) (fun i h1 h2 => by exact h2)
     replace H95 := H95.keep K137 (fun h => h)
     replace hE := Ents.keep0 hE K137
     replace hEg := Ents.keep0 hEg K137
     clear K137
     refine og 2 [(8, (Value.bool true))] 39 ?_
     refine od ?_
     refine q_ret (by kernel_rfl) ?_
     refine ⟨(Value.bool true), retv_tmp rfl rfl, ?_⟩
     exact ⟨rfl, K94⟩
   ·rw [h23]
    have p139 : ¬ (((k21 : Nat) : Int) > 0) := of_decide_eq_false h23
    refine q_skip (by kernel_rfl) ?_
    refine qs ?_
    refine qg ?_
    refine og 4 [(0, (i64 base)), (2, (Value.slice A l.length c)), (3, (i64 ((k21 : Nat) : Int))), (8, (Value.bool false)), (9, (ptr g2)), (11, (Value.slice none 0 0)), (48, (Value.slice none 0 0)), (49, (ptr g2)), (51, (i64 (IntKind.i64.wrap (base + 1))))] 4 ?_
    have e140 : IntKind.i64.wrap (base + 1) = base + 1 := wrap_i64 (by omega) (by omega)
    rw [e140]
    refine og 2 [(0, (i64 base)), (2, (Value.slice A l.length c)), (8, (Value.bool false)), (9, (ptr g2)), (11, (Value.slice none 0 0)), (48, (Value.slice none 0 0)), (49, (ptr g2)), (53, (i64 (IntKind.i64.wrap ((base + 1) + ((k21 : Nat) : Int)))))] 6 ?_
    have e141 : IntKind.i64.wrap ((base + 1) + ((k21 : Nat) : Int)) = (base + 1) + ((k21 : Nat) : Int) := wrap_i64 (by omega) (by omega)
    rw [e141]
    have hp142 := partK_len base (l3.map EntP.key) ((base + 1) + ((k21 : Nat) : Int)) 99
    rw [List.length_map] at hp142
    refine Ops.call (by kernel_rfl) (d := (some 54)) (by kernel_rfl) (Part_calls _ (fun i => (w.heap.size ≤ i ∧ i < w6.heap.size) ∧ i ≠ g2) g2 base t0 A4 c5 l3 ((base + 1) + ((k21 : Nat) : Int)) 99 H8 hE9 ot13 (by omega) (by omega) (by omega) (by omega) (BigK.keys hK10 hBig)) ?_
    rintro _ w146 ⟨l143, A144, c145, rfl, K147, hE148, hK149⟩
    have ot150 : ∀ i, (fun i => w6.heap.size ≤ i ∧ i < w146.heap.size) i → i ≠ g2 := fun i hi => by have := hi.1; have := H8.lt; omega
    have hz151 := K0.size
    have hn152 := keys_len2 hK149
    try rw [List.length_drop] at hn152
    try rw [List.length_append] at hn152
    try rw [List.length_map] at hn152
    try rw [List.length_map] at hn152
    refine ⟨_, _, rfl, rfl, ?_⟩
    replace K0 := K0.t0 K147
    replace H8 := H8.keep K147 (fun h => h)
    replace hE := Ents.keep0 hE K147
    replace hE9 := Ents.keep0 hE9 K147
    clear K147
    obtain ⟨v153, w154, hr155, hO156, hK157, hg158⟩ := OwnT.app (ty := 22) EntP.two EntP.one tyE (OwnT.nil _ w.heap.size 43 2 EntP.cells) (Ents.rd hE148) (by simp only [List.length_nil]; omega) (by simp only [List.length_nil]; omega) K0.size
    obtain ⟨A160, c161, rfl⟩ := RdT.form EntP.two (by decide) (OwnT.rd hO156)
    obtain ⟨l162, hl163⟩ : ∃ z, z = [] ++ l143 := ⟨_, rfl⟩
    rw [← hl163] at hr155 hO156 hg158
    have hn164 : l162.length = 0 + l143.length := by simp [hl163]
    have ob165 : ∀ i, ((Value.slice A160 l162.length c161)).ownBlock = some i → i ≠ g2 := fun i hi => by rcases hg158 i hi with h | h; (cases h); (have := H8.lt; omega)
    have oo166 : ∀ i, ((Value.slice A160 l162.length c161)).ownBlock = some i → T i → False := fun i hs hi => by rcases hg158 i hs with h | h; (cases h); (have := Ents.lt hE i hi; omega)
    have oo167 : ∀ i, ((Value.slice A160 l162.length c161)).ownBlock = some i → (fun i => (w.heap.size ≤ i ∧ i < w6.heap.size) ∧ i ≠ g2) i → False := fun i hs hi => by rcases hg158 i hs with h | h; (cases h); (have := Ents.lt hE9 i hi; omega)
    have oo168 : ∀ i, ((Value.slice A160 l162.length c161)).ownBlock = some i → (fun i => w6.heap.size ≤ i ∧ i < w146.heap.size) i → False := fun i hs hi => by rcases hg158 i hs with h | h; (cases h); (have := Ents.lt hE148 i hi; omega)
    have K159 := Keeps.mono (U := none_) hK157 (fun _ _ h => by cases h)
    refine Ops.go (v := (Value.slice A160 l162.length c161)) (by kernel_rfl) (Runs.append (ts := #[22, 22]) (ty := 22) (vs := [(Value.slice none 0 0), (Value.slice A144 l143.length c145)]) (by kernel_rfl) hr155) (d := (some 55)) (by kernel_rfl) rfl ?_
    replace K0 := K0.t0 K159
    replace H8 := H8.keep K159 (fun h => h)
    replace hE := Ents.keep0 hE K159
    replace hE9 := Ents.keep0 hE9 K159
    replace hE148 := Ents.keep0 hE148 K159
    clear K159 hr155 hK157 hg158
    have hE169 := Ents.join1 hO156 hl163 hE148
    have hK170 : (l162.map EntP.key) = (l143.map EntP.key) := by rw [hl163]; rfl
    have ot172 : ∀ i, (fun i => ((fun i => w6.heap.size ≤ i ∧ i < w146.heap.size) i ∨ ((Value.slice A160 l162.length c161)).ownBlock = some i) ∧ i < w154.heap.size) i → i ≠ g2 := fun i hi => by rcases hi.1 with h | h; (exact ot150 i h); (exact ob165 i h)
    clear hO156
    refine og 1 [(0, (i64 base)), (2, (Value.slice A l.length c)), (8, (Value.bool false)), (9, (ptr g2)), (11, (Value.slice A160 l162.length c161))] 9 ?_
    refine od ?_
    refine qs ?_
    refine qs ?_
    refine qg ?_
    refine og 2 [(0, (i64 base)), (2, (Value.slice A l.length c)), (8, (Value.bool false)), (9, (ptr g2)), (56, (Value.slice A160 l162.length c161)), (57, (Value.slice A l.length c))] 2 ?_
    refine Ops.call (by kernel_rfl) (d := (some 58)) (by kernel_rfl) (SameEntries_calls _ A160 c161 l162 A c l (Ents.rd hE169) (Ents.rd hE) (Ents.ins hE169) (Ents.ins hE)) ?_
    rintro _ w176 ⟨t173, rfl, ht174, K175⟩
    refine ⟨_, _, rfl, rfl, ?_⟩
    replace K0 := K0.t0 K175
    replace H8 := H8.keep K175 (fun h => h)
    replace hE := Ents.keep0 hE K175
    replace hE9 := Ents.keep0 hE9 K175
    replace hE148 := Ents.keep0 hE148 K175
    replace hE169 := Ents.keep0 hE169 K175
    clear K175
    refine og 1 [(0, (i64 base)), (2, (Value.slice A l.length c)), (8, (Value.bool false)), (9, (ptr g2)), (59, (Value.bool (!t173)))] 4 ?_
    refine od ?_
    have hpl := parts_law (base := base) (ks := (l.map EntP.key)) (k := k21) (by rw [List.length_map]; omega) (by rw [List.length_map]; omega)
    rw [if_neg (by omega)] at hpl
    have h177 : (!t173) = false := by rw [show t173 = true from ht174.2 (by rw [hK170, hK149, hK10]; exact (List.nil_append _).symm.trans hpl)]; rfl
    rw [h177]
    refine q_else (o := .tmp 59) (by kernel_rfl) rfl ?_
    refine q_skip (by kernel_rfl) ?_
    refine qs ?_
    refine qs ?_
    refine qg ?_
    refine og 1 [(0, (i64 base)), (2, (Value.slice A l.length c)), (8, (Value.bool false)), (9, (ptr g2)), (12, (i64 0))] 1 ?_
    refine od ?_
    refine q_block (id := 0) (by kernel_rfl) ?_
    refine q_keep (R := [(0, (i64 base)), (2, (Value.slice A l.length c)), (9, (ptr g2)), (12, (i64 0))]) (by kernel_rfl) ?_
    refine q_loop (fun (i : Nat) L (wx : World) => L = [(0, (i64 base)), (2, (Value.slice A l.length c)), (9, (ptr g2)), (12, (i64 ((i : Nat) : Int)))] ∧ i ≤ l.length ∧ Ents wx T (Value.slice A l.length c) l ∧ Ents wx (fun i => (w.heap.size ≤ i ∧ i < w6.heap.size) ∧ i ≠ g2) (Value.slice A4 l3.length c5) l3 ∧ Keeps none_ w wx ∧ Has wx g2 (rowL [(i64 base), (i64 t0), (Value.slice A4 l3.length c5)] 55)) (fun (i : Nat) => l.length - i) 0 (by kernel_rfl) ⟨rfl, Nat.zero_le _, hE, hE9, K0, H8⟩ ?_
    clear H8 hE hE9 hE148 hE169 K0
    rintro i _ w178 ⟨rfl, hi, hE, hEg, K179, H180⟩
    refine qs ?_
    refine qs ?_
    refine qg ?_
    refine og 4 [(0, (i64 base)), (2, (Value.slice A l.length c)), (9, (ptr g2)), (12, (i64 ((i : Nat) : Int))), (63, (Value.bool (decide (((i : Nat) : Int) < ((l.length : Nat) : Int)))))] 4 ?_
    refine od ?_
    refine q_cond (o := .tmp 63) (b := (decide (((i : Nat) : Int) < ((l.length : Nat) : Int)))) (by kernel_rfl) rfl (fun h181 => ?_) (fun h181 => ?_)
    ·rw [h181]
     have p182 : ((i : Nat) : Int) < ((l.length : Nat) : Int) := of_decide_eq_true h181
     refine q_skip (by kernel_rfl) ?_
     refine qs ?_
     refine q_block (id := 1) (by kernel_rfl) ?_
     refine qs ?_
     refine qg ?_
     refine og 3 [(0, (i64 base)), (2, (Value.slice A l.length c)), (9, (ptr g2)), (12, (i64 ((i : Nat) : Int))), (63, (Value.bool true)), (67, (ptr g2)), (69, (i64 (IntKind.i64.wrap (base + 1))))] 3 ?_
     have e183 : IntKind.i64.wrap (base + 1) = base + 1 := wrap_i64 (by omega) (by omega)
     rw [e183]
     refine og 2 [(0, (i64 base)), (2, (Value.slice A l.length c)), (9, (ptr g2)), (12, (i64 ((i : Nat) : Int))), (63, (Value.bool true)), (67, (ptr g2)), (71, (i64 (IntKind.i64.wrap ((base + 1) + ((i : Nat) : Int)))))] 5 ?_
     have e184 : IntKind.i64.wrap ((base + 1) + ((i : Nat) : Int)) = (base + 1) + ((i : Nat) : Int) := wrap_i64 (by omega) (by omega)
     rw [e184]
     refine Ops.call (by kernel_rfl) (d := (some 72)) (by kernel_rfl) (Term_calls _ (fun i => (w.heap.size ≤ i ∧ i < w6.heap.size) ∧ i ≠ g2) g2 base t0 A4 c5 l3 ((base + 1) + ((i : Nat) : Int)) H180 hEg ot13 (by omega) (by omega) (by omega)) ?_
     rintro _ w186 ⟨rfl, K185⟩
     refine ⟨_, _, rfl, rfl, ?_⟩
     replace K179 := K179.trans K185 (U := none_) (fun i h1 h2 => h2) (fun i h1 h2 => by exact h2)
     replace H180 := H180.keep K185 (fun h => h)
     replace hE := Ents.keep0 hE K185
     replace hEg := Ents.keep0 hEg K185
     clear K185
     refine og 5 [(0, (i64 base)), (2, (Value.slice A l.length c)), (9, (ptr g2)), (12, (i64 ((i : Nat) : Int))), (13, (i64 ((termK base t0 (l3.map EntP.key) ((base + 1) + ((i : Nat) : Int))).1))), (14, (i64 ((termK base t0 (l3.map EntP.key) ((base + 1) + ((i : Nat) : Int))).2))), (63, (Value.bool true))] 11 ?_
     refine od ?_
     refine qs ?_
     refine qg ?_
     refine og 3 [(0, (i64 base)), (2, (Value.slice A l.length c)), (9, (ptr g2)), (12, (i64 ((i : Nat) : Int))), (13, (i64 ((termK base t0 (l3.map EntP.key) ((base + 1) + ((i : Nat) : Int))).1))), (14, (i64 ((termK base t0 (l3.map EntP.key) ((base + 1) + ((i : Nat) : Int))).2))), (63, (Value.bool true)), (77, (Value.bool (((termK base t0 (l3.map EntP.key) ((base + 1) + ((i : Nat) : Int))).2) != 0)))] 3 ?_
     have h187 : (((termK base t0 (l3.map EntP.key) ((base + 1) + ((i : Nat) : Int))).2) != 0) = false := bne_f (congrArg Prod.snd (termK_in (base := base) (old := t0) (ks := (l3.map EntP.key)) (j := i) (n := base + 1 + ((i : Nat) : Int)) (by omega) (by rw [List.length_map]; omega)))
     rw [h187]
     refine og 3 [(0, (i64 base)), (2, (Value.slice A l.length c)), (9, (ptr g2)), (12, (i64 ((i : Nat) : Int))), (13, (i64 ((termK base t0 (l3.map EntP.key) ((base + 1) + ((i : Nat) : Int))).1))), (14, (i64 ((termK base t0 (l3.map EntP.key) ((base + 1) + ((i : Nat) : Int))).2))), (63, (Value.bool true)), (77, (Value.bool false)), (78, (i64 ((termK base t0 (l3.map EntP.key) ((base + 1) + ((i : Nat) : Int))).1))), (79, (Value.slice A l.length c)), (80, (i64 ((i : Nat) : Int)))] 6 ?_
     obtain ⟨x, hx⟩ : ∃ y, l[i]? = some y := ⟨_, List.getElem?_eq_getElem (by omega)⟩
     obtain ⟨rb188, ro189, hA190⟩ := Rd.addr (Ents.rd hE) (by omega)
     refine Ops.go (by kernel_rfl) (Runs.ixSliceE (k := IntKind.i64) (t := 22) (len := l.length) (cap := c) (s := 2) (off' := ro189 + i * 2) (i := ((i : Nat) : Int)) hA190 (by kernel_rfl) (by kernel_rfl) (by omega) (by omega) (by omega)) (d := (some 81)) (by kernel_rfl) rfl ?_
     refine og 1 [(0, (i64 base)), (2, (Value.slice A l.length c)), (9, (ptr g2)), (12, (i64 ((i : Nat) : Int))), (13, (i64 ((termK base t0 (l3.map EntP.key) ((base + 1) + ((i : Nat) : Int))).1))), (14, (i64 ((termK base t0 (l3.map EntP.key) ((base + 1) + ((i : Nat) : Int))).2))), (63, (Value.bool true)), (77, (Value.bool false)), (78, (i64 ((termK base t0 (l3.map EntP.key) ((base + 1) + ((i : Nat) : Int))).1))), (82, (Value.pointer (some ⟨rb188, ro189 + i * 2, none⟩)))] 8 ?_
     refine Ops.go (v := (i64 x.term)) (by kernel_rfl) (Runs.load (t := 2) (a := ⟨rb188, ro189 + i * 2, none⟩) (by kernel_rfl) (RdT.ldf (f := EntP.cells) (x := x) (o := 0) EntP.two (Ents.rd hE) (by kernel_rfl) hA190 hx rfl)) (d := (some 83)) (by kernel_rfl) rfl ?_
     refine og 2 [(0, (i64 base)), (2, (Value.slice A l.length c)), (9, (ptr g2)), (12, (i64 ((i : Nat) : Int))), (13, (i64 ((termK base t0 (l3.map EntP.key) ((base + 1) + ((i : Nat) : Int))).1))), (14, (i64 ((termK base t0 (l3.map EntP.key) ((base + 1) + ((i : Nat) : Int))).2))), (63, (Value.bool true)), (85, (Value.bool (((termK base t0 (l3.map EntP.key) ((base + 1) + ((i : Nat) : Int))).1) != x.term)))] 11 ?_
     refine od ?_
     have h191 : (((termK base t0 (l3.map EntP.key) ((base + 1) + ((i : Nat) : Int))).1) != x.term) = false := bne_f ((congrArg Prod.fst (termK_in (base := base) (old := t0) (ks := (l3.map EntP.key)) (j := i) (n := base + 1 + ((i : Nat) : Int)) (by omega) (by rw [List.length_map]; omega))).trans (by rw [hK10, List.getD_eq_getElem?_getD, List.getElem?_map, hx]; rfl))
     rw [h191]
     refine q_else (o := .tmp 85) (by kernel_rfl) rfl ?_
     refine q_skip (by kernel_rfl) ?_
     refine qg ?_
     refine og 2 [(0, (i64 base)), (2, (Value.slice A l.length c)), (9, (ptr g2)), (12, (i64 ((i : Nat) : Int))), (13, (i64 ((termK base t0 (l3.map EntP.key) ((base + 1) + ((i : Nat) : Int))).1))), (14, (i64 ((termK base t0 (l3.map EntP.key) ((base + 1) + ((i : Nat) : Int))).2))), (63, (Value.bool true)), (65, (i64 (IntKind.i64.wrap (((i : Nat) : Int) + 1)))), (85, (Value.bool false))] 2 ?_
     have e192 : IntKind.i64.wrap (((i : Nat) : Int) + 1) = ((i + 1 : Nat) : Int) := by rw [wrap_i64 (by omega) (by omega)]; omega
     rw [e192]
     refine og 1 [(0, (i64 base)), (2, (Value.slice A l.length c)), (9, (ptr g2)), (12, (i64 ((i + 1 : Nat) : Int))), (13, (i64 ((termK base t0 (l3.map EntP.key) ((base + 1) + ((i : Nat) : Int))).1))), (14, (i64 ((termK base t0 (l3.map EntP.key) ((base + 1) + ((i : Nat) : Int))).2))), (63, (Value.bool true)), (85, (Value.bool false))] 3 ?_
     refine Ops.keep (R := [(0, (i64 base)), (2, (Value.slice A l.length c)), (9, (ptr g2)), (12, (i64 ((i + 1 : Nat) : Int)))]) (by kernel_rfl) ?_
     refine od ?_
     exact ⟨i + 1, ⟨rfl, (by omega), hE, hEg, K179, H180⟩, (show l.length - (i + 1) < l.length - i from by omega)⟩
    ·rw [h181]
     have p193 : ¬ (((i : Nat) : Int) < ((l.length : Nat) : Int)) := of_decide_eq_false h181
     refine q_exit (id := 0) (by kernel_rfl) ?_
     refine qs ?_
     refine qg ?_
     refine og 1 [(0, (i64 base)), (2, (Value.slice A l.length c)), (9, (ptr g2)), (87, (ptr g2))] 1 ?_
     refine Ops.call (by kernel_rfl) (d := (some 88)) (by kernel_rfl) (Last_calls _ (fun i => (w.heap.size ≤ i ∧ i < w6.heap.size) ∧ i ≠ g2) g2 base t0 A4 c5 l3 H180 hEg ot13 (by omega) (by omega)) ?_
     rintro _ w195 ⟨rfl, K194⟩
     have htr2 : 0 ≤ lastK base t0 (l3.map EntP.key) ∧ lastK base t0 (l3.map EntP.key) ≤ 1152921504606846976 := by rw [hK10]; unfold lastK; exact htr
     refine ⟨_, _, rfl, rfl, ?_⟩
     replace K179 := K179.trans K194 (U := none_) (fun i h1 h2 => h2) (fun i h1 h2 => by exact h2)
     replace H180 := H180.keep K194 (fun h => h)
     replace hE := Ents.keep0 hE K194
     replace hEg := Ents.keep0 hEg K194
     clear K194
     refine og 5 [(0, (i64 base)), (2, (Value.slice A l.length c)), (9, (ptr g2)), (15, (i64 (base + ((l3.length : Nat) : Int)))), (16, (i64 (lastK base t0 (l3.map EntP.key))))] 7 ?_
     refine od ?_
     refine qs ?_
     refine qg ?_
     refine og 5 [(9, (ptr g2)), (15, (i64 (base + ((l3.length : Nat) : Int)))), (16, (i64 (lastK base t0 (l3.map EntP.key)))), (91, (i64 (base + ((l3.length : Nat) : Int)))), (95, (i64 (IntKind.i64.wrap (base + ((l.length : Nat) : Int)))))] 5 ?_
     have e196 : IntKind.i64.wrap (base + ((l.length : Nat) : Int)) = base + ((l.length : Nat) : Int) := wrap_i64 (by omega) (by omega)
     rw [e196]
     refine og 2 [(9, (ptr g2)), (15, (i64 (base + ((l3.length : Nat) : Int)))), (16, (i64 (lastK base t0 (l3.map EntP.key)))), (97, (Value.bool ((base + ((l3.length : Nat) : Int)) == (base + ((l.length : Nat) : Int)))))] 7 ?_
     have h197 : ((base + ((l3.length : Nat) : Int)) == (base + ((l.length : Nat) : Int))) = true := beq_t (by omega)
     rw [h197]
     refine og 3 [(9, (ptr g2)), (15, (i64 (base + ((l3.length : Nat) : Int)))), (16, (i64 (lastK base t0 (l3.map EntP.key)))), (97, (Value.bool true)), (98, (ptr g2)), (99, (i64 (base + ((l3.length : Nat) : Int)))), (100, (i64 (lastK base t0 (l3.map EntP.key))))] 10 ?_
     refine Ops.call (by kernel_rfl) (d := (some 101)) (by kernel_rfl) (Newer_calls _ (fun i => (w.heap.size ≤ i ∧ i < w6.heap.size) ∧ i ≠ g2) g2 base t0 A4 c5 l3 (base + ((l3.length : Nat) : Int)) (lastK base t0 (l3.map EntP.key)) H180 hEg ot13 (by omega) (by omega)) ?_
     rintro _ w199 ⟨b200, rfl, hb201, K198⟩
     refine ⟨_, _, rfl, rfl, ?_⟩
     replace K179 := K179.trans K198 (U := none_) (fun i h1 h2 => h2) (fun i h1 h2 => by exact h2)
     replace H180 := H180.keep K198 (fun h => h)
     replace hE := Ents.keep0 hE K198
     replace hEg := Ents.keep0 hEg K198
     clear K198
     refine og 2 [(9, (ptr g2)), (15, (i64 (base + ((l3.length : Nat) : Int)))), (16, (i64 (lastK base t0 (l3.map EntP.key)))), (103, (Value.bool b200))] 13 ?_
     have h202 : b200 = true := hb201.2 (by omega)
     rw [h202]
     refine og 3 [(9, (ptr g2)), (15, (i64 (base + ((l3.length : Nat) : Int)))), (16, (i64 (lastK base t0 (l3.map EntP.key)))), (103, (Value.bool true)), (104, (ptr g2)), (106, (i64 (IntKind.i64.wrap ((base + ((l3.length : Nat) : Int)) - 1))))] 16 ?_
     have e203 : IntKind.i64.wrap ((base + ((l3.length : Nat) : Int)) - 1) = (base + ((l3.length : Nat) : Int)) - 1 := wrap_i64 (by omega) (by omega)
     rw [e203]
     refine og 1 [(9, (ptr g2)), (15, (i64 (base + ((l3.length : Nat) : Int)))), (16, (i64 (lastK base t0 (l3.map EntP.key)))), (103, (Value.bool true)), (104, (ptr g2)), (106, (i64 ((base + ((l3.length : Nat) : Int)) - 1))), (107, (i64 (lastK base t0 (l3.map EntP.key))))] 17 ?_
     refine Ops.call (by kernel_rfl) (d := (some 108)) (by kernel_rfl) (Newer_calls _ (fun i => (w.heap.size ≤ i ∧ i < w6.heap.size) ∧ i ≠ g2) g2 base t0 A4 c5 l3 ((base + ((l3.length : Nat) : Int)) - 1) (lastK base t0 (l3.map EntP.key)) H180 hEg ot13 (by omega) (by omega)) ?_
     rintro _ w205 ⟨b206, rfl, hb207, K204⟩
     refine ⟨_, _, rfl, rfl, ?_⟩
     replace K179 := K179.trans K204 (U := none_) (fun i h1 h2 => h2) (fun i h1 h2 => by exact h2)
     replace H180 := H180.keep K204 (fun h => h)
     replace hE := Ents.keep0 hE K204
     replace hEg := Ents.keep0 hEg K204
     clear K204
     refine og 3 [(9, (ptr g2)), (15, (i64 (base + ((l3.length : Nat) : Int)))), (16, (i64 (lastK base t0 (l3.map EntP.key)))), (111, (Value.bool (!b206)))] 21 ?_
     have h208 : (!b206) = true := by rw [show b206 = false from Bool.eq_false_iff.2 (fun h => by have := hb207.1 h; omega)]; rfl
     rw [h208]
     refine og 3 [(9, (ptr g2)), (15, (i64 (base + ((l3.length : Nat) : Int)))), (16, (i64 (lastK base t0 (l3.map EntP.key)))), (111, (Value.bool true)), (112, (ptr g2)), (114, (i64 (IntKind.i64.wrap ((lastK base t0 (l3.map EntP.key)) + 1))))] 24 ?_
     have e209 : IntKind.i64.wrap ((lastK base t0 (l3.map EntP.key)) + 1) = (lastK base t0 (l3.map EntP.key)) + 1 := wrap_i64 (by omega) (by omega)
     rw [e209]
     refine Ops.call (by kernel_rfl) (d := (some 115)) (by kernel_rfl) (Newer_calls _ (fun i => (w.heap.size ≤ i ∧ i < w6.heap.size) ∧ i ≠ g2) g2 base t0 A4 c5 l3 0 ((lastK base t0 (l3.map EntP.key)) + 1) H180 hEg ot13 (by omega) (by omega)) ?_
     rintro _ w211 ⟨b212, rfl, hb213, K210⟩
     refine ⟨_, _, rfl, rfl, ?_⟩
     replace K179 := K179.trans K210 (U := none_) (fun i h1 h2 => h2) (fun i h1 h2 => by exact h2)
     replace H180 := H180.keep K210 (fun h => h)
     replace hE := Ents.keep0 hE K210
     replace hEg := Ents.keep0 hEg K210
     clear K210
     refine og 2 [(9, (ptr g2)), (15, (i64 (base + ((l3.length : Nat) : Int)))), (16, (i64 (lastK base t0 (l3.map EntP.key)))), (117, (Value.bool b212))] 27 ?_
     have h214 : b212 = true := hb213.2 (by omega)
     rw [h214]
     refine og 3 [(16, (i64 (lastK base t0 (l3.map EntP.key)))), (117, (Value.bool true)), (118, (ptr g2)), (120, (i64 (IntKind.i64.wrap ((base + ((l3.length : Nat) : Int)) + 5))))] 30 ?_
     have e215 : IntKind.i64.wrap ((base + ((l3.length : Nat) : Int)) + 5) = (base + ((l3.length : Nat) : Int)) + 5 := wrap_i64 (by omega) (by omega)
     rw [e215]
     refine og 2 [(117, (Value.bool true)), (118, (ptr g2)), (120, (i64 ((base + ((l3.length : Nat) : Int)) + 5))), (122, (i64 (IntKind.i64.wrap ((lastK base t0 (l3.map EntP.key)) - 1))))] 32 ?_
     have e216 : IntKind.i64.wrap ((lastK base t0 (l3.map EntP.key)) - 1) = (lastK base t0 (l3.map EntP.key)) - 1 := wrap_i64 (by omega) (by omega)
     rw [e216]
     refine Ops.call (by kernel_rfl) (d := (some 123)) (by kernel_rfl) (Newer_calls _ (fun i => (w.heap.size ≤ i ∧ i < w6.heap.size) ∧ i ≠ g2) g2 base t0 A4 c5 l3 ((base + ((l3.length : Nat) : Int)) + 5) ((lastK base t0 (l3.map EntP.key)) - 1) H180 hEg ot13 (by omega) (by omega)) ?_
     rintro _ w218 ⟨b219, rfl, hb220, K217⟩
     refine ⟨_, _, rfl, rfl, ?_⟩
     replace K179 := K179.trans K217 (U := none_) (fun i h1 h2 => h2) (fun i h1 h2 => by exact h2)
     replace H180 := H180.keep K217 (fun h => h)
     replace hE := Ents.keep0 hE K217
     replace hEg := Ents.keep0 hEg K217
     clear K217
     refine og 3 [(126, (Value.bool (!b219)))] 36 ?_
     have h221 : (!b219) = true := by rw [show b219 = false from Bool.eq_false_iff.2 (fun h => by have := hb220.1 h; omega)]; rfl
     rw [h221]
     refine Ops.call (by kernel_rfl) (d := (some 127)) (by kernel_rfl) (known_calls _) ?_
     rintro _ w223 ⟨rfl, K222⟩
     refine ⟨_, _, rfl, rfl, ?_⟩
     replace K179 := K179.trans K222 (U := none_) (fun i h1 h2 => h2) (fun i h1 h2 => by exact h2)
     replace H180 := H180.keep K222 (fun h => h)
     replace hE := Ents.keep0 hE K222
     replace hEg := Ents.keep0 hEg K222
     clear K222
     refine og 2 [(8, (Value.bool true))] 39 ?_
     refine od ?_
     refine q_ret (by kernel_rfl) ?_
     refine ⟨(Value.bool true), retv_tmp rfl rfl, ?_⟩
     exact ⟨rfl, K179⟩
 ·skip
  refine Ops.call (by kernel_rfl) (d := (some 21)) (by kernel_rfl) (New_bad _ T base t0 A c l hE hBig hq1) ?_
  rintro _ w225 ⟨rfl, K224⟩
  refine ⟨_, _, rfl, rfl, ?_⟩
  replace K0 := K0.t0 K224
  replace hE := Ents.keep0 hE K224
  clear K224
  refine og 5 [(0, (i64 base)), (2, (Value.slice A l.length c)), (3, (i64 cut)), (8, (Value.bool false)), (9, (Value.pointer none)), (10, (i64 (newE base t0 (l.map EntP.key))))] 9 ?_
  refine od ?_
  refine qs ?_
  refine qs ?_
  refine qg ?_
  refine og 3 [(0, (i64 base)), (2, (Value.slice A l.length c)), (3, (i64 cut)), (8, (Value.bool false)), (9, (Value.pointer none)), (26, (Value.bool ((newE base t0 (l.map EntP.key)) != 0)))] 3 ?_
  have h226 : ((newE base t0 (l.map EntP.key)) != 0) = true := bne_t hq1
  rw [h226]
  refine og 4 [(0, (i64 base)), (2, (Value.slice A l.length c)), (3, (i64 cut)), (8, (Value.bool false)), (9, (Value.pointer none)), (30, (Value.bool true))] 7 ?_
  refine od ?_
  refine q_then (o := .tmp 30) (by kernel_rfl) rfl ?_
  refine qs ?_
  refine qg ?_
  refine Ops.call (by kernel_rfl) (d := (some 31)) (by kernel_rfl) (known_calls _) ?_
  rintro _ w228 ⟨rfl, K227⟩
  refine ⟨_, _, rfl, rfl, ?_⟩
  replace K0 := K0.t0 K227
  replace hE := Ents.keep0 hE K227
  clear K227
  refine og 1 [(0, (i64 base)), (2, (Value.slice A l.length c)), (3, (i64 cut)), (8, (Value.bool true)), (9, (Value.pointer none))] 2 ?_
  refine od ?_
  refine q_ret (by kernel_rfl) ?_
  refine ⟨(Value.bool true), retv_tmp rfl rfl, ?_⟩
  exact ⟨rfl, K0⟩
end Go.Proofs.Ytncjidepplaocaa
