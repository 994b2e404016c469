/- What the claim stands on, part 13: rules of the walk, contracts of the functions, plain laws. -/
import Derived.Test.YtnmpepjikfbpdaaProg
import Derived.Test.YtnmpepjikfbpdaaKRDeaf5
import Derived.Test.YtnmpepjikfbpdaaKRDeaf8
import Derived.Test.YtnmpepjikfbpdaaKRDeaf12
import Derived.Test.YtnmpepjikfbpdaaKRDeaf3
set_option linter.unusedVariables false
namespace Go.Proofs.Ytnmpepjikfbpdaa
open Go.Q Go.RowKit

set_option maxHeartbeats 1000000 in
theorem Append_grow (w : World) (T : Nat → Prop) (g bs : Nat) (base old : Int) (A : Option Addr) (c : Nat) (l : List EntP) (U : Nat → Prop) (B : Option Addr) (d : Nat) (ys : List EntP) (H0 : Has w g (rowL [i64 base, i64 old, .slice A l.length c] 78)) (hM : LogE w bs 43 T (.slice A l.length c) l) (hT : ∀ i, T i → i ≠ g) (hB : 0 ≤ base ∧ base ≤ 2305843009213693952) (hL : l.length ≤ 4096) (hbs : bs ≤ w.heap.size) (hY : Ents w U (.slice B ys.length d) ys) (hU : ∀ i, U i → i ≠ g) (hBig : BigK (l.map EntP.key)) (hBigY : BigK (ys.map EntP.key)) (hYl : ys.length * 32 ≤ 140737488351232) (hq : appE base old (l.map EntP.key) (ys.map EntP.key) = 0) : Calls Try.prog 41 ⟨[(ptr g), (Value.slice B ys.length d)]⟩ w (fun e w' => ∃ l' A' c' T', e = .returned (i64 0) ∧ Keeps (fun i => i = g ∨ (Value.slice A l.length c).ownBlock = some i) w w' ∧ Has w' g (rowL [i64 base, i64 old, .slice A' l'.length c'] 78) ∧ LogE w' bs 43 T' (.slice A' l'.length c') l' ∧ l'.map EntP.key = (l.map EntP.key) ++ ys.map EntP.key ∧ ∀ i, T' i → i ≠ g ∧ (T i ∨ w.heap.size ≤ i)) := by
 have hE := hM.ents
 have hOw := hM.own
 have hcap := Ents.len hE
 have Hg := H0.lt
 have hcy := Ents.len hY
 have hT0 := hT
 have hTl := Ents.lt hE
 have hUl := Ents.lt hY
 have hvg : ∀ i, (Value.slice A l.length c).ownBlock = some i → i ≠ g := fun i hi => hT i (hM.ownT i hi)
 have K0 : Keeps (fun i => i = g ∨ (Value.slice A l.length c).ownBlock = some i) w w := (Keeps.refl w).mono (fun _ _ h => h.elim)
 have hk0 : Keeps none_ w w := Keeps.refl w
 refine q_calls Try.func41 (by kernel_rfl) (by kernel_rfl) ?_
 refine qs ?_
 refine qg ?_
 refine og 1 [(0, (ptr g)), (1, (Value.slice B ys.length d)), (4, (i64 0))] 1 ?_
 refine od ?_
 refine qs ?_
 refine qs ?_
 refine qg ?_
 refine og 2 [(0, (ptr g)), (1, (Value.slice B ys.length d)), (4, (i64 0)), (8, (Value.bool false))] 2 ?_
 refine od ?_
 refine q_else (o := .tmp 8) (by kernel_rfl) rfl ?_
 refine q_skip (by kernel_rfl) ?_
 refine qs ?_
 refine qg ?_
 refine og 1 [(0, (ptr g)), (1, (Value.slice B ys.length d)), (4, (i64 0)), (10, (ptr g))] 1 ?_
 refine Ops.call (by kernel_rfl) (d := (some 11)) (by kernel_rfl) (Last_calls _ T g base old A c l H0 hE hT (by omega) (by omega)) ?_
 rintro _ w2 ⟨rfl, K1⟩
 refine ⟨_, _, rfl, rfl, ?_⟩
 replace K0 := K0.tn K1
 replace H0 := H0.keep K1 (fun h => h)
 replace hE := Ents.keep0 hE K1
 replace hY := Ents.keep0 hY K1
 replace hOw := own_keep0 hOw K1
 replace hk0 := hk0.trans K1 (fun _ _ h => h) (fun _ _ h => h)
 clear K1
 refine og 5 [(0, (ptr g)), (1, (Value.slice B ys.length d)), (4, (i64 0)), (6, (i64 (lastK base old (l.map EntP.key))))] 7 ?_
 refine od ?_
 refine qs ?_
 refine q_block (id := 0) (by kernel_rfl) ?_
 refine qs ?_
 refine qg ?_
 refine og 3 [(0, (ptr g)), (1, (Value.slice B ys.length d)), (4, (i64 0)), (6, (i64 (lastK base old (l.map EntP.key)))), (17, (Value.pointer (some ⟨g, 2, none⟩)))] 3 ?_
 refine Ops.go (v := (Value.slice A l.length c)) (by kernel_rfl) (Runs.load (t := 22) (a := ⟨g, 2, none⟩) (by kernel_rfl) (H0.loads (by kernel_rfl))) (d := (some 18)) (by kernel_rfl) rfl ?_
 refine og 4 [(0, (ptr g)), (1, (Value.slice B ys.length d)), (4, (i64 0)), (6, (i64 (lastK base old (l.map EntP.key)))), (22, (i64 (IntKind.i64.wrap (((l.length : Nat) : Int) + ((ys.length : Nat) : Int)))))] 8 ?_
 have e3 : IntKind.i64.wrap (((l.length : Nat) : Int) + ((ys.length : Nat) : Int)) = ((l.length + ys.length : Nat) : Int) := by rw [wrap_i64 (by omega) (by omega)]; omega
 rw [e3]
 clear e3
 refine og 2 [(0, (ptr g)), (1, (Value.slice B ys.length d)), (4, (i64 0)), (6, (i64 (lastK base old (l.map EntP.key)))), (14, (Value.bool (decide (((l.length + ys.length : Nat) : Int) > 4096))))] 10 ?_
 refine od ?_
 refine q_cond (o := .tmp 14) (b := (decide (((l.length + ys.length : Nat) : Int) > 4096))) (by kernel_rfl) rfl (fun h4 => ?_) (fun h4 => ?_)
 ·rw [h4]
  have p5 : ((l.length + ys.length : Nat) : Int) > 4096 := of_decide_eq_true h4
  refine qs ?_
  refine qg ?_
  refine og 1 [(0, (ptr g)), (1, (Value.slice B ys.length d)), (4, (i64 4)), (6, (i64 (lastK base old (l.map EntP.key))))] 1 ?_
  refine od ?_
  refine q_ret (by kernel_rfl) ?_
  refine ⟨(i64 4), retv_tmp rfl rfl, ?_⟩
  exfalso; have hq := appE_ok hq; rw [List.length_map, List.length_map] at hq; omega
 ·rw [h4]
  have p6 : ¬ (((l.length + ys.length : Nat) : Int) > 4096) := of_decide_eq_false h4
  refine qs ?_
  refine qg ?_
  refine og 2 [(0, (ptr g)), (1, (Value.slice B ys.length d)), (4, (i64 0)), (25, (i64 (lastK base old (l.map EntP.key)))), (26, (Value.slice B ys.length d))] 2 ?_
  refine Ops.call (by kernel_rfl) (d := (some 27)) (by kernel_rfl) (rising_calls _ U (lastK base old (l.map EntP.key)) B d ys hY) ?_
  rintro _ w8 ⟨rfl, K7⟩
  refine ⟨_, _, rfl, rfl, ?_⟩
  replace K0 := K0.tn K7
  replace H0 := H0.keep K7 (fun h => h)
  replace hE := Ents.keep0 hE K7
  replace hY := Ents.keep0 hY K7
  replace hOw := own_keep0 hOw K7
  replace hk0 := hk0.trans K7 (fun _ _ h => h) (fun _ _ h => h)
  clear K7
  refine og 2 [(0, (ptr g)), (1, (Value.slice B ys.length d)), (4, (i64 0)), (24, (Value.bool (!(risingK (lastK base old (l.map EntP.key)) (ys.map EntP.key)))))] 5 ?_
  refine od ?_
  refine q_cond (o := .tmp 24) (b := (!(risingK (lastK base old (l.map EntP.key)) (ys.map EntP.key)))) (by kernel_rfl) rfl (fun h9 => ?_) (fun h9 => ?_)
  ·rw [h9]
   have p10 : (risingK (lastK base old (l.map EntP.key)) (ys.map EntP.key)) = false := (bnot_true h9)
   refine qs ?_
   refine qg ?_
   refine og 1 [(0, (ptr g)), (1, (Value.slice B ys.length d)), (4, (i64 1))] 1 ?_
   refine od ?_
   refine q_ret (by kernel_rfl) ?_
   refine ⟨(i64 1), retv_tmp rfl rfl, ?_⟩
   exfalso; have hq := appE_ok hq; rw [List.length_map, List.length_map] at hq; have hq2 := hq.2; rw [(bnot_true h9)] at hq2; cases hq2
  ·rw [h9]
   have p11 : (risingK (lastK base old (l.map EntP.key)) (ys.map EntP.key)) = true := (bnot_false h9)
   refine q_skip (by kernel_rfl) ?_
   refine qs ?_
   refine q_draw (fun wz => Keeps (fun i => ((Value.slice A l.length c)).ownBlock = some i ∨ i = g) w8 wz) 11 (by kernel_rfl) (by kernel_rfl) (by kernel_rfl) (fun w12 K13 _ _ => ⟨(K13.mono (fun _ _ h => h.elim)), ?_⟩)
   replace K0 := K0.tn K13
   replace H0 := H0.keep K13 (fun h => h)
   replace hE := Ents.keep0 hE K13
   replace hY := Ents.keep0 hY K13
   replace hOw := own_keep0 hOw K13
   replace hk0 := hk0.trans K13 (fun _ _ h => h) (fun _ _ h => h)
   refine Dr.strong (S' := (fun wz => Keeps (fun i => ((Value.slice A l.length c)).ownBlock = some i ∨ i = g) w12 wz)) ((Keeps.refl w12).mono (fun _ _ h => h.elim)) (fun wz hx => K13.trans hx (fun i _ h => h.elim) (fun _ _ h => h)) ?_
   clear K13
   refine Dr.takes (fuel' := 6) (is' := _) [0, 1, 2, 3, 5] [(4, (i64 0)), (29, (ptr g)), (32, (Value.pointer (some ⟨g, 2, none⟩))), (34, (Value.slice B ys.length d))] (by kernel_rfl) rfl (by kernel_rfl) ?_
   refine Dr.float [(4, (i64 0)), (29, (ptr g)), (33, (Value.slice A l.length c)), (34, (Value.slice B ys.length d))] 4 ?_
   have hz0 := K0.size
   refine DrB.call (i := 4) (j := 6) (t := 22) (a := ⟨g, 2, none⟩) (v := (Value.slice A l.length c)) (by kernel_rfl) (.inl rfl) (by kernel_rfl) (by kernel_rfl) (by kernel_rfl) (by kernel_rfl) (di := (some 33)) (by kernel_rfl) (by kernel_rfl) (by kernel_rfl) (by kernel_rfl) (dj := (some 35)) (by kernel_rfl) (H0.loads (by kernel_rfl)) ((Keeps.refl _).mono (fun _ _ h => h.elim)) (own_calls _ U B d ys hY (BigK.l hBigY) (by omega)) ?_
   rintro _ w17 ⟨l14, A15, c16, rfl, K18, hE19, hK20⟩
   have ot21 : ∀ i, (fun i => w12.heap.size ≤ i ∧ i < w17.heap.size) i → i ≠ g := fun i hi => by have := hi.1; have := H0.lt; omega
   have hz22 := K0.size
   have hn23 := keys_len2 hK20
   try rw [List.length_drop] at hn23
   try rw [List.length_append] at hn23
   try rw [List.length_map] at hn23
   try rw [List.length_map] at hn23
   replace K0 := K0.tn K18
   replace H0 := H0.keep K18 (fun h => h)
   replace hE := Ents.keep0 hE K18
   replace hY := Ents.keep0 hY K18
   replace hOw := own_keep0 hOw K18
   replace hk0 := hk0.trans K18 (fun _ _ h => h) (fun _ _ h => h)
   refine ⟨_, _, _, rfl, (K18.mono (fun _ _ h => h.elim)), rfl, rfl, ?_⟩
   refine DrB.strong (S' := (fun wz => Keeps (fun i => ((Value.slice A l.length c)).ownBlock = some i ∨ i = g) w17 wz)) ((Keeps.refl w17).mono (fun _ _ h => h.elim)) (fun wz hx => K18.trans hx (fun i _ h => h.elim) (fun _ _ h => h)) ?_
   clear K18
   refine DrB.end_ (t := 22) (a := ⟨g, 2, none⟩) (v := (Value.slice A l.length c)) (R := [(4, (i64 0)), (29, (ptr g)), (33, (Value.slice A l.length c)), (35, (Value.slice A15 l14.length c16))]) (by kernel_rfl) (by kernel_rfl) (by kernel_rfl) (di := (some 33)) (by kernel_rfl) (by kernel_rfl) (by kernel_rfl) (H0.loads (by kernel_rfl)) ((Keeps.refl _).mono (fun _ _ h => h.elim)) ?_
   obtain ⟨v24, w25, hr26, hO27, hK28, hg29⟩ := OwnT.app (ty := 22) EntP.two EntP.one tyE hOw (Ents.rd hE19) (by first | omega | (simp only [List.length_nil]; omega)) (by first | omega | (simp only [List.length_nil]; omega)) (Nat.le_trans hbs K0.size)
   obtain ⟨A31, c32, rfl⟩ := RdT.form EntP.two (by decide) (OwnT.rd hO27)
   have ob33 : ∀ i, ((Value.slice A31 ((l ++ l14).length) c32)).ownBlock = some i → i ≠ g := fun i hi => by rcases hg29 i hi with h | h; (have := hvg i h; omega); (have := H0.lt; omega)
   have K30 := hK28
   have hY9 := hE19
   have k01 : Keeps none_ w w17 := hk0
   replace K0 := K0.trans K30 (U := (fun i => i = g ∨ ((Value.slice A l.length c)).ownBlock = some i)) (fun i h1 h2 => h2) (fun i h1 h2 => by have h2 : ((Value.slice A l.length c)).ownBlock = some i := h2; exact .inr (h2))
   replace H0 := H0.keep K30 (by intro h; change ((Value.slice A l.length c)).ownBlock = some g at h; have := hvg g h; omega)
   clear hE
   clear hY
   clear hOw
   clear hk0
   clear hE19
   refine Dr.go (i := 7) (v := (Value.slice A31 ((l ++ l14).length) c32)) (by kernel_rfl) (by kernel_rfl) (Runs.append (ts := #[22, 22]) (ty := 22) (vs := [(Value.slice A l.length c), (Value.slice A15 l14.length c16)]) (by kernel_rfl) hr26) (d := (some 36)) (by kernel_rfl) rfl (K30.mono (fun i _ h => by have h : ((Value.slice A l.length c)).ownBlock = some i := h; show ((Value.slice A l.length c)).ownBlock = some i ∨ i = g; exact (.inl h))) ?_
   refine Dr.strong (S' := (fun wz => Keeps (fun i => ((Value.slice A l.length c)).ownBlock = some i ∨ i = g) w25 wz)) ((Keeps.refl w25).mono (fun _ _ h => h.elim)) (fun wz hx => K30.trans hx (fun i _ h => by have h : ((Value.slice A l.length c)).ownBlock = some i := h; show ((Value.slice A l.length c)).ownBlock = some i ∨ i = g; exact (.inl h)) (fun _ _ h => h)) ?_
   have hLE := LogE.grow hM k01 hY9 (fun i hi => Nat.le_trans hz0 hi.1) hK28 hO27 hg29
   have hTg : ∀ i, (T i ∨ (w.heap.size ≤ i ∧ i < w25.heap.size)) → ¬ i = g := fun i hi => by rcases hi with h | h; exact hT0 i h; omega
   clear K30 hr26 hK28 hg29
   refine Dr.takes (fuel' := 1) (is' := _) [8, 9] [(4, (i64 0)), (36, (Value.slice A31 ((l ++ l14).length) c32)), (38, (Value.pointer (some ⟨g, 2, none⟩)))] (by kernel_rfl) rfl (by kernel_rfl) ?_
   refine Dr.put (i := 10) (t := 22) (b := g) (off := 2) (v := (Value.slice A31 ((l ++ l14).length) c32)) (ys := [(i64 base), (i64 old), (Value.slice A31 ((l ++ l14).length) c32)]) (by kernel_rfl) (by kernel_rfl) (by kernel_rfl) H0 (by kernel_rfl) (d := none) (by kernel_rfl) rfl (fun w34 H35 K36 => ?_)
   clear H0
   replace K0 := K0.trans K36 (U := (fun i => i = g ∨ ((Value.slice A l.length c)).ownBlock = some i)) (fun i h1 h2 => h2) (fun i h1 h2 => by have h2 : i = g := h2; exact .inl h2)
   replace hLE := LogE.keep hLE K36 hTg
   replace hO27 := own_keep hO27 K36 (fun i hi => by have := ob33 i hi; omega)
   refine ⟨(K36.mono (fun i _ h => by have h : i = g := h; show ((Value.slice A l.length c)).ownBlock = some i ∨ i = g; exact (.inr h))), ?_⟩
   refine Dr.strong (S' := (fun wz => Keeps (fun i => ((Value.slice A l.length c)).ownBlock = some i ∨ i = g) w34 wz)) ((Keeps.refl w34).mono (fun _ _ h => h.elim)) (fun wz hx => K36.trans hx (fun i _ h => by have h : i = g := h; show ((Value.slice A l.length c)).ownBlock = some i ∨ i = g; exact (.inr h)) (fun _ _ h => h)) ?_
   clear K36
   refine Dr.done (by kernel_rfl) ?_
   refine qs ?_
   refine qg ?_
   refine og 1 [(4, (i64 0))] 1 ?_
   refine od ?_
   refine q_ret (by kernel_rfl) ?_
   refine ⟨(i64 0), retv_tmp rfl rfl, ?_⟩
   exact ⟨l ++ l14, A31, c32, _, rfl, K0, H35, hLE, by rw [List.map_append, hK20], fun i hi => ⟨hTg i hi, hi.elim .inl fun h => .inr h.1⟩⟩
end Go.Proofs.Ytnmpepjikfbpdaa
namespace Go.Proofs.Ytnmpepjikfbpdaa
open Go.Q Go.RowKit

set_option maxHeartbeats 1000000 in
theorem lead_calls (w : World) (r g : Nat) (term voted role leader commit group elapsed timeout : Int) (vv pv : Value) (T : Nat → Prop) (bs : Nat) (base old : Int) (A : Option Addr) (c : Nat) (l : List EntP) (Hr : Has w r (rowL [(i64 term), (i64 voted), (i64 role), (i64 leader), (i64 commit), (i64 group), (i64 0), (i64 1), (ptr g), (i64 elapsed), (i64 timeout), (Value.slice none 0 0), vv, pv, (Value.pointer none), (Value.pointer none), (Value.bool false), (Value.slice none 0 0)] 84)) (H0 : Has w g (rowL [i64 base, i64 old, .slice A l.length c] 78)) (hM : LogE w bs 43 T (.slice A l.length c) l) (hT : ∀ i, T i → i ≠ g) (hB : 0 ≤ base ∧ base ≤ 2305843009213693952) (hL : l.length ≤ 4096) (hrg : r ≠ g) (hrT : ∀ i, T i → i ≠ r) (hbs : bs ≤ w.heap.size) (hBig : BigK (l.map EntP.key)) (hq : appE base old (l.map EntP.key) [(term, [])] = 0) (hl1 : l.length + 1 ≤ 4096) : Calls Try.prog 48 ⟨[(ptr r)]⟩ w (fun e w' => ∃ l' A' c' T' PA pc, e = .returned (.tuple #[]) ∧ Keeps (fun i => i = r ∨ i = g ∨ ((Value.slice A l.length c)).ownBlock = some i) w w' ∧ Has w' r (rowL [(i64 term), (i64 voted), (i64 2), (i64 0), (i64 (agC base old term commit ((l.map EntP.key) ++ [(term, [])]))), (i64 group), (i64 0), (i64 1), (ptr g), (i64 elapsed), (i64 timeout), (Value.slice none 0 0), vv, (Value.slice PA 1 pc), (Value.pointer none), (Value.pointer none), (Value.bool false), (Value.slice none 0 0)] 84) ∧ Has w' g (rowL [i64 base, i64 old, .slice A' l'.length c'] 78) ∧ LogE w' bs 43 T' (.slice A' l'.length c') l' ∧ l'.map EntP.key = ((l.map EntP.key) ++ [(term, [])]) ∧ ∀ i, T' i → i ≠ g ∧ i ≠ r ∧ (T i ∨ w.heap.size ≤ i)) := by
 have hE := hM.ents
 have hvr : ∀ i, ((Value.slice A l.length c)).ownBlock = some i → i ≠ r := fun i hi => hrT i (hM.ownT i hi)
 have hvg : ∀ i, ((Value.slice A l.length c)).ownBlock = some i → i ≠ g := fun i hi => hT i (hM.ownT i hi)
 have hcap := Ents.len hE
 have Hg := H0.lt
 have Hrl := Hr.lt
 have K0 : Keeps (fun i => i = r ∨ i = g ∨ ((Value.slice A l.length c)).ownBlock = some i) w w := (Keeps.refl w).mono (fun _ _ h => h.elim)
 refine q_calls Try.func48 (by kernel_rfl) (by kernel_rfl) ?_
 refine qs ?_
 refine qg ?_
 refine og 3 [(0, (ptr r)), (7, (Value.pointer (some ⟨r, 8, none⟩)))] 3 ?_
 refine Ops.go (v := (ptr g)) (by kernel_rfl) (Runs.load (t := 24) (a := ⟨r, 8, none⟩) (by kernel_rfl) (Hr.loads (by kernel_rfl))) (d := (some 8)) (by kernel_rfl) rfl ?_
 refine Ops.call (by kernel_rfl) (d := (some 9)) (by kernel_rfl) (Last_calls _ T g base old A c l H0 hE hT (by omega) (by omega)) ?_
 rintro _ w2 ⟨rfl, K1⟩
 refine ⟨_, _, rfl, rfl, ?_⟩
 replace K0 := K0.tn K1
 replace H0 := H0.keep K1 (fun h => h)
 replace Hr := Hr.keep K1 (fun h => h)
 replace hE := Ents.keep0 hE K1
 replace hM := LogE.keep0 hM K1
 clear K1
 refine og 5 [(0, (ptr r)), (2, (i64 (base + ((l.length : Nat) : Int))))] 10 ?_
 refine od ?_
 refine qs ?_
 refine qg ?_
 refine og 5 [(0, (ptr r)), (2, (i64 (base + ((l.length : Nat) : Int)))), (12, (ptr r)), (13, (ptr r)), (16, (Value.pointer (some ⟨r, 6, none⟩)))] 5 ?_
 refine Ops.go (v := (i64 0)) (by kernel_rfl) (Runs.load (t := 3) (a := ⟨r, 6, none⟩) (by kernel_rfl) (Hr.loads (by kernel_rfl))) (d := (some 17)) (by kernel_rfl) rfl ?_
 refine og 3 [(0, (ptr r)), (2, (i64 (base + ((l.length : Nat) : Int)))), (13, (ptr r)), (17, (i64 0)), (20, (Value.pointer (some ⟨r, 2, none⟩)))] 9 ?_
 refine Ops.put (t := 3) (b := r) (off := 2) (v := (i64 2)) (ys := [(i64 term), (i64 voted), (i64 2), (i64 leader), (i64 commit), (i64 group), (i64 0), (i64 1), (ptr g), (i64 elapsed), (i64 timeout), (Value.slice none 0 0), vv, pv, (Value.pointer none), (Value.pointer none), (Value.bool false), (Value.slice none 0 0)]) (by kernel_rfl) (by kernel_rfl) Hr (by kernel_rfl) (d := none) (by kernel_rfl) rfl (fun w3 H4 K5 => ?_)
 clear Hr
 replace K0 := K0.trans K5 (U := (fun i => i = r ∨ i = g ∨ ((Value.slice A l.length c)).ownBlock = some i)) (fun i h1 h2 => h2) (fun i h1 h2 => by have h2 : i = r := h2; exact .inl h2)
 replace H0 := H0.k1 K5 (by omega)
 replace hE := Ents.keep hE K5 hrT
 replace hM := LogE.keep hM K5 hrT
 clear K5
 refine og 3 [(0, (ptr r)), (2, (i64 (base + ((l.length : Nat) : Int)))), (17, (i64 0)), (23, (Value.pointer (some ⟨r, 3, none⟩)))] 13 ?_
 refine Ops.put (t := 3) (b := r) (off := 3) (v := (i64 0)) (ys := [(i64 term), (i64 voted), (i64 2), (i64 0), (i64 commit), (i64 group), (i64 0), (i64 1), (ptr g), (i64 elapsed), (i64 timeout), (Value.slice none 0 0), vv, pv, (Value.pointer none), (Value.pointer none), (Value.bool false), (Value.slice none 0 0)]) (by kernel_rfl) (by kernel_rfl) H4 (by kernel_rfl) (d := none) (by kernel_rfl) rfl (fun w6 H7 K8 => ?_)
 clear H4
 replace K0 := K0.trans K8 (U := (fun i => i = r ∨ i = g ∨ ((Value.slice A l.length c)).ownBlock = some i)) (fun i h1 h2 => h2) (fun i h1 h2 => by have h2 : i = r := h2; exact .inl h2)
 replace H0 := H0.k1 K8 (by omega)
 replace hE := Ents.keep hE K8 hrT
 replace hM := LogE.keep hM K8 hrT
 clear K8
 refine od ?_
 refine qs ?_
 refine qg ?_
 refine og 3 [(0, (ptr r)), (24, (ptr r)), (26, (i64 (IntKind.i64.wrap ((base + ((l.length : Nat) : Int)) + 1))))] 3 ?_
 have e9 : IntKind.i64.wrap ((base + ((l.length : Nat) : Int)) + 1) = (base + ((l.length : Nat) : Int)) + 1 := wrap_i64 (by omega) (by omega)
 rw [e9]
 refine og 1 [(0, (ptr r)), (24, (ptr r)), (27, (agg [(i64 ((base + ((l.length : Nat) : Int)) + 1)), (i64 0), (i64 0)]))] 4 ?_
 refine Ops.new (o := rowL [(i64 ((base + ((l.length : Nat) : Int)) + 1)), (i64 0), (i64 0)] 112) (V := fun b => (Value.slice (some ⟨b, 0, none⟩) 1 1)) (by kernel_rfl) (d := (some 28)) (by kernel_rfl) (fun b => rfl) (fun b10 w11 hb12 H13 K14 hs15 => ?_)
 have lb10g : g < b10 := by have := H0.lt; omega
 have lb10r : r < b10 := by have := H7.lt; omega
 have nb10 : w.heap.size ≤ b10 := by have := K0.size; omega
 have ot16 : ∀ i, T i → i ≠ b10 := fun i hi => by have := Ents.lt hE i hi; omega
 have ot17 : ∀ i, ((Value.slice A l.length c)).ownBlock = some i → i ≠ b10 := fun i hi => ot16 i (hM.ownT i hi)
 replace K0 := K0.tn K14
 replace H0 := H0.keep K14 (fun h => h)
 replace H7 := H7.keep K14 (fun h => h)
 replace hE := Ents.keep0 hE K14
 replace hM := LogE.keep0 hM K14
 clear K14 hs15
 refine og 3 [(0, (ptr r)), (24, (ptr r)), (28, (Value.slice (some ⟨b10, 0, none⟩) 1 1)), (31, (Value.pointer (some ⟨r, 7, none⟩)))] 8 ?_
 refine Ops.go (v := (i64 1)) (by kernel_rfl) (Runs.load (t := 3) (a := ⟨r, 7, none⟩) (by kernel_rfl) (H7.loads (by kernel_rfl))) (d := (some 32)) (by kernel_rfl) rfl ?_
 refine Ops.call (by kernel_rfl) (d := (some 33)) (by kernel_rfl) (Repeat_one _ b10 ((base + ((l.length : Nat) : Int)) + 1) H13) ?_
 rintro _ w21 ⟨A18, c19, rfl, K20⟩
 refine ⟨_, _, rfl, rfl, ?_⟩
 replace K0 := K0.tn K20
 replace H0 := H0.keep K20 (fun h => h)
 replace H7 := H7.keep K20 (fun h => h)
 replace H13 := H13.keep K20 (fun h => h)
 replace hE := Ents.keep0 hE K20
 replace hM := LogE.keep0 hM K20
 clear K20
 refine og 2 [(0, (ptr r)), (33, (Value.slice A18 1 c19)), (35, (Value.pointer (some ⟨r, 13, none⟩)))] 12 ?_
 refine Ops.put (t := 81) (b := r) (off := 13) (v := (Value.slice A18 1 c19)) (ys := [(i64 term), (i64 voted), (i64 2), (i64 0), (i64 commit), (i64 group), (i64 0), (i64 1), (ptr g), (i64 elapsed), (i64 timeout), (Value.slice none 0 0), vv, (Value.slice A18 1 c19), (Value.pointer none), (Value.pointer none), (Value.bool false), (Value.slice none 0 0)]) (by kernel_rfl) (by kernel_rfl) H7 (by kernel_rfl) (d := none) (by kernel_rfl) rfl (fun w22 H23 K24 => ?_)
 clear H7
 replace K0 := K0.trans K24 (U := (fun i => i = r ∨ i = g ∨ ((Value.slice A l.length c)).ownBlock = some i)) (fun i h1 h2 => h2) (fun i h1 h2 => by have h2 : i = r := h2; exact .inl h2)
 replace H0 := H0.k1 K24 (by omega)
 replace H13 := H13.k1 K24 (by omega)
 replace hE := Ents.keep hE K24 hrT
 replace hM := LogE.keep hM K24 hrT
 clear K24
 refine od ?_
 refine qs ?_
 refine q_draw (fun wz => Keeps (fun i => ((Value.slice A l.length c)).ownBlock = some i ∨ i = g) w22 wz) 12 (by kernel_rfl) (by kernel_rfl) (by kernel_rfl) (fun w25 K26 _ _ => ⟨(K26.mono (fun _ _ h => h.elim)), ?_⟩)
 replace K0 := K0.tn K26
 replace H0 := H0.keep K26 (fun h => h)
 replace H23 := H23.keep K26 (fun h => h)
 replace H13 := H13.keep K26 (fun h => h)
 replace hE := Ents.keep0 hE K26
 replace hM := LogE.keep0 hM K26
 refine Dr.strong (S' := (fun wz => Keeps (fun i => ((Value.slice A l.length c)).ownBlock = some i ∨ i = g) w25 wz)) ((Keeps.refl w25).mono (fun _ _ h => h.elim)) (fun wz hx => K26.trans hx (fun i _ h => h.elim) (fun _ _ h => h)) ?_
 clear K26
 refine Dr.takes (fuel' := 9) (is' := _) [0, 1, 2] [(0, (ptr r)), (38, (Value.pointer (some ⟨r, 8, none⟩)))] (by kernel_rfl) rfl (by kernel_rfl) ?_
 refine Dr.take (i := 3) (v := (ptr g)) (by kernel_rfl) (by kernel_rfl) (fun wz hS => Runs.load (t := 24) (a := ⟨r, 8, none⟩) (by kernel_rfl) ((H23.keep hS (by intro h; change ((Value.slice A l.length c)).ownBlock = some r ∨ r = g at h; rcases h with h | h; (have := hvr r h; omega); (omega))).loads (by kernel_rfl))) (d := (some 39)) (by kernel_rfl) rfl ?_
 refine Dr.takes (fuel' := 4) (is' := _) [4, 5, 6, 7] [(0, (ptr r)), (39, (ptr g)), (43, (ptr r))] (by kernel_rfl) rfl (by kernel_rfl) ?_
 refine Dr.take (i := 8) (v := (i64 term)) (by kernel_rfl) (by kernel_rfl) (fun wz hS => Runs.load (t := 2) (a := ⟨r, 0, none⟩) (by kernel_rfl) ((H23.keep hS (by intro h; change ((Value.slice A l.length c)).ownBlock = some r ∨ r = g at h; rcases h with h | h; (have := hvr r h; omega); (omega))).loads (by kernel_rfl))) (d := (some 44)) (by kernel_rfl) rfl ?_
 refine Dr.takes (fuel' := 2) (is' := _) [9] [(0, (ptr r)), (39, (ptr g)), (45, (agg [(i64 term), (Value.slice none 0 0)]))] (by kernel_rfl) rfl (by kernel_rfl) ?_
 refine Dr.new (i := 10) (o := rowL [(i64 term), (Value.slice none 0 0)] 43) (V := fun b => (Value.slice (some ⟨b, 0, none⟩) 1 1)) (by kernel_rfl) (by kernel_rfl) (d := (some 46)) (by kernel_rfl) (fun b => rfl) (fun b27 w28 hb29 H30 K31 hs32 => ?_)
 have lb27g : g < b27 := by have := H0.lt; omega
 have lb27r : r < b27 := by have := H23.lt; omega
 have lb27b10 : b10 < b27 := by have := H13.lt; omega
 have nb27 : w.heap.size ≤ b27 := by have := K0.size; omega
 have ot33 : ∀ i, T i → i ≠ b27 := fun i hi => by have := Ents.lt hE i hi; omega
 have ot34 : ∀ i, ((Value.slice A l.length c)).ownBlock = some i → i ≠ b27 := fun i hi => ot33 i (hM.ownT i hi)
 replace K0 := K0.tn K31
 replace H0 := H0.keep K31 (fun h => h)
 replace H23 := H23.keep K31 (fun h => h)
 replace H13 := H13.keep K31 (fun h => h)
 replace hE := Ents.keep0 hE K31
 replace hM := LogE.keep0 hM K31
 refine ⟨(K31.mono (fun _ _ h => h.elim)), ?_⟩
 refine Dr.strong (S' := (fun wz => Keeps (fun i => ((Value.slice A l.length c)).ownBlock = some i ∨ i = g ∨ i = b27) w28 wz)) ((Keeps.refl w28).mono (fun _ _ h => h.elim)) (fun wz hx => K31.trans hx (U := (fun i => ((Value.slice A l.length c)).ownBlock = some i ∨ i = g)) (fun i _ h => h.elim) (fun i hi h => by have h : ((Value.slice A l.length c)).ownBlock = some i ∨ i = g ∨ i = b27 := h; show ((Value.slice A l.length c)).ownBlock = some i ∨ i = g; rcases h with h | h | h; (exact (.inl h)); (exact (.inr h)); (exfalso; omega))) ?_
 clear K31 hs32
 have hY35 : Ents w28 (fun i => i = b27 ∨ (([] : List UInt8) ≠ [] ∧ ((Value.slice none 0 0)).ownBlock = some i)) (Value.slice (some ⟨b27, 0, none⟩) 1 1) [(⟨term, none, 0, []⟩ : EntP)] := Ents.lit H30 (Rd.nil _ _) (fun _ i hi => by cases hi)
 have hU36 : ∀ i, (fun i => i = b27 ∨ (([] : List UInt8) ≠ [] ∧ ((Value.slice none 0 0)).ownBlock = some i)) i → i ≠ g := fun i hi => by rcases hi with h | ⟨hb, h⟩; (omega); (cases h)
 refine Dr.call (i := 11) (by kernel_rfl) (by kernel_rfl) (d := (some 47)) (by kernel_rfl) (fun _ => Append_grow _ T g bs base old A c l (fun i => i = b27 ∨ (([] : List UInt8) ≠ [] ∧ ((Value.slice none 0 0)).ownBlock = some i)) (some ⟨b27, 0, none⟩) 1 [(⟨term, none, 0, []⟩ : EntP)] H0 hM hT (by omega) (by first | omega | decide) (Nat.le_trans hbs K0.size) hY35 hU36 hBig (fun y hy => by rw [List.map_singleton, List.mem_singleton] at hy; subst hy; exact Nat.zero_le _) (by show 1 * 32 ≤ _; decide) hq) ?_
 rintro _ w41 ⟨l37, A38, c39, T40, rfl, K42, H43, hM44, hK46, hT47⟩
 have hE45 := hM44.ents
 have ot48 : ∀ i, T40 i → i ≠ g := fun i hi => (hT47 i hi).1
 have ot49 : ∀ i, ((Value.slice A38 l37.length c39)).ownBlock = some i → i ≠ g := fun i hi => ot48 i (hM44.ownT i hi)
 have ot50 : ∀ i, T40 i → i ≠ r := fun i hi => by rcases (hT47 i hi).2 with h | h; (exact hrT i h); (have := H23.lt; omega)
 have ot51 : ∀ i, ((Value.slice A38 l37.length c39)).ownBlock = some i → i ≠ r := fun i hi => ot50 i (hM44.ownT i hi)
 have ot52 : ∀ i, T40 i → i ≠ b10 := fun i hi => by rcases (hT47 i hi).2 with h | h; (exact ot16 i h); (have := H13.lt; omega)
 have ot53 : ∀ i, ((Value.slice A38 l37.length c39)).ownBlock = some i → i ≠ b10 := fun i hi => ot52 i (hM44.ownT i hi)
 have ot54 : ∀ i, T40 i → i ≠ b27 := fun i hi => by rcases (hT47 i hi).2 with h | h; (exact ot33 i h); (have := H30.lt; omega)
 have ot55 : ∀ i, ((Value.slice A38 l37.length c39)).ownBlock = some i → i ≠ b27 := fun i hi => ot54 i (hM44.ownT i hi)
 have hn56 := keys_len2 hK46
 have hz57 := K0.size
 have hn58 : l37.length = l.length + 1 := by have q := congrArg List.length hK46; simpa using q
 replace K0 := K0.trans K42 (U := (fun i => i = r ∨ i = g ∨ ((Value.slice A l.length c)).ownBlock = some i)) (fun i h1 h2 => h2) (fun i h1 h2 => by have h2 : i = g ∨ ((Value.slice A l.length c)).ownBlock = some i := h2; rcases h2 with h2 | h2; (exact .inr (.inl h2)); (exact .inr (.inr (h2))))
 replace H23 := H23.keep K42 (by intro h; change r = g ∨ ((Value.slice A l.length c)).ownBlock = some r at h; rcases h with h | h; (omega); (have := hvr r h; omega))
 replace H13 := H13.keep K42 (by intro h; change b10 = g ∨ ((Value.slice A l.length c)).ownBlock = some b10 at h; rcases h with h | h; (omega); (have := ot17 b10 h; omega))
 replace H30 := H30.keep K42 (by intro h; change b27 = g ∨ ((Value.slice A l.length c)).ownBlock = some b27 at h; rcases h with h | h; (omega); (have := ot34 b27 h; omega))
 clear hE
 clear hM
 refine ⟨_, _, rfl, rfl, (K42.mono (fun i _ h => by have h : i = g ∨ ((Value.slice A l.length c)).ownBlock = some i := h; show ((Value.slice A l.length c)).ownBlock = some i ∨ i = g ∨ i = b27; rcases h with h | h; (exact (.inr (.inl h))); (exact (.inl h)))), ?_⟩
 refine Dr.strong (S' := (fun wz => Keeps (fun i => ((Value.slice A l.length c)).ownBlock = some i ∨ i = g ∨ i = b27) w41 wz)) ((Keeps.refl w41).mono (fun _ _ h => h.elim)) (fun wz hx => K42.trans hx (fun i _ h => by have h : i = g ∨ ((Value.slice A l.length c)).ownBlock = some i := h; show ((Value.slice A l.length c)).ownBlock = some i ∨ i = g ∨ i = b27; rcases h with h | h; (exact (.inr (.inl h))); (exact (.inl h))) (fun _ _ h => h)) ?_
 clear K42
 have hbigl37 : BigK (l37.map EntP.key) := by rw [hK46]; exact BigK.app hBig (fun y hy => by rw [List.map_singleton, List.mem_singleton] at hy; subst hy; exact Nat.zero_le _)
 refine Dr.done (by kernel_rfl) ?_
 refine qs ?_
 refine qg ?_
 refine og 1 [(0, (ptr r)), (48, (ptr r))] 1 ?_
 refine Ops.call (by kernel_rfl) (d := (some 49)) (by kernel_rfl) (agree_calls _ r g term voted 2 0 commit group elapsed timeout vv (Value.slice A18 1 c19) T40 base old A38 c39 l37 H23 H43 hE45 ot48 (by omega) (by omega) (by omega) ot50) ?_
 rintro _ w60 ⟨rfl, K59, H61⟩
 refine ⟨_, _, rfl, rfl, ?_⟩
 replace K0 := K0.trans K59 (U := (fun i => i = r ∨ i = g ∨ ((Value.slice A l.length c)).ownBlock = some i)) (fun i h1 h2 => h2) (fun i h1 h2 => by have h2 : i = r := h2; exact .inl h2)
 replace H43 := H43.k1 K59 (by omega)
 replace H13 := H13.k1 K59 (by omega)
 replace H30 := H30.k1 K59 (by omega)
 replace hE45 := Ents.keep hE45 K59 ot50
 replace hM44 := LogE.keep hM44 K59 ot50
 clear K59
 refine od ?_
 refine qg ?_
 refine og 3 [(50, (ptr r)), (52, (Value.func (Fn.func 38) ⟨[(ptr r)]⟩ ⟨[]⟩))] 3 ?_
 refine Ops.call (by kernel_rfl) (d := (some 53)) (by kernel_rfl) (others_calls _ r g term voted 2 0 (agC base old term commit (l37.map EntP.key)) group elapsed timeout vv (Value.slice A18 1 c19) (Value.func (Fn.func 38) ⟨[(ptr r)]⟩ ⟨[]⟩) H61) ?_
 rintro _ w63 ⟨rfl, K62⟩
 refine ⟨_, _, rfl, rfl, ?_⟩
 replace K0 := K0.tn K62
 replace H43 := H43.keep K62 (fun h => h)
 replace H61 := H61.keep K62 (fun h => h)
 replace H13 := H13.keep K62 (fun h => h)
 replace H30 := H30.keep K62 (fun h => h)
 replace hE45 := Ents.keep0 hE45 K62
 replace hM44 := LogE.keep0 hM44 K62
 clear K62
 refine od ?_
 refine ⟨(Value.tuple #[]), retv_none rfl, ?_⟩
 rw [hK46] at H61
 exact ⟨l37, A38, c39, T40, A18, c19, rfl, K0, H61, H43, hM44, hK46, fun i hi => ⟨(hT47 i hi).1, ot50 i hi, (hT47 i hi).2.elim .inl fun h => .inr (Nat.le_trans hz57 h)⟩⟩
end Go.Proofs.Ytnmpepjikfbpdaa
namespace Go.Q
open Go.RowKit

section
variable {P : Program} {n : Nat} {os : Array Oper} {K : Loc → World → Prop} {L L' : Loc} {w : World} {i j : Nat} {d di dj : Option Tmp} {S : World → Prop} {fuel : Nat} {is : List Nat}

theorem DrB.load {t t2 : TypeId} {a a2 : Addr} {v v2 : Value} {L1 La Lb : Loc} {l : List Nat}
    (hr : Region.ready .any os (marks os.size is) = l) (hl2 : l = [i, j] ∨ l = [j, i]) (hij : Region.ready .any os (marks os.size (i :: is)) = [j]) (hm : marks os.size (i :: j :: is) = marks os.size (j :: i :: is))
    (hi0 : okAt os L i = true) (hld : ld? L (opn os i) = some (t, a)) (hdi : dst? os i = some di) (hsi : (match setL n di v L with | some Lx => restrict Lx (L1.map Prod.fst) | none => none) = some L1)
    (hj0 : okAt os L j = true) (hj1 : okAt os L1 j = true) (hk0 : ld? L (opn os j) = some (t2, a2)) (hk1 : ld? L1 (opn os j) = some (t2, a2)) (hdj : dst? os j = some dj) (hsj0 : setL n dj v2 L = some La) (hsj1 : setL n dj v2 L1 = some Lb)
    (hl : Loads P w t a v) (hlj : Loads P w t2 a2 v2) (hS : S w)
    (h : DrB P n os S fuel (j :: is) i K La Lb w) : DrB P n os S (fuel + 1) is i K L L1 w := by
  have h2 : Dr P n os S (fuel + 1) (i :: is) K L1 w := Dr.go hij hj1 (Runs.load hk1 hlj) hdj hsj1 hS (Dr.swap hm h.2)
  refine ⟨?_, h2⟩
  intro hS0 act ha
  refine wpAnyH_all hr (by rcases hl2 with rfl | rfl <;> simp) fun q hq => ?_
  have hq : q = i ∨ q = j := by rcases hl2 with rfl | rfl <;> simp at hq <;> omega
  rcases hq with rfl | rfl
  · cases hx : setL n di v L with
    | none => rw [hx] at hsi; cases hsi
    | some Lx =>
      rw [hx] at hsi
      exact Dr.opStep hi0 (Runs.load hld hl) hdi hx hS (Dr.keep hsi h2) ha
  · exact Dr.opStep hj0 (Runs.load hk0 hlj) hdj hsj0 hS h.1 ha
theorem DrB.run {t : TypeId} {a : Addr} {v u : Value} {w2 : World} {L1 La Lb : Loc} {l : List Nat}
    (hr : Region.ready .any os (marks os.size is) = l) (hl2 : l = [i, j] ∨ l = [j, i]) (hij : Region.ready .any os (marks os.size (i :: is)) = [j]) (hm : marks os.size (i :: j :: is) = marks os.size (j :: i :: is))
    (hi0 : okAt os L i = true) (hld : ld? L (opn os i) = some (t, a)) (hdi : dst? os i = some di) (hsi : (match setL n di v L with | some Lx => restrict Lx (L1.map Prod.fst) | none => none) = some L1)
    (hj0 : okAt os L j = true) (hj1 : okAt os L1 j = true) (r0 : Runs P L (opn os j) w u w2) (r1 : Runs P L1 (opn os j) w u w2) (hdj : dst? os j = some dj) (hsj0 : setL n dj u L = some La) (hsj1 : setL n dj u L1 = some Lb)
    (hl : Loads P w t a v) (hS : S w)
    (h : S w2 ∧ DrB P n os S fuel (j :: is) i K La Lb w2) : DrB P n os S (fuel + 1) is i K L L1 w := by
  have h2 : Dr P n os S (fuel + 1) (i :: is) K L1 w := Dr.go hij hj1 r1 hdj hsj1 h.1 (Dr.swap hm h.2.2)
  refine ⟨?_, h2⟩
  intro hS0 act ha
  refine wpAnyH_all hr (by rcases hl2 with rfl | rfl <;> simp) fun q hq => ?_
  have hq : q = i ∨ q = j := by rcases hl2 with rfl | rfl <;> simp at hq <;> omega
  rcases hq with rfl | rfl
  · cases hx : setL n di v L with
    | none => rw [hx] at hsi; cases hsi
    | some Lx =>
      rw [hx] at hsi
      exact Dr.opStep hi0 (Runs.load hld hl) hdi hx hS (Dr.keep hsi h2) ha
  · exact Dr.opStep hj0 r0 hdj hsj0 h.1 h.2.1 ha
end
end Go.Q
namespace Go.Proofs.Ytnmpepjikfbpdaa
open Go.Q Go.RowKit
theorem KTI : KeyTy Try.prog 3 kint := keyTy_int Try.underlying3

set_option maxHeartbeats 2000000 in
theorem elect_calls (w : World) (r g : Nat) (term voted role leader commit group elapsed timeout : Int) (vv pv : Value) (T : Nat → Prop) (bs : Nat) (base old : Int) (A : Option Addr) (c : Nat) (l : List EntP) (Hr : Has w r (rowL [(i64 term), (i64 voted), (i64 role), (i64 leader), (i64 commit), (i64 group), (i64 0), (i64 1), (ptr g), (i64 elapsed), (i64 timeout), (Value.slice none 0 0), vv, pv, (Value.pointer none), (Value.pointer none), (Value.bool false), (Value.slice none 0 0)] 84)) (H0 : Has w g (rowL [i64 base, i64 old, .slice A l.length c] 78)) (hM : LogE w bs 43 T (.slice A l.length c) l) (hT : ∀ i, T i → i ≠ g) (hB : 0 ≤ base ∧ base ≤ 2305843009213693952) (hL : l.length ≤ 4096) (hrg : r ≠ g) (hrT : ∀ i, T i → i ≠ r) (hbs : bs ≤ w.heap.size) (hBig : BigK (l.map EntP.key)) (hq : appE base old (l.map EntP.key) [(term + 1, [])] = 0) (hl1 : l.length + 1 ≤ 4096) (ht : 0 ≤ term ∧ term ≤ 1152921504606846976) : Calls Try.prog 40 ⟨[(ptr r)]⟩ w (fun e w' => ∃ l' A' c' T' PA pc mb, e = .returned (.tuple #[]) ∧ Keeps (fun i => i = r ∨ i = g ∨ ((Value.slice A l.length c)).ownBlock = some i) w w' ∧ Has w' r (rowL [(i64 (term + 1)), (i64 0), (i64 2), (i64 0), (i64 (agC base old (term + 1) commit ((l.map EntP.key) ++ [(term + 1, [])]))), (i64 group), (i64 0), (i64 1), (ptr g), (i64 0), (i64 10), (Value.slice none 0 0), (Value.map (some mb)), (Value.slice PA 1 pc), (Value.pointer none), (Value.pointer none), (Value.bool false), (Value.slice none 0 0)] 84) ∧ Has w' g (rowL [i64 base, i64 old, .slice A' l'.length c'] 78) ∧ LogE w' bs 43 T' (.slice A' l'.length c') l' ∧ l'.map EntP.key = ((l.map EntP.key) ++ [(term + 1, [])]) ∧ ∀ i, T' i → i ≠ g ∧ i ≠ r ∧ (T i ∨ w.heap.size ≤ i)) := by
 have hE := hM.ents
 have hvr : ∀ i, ((Value.slice A l.length c)).ownBlock = some i → i ≠ r := fun i hi => hrT i (hM.ownT i hi)
 have hvg : ∀ i, ((Value.slice A l.length c)).ownBlock = some i → i ≠ g := fun i hi => hT i (hM.ownT i hi)
 have hcap := Ents.len hE
 have Hg := H0.lt
 have Hrl := Hr.lt
 have K0 : Keeps (fun i => i = r ∨ i = g ∨ ((Value.slice A l.length c)).ownBlock = some i) w w := (Keeps.refl w).mono (fun _ _ h => h.elim)
 refine q_calls Try.func40 (by kernel_rfl) (by kernel_rfl) ?_
 refine qs ?_
 refine qg ?_
 refine Ops.new (o := rowL [(ptr r)] 29) (V := fun b => (ptr b)) (by kernel_rfl) (d := (some 1)) (by kernel_rfl) (fun b => rfl) (fun b1 w2 hb3 H4 K5 hs6 => ?_)
 have lb1g : g < b1 := by have := H0.lt; omega
 have lb1r : r < b1 := by have := Hr.lt; omega
 have nb1 : w.heap.size ≤ b1 := by have := K0.size; omega
 have ot7 : ∀ i, T i → i ≠ b1 := fun i hi => by have := Ents.lt hE i hi; omega
 have ot8 : ∀ i, ((Value.slice A l.length c)).ownBlock = some i → i ≠ b1 := fun i hi => ot7 i (hM.ownT i hi)
 replace K0 := K0.tn K5
 replace H0 := H0.keep K5 (fun h => h)
 replace Hr := Hr.keep K5 (fun h => h)
 replace hE := Ents.keep0 hE K5
 replace hM := LogE.keep0 hM K5
 clear K5 hs6
 refine od ?_
 refine qs ?_
 refine qg ?_
 refine Ops.go (v := (ptr r)) (by kernel_rfl) (Runs.load (t := 29) (a := ⟨b1, 0, none⟩) (by kernel_rfl) (H4.loads (by kernel_rfl))) (d := (some 4)) (by kernel_rfl) rfl ?_
 refine og 3 [(1, (ptr b1)), (4, (ptr r)), (7, (ptr r))] 4 ?_
 refine Ops.go (v := (i64 term)) (by kernel_rfl) (Runs.load (t := 2) (a := ⟨r, 0, none⟩) (by kernel_rfl) (Hr.loads (by kernel_rfl))) (d := (some 8)) (by kernel_rfl) rfl ?_
 refine og 1 [(1, (ptr b1)), (4, (ptr r)), (9, (i64 (IntKind.i64.wrap (term + 1))))] 6 ?_
 have e9 : IntKind.i64.wrap (term + 1) = term + 1 := wrap_i64 (by omega) (by omega)
 rw [e9]
 refine og 3 [(1, (ptr b1)), (9, (i64 (term + 1))), (12, (ptr r))] 9 ?_
 refine Ops.put (t := 2) (b := r) (off := 0) (v := (i64 (term + 1))) (ys := [(i64 (term + 1)), (i64 voted), (i64 role), (i64 leader), (i64 commit), (i64 group), (i64 0), (i64 1), (ptr g), (i64 elapsed), (i64 timeout), (Value.slice none 0 0), vv, pv, (Value.pointer none), (Value.pointer none), (Value.bool false), (Value.slice none 0 0)]) (by kernel_rfl) (by kernel_rfl) Hr (by kernel_rfl) (d := none) (by kernel_rfl) rfl (fun w10 H11 K12 => ?_)
 clear Hr
 replace K0 := K0.trans K12 (U := (fun i => i = r ∨ i = g ∨ ((Value.slice A l.length c)).ownBlock = some i)) (fun i h1 h2 => h2) (fun i h1 h2 => by have h2 : i = r := h2; exact .inl h2)
 replace H0 := H0.k1 K12 (by omega)
 replace H4 := H4.k1 K12 (by omega)
 replace hE := Ents.keep hE K12 hrT
 replace hM := LogE.keep hM K12 hrT
 clear K12
 refine od ?_
 refine qs ?_
 refine q_draw (fun wz => Keeps (fun i => i = r) w10 wz) 23 (by kernel_rfl) (by kernel_rfl) (by kernel_rfl) (fun w13 K14 _ _ => ⟨(K14.mono (fun _ _ h => h.elim)), ?_⟩)
 replace K0 := K0.tn K14
 replace H0 := H0.keep K14 (fun h => h)
 replace H11 := H11.keep K14 (fun h => h)
 replace H4 := H4.keep K14 (fun h => h)
 replace hE := Ents.keep0 hE K14
 replace hM := LogE.keep0 hM K14
 refine Dr.strong (S' := (fun wz => Keeps (fun i => i = r) w13 wz)) ((Keeps.refl w13).mono (fun _ _ h => h.elim)) (fun wz hx => K14.trans hx (fun i _ h => h.elim) (fun _ _ h => h)) ?_
 clear K14
 refine Dr.take (i := 0) (v := (ptr r)) (by kernel_rfl) (by kernel_rfl) (fun wz hS => Runs.load (t := 29) (a := ⟨b1, 0, none⟩) (by kernel_rfl) ((H4.keep hS (by intro h; change b1 = r at h; omega)).loads (by kernel_rfl))) (d := (some 13)) (by kernel_rfl) rfl ?_
 refine Dr.take (i := 1) (v := (ptr r)) (by kernel_rfl) (by kernel_rfl) (fun wz hS => Runs.load (t := 29) (a := ⟨b1, 0, none⟩) (by kernel_rfl) ((H4.keep hS (by intro h; change b1 = r at h; omega)).loads (by kernel_rfl))) (d := (some 14)) (by kernel_rfl) rfl ?_
 refine Dr.take (i := 2) (v := (ptr r)) (by kernel_rfl) (by kernel_rfl) (fun wz hS => Runs.load (t := 29) (a := ⟨b1, 0, none⟩) (by kernel_rfl) ((H4.keep hS (by intro h; change b1 = r at h; omega)).loads (by kernel_rfl))) (d := (some 15)) (by kernel_rfl) rfl ?_
 refine Dr.take (i := 3) (v := (ptr r)) (by kernel_rfl) (by kernel_rfl) (fun wz hS => Runs.load (t := 29) (a := ⟨b1, 0, none⟩) (by kernel_rfl) ((H4.keep hS (by intro h; change b1 = r at h; omega)).loads (by kernel_rfl))) (d := (some 16)) (by kernel_rfl) rfl ?_
 refine Dr.take (i := 4) (v := (ptr r)) (by kernel_rfl) (by kernel_rfl) (fun wz hS => Runs.load (t := 29) (a := ⟨b1, 0, none⟩) (by kernel_rfl) ((H4.keep hS (by intro h; change b1 = r at h; omega)).loads (by kernel_rfl))) (d := (some 17)) (by kernel_rfl) rfl ?_
 refine Dr.takes (fuel' := 16) (is' := _) [5, 6] [(1, (ptr b1)), (13, (ptr r)), (14, (ptr r)), (15, (ptr r)), (16, (ptr r)), (19, (Value.pointer (some ⟨r, 6, none⟩)))] (by kernel_rfl) rfl (by kernel_rfl) ?_
 refine Dr.go (i := 7) (v := (i64 0)) (by kernel_rfl) (by kernel_rfl) (Runs.load (t := 3) (a := ⟨r, 6, none⟩) (by kernel_rfl) (H11.loads (by kernel_rfl))) (d := (some 20)) (by kernel_rfl) rfl ((Keeps.refl _).mono (fun _ _ h => h.elim)) ?_
 refine Dr.takes (fuel' := 12) (is' := _) [8, 9, 10] [(1, (ptr b1)), (14, (ptr r)), (15, (ptr r)), (16, (ptr r)), (20, (i64 0)), (23, (Value.pointer (some ⟨r, 2, none⟩)))] (by kernel_rfl) rfl (by kernel_rfl) ?_
 refine Dr.put (i := 11) (t := 3) (b := r) (off := 2) (v := (i64 1)) (ys := [(i64 (term + 1)), (i64 voted), (i64 1), (i64 leader), (i64 commit), (i64 group), (i64 0), (i64 1), (ptr g), (i64 elapsed), (i64 timeout), (Value.slice none 0 0), vv, pv, (Value.pointer none), (Value.pointer none), (Value.bool false), (Value.slice none 0 0)]) (by kernel_rfl) (by kernel_rfl) (by kernel_rfl) H11 (by kernel_rfl) (d := none) (by kernel_rfl) rfl (fun w15 H16 K17 => ?_)
 clear H11
 replace K0 := K0.trans K17 (U := (fun i => i = r ∨ i = g ∨ ((Value.slice A l.length c)).ownBlock = some i)) (fun i h1 h2 => h2) (fun i h1 h2 => by have h2 : i = r := h2; exact .inl h2)
 replace H0 := H0.k1 K17 (by omega)
 replace H4 := H4.k1 K17 (by omega)
 replace hE := Ents.keep hE K17 hrT
 replace hM := LogE.keep hM K17 hrT
 refine ⟨K17, ?_⟩
 refine Dr.strong (S' := (fun wz => Keeps (fun i => i = r) w15 wz)) ((Keeps.refl w15).mono (fun _ _ h => h.elim)) (fun wz hx => K17.trans hx (fun i _ h => by have h : i = r := h; show i = r; omega) (fun _ _ h => h)) ?_
 clear K17
 refine Dr.takes (fuel' := 8) (is' := _) [12, 13, 14] [(1, (ptr b1)), (15, (ptr r)), (16, (ptr r)), (20, (i64 0)), (26, (Value.pointer (some ⟨r, 1, none⟩)))] (by kernel_rfl) rfl (by kernel_rfl) ?_
 refine Dr.put (i := 15) (t := 3) (b := r) (off := 1) (v := (i64 0)) (ys := [(i64 (term + 1)), (i64 0), (i64 1), (i64 leader), (i64 commit), (i64 group), (i64 0), (i64 1), (ptr g), (i64 elapsed), (i64 timeout), (Value.slice none 0 0), vv, pv, (Value.pointer none), (Value.pointer none), (Value.bool false), (Value.slice none 0 0)]) (by kernel_rfl) (by kernel_rfl) (by kernel_rfl) H16 (by kernel_rfl) (d := none) (by kernel_rfl) rfl (fun w18 H19 K20 => ?_)
 clear H16
 replace K0 := K0.trans K20 (U := (fun i => i = r ∨ i = g ∨ ((Value.slice A l.length c)).ownBlock = some i)) (fun i h1 h2 => h2) (fun i h1 h2 => by have h2 : i = r := h2; exact .inl h2)
 replace H0 := H0.k1 K20 (by omega)
 replace H4 := H4.k1 K20 (by omega)
 replace hE := Ents.keep hE K20 hrT
 replace hM := LogE.keep hM K20 hrT
 refine ⟨K20, ?_⟩
 refine Dr.strong (S' := (fun wz => Keeps (fun i => i = r) w18 wz)) ((Keeps.refl w18).mono (fun _ _ h => h.elim)) (fun wz hx => K20.trans hx (fun i _ h => by have h : i = r := h; show i = r; omega) (fun _ _ h => h)) ?_
 clear K20
 refine Dr.takes (fuel' := 4) (is' := _) [16, 17, 18] [(1, (ptr b1)), (16, (ptr r)), (29, (Value.pointer (some ⟨r, 3, none⟩)))] (by kernel_rfl) rfl (by kernel_rfl) ?_
 refine Dr.put (i := 19) (t := 3) (b := r) (off := 3) (v := (i64 (-1))) (ys := [(i64 (term + 1)), (i64 0), (i64 1), (i64 (-1)), (i64 commit), (i64 group), (i64 0), (i64 1), (ptr g), (i64 elapsed), (i64 timeout), (Value.slice none 0 0), vv, pv, (Value.pointer none), (Value.pointer none), (Value.bool false), (Value.slice none 0 0)]) (by kernel_rfl) (by kernel_rfl) (by kernel_rfl) H19 (by kernel_rfl) (d := none) (by kernel_rfl) rfl (fun w21 H22 K23 => ?_)
 clear H19
 replace K0 := K0.trans K23 (U := (fun i => i = r ∨ i = g ∨ ((Value.slice A l.length c)).ownBlock = some i)) (fun i h1 h2 => h2) (fun i h1 h2 => by have h2 : i = r := h2; exact .inl h2)
 replace H0 := H0.k1 K23 (by omega)
 replace H4 := H4.k1 K23 (by omega)
 replace hE := Ents.keep hE K23 hrT
 replace hM := LogE.keep hM K23 hrT
 refine ⟨K23, ?_⟩
 refine Dr.strong (S' := (fun wz => Keeps (fun i => i = r) w21 wz)) ((Keeps.refl w21).mono (fun _ _ h => h.elim)) (fun wz hx => K23.trans hx (fun i _ h => by have h : i = r := h; show i = r; omega) (fun _ _ h => h)) ?_
 clear K23
 refine Dr.takes (fuel' := 1) (is' := _) [20, 21] [(1, (ptr b1)), (31, (Value.pointer (some ⟨r, 9, none⟩)))] (by kernel_rfl) rfl (by kernel_rfl) ?_
 refine Dr.put (i := 22) (t := 3) (b := r) (off := 9) (v := (i64 0)) (ys := [(i64 (term + 1)), (i64 0), (i64 1), (i64 (-1)), (i64 commit), (i64 group), (i64 0), (i64 1), (ptr g), (i64 0), (i64 timeout), (Value.slice none 0 0), vv, pv, (Value.pointer none), (Value.pointer none), (Value.bool false), (Value.slice none 0 0)]) (by kernel_rfl) (by kernel_rfl) (by kernel_rfl) H22 (by kernel_rfl) (d := none) (by kernel_rfl) rfl (fun w24 H25 K26 => ?_)
 clear H22
 replace K0 := K0.trans K26 (U := (fun i => i = r ∨ i = g ∨ ((Value.slice A l.length c)).ownBlock = some i)) (fun i h1 h2 => h2) (fun i h1 h2 => by have h2 : i = r := h2; exact .inl h2)
 replace H0 := H0.k1 K26 (by omega)
 replace H4 := H4.k1 K26 (by omega)
 replace hE := Ents.keep hE K26 hrT
 replace hM := LogE.keep hM K26 hrT
 refine ⟨K26, ?_⟩
 refine Dr.strong (S' := (fun wz => Keeps (fun i => i = r) w24 wz)) ((Keeps.refl w24).mono (fun _ _ h => h.elim)) (fun wz hx => K26.trans hx (fun i _ h => by have h : i = r := h; show i = r; omega) (fun _ _ h => h)) ?_
 clear K26
 refine Dr.done (by kernel_rfl) ?_
 refine qs ?_
 refine q_draw (fun wz => Keeps (fun i => i = r) w24 wz) 11 (by kernel_rfl) (by kernel_rfl) (by kernel_rfl) (fun w27 K28 _ _ => ⟨(K28.mono (fun _ _ h => h.elim)), ?_⟩)
 replace K0 := K0.tn K28
 replace H0 := H0.keep K28 (fun h => h)
 replace H25 := H25.keep K28 (fun h => h)
 replace H4 := H4.keep K28 (fun h => h)
 replace hE := Ents.keep0 hE K28
 replace hM := LogE.keep0 hM K28
 refine Dr.strong (S' := (fun wz => Keeps (fun i => i = r) w27 wz)) ((Keeps.refl w27).mono (fun _ _ h => h.elim)) (fun wz hx => K28.trans hx (fun i _ h => h.elim) (fun _ _ h => h)) ?_
 clear K28
 refine Dr.take (i := 0) (v := (ptr r)) (by kernel_rfl) (by kernel_rfl) (fun wz hS => Runs.load (t := 29) (a := ⟨b1, 0, none⟩) (by kernel_rfl) ((H4.keep hS (by intro h; change b1 = r at h; omega)).loads (by kernel_rfl))) (d := (some 32)) (by kernel_rfl) rfl ?_
 refine Dr.take (i := 2) (v := (ptr r)) (by kernel_rfl) (by kernel_rfl) (fun wz hS => Runs.load (t := 29) (a := ⟨b1, 0, none⟩) (by kernel_rfl) ((H4.keep hS (by intro h; change b1 = r at h; omega)).loads (by kernel_rfl))) (d := (some 34)) (by kernel_rfl) rfl ?_
 refine Dr.takes (fuel' := 7) (is' := _) [3, 4] [(1, (ptr b1)), (32, (ptr r)), (36, (Value.pointer (some ⟨r, 6, none⟩)))] (by kernel_rfl) rfl (by kernel_rfl) ?_
 refine Dr.float [(1, (ptr b1)), (32, (ptr r)), (37, (i64 0))] 5 ?_
 obtain ⟨mb29, w30, hr31, K32, hb33, H34⟩ := HasMap.made Try.prog w27 80 kint (vbool)
 refine DrB.run (i := 5) (j := 1) (t := 3) (a := ⟨r, 6, none⟩) (v := (i64 0)) (u := (Value.map (some mb29))) (w2 := w30) (by kernel_rfl) (.inr rfl) (by kernel_rfl) (by kernel_rfl) (by kernel_rfl) (by kernel_rfl) (di := (some 37)) (by kernel_rfl) (by kernel_rfl) (by kernel_rfl) (by kernel_rfl) (Runs.of_makeMap (by kernel_rfl) hr31) (Runs.of_makeMap (by kernel_rfl) hr31) (dj := (some 33)) (by kernel_rfl) rfl rfl (H25.loads (by kernel_rfl)) ((Keeps.refl _).mono (fun _ _ h => h.elim)) ?_
 have lmb29g : g < mb29 := by have := H0.lt; omega
 have lmb29r : r < mb29 := by have := H25.lt; omega
 have lmb29b1 : b1 < mb29 := by have := H4.lt; omega
 have nmb29 : w.heap.size ≤ mb29 := by have := K0.size; omega
 have ot35 : ∀ i, T i → i ≠ mb29 := fun i hi => by have := hM.ents.lt i hi; omega
 have ot36 : ∀ i, ((Value.slice A l.length c)).ownBlock = some i → i ≠ mb29 := fun i hi => ot35 i (hM.ownT i hi)
 replace K0 := K0.tn K32
 replace H0 := H0.keep K32 (fun h => h)
 replace H25 := H25.keep K32 (fun h => h)
 replace H4 := H4.keep K32 (fun h => h)
 replace hE := Ents.keep0 hE K32
 replace hM := LogE.keep0 hM K32
 refine ⟨(K32.mono (fun _ _ h => h.elim)), ?_⟩
 refine DrB.strong (S' := (fun wz => Keeps (fun i => i = r ∨ i = mb29) w30 wz)) ((Keeps.refl w30).mono (fun _ _ h => h.elim)) (fun wz hx => K32.trans hx (U := (fun i => i = r)) (fun i _ h => h.elim) (fun i hi h => by have h : i = r ∨ i = mb29 := h; show i = r; omega)) ?_
 clear K32 hr31
 refine DrB.end_ (t := 3) (a := ⟨r, 6, none⟩) (v := (i64 0)) (R := [(1, (ptr b1)), (32, (ptr r)), (33, (Value.map (some mb29))), (37, (i64 0))]) (by kernel_rfl) (by kernel_rfl) (by kernel_rfl) (di := (some 37)) (by kernel_rfl) (by kernel_rfl) (by kernel_rfl) (H25.loads (by kernel_rfl)) ((Keeps.refl _).mono (fun _ _ h => h.elim)) ?_
 obtain ⟨w37, hr38, K39, H40⟩ := HasMap.update KTI Try.underlying80 H34 0 true
 refine Dr.goU (i := 6) (by kernel_rfl) (by kernel_rfl) (RunsU.of_update (by kernel_rfl) hr38) (d := none) (by kernel_rfl) rfl (K39.mono (fun i _ h => by have h : i = mb29 := h; show i = r ∨ i = mb29; omega)) ?_
 clear H34
 replace K0 := K0.trans K39 (U := (fun i => i = r ∨ i = g ∨ ((Value.slice A l.length c)).ownBlock = some i)) (fun i h1 h2 => h2) (fun i h1 h2 => by have h2 : i = mb29 := h2; exfalso; omega)
 replace H0 := H0.k1 K39 (by omega)
 replace H25 := H25.k1 K39 (by omega)
 replace H4 := H4.k1 K39 (by omega)
 replace hE := Ents.keep hE K39 ot35
 replace hM := LogE.keep hM K39 ot35
 refine Dr.strong (S' := (fun wz => Keeps (fun i => i = r ∨ i = mb29) w37 wz)) ((Keeps.refl w37).mono (fun _ _ h => h.elim)) (fun wz hx => K39.trans hx (fun i _ h => by have h : i = mb29 := h; show i = r ∨ i = mb29; omega) (fun _ _ h => h)) ?_
 clear K39 hr38
 refine Dr.takes (fuel' := 1) (is' := _) [7, 8, 9] [(1, (ptr b1)), (38, (Value.map (some mb29))), (40, (Value.pointer (some ⟨r, 12, none⟩)))] (by kernel_rfl) rfl (by kernel_rfl) ?_
 refine Dr.put (i := 10) (t := 80) (b := r) (off := 12) (v := (Value.map (some mb29))) (ys := [(i64 (term + 1)), (i64 0), (i64 1), (i64 (-1)), (i64 commit), (i64 group), (i64 0), (i64 1), (ptr g), (i64 0), (i64 timeout), (Value.slice none 0 0), (Value.map (some mb29)), pv, (Value.pointer none), (Value.pointer none), (Value.bool false), (Value.slice none 0 0)]) (by kernel_rfl) (by kernel_rfl) (by kernel_rfl) H25 (by kernel_rfl) (d := none) (by kernel_rfl) rfl (fun w41 H42 K43 => ?_)
 clear H25
 replace K0 := K0.trans K43 (U := (fun i => i = r ∨ i = g ∨ ((Value.slice A l.length c)).ownBlock = some i)) (fun i h1 h2 => h2) (fun i h1 h2 => by have h2 : i = r := h2; exact .inl h2)
 replace H0 := H0.k1 K43 (by omega)
 replace H4 := H4.k1 K43 (by omega)
 replace H40 := H40.k1 K43 (by omega)
 replace hE := Ents.keep hE K43 hrT
 replace hM := LogE.keep hM K43 hrT
 refine ⟨(K43.mono (fun i _ h => by have h : i = r := h; show i = r ∨ i = mb29; omega)), ?_⟩
 refine Dr.strong (S' := (fun wz => Keeps (fun i => i = r ∨ i = mb29) w41 wz)) ((Keeps.refl w41).mono (fun _ _ h => h.elim)) (fun wz hx => K43.trans hx (fun i _ h => by have h : i = r := h; show i = r ∨ i = mb29; omega) (fun _ _ h => h)) ?_
 clear K43
 refine Dr.done (by kernel_rfl) ?_
 refine qs ?_
 refine qg ?_
 refine Ops.go (v := (ptr r)) (by kernel_rfl) (Runs.load (t := 29) (a := ⟨b1, 0, none⟩) (by kernel_rfl) (H4.loads (by kernel_rfl))) (d := (some 41)) (by kernel_rfl) rfl ?_
 refine Ops.call (by kernel_rfl) (d := (some 42)) (by kernel_rfl) (wait_calls _ r g (term + 1) 0 1 (-1) commit group 0 timeout (Value.map (some mb29)) pv H42) ?_
 rintro _ w45 ⟨rfl, K44, H46⟩
 refine ⟨_, _, rfl, rfl, ?_⟩
 replace K0 := K0.trans K44 (U := (fun i => i = r ∨ i = g ∨ ((Value.slice A l.length c)).ownBlock = some i)) (fun i h1 h2 => h2) (fun i h1 h2 => by have h2 : i = r := h2; exact .inl h2)
 replace H0 := H0.k1 K44 (by omega)
 replace H4 := H4.k1 K44 (by omega)
 replace H40 := H40.k1 K44 (by omega)
 replace hE := Ents.keep hE K44 hrT
 replace hM := LogE.keep hM K44 hrT
 clear K44
 refine od ?_
 refine qs ?_
 refine qs ?_
 refine qg ?_
 refine Ops.go (v := (ptr r)) (by kernel_rfl) (Runs.load (t := 29) (a := ⟨b1, 0, none⟩) (by kernel_rfl) (H4.loads (by kernel_rfl))) (d := (some 43)) (by kernel_rfl) rfl ?_
 refine Ops.call (by kernel_rfl) (d := (some 44)) (by kernel_rfl) (majority_calls _ r g (term + 1) 0 1 (-1) commit group 0 10 (Value.map (some mb29)) pv H46) ?_
 rintro _ w48 ⟨rfl, K47⟩
 refine ⟨_, _, rfl, rfl, ?_⟩
 replace K0 := K0.tn K47
 replace H0 := H0.keep K47 (fun h => h)
 replace H46 := H46.keep K47 (fun h => h)
 replace H4 := H4.keep K47 (fun h => h)
 replace H40 := H40.keep K47 (fun h => h)
 replace hE := Ents.keep0 hE K47
 replace hM := LogE.keep0 hM K47
 clear K47
 refine od ?_
 refine q_then (o := .tmp 44) (by kernel_rfl) rfl ?_
 refine qs ?_
 refine qg ?_
 refine Ops.go (v := (ptr r)) (by kernel_rfl) (Runs.load (t := 29) (a := ⟨b1, 0, none⟩) (by kernel_rfl) (H4.loads (by kernel_rfl))) (d := (some 45)) (by kernel_rfl) rfl ?_
 have hz00 := K0.size
 refine Ops.call (by kernel_rfl) (d := (some 46)) (by kernel_rfl) (lead_calls _ r g (term + 1) 0 1 (-1) commit group 0 10 (Value.map (some mb29)) pv T bs base old A c l H46 H0 hM hT (by omega) (by omega) (by omega) hrT (Nat.le_trans hbs K0.size) hBig hq (by omega)) ?_
 rintro _ w53 ⟨l49, A50, c51, T52, PA61, pc62, rfl, K54, H55, H56, hM57, hK59, hT60⟩
 have hE58 := hM57.ents
 have ot63 : ∀ i, T52 i → i ≠ g := fun i hi => (hT60 i hi).1
 have ot64 : ∀ i, ((Value.slice A50 l49.length c51)).ownBlock = some i → i ≠ g := fun i hi => ot63 i (hM57.ownT i hi)
 have ot65 : ∀ i, T52 i → i ≠ r := fun i hi => (hT60 i hi).2.1
 have ot66 : ∀ i, ((Value.slice A50 l49.length c51)).ownBlock = some i → i ≠ r := fun i hi => ot65 i (hM57.ownT i hi)
 have ot67 : ∀ i, T52 i → i ≠ b1 := fun i hi => by rcases (hT60 i hi).2.2 with h | h; (exact ot7 i h); (have := H4.lt; omega)
 have ot68 : ∀ i, ((Value.slice A50 l49.length c51)).ownBlock = some i → i ≠ b1 := fun i hi => ot67 i (hM57.ownT i hi)
 have ot69 : ∀ i, T52 i → i ≠ mb29 := fun i hi => by rcases (hT60 i hi).2.2 with h | h; (exact ot35 i h); (have := H40.lt; omega)
 have ot70 : ∀ i, ((Value.slice A50 l49.length c51)).ownBlock = some i → i ≠ mb29 := fun i hi => ot69 i (hM57.ownT i hi)
 have hn71 : l49.length = l.length + 1 := by have q := congrArg List.length hK59; simpa using q
 refine ⟨_, _, rfl, rfl, ?_⟩
 replace K0 := K0.trans K54 (U := (fun i => i = r ∨ i = g ∨ ((Value.slice A l.length c)).ownBlock = some i)) (fun i h1 h2 => h2) (fun i h1 h2 => by have h2 : i = r ∨ i = g ∨ ((Value.slice A l.length c)).ownBlock = some i := h2; rcases h2 with h2 | h2 | h2; (exact .inl h2); (exact .inr (.inl h2)); (exact .inr (.inr (h2))))
 replace H4 := H4.keep K54 (by intro h; change b1 = r ∨ b1 = g ∨ ((Value.slice A l.length c)).ownBlock = some b1 at h; rcases h with h | h | h; (omega); (omega); (have := ot8 b1 h; omega))
 replace H40 := H40.keep K54 (by intro h; change mb29 = r ∨ mb29 = g ∨ ((Value.slice A l.length c)).ownBlock = some mb29 at h; rcases h with h | h | h; (omega); (omega); (have := ot36 mb29 h; omega))
 clear hE
 clear hM
 clear K54
 have hbigl49 : BigK (l49.map EntP.key) := by rw [hK59]; exact BigK.app hBig (fun y hy => by rw [List.mem_singleton] at hy; subst hy; exact Nat.zero_le _)
 refine od ?_
 refine q_ret (by kernel_rfl) ?_
 refine ⟨(Value.tuple #[]), retv_none rfl, ?_⟩
 exact ⟨l49, A50, c51, T52, PA61, pc62, mb29, rfl, K0, H55, H56, hM57, hK59, fun i hi => ⟨ot63 i hi, ot65 i hi, by rcases (hT60 i hi).2.2 with h | h; (exact .inl h); (exact .inr (by have := hz00; omega))⟩⟩
end Go.Proofs.Ytnmpepjikfbpdaa
namespace Go.Proofs.Ytnmpepjikfbpdaa
open Go.Q Go.RowKit

theorem Tick_wait (w : World) (r g : Nat) (term voted role leader commit group elapsed timeout : Int) (vv pv : Value) (Hr : Has w r (rowL [(i64 term), (i64 voted), (i64 role), (i64 leader), (i64 commit), (i64 group), (i64 0), (i64 1), (ptr g), (i64 elapsed), (i64 timeout), (Value.slice none 0 0), vv, pv, (Value.pointer none), (Value.pointer none), (Value.bool false), (Value.slice none 0 0)] 84)) (hrole : role ≠ 2) (hel : 0 ≤ elapsed ∧ elapsed ≤ 1000) (he : elapsed + 1 < timeout) : Calls Try.prog 13 ⟨[(ptr r)]⟩ w (fun e w' => e = .returned (.slice none 0 0) ∧ Keeps (fun i => i = r) w w' ∧ Has w' r (rowL [(i64 term), (i64 voted), (i64 role), (i64 leader), (i64 commit), (i64 group), (i64 0), (i64 1), (ptr g), (i64 (elapsed + 1)), (i64 timeout), (Value.slice none 0 0), vv, pv, (Value.pointer none), (Value.pointer none), (Value.bool false), (Value.slice none 0 0)] 84)) := by
 have Hrl := Hr.lt
 have K0 : Keeps (fun i => i = r) w w := (Keeps.refl w).mono (fun _ _ h => h.elim)
 refine q_calls Try.func13 (by kernel_rfl) (by kernel_rfl) ?_
 refine qs ?_
 refine qg ?_
 refine og 1 [(0, (ptr r)), (2, (Value.slice none 0 0))] 1 ?_
 refine od ?_
 refine qs ?_
 refine qs ?_
 refine qg ?_
 refine og 2 [(0, (ptr r)), (2, (Value.slice none 0 0)), (4, (Value.bool false))] 2 ?_
 refine od ?_
 refine q_else (o := .tmp 4) (by kernel_rfl) rfl ?_
 refine q_skip (by kernel_rfl) ?_
 refine qs ?_
 refine qs ?_
 refine qg ?_
 refine og 4 [(0, (ptr r)), (2, (Value.slice none 0 0)), (8, (Value.pointer (some ⟨r, 2, none⟩)))] 4 ?_
 refine Ops.go (v := (i64 role)) (by kernel_rfl) (Runs.load (t := 3) (a := ⟨r, 2, none⟩) (by kernel_rfl) (Hr.loads (by kernel_rfl))) (d := (some 9)) (by kernel_rfl) rfl ?_
 refine og 1 [(0, (ptr r)), (2, (Value.slice none 0 0)), (10, (Value.bool (role == 2)))] 6 ?_
 refine od ?_
 have h1 : (role == 2) = false := beq_eq_false_iff_ne.2 hrole
 rw [h1]
 refine q_else (o := .tmp 10) (by kernel_rfl) rfl ?_
 refine q_skip (by kernel_rfl) ?_
 refine qs ?_
 refine qs ?_
 refine qg ?_
 refine og 3 [(0, (ptr r)), (2, (Value.slice none 0 0)), (17, (ptr r)), (19, (Value.pointer (some ⟨r, 9, none⟩)))] 3 ?_
 refine Ops.go (v := (i64 elapsed)) (by kernel_rfl) (Runs.load (t := 3) (a := ⟨r, 9, none⟩) (by kernel_rfl) (Hr.loads (by kernel_rfl))) (d := (some 20)) (by kernel_rfl) rfl ?_
 refine og 1 [(0, (ptr r)), (2, (Value.slice none 0 0)), (17, (ptr r)), (21, (i64 (IntKind.i64.wrap (elapsed + 1))))] 5 ?_
 have e2 : IntKind.i64.wrap (elapsed + 1) = elapsed + 1 := wrap_i64 (by omega) (by omega)
 rw [e2]
 refine og 2 [(0, (ptr r)), (2, (Value.slice none 0 0)), (21, (i64 (elapsed + 1))), (23, (Value.pointer (some ⟨r, 9, none⟩)))] 7 ?_
 refine Ops.put (t := 3) (b := r) (off := 9) (v := (i64 (elapsed + 1))) (ys := [(i64 term), (i64 voted), (i64 role), (i64 leader), (i64 commit), (i64 group), (i64 0), (i64 1), (ptr g), (i64 (elapsed + 1)), (i64 timeout), (Value.slice none 0 0), vv, pv, (Value.pointer none), (Value.pointer none), (Value.bool false), (Value.slice none 0 0)]) (by kernel_rfl) (by kernel_rfl) Hr (by kernel_rfl) (d := none) (by kernel_rfl) rfl (fun w3 H4 K5 => ?_)
 clear Hr
 replace K0 := K0.t1 K5 (fun _ => rfl)
 clear K5
 refine od ?_
 refine qs ?_
 refine q_draw (fun wz => Keeps none_ w3 wz) 17 (by kernel_rfl) (by kernel_rfl) (by kernel_rfl) (fun w6 K7 _ _ => ⟨K7, ?_⟩)
 replace K0 := K0.tn K7
 replace H4 := H4.keep K7 (fun h => h)
 refine Dr.strong (S' := (fun wz => Keeps none_ w6 wz)) (Keeps.refl w6) (fun wz hx => K7.trans hx (fun i _ h => h) (fun _ _ h => h)) ?_
 clear K7
 refine Dr.takes (fuel' := 14) (is' := _) [0, 1, 2] [(0, (ptr r)), (2, (Value.slice none 0 0)), (26, (Value.pointer (some ⟨r, 9, none⟩)))] (by kernel_rfl) rfl (by kernel_rfl) ?_
 refine Dr.take (i := 3) (v := (i64 (elapsed + 1))) (by kernel_rfl) (by kernel_rfl) (fun wz hS => Runs.load (t := 3) (a := ⟨r, 9, none⟩) (by kernel_rfl) ((H4.keep hS (fun h => h)).loads (by kernel_rfl))) (d := (some 27)) (by kernel_rfl) rfl ?_
 refine Dr.takes (fuel' := 10) (is' := _) [4, 5, 6] [(0, (ptr r)), (2, (Value.slice none 0 0)), (27, (i64 (elapsed + 1))), (30, (Value.pointer (some ⟨r, 10, none⟩)))] (by kernel_rfl) rfl (by kernel_rfl) ?_
 refine Dr.take (i := 7) (v := (i64 timeout)) (by kernel_rfl) (by kernel_rfl) (fun wz hS => Runs.load (t := 3) (a := ⟨r, 10, none⟩) (by kernel_rfl) ((H4.keep hS (fun h => h)).loads (by kernel_rfl))) (d := (some 31)) (by kernel_rfl) rfl ?_
 refine Dr.takes (fuel' := 7) (is' := _) [8, 9] [(0, (ptr r)), (2, (Value.slice none 0 0)), (33, (Value.bool (decide (elapsed + 1 ≥ timeout))))] (by kernel_rfl) rfl (by kernel_rfl) ?_
 have h8 : (decide (elapsed + 1 ≥ timeout)) = false := decide_eq_false (by omega)
 rw [h8]
 refine Dr.takes (fuel' := 0) (is' := _) [10, 11, 12, 13, 14, 15, 16] [(0, (ptr r)), (2, (Value.slice none 0 0)), (40, (Value.bool false))] (by kernel_rfl) rfl (by kernel_rfl) ?_
 refine Dr.done (by kernel_rfl) ?_
 refine q_else (o := .tmp 40) (by kernel_rfl) rfl ?_
 refine q_skip (by kernel_rfl) ?_
 refine qs ?_
 refine qg ?_
 refine og 1 [(2, (Value.slice none 0 0)), (43, (ptr r))] 1 ?_
 refine Ops.call (by kernel_rfl) (d := (some 44)) (by kernel_rfl) (flush_calls _ r g term voted role leader commit group (elapsed + 1) timeout vv pv H4) ?_
 rintro _ w10 ⟨rfl, K9, H11⟩
 refine ⟨_, _, rfl, rfl, ?_⟩
 replace K0 := K0.t1 K9 (fun _ => rfl)
 clear K9
 refine og 1 [(2, (Value.slice none 0 0))] 3 ?_
 refine od ?_
 refine q_ret (by kernel_rfl) ?_
 refine ⟨(Value.slice none 0 0), retv_tmp rfl rfl, ?_⟩
 exact ⟨rfl, K0, H11⟩

set_option maxHeartbeats 2000000 in
theorem Tick_lead (w : World) (r g : Nat) (term voted role leader commit group elapsed timeout : Int) (vv pv : Value) (T : Nat → Prop) (bs : Nat) (base old : Int) (A : Option Addr) (c : Nat) (l : List EntP) (Hr : Has w r (rowL [(i64 term), (i64 voted), (i64 role), (i64 leader), (i64 commit), (i64 group), (i64 0), (i64 1), (ptr g), (i64 elapsed), (i64 timeout), (Value.slice none 0 0), vv, pv, (Value.pointer none), (Value.pointer none), (Value.bool false), (Value.slice none 0 0)] 84)) (H0 : Has w g (rowL [i64 base, i64 old, .slice A l.length c] 78)) (hM : LogE w bs 43 T (.slice A l.length c) l) (hT : ∀ i, T i → i ≠ g) (hB : 0 ≤ base ∧ base ≤ 2305843009213693952) (hL : l.length ≤ 4096) (hrg : r ≠ g) (hrT : ∀ i, T i → i ≠ r) (hbs : bs ≤ w.heap.size) (hBig : BigK (l.map EntP.key)) (hrole : role ≠ 2) (hel : 0 ≤ elapsed ∧ elapsed ≤ 1000) (he : timeout ≤ elapsed + 1) (hq : appE base old (l.map EntP.key) [(term + 1, [])] = 0) (hl1 : l.length + 1 ≤ 4096) (ht : 0 ≤ term ∧ term < 1152921504606846976) : Calls Try.prog 13 ⟨[(ptr r)]⟩ w (fun e w' => ∃ l' A' c' T' PA pc mb, e = .returned (.slice none 0 0) ∧ Keeps (fun i => i = r ∨ i = g ∨ ((Value.slice A l.length c)).ownBlock = some i) w w' ∧ Has w' r (rowL [(i64 (term + 1)), (i64 0), (i64 2), (i64 0), (i64 (agC base old (term + 1) commit ((l.map EntP.key) ++ [(term + 1, [])]))), (i64 group), (i64 0), (i64 1), (ptr g), (i64 0), (i64 10), (Value.slice none 0 0), (Value.map (some mb)), (Value.slice PA 1 pc), (Value.pointer none), (Value.pointer none), (Value.bool false), (Value.slice none 0 0)] 84) ∧ Has w' g (rowL [i64 base, i64 old, .slice A' l'.length c'] 78) ∧ LogE w' bs 43 T' (.slice A' l'.length c') l' ∧ l'.map EntP.key = ((l.map EntP.key) ++ [(term + 1, [])]) ∧ ∀ i, T' i → i ≠ g ∧ i ≠ r ∧ (T i ∨ w.heap.size ≤ i)) := by
 have hE := hM.ents
 have hvr : ∀ i, ((Value.slice A l.length c)).ownBlock = some i → i ≠ r := fun i hi => hrT i (hM.ownT i hi)
 have hvg : ∀ i, ((Value.slice A l.length c)).ownBlock = some i → i ≠ g := fun i hi => hT i (hM.ownT i hi)
 have hcap := Ents.len hE
 have Hg := H0.lt
 have Hrl := Hr.lt
 have K0 : Keeps (fun i => i = r ∨ i = g ∨ ((Value.slice A l.length c)).ownBlock = some i) w w := (Keeps.refl w).mono (fun _ _ h => h.elim)
 refine q_calls Try.func13 (by kernel_rfl) (by kernel_rfl) ?_
 refine qs ?_
 refine qg ?_
 refine og 1 [(0, (ptr r)), (2, (Value.slice none 0 0))] 1 ?_
 refine od ?_
 refine qs ?_
 refine qs ?_
 refine qg ?_
 refine og 2 [(0, (ptr r)), (2, (Value.slice none 0 0)), (4, (Value.bool false))] 2 ?_
 refine od ?_
 refine q_else (o := .tmp 4) (by kernel_rfl) rfl ?_
 refine q_skip (by kernel_rfl) ?_
 refine qs ?_
 refine qs ?_
 refine qg ?_
 refine og 4 [(0, (ptr r)), (2, (Value.slice none 0 0)), (8, (Value.pointer (some ⟨r, 2, none⟩)))] 4 ?_
 refine Ops.go (v := (i64 role)) (by kernel_rfl) (Runs.load (t := 3) (a := ⟨r, 2, none⟩) (by kernel_rfl) (Hr.loads (by kernel_rfl))) (d := (some 9)) (by kernel_rfl) rfl ?_
 refine og 1 [(0, (ptr r)), (2, (Value.slice none 0 0)), (10, (Value.bool (role == 2)))] 6 ?_
 refine od ?_
 have h1 : (role == 2) = false := beq_eq_false_iff_ne.2 hrole
 rw [h1]
 refine q_else (o := .tmp 10) (by kernel_rfl) rfl ?_
 refine q_skip (by kernel_rfl) ?_
 refine qs ?_
 refine qs ?_
 refine qg ?_
 refine og 3 [(0, (ptr r)), (2, (Value.slice none 0 0)), (17, (ptr r)), (19, (Value.pointer (some ⟨r, 9, none⟩)))] 3 ?_
 refine Ops.go (v := (i64 elapsed)) (by kernel_rfl) (Runs.load (t := 3) (a := ⟨r, 9, none⟩) (by kernel_rfl) (Hr.loads (by kernel_rfl))) (d := (some 20)) (by kernel_rfl) rfl ?_
 refine og 1 [(0, (ptr r)), (2, (Value.slice none 0 0)), (17, (ptr r)), (21, (i64 (IntKind.i64.wrap (elapsed + 1))))] 5 ?_
 have e2 : IntKind.i64.wrap (elapsed + 1) = elapsed + 1 := wrap_i64 (by omega) (by omega)
 rw [e2]
 refine og 2 [(0, (ptr r)), (2, (Value.slice none 0 0)), (21, (i64 (elapsed + 1))), (23, (Value.pointer (some ⟨r, 9, none⟩)))] 7 ?_
 refine Ops.put (t := 3) (b := r) (off := 9) (v := (i64 (elapsed + 1))) (ys := [(i64 term), (i64 voted), (i64 role), (i64 leader), (i64 commit), (i64 group), (i64 0), (i64 1), (ptr g), (i64 (elapsed + 1)), (i64 timeout), (Value.slice none 0 0), vv, pv, (Value.pointer none), (Value.pointer none), (Value.bool false), (Value.slice none 0 0)]) (by kernel_rfl) (by kernel_rfl) Hr (by kernel_rfl) (d := none) (by kernel_rfl) rfl (fun w3 H4 K5 => ?_)
 clear Hr
 replace K0 := K0.trans K5 (U := (fun i => i = r ∨ i = g ∨ ((Value.slice A l.length c)).ownBlock = some i)) (fun i h1 h2 => h2) (fun i h1 h2 => by have h2 : i = r := h2; exact .inl h2)
 replace H0 := H0.k1 K5 (by omega)
 replace hE := Ents.keep hE K5 hrT
 replace hM := LogE.keep hM K5 hrT
 clear K5
 refine od ?_
 refine qs ?_
 refine q_draw (fun wz => Keeps none_ w3 wz) 17 (by kernel_rfl) (by kernel_rfl) (by kernel_rfl) (fun w6 K7 _ _ => ⟨K7, ?_⟩)
 replace K0 := K0.tn K7
 replace H0 := H0.keep K7 (fun h => h)
 replace H4 := H4.keep K7 (fun h => h)
 replace hE := Ents.keep0 hE K7
 replace hM := LogE.keep0 hM K7
 refine Dr.strong (S' := (fun wz => Keeps none_ w6 wz)) (Keeps.refl w6) (fun wz hx => K7.trans hx (fun i _ h => h) (fun _ _ h => h)) ?_
 clear K7
 refine Dr.takes (fuel' := 14) (is' := _) [0, 1, 2] [(0, (ptr r)), (2, (Value.slice none 0 0)), (26, (Value.pointer (some ⟨r, 9, none⟩)))] (by kernel_rfl) rfl (by kernel_rfl) ?_
 refine Dr.take (i := 3) (v := (i64 (elapsed + 1))) (by kernel_rfl) (by kernel_rfl) (fun wz hS => Runs.load (t := 3) (a := ⟨r, 9, none⟩) (by kernel_rfl) ((H4.keep hS (fun h => h)).loads (by kernel_rfl))) (d := (some 27)) (by kernel_rfl) rfl ?_
 refine Dr.takes (fuel' := 10) (is' := _) [4, 5, 6] [(0, (ptr r)), (2, (Value.slice none 0 0)), (27, (i64 (elapsed + 1))), (30, (Value.pointer (some ⟨r, 10, none⟩)))] (by kernel_rfl) rfl (by kernel_rfl) ?_
 refine Dr.take (i := 7) (v := (i64 timeout)) (by kernel_rfl) (by kernel_rfl) (fun wz hS => Runs.load (t := 3) (a := ⟨r, 10, none⟩) (by kernel_rfl) ((H4.keep hS (fun h => h)).loads (by kernel_rfl))) (d := (some 31)) (by kernel_rfl) rfl ?_
 refine Dr.takes (fuel' := 7) (is' := _) [8, 9] [(0, (ptr r)), (2, (Value.slice none 0 0)), (33, (Value.bool (decide (elapsed + 1 ≥ timeout))))] (by kernel_rfl) rfl (by kernel_rfl) ?_
 have h8 : (decide (elapsed + 1 ≥ timeout)) = true := decide_eq_true (by omega)
 rw [h8]
 refine Dr.takes (fuel' := 3) (is' := _) [10, 11, 12, 13] [(0, (ptr r)), (2, (Value.slice none 0 0)), (33, (Value.bool true)), (37, (ptr r))] (by kernel_rfl) rfl (by kernel_rfl) ?_
 refine Dr.take (i := 14) (v := (i64 term)) (by kernel_rfl) (by kernel_rfl) (fun wz hS => Runs.load (t := 2) (a := ⟨r, 0, none⟩) (by kernel_rfl) ((H4.keep hS (fun h => h)).loads (by kernel_rfl))) (d := (some 38)) (by kernel_rfl) rfl ?_
 refine Dr.takes (fuel' := 0) (is' := _) [15, 16] [(0, (ptr r)), (2, (Value.slice none 0 0)), (40, (Value.bool (decide (term < 1152921504606846976))))] (by kernel_rfl) rfl (by kernel_rfl) ?_
 refine Dr.done (by kernel_rfl) ?_
 have h9 : (decide (term < 1152921504606846976)) = true := decide_eq_true (by omega)
 rw [h9]
 refine q_then (o := .tmp 40) (by kernel_rfl) rfl ?_
 refine qg ?_
 refine og 1 [(0, (ptr r)), (2, (Value.slice none 0 0)), (41, (ptr r))] 1 ?_
 have hz00 := K0.size
 refine Ops.call (by kernel_rfl) (d := (some 42)) (by kernel_rfl) (elect_calls _ r g term voted role leader commit group (elapsed + 1) timeout vv pv T bs base old A c l H4 H0 hM hT (by omega) (by omega) (by omega) hrT (Nat.le_trans hbs K0.size) hBig hq (by omega) (by omega)) ?_
 rintro _ w14 ⟨l10, A11, c12, T13, PA22, pc23, mb24, rfl, K15, H16, H17, hM18, hK20, hT21⟩
 have hE19 := hM18.ents
 have ot25 : ∀ i, T13 i → i ≠ g := fun i hi => (hT21 i hi).1
 have ot26 : ∀ i, ((Value.slice A11 l10.length c12)).ownBlock = some i → i ≠ g := fun i hi => ot25 i (hM18.ownT i hi)
 have ot27 : ∀ i, T13 i → i ≠ r := fun i hi => (hT21 i hi).2.1
 have ot28 : ∀ i, ((Value.slice A11 l10.length c12)).ownBlock = some i → i ≠ r := fun i hi => ot27 i (hM18.ownT i hi)
 have hn29 : l10.length = l.length + 1 := by have q := congrArg List.length hK20; simpa using q
 refine ⟨_, _, rfl, rfl, ?_⟩
 replace K0 := K0.trans K15 (U := (fun i => i = r ∨ i = g ∨ ((Value.slice A l.length c)).ownBlock = some i)) (fun i h1 h2 => h2) (fun i h1 h2 => by have h2 : i = r ∨ i = g ∨ ((Value.slice A l.length c)).ownBlock = some i := h2; rcases h2 with h2 | h2 | h2; (exact .inl h2); (exact .inr (.inl h2)); (exact .inr (.inr (h2))))
 clear hE
 clear hM
 clear K15
 have hbigl10 : BigK (l10.map EntP.key) := by rw [hK20]; exact BigK.app hBig (fun y hy => by rw [List.mem_singleton] at hy; subst hy; exact Nat.zero_le _)
 refine od ?_
 refine qs ?_
 refine qg ?_
 refine og 1 [(2, (Value.slice none 0 0)), (43, (ptr r))] 1 ?_
 refine Ops.call (by kernel_rfl) (d := (some 44)) (by kernel_rfl) (flush_calls _ r g (term + 1) 0 2 0 (agC base old (term + 1) commit ((l.map EntP.key) ++ [((term + 1), [])])) group 0 10 (Value.map (some mb24)) (Value.slice PA22 1 pc23) H16) ?_
 rintro _ w31 ⟨rfl, K30, H32⟩
 refine ⟨_, _, rfl, rfl, ?_⟩
 replace K0 := K0.trans K30 (U := (fun i => i = r ∨ i = g ∨ ((Value.slice A l.length c)).ownBlock = some i)) (fun i h1 h2 => h2) (fun i h1 h2 => by have h2 : i = r := h2; exact .inl h2)
 replace H17 := H17.k1 K30 (by omega)
 replace hE19 := Ents.keep hE19 K30 ot27
 replace hM18 := LogE.keep hM18 K30 ot27
 clear K30
 refine og 1 [(2, (Value.slice none 0 0))] 3 ?_
 refine od ?_
 refine q_ret (by kernel_rfl) ?_
 refine ⟨(Value.slice none 0 0), retv_tmp rfl rfl, ?_⟩
 exact ⟨l10, A11, c12, T13, PA22, pc23, mb24, rfl, K0, H32, H17, hM18, hK20, fun i hi => ⟨ot25 i hi, ot27 i hi, by rcases (hT21 i hi).2.2 with h | h; (exact .inl h); (exact .inr (by have := hz00; omega))⟩⟩
end Go.Proofs.Ytnmpepjikfbpdaa
namespace Go.Proofs.Ytnmpepjikfbpdaa
open Go.Q Go.RowKit

set_option maxHeartbeats 2000000 in
theorem Propose_calls (w : World) (r g : Nat) (term voted role leader commit group elapsed timeout : Int) (vv pv : Value) (T : Nat → Prop) (bs : Nat) (base old : Int) (A : Option Addr) (c : Nat) (l : List EntP) (CA : Option Addr) (cc : Nat) (cmd : List UInt8) (Hr : Has w r (rowL [(i64 term), (i64 voted), (i64 role), (i64 leader), (i64 commit), (i64 group), (i64 0), (i64 1), (ptr g), (i64 elapsed), (i64 timeout), (Value.slice none 0 0), vv, pv, (Value.pointer none), (Value.pointer none), (Value.bool false), (Value.slice none 0 0)] 84)) (H0 : Has w g (rowL [i64 base, i64 old, .slice A l.length c] 78)) (hM : LogE w bs 43 T (.slice A l.length c) l) (hT : ∀ i, T i → i ≠ g) (hB : 0 ≤ base ∧ base ≤ 2305843009213693952) (hL : l.length ≤ 4096) (hrg : r ≠ g) (hrT : ∀ i, T i → i ≠ r) (hbs : bs ≤ w.heap.size) (hBig : BigK (l.map EntP.key)) (hrole : role = 2) (hC : RdB w (.slice CA cmd.length cc) cmd) (hcl : cmd.length ≤ 1900) (hCl : cmd ≠ [] → ∀ i, ((Value.slice CA cmd.length cc)).ownBlock = some i → i < w.heap.size) (hCg : cmd ≠ [] → ∀ i, ((Value.slice CA cmd.length cc)).ownBlock = some i → i ≠ g) (hCr : cmd ≠ [] → ∀ i, ((Value.slice CA cmd.length cc)).ownBlock = some i → i ≠ r) (hCo : cmd ≠ [] → ∀ i, ((Value.slice CA cmd.length cc)).ownBlock = some i → ((Value.slice A l.length c)).ownBlock = some i → False) (hq : appE base old (l.map EntP.key) [(term, cmd)] = 0) (hl1 : l.length + 1 ≤ 4096) : Calls Try.prog 15 ⟨[(ptr r), (Value.slice CA cmd.length cc)]⟩ w (fun e w' => ∃ l' A' c' T', e = .returned (.tuple #[i64 (base + ((l'.length : Nat) : Int)), .slice none 0 0, i64 0]) ∧ Keeps (fun i => i = r ∨ i = g ∨ ((Value.slice A l.length c)).ownBlock = some i) w w' ∧ Has w' r (rowL [(i64 term), (i64 voted), (i64 role), (i64 leader), (i64 (agC base old term commit ((l.map EntP.key) ++ [(term, cmd)]))), (i64 group), (i64 0), (i64 1), (ptr g), (i64 elapsed), (i64 timeout), (Value.slice none 0 0), vv, pv, (Value.pointer none), (Value.pointer none), (Value.bool false), (Value.slice none 0 0)] 84) ∧ Has w' g (rowL [i64 base, i64 old, .slice A' l'.length c'] 78) ∧ LogE w' bs 43 T' (.slice A' l'.length c') l' ∧ l'.map EntP.key = ((l.map EntP.key) ++ [(term, cmd)]) ∧ ∀ i, T' i → i ≠ g ∧ i ≠ r ∧ (T i ∨ w.heap.size ≤ i)) := by
 have hE := hM.ents
 have hvr : ∀ i, ((Value.slice A l.length c)).ownBlock = some i → i ≠ r := fun i hi => hrT i (hM.ownT i hi)
 have hvg : ∀ i, ((Value.slice A l.length c)).ownBlock = some i → i ≠ g := fun i hi => hT i (hM.ownT i hi)
 have hcap := Ents.len hE
 have Hg := H0.lt
 have Hrl := Hr.lt
 have K0 : Keeps (fun i => i = r ∨ i = g ∨ ((Value.slice A l.length c)).ownBlock = some i) w w := (Keeps.refl w).mono (fun _ _ h => h.elim)
 refine q_calls Try.func15 (by kernel_rfl) (by kernel_rfl) ?_
 refine qs ?_
 refine qg ?_
 refine og 3 [(0, (ptr r)), (1, (Value.slice CA cmd.length cc)), (4, (i64 0)), (5, (Value.slice none 0 0)), (6, (i64 0))] 3 ?_
 refine od ?_
 refine qs ?_
 refine q_block (id := 0) (by kernel_rfl) ?_
 refine qs ?_
 refine qg ?_
 refine og 3 [(0, (ptr r)), (1, (Value.slice CA cmd.length cc)), (4, (i64 0)), (5, (Value.slice none 0 0)), (6, (i64 0)), (10, (Value.bool false))] 3 ?_
 refine od ?_
 refine q_else (o := .tmp 10) (by kernel_rfl) rfl ?_
 refine qs ?_
 refine qg ?_
 refine og 4 [(0, (ptr r)), (1, (Value.slice CA cmd.length cc)), (4, (i64 0)), (5, (Value.slice none 0 0)), (6, (i64 0)), (17, (Value.pointer (some ⟨r, 2, none⟩)))] 4 ?_
 refine Ops.go (v := (i64 role)) (by kernel_rfl) (Runs.load (t := 3) (a := ⟨r, 2, none⟩) (by kernel_rfl) (Hr.loads (by kernel_rfl))) (d := (some 18)) (by kernel_rfl) rfl ?_
 refine og 2 [(0, (ptr r)), (1, (Value.slice CA cmd.length cc)), (4, (i64 0)), (5, (Value.slice none 0 0)), (6, (i64 0)), (13, (Value.bool (role != 2)))] 7 ?_
 refine od ?_
 have h1 : (role != 2) = false := bne_f hrole
 rw [h1]
 refine q_else (o := .tmp 13) (by kernel_rfl) rfl ?_
 refine qs ?_
 refine qg ?_
 refine og 4 [(0, (ptr r)), (1, (Value.slice CA cmd.length cc)), (4, (i64 0)), (5, (Value.slice none 0 0)), (6, (i64 0)), (20, (Value.bool (decide (((cmd.length : Nat) : Int) > 1900))))] 4 ?_
 refine od ?_
 have h2 : (decide (((cmd.length : Nat) : Int) > 1900)) = false := decide_eq_false (by omega)
 rw [h2]
 refine q_else (o := .tmp 20) (by kernel_rfl) rfl ?_
 refine q_skip (by kernel_rfl) ?_
 refine qs ?_
 refine qs ?_
 refine q_draw (fun wz => Keeps (fun i => ((Value.slice A l.length c)).ownBlock = some i ∨ i = g) w wz) 14 (by kernel_rfl) (by kernel_rfl) (by kernel_rfl) (fun w3 K4 _ _ => ⟨(K4.mono (fun _ _ h => h.elim)), ?_⟩)
 replace K0 := K0.tn K4
 replace H0 := H0.keep K4 (fun h => h)
 replace Hr := Hr.keep K4 (fun h => h)
 replace hE := Ents.keep0 hE K4
 replace hM := LogE.keep0 hM K4
 refine Dr.strong (S' := (fun wz => Keeps (fun i => ((Value.slice A l.length c)).ownBlock = some i ∨ i = g) w3 wz)) ((Keeps.refl w3).mono (fun _ _ h => h.elim)) (fun wz hx => K4.trans hx (fun i _ h => h.elim) (fun _ _ h => h)) ?_
 clear K4
 refine Dr.takes (fuel' := 11) (is' := _) [0, 1, 2] [(0, (ptr r)), (1, (Value.slice CA cmd.length cc)), (4, (i64 0)), (5, (Value.slice none 0 0)), (6, (i64 0)), (26, (Value.pointer (some ⟨r, 8, none⟩)))] (by kernel_rfl) rfl (by kernel_rfl) ?_
 refine Dr.take (i := 3) (v := (ptr g)) (by kernel_rfl) (by kernel_rfl) (fun wz hS => Runs.load (t := 24) (a := ⟨r, 8, none⟩) (by kernel_rfl) ((Hr.keep hS (by intro h; change ((Value.slice A l.length c)).ownBlock = some r ∨ r = g at h; rcases h with h | h; (have := hvr r h; omega); (omega))).loads (by kernel_rfl))) (d := (some 27)) (by kernel_rfl) rfl ?_
 refine Dr.takes (fuel' := 6) (is' := _) [4, 5, 6, 7] [(0, (ptr r)), (1, (Value.slice CA cmd.length cc)), (4, (i64 0)), (5, (Value.slice none 0 0)), (6, (i64 0)), (27, (ptr g)), (31, (ptr r))] (by kernel_rfl) rfl (by kernel_rfl) ?_
 refine Dr.take (i := 8) (v := (i64 term)) (by kernel_rfl) (by kernel_rfl) (fun wz hS => Runs.load (t := 2) (a := ⟨r, 0, none⟩) (by kernel_rfl) ((Hr.keep hS (by intro h; change ((Value.slice A l.length c)).ownBlock = some r ∨ r = g at h; rcases h with h | h; (have := hvr r h; omega); (omega))).loads (by kernel_rfl))) (d := (some 32)) (by kernel_rfl) rfl ?_
 refine Dr.takes (fuel' := 3) (is' := _) [9, 10] [(0, (ptr r)), (4, (i64 0)), (5, (Value.slice none 0 0)), (6, (i64 0)), (27, (ptr g)), (34, (agg [(i64 term), (Value.slice CA cmd.length cc)]))] (by kernel_rfl) rfl (by kernel_rfl) ?_
 refine Dr.new (i := 11) (o := rowL [(i64 term), (Value.slice CA cmd.length cc)] 43) (V := fun b => (Value.slice (some ⟨b, 0, none⟩) 1 1)) (by kernel_rfl) (by kernel_rfl) (d := (some 35)) (by kernel_rfl) (fun b => rfl) (fun b5 w6 hb7 H8 K9 hs10 => ?_)
 have lb5g : g < b5 := by have := H0.lt; omega
 have lb5r : r < b5 := by have := Hr.lt; omega
 have nb5 : w.heap.size ≤ b5 := by have := K0.size; omega
 have ot11 : ∀ i, T i → i ≠ b5 := fun i hi => by have := Ents.lt hE i hi; omega
 have ot12 : ∀ i, ((Value.slice A l.length c)).ownBlock = some i → i ≠ b5 := fun i hi => ot11 i (hM.ownT i hi)
 replace K0 := K0.tn K9
 replace H0 := H0.keep K9 (fun h => h)
 replace Hr := Hr.keep K9 (fun h => h)
 replace hE := Ents.keep0 hE K9
 replace hM := LogE.keep0 hM K9
 refine ⟨(K9.mono (fun _ _ h => h.elim)), ?_⟩
 refine Dr.strong (S' := (fun wz => Keeps (fun i => ((Value.slice A l.length c)).ownBlock = some i ∨ i = g ∨ i = b5) w6 wz)) ((Keeps.refl w6).mono (fun _ _ h => h.elim)) (fun wz hx => K9.trans hx (U := (fun i => ((Value.slice A l.length c)).ownBlock = some i ∨ i = g)) (fun i _ h => h.elim) (fun i hi h => by have h : ((Value.slice A l.length c)).ownBlock = some i ∨ i = g ∨ i = b5 := h; show ((Value.slice A l.length c)).ownBlock = some i ∨ i = g; rcases h with h | h | h; (exact (.inl h)); (exact (.inr h)); (exfalso; omega))) ?_
 clear K9 hs10
 have hz00 := K0.size
 have hY13 : Ents w6 (fun i => i = b5 ∨ ((cmd : List UInt8) ≠ [] ∧ ((Value.slice CA cmd.length cc)).ownBlock = some i)) (Value.slice (some ⟨b5, 0, none⟩) 1 1) [(⟨term, CA, cc, cmd⟩ : EntP)] := Ents.lit H8 (RdB.keepg hC K0 (fun hb i hi h => by rcases h with h | h | h; (exact hCr hb i hi h); (exact hCg hb i hi h); (exact hCo hb i hi h))) (fun hb i hi => (fun hb i hi => Nat.lt_of_lt_of_le (hCl hb i hi) hz00) hb i hi)
 have hU14 : ∀ i, (fun i => i = b5 ∨ ((cmd : List UInt8) ≠ [] ∧ ((Value.slice CA cmd.length cc)).ownBlock = some i)) i → i ≠ g := fun i hi => by rcases hi with h | ⟨hb, h⟩; (omega); (have := (hCg hb) i h; omega)
 refine Dr.call (i := 12) (by kernel_rfl) (by kernel_rfl) (d := (some 36)) (by kernel_rfl) (fun _ => Append_grow _ T g bs base old A c l (fun i => i = b5 ∨ ((cmd : List UInt8) ≠ [] ∧ ((Value.slice CA cmd.length cc)).ownBlock = some i)) (some ⟨b5, 0, none⟩) 1 [(⟨term, CA, cc, cmd⟩ : EntP)] H0 hM hT (by omega) (by first | omega | decide) (Nat.le_trans hbs K0.size) hY13 hU14 hBig (fun y hy => by rw [List.map_singleton, List.mem_singleton] at hy; subst hy; (show cmd.length ≤ _; omega)) (by show 1 * 32 ≤ _; decide) hq) ?_
 rintro _ w19 ⟨l15, A16, c17, T18, rfl, K20, H21, hM22, hK24, hT25⟩
 have hE23 := hM22.ents
 have ot26 : ∀ i, T18 i → i ≠ g := fun i hi => (hT25 i hi).1
 have ot27 : ∀ i, ((Value.slice A16 l15.length c17)).ownBlock = some i → i ≠ g := fun i hi => ot26 i (hM22.ownT i hi)
 have ot28 : ∀ i, T18 i → i ≠ r := fun i hi => by rcases (hT25 i hi).2 with h | h; (exact hrT i h); (have := Hr.lt; omega)
 have ot29 : ∀ i, ((Value.slice A16 l15.length c17)).ownBlock = some i → i ≠ r := fun i hi => ot28 i (hM22.ownT i hi)
 have ot30 : ∀ i, T18 i → i ≠ b5 := fun i hi => by rcases (hT25 i hi).2 with h | h; (exact ot11 i h); (have := H8.lt; omega)
 have ot31 : ∀ i, ((Value.slice A16 l15.length c17)).ownBlock = some i → i ≠ b5 := fun i hi => ot30 i (hM22.ownT i hi)
 have hn32 := keys_len2 hK24
 have hz33 := K0.size
 have hn34 : l15.length = l.length + 1 := by have q := congrArg List.length hK24; simpa using q
 replace K0 := K0.trans K20 (U := (fun i => i = r ∨ i = g ∨ ((Value.slice A l.length c)).ownBlock = some i)) (fun i h1 h2 => h2) (fun i h1 h2 => by have h2 : i = g ∨ ((Value.slice A l.length c)).ownBlock = some i := h2; rcases h2 with h2 | h2; (exact .inr (.inl h2)); (exact .inr (.inr (h2))))
 replace Hr := Hr.keep K20 (by intro h; change r = g ∨ ((Value.slice A l.length c)).ownBlock = some r at h; rcases h with h | h; (omega); (have := hvr r h; omega))
 replace H8 := H8.keep K20 (by intro h; change b5 = g ∨ ((Value.slice A l.length c)).ownBlock = some b5 at h; rcases h with h | h; (omega); (have := ot12 b5 h; omega))
 clear hE
 clear hM
 refine ⟨_, _, rfl, rfl, (K20.mono (fun i _ h => by have h : i = g ∨ ((Value.slice A l.length c)).ownBlock = some i := h; show ((Value.slice A l.length c)).ownBlock = some i ∨ i = g ∨ i = b5; rcases h with h | h; (exact (.inr (.inl h))); (exact (.inl h)))), ?_⟩
 refine Dr.strong (S' := (fun wz => Keeps (fun i => ((Value.slice A l.length c)).ownBlock = some i ∨ i = g ∨ i = b5) w19 wz)) ((Keeps.refl w19).mono (fun _ _ h => h.elim)) (fun wz hx => K20.trans hx (fun i _ h => by have h : i = g ∨ ((Value.slice A l.length c)).ownBlock = some i := h; show ((Value.slice A l.length c)).ownBlock = some i ∨ i = g ∨ i = b5; rcases h with h | h; (exact (.inr (.inl h))); (exact (.inl h))) (fun _ _ h => h)) ?_
 clear K20
 have hbigl15 : BigK (l15.map EntP.key) := by rw [hK24]; exact BigK.app hBig (fun y hy => by rw [List.map_singleton, List.mem_singleton] at hy; subst hy; (show cmd.length ≤ _; omega))
 refine Dr.takes (fuel' := 0) (is' := _) [13] [(0, (ptr r)), (4, (i64 0)), (5, (Value.slice none 0 0)), (6, (i64 0)), (7, (i64 0))] (by kernel_rfl) rfl (by kernel_rfl) ?_
 refine Dr.done (by kernel_rfl) ?_
 refine qs ?_
 refine qg ?_
 refine og 2 [(0, (ptr r)), (4, (i64 0)), (5, (Value.slice none 0 0)), (6, (i64 0)), (7, (i64 0)), (38, (Value.bool false))] 2 ?_
 refine od ?_
 refine q_else (o := .tmp 38) (by kernel_rfl) rfl ?_
 refine q_skip (by kernel_rfl) ?_
 refine qs ?_
 refine qg ?_
 refine og 3 [(0, (ptr r)), (4, (i64 0)), (5, (Value.slice none 0 0)), (6, (i64 0)), (43, (Value.pointer (some ⟨r, 8, none⟩)))] 3 ?_
 refine Ops.go (v := (ptr g)) (by kernel_rfl) (Runs.load (t := 24) (a := ⟨r, 8, none⟩) (by kernel_rfl) (Hr.loads (by kernel_rfl))) (d := (some 44)) (by kernel_rfl) rfl ?_
 refine Ops.call (by kernel_rfl) (d := (some 45)) (by kernel_rfl) (Last_calls _ T18 g base old A16 c17 l15 H21 hE23 ot26 (by omega) (by omega)) ?_
 rintro _ w36 ⟨rfl, K35⟩
 refine ⟨_, _, rfl, rfl, ?_⟩
 replace K0 := K0.tn K35
 replace H21 := H21.keep K35 (fun h => h)
 replace Hr := Hr.keep K35 (fun h => h)
 replace H8 := H8.keep K35 (fun h => h)
 replace hE23 := Ents.keep0 hE23 K35
 replace hM22 := LogE.keep0 hM22 K35
 clear K35
 refine og 5 [(0, (ptr r)), (4, (i64 0)), (5, (Value.slice none 0 0)), (6, (i64 0)), (8, (i64 (base + ((l15.length : Nat) : Int))))] 10 ?_
 refine od ?_
 refine qs ?_
 refine qg ?_
 refine og 1 [(0, (ptr r)), (4, (i64 0)), (5, (Value.slice none 0 0)), (6, (i64 0)), (8, (i64 (base + ((l15.length : Nat) : Int)))), (48, (ptr r))] 1 ?_
 refine Ops.call (by kernel_rfl) (d := (some 49)) (by kernel_rfl) (agree_calls _ r g term voted role leader commit group elapsed timeout vv pv T18 base old A16 c17 l15 Hr H21 hE23 ot26 (by omega) (by omega) (by omega) ot28) ?_
 rintro _ w38 ⟨rfl, K37, H39⟩
 refine ⟨_, _, rfl, rfl, ?_⟩
 replace K0 := K0.trans K37 (U := (fun i => i = r ∨ i = g ∨ ((Value.slice A l.length c)).ownBlock = some i)) (fun i h1 h2 => h2) (fun i h1 h2 => by have h2 : i = r := h2; exact .inl h2)
 replace H21 := H21.k1 K37 (by omega)
 replace H8 := H8.k1 K37 (by omega)
 replace hE23 := Ents.keep hE23 K37 ot28
 replace hM22 := LogE.keep hM22 K37 ot28
 clear K37
 refine od ?_
 refine qs ?_
 refine qg ?_
 refine og 3 [(0, (ptr r)), (4, (i64 0)), (5, (Value.slice none 0 0)), (6, (i64 0)), (8, (i64 (base + ((l15.length : Nat) : Int)))), (50, (ptr r)), (52, (Value.func (Fn.func 38) ⟨[(ptr r)]⟩ ⟨[]⟩))] 3 ?_
 refine Ops.call (by kernel_rfl) (d := (some 53)) (by kernel_rfl) (others_calls _ r g term voted role leader (agC base old term commit (l15.map EntP.key)) group elapsed timeout vv pv (Value.func (Fn.func 38) ⟨[(ptr r)]⟩ ⟨[]⟩) H39) ?_
 rintro _ w41 ⟨rfl, K40⟩
 refine ⟨_, _, rfl, rfl, ?_⟩
 replace K0 := K0.tn K40
 replace H21 := H21.keep K40 (fun h => h)
 replace H39 := H39.keep K40 (fun h => h)
 replace H8 := H8.keep K40 (fun h => h)
 replace hE23 := Ents.keep0 hE23 K40
 replace hM22 := LogE.keep0 hM22 K40
 clear K40
 refine od ?_
 refine qs ?_
 refine qg ?_
 refine og 2 [(4, (i64 0)), (5, (Value.slice none 0 0)), (6, (i64 0)), (54, (i64 (base + ((l15.length : Nat) : Int)))), (55, (ptr r))] 2 ?_
 refine Ops.call (by kernel_rfl) (d := (some 56)) (by kernel_rfl) (flush_calls _ r g term voted role leader (agC base old term commit (l15.map EntP.key)) group elapsed timeout vv pv H39) ?_
 rintro _ w43 ⟨rfl, K42, H44⟩
 refine ⟨_, _, rfl, rfl, ?_⟩
 replace K0 := K0.trans K42 (U := (fun i => i = r ∨ i = g ∨ ((Value.slice A l.length c)).ownBlock = some i)) (fun i h1 h2 => h2) (fun i h1 h2 => by have h2 : i = r := h2; exact .inl h2)
 replace H21 := H21.k1 K42 (by omega)
 replace H8 := H8.k1 K42 (by omega)
 replace hE23 := Ents.keep hE23 K42 ot28
 replace hM22 := LogE.keep hM22 K42 ot28
 clear K42
 refine og 3 [(4, (i64 (base + ((l15.length : Nat) : Int)))), (5, (Value.slice none 0 0)), (6, (i64 0))] 6 ?_
 refine od ?_
 refine q_ret (by kernel_rfl) ?_
 refine ⟨(Value.tuple #[(i64 (base + ((l15.length : Nat) : Int))), (Value.slice none 0 0), (i64 0)]), retv_tmp3 rfl rfl rfl rfl, ?_⟩
 rw [hK24] at H44
 exact ⟨l15, A16, c17, T18, rfl, K0, H44, H21, hM22, hK24, fun i hi => ⟨ot26 i hi, ot28 i hi, by rcases (hT25 i hi).2 with h | h; (exact .inl h); (exact .inr (by have := hz00; omega))⟩⟩
end Go.Proofs.Ytnmpepjikfbpdaa
namespace Go.Proofs.Ytnmpepjikfbpdaa
open Go.Q Go.RowKit

set_option maxHeartbeats 1000000 in
theorem empty_calls (w : World)   : Calls Try.prog 19 ⟨[(i64 0), (i64 1)]⟩ w (fun e w' => ∃ r g2 l' A' c' T', e = .returned (ptr r) ∧ Keeps none_ w w' ∧ w.heap.size ≤ r ∧ w.heap.size ≤ g2 ∧ r ≠ g2 ∧ Has w' r (rowL [(i64 0), (i64 (-1)), (i64 0), (i64 (-1)), (i64 0), (i64 1), (i64 0), (i64 1), (ptr g2), (i64 0), (i64 10), (Value.slice none 0 0), (Value.map none), (Value.slice none 0 0), (Value.pointer none), (Value.pointer none), (Value.bool false), (Value.slice none 0 0)] 84) ∧ Has w' g2 (rowL [i64 0, i64 0, .slice A' l'.length c'] 78) ∧ LogE w' w.heap.size 43 T' (.slice A' l'.length c') l' ∧ l'.map EntP.key = [] ∧ ∀ i, T' i → i ≠ g2 ∧ i ≠ r ∧ w.heap.size ≤ i) := by
 have K0 : Keeps none_ w w := Keeps.refl w
 refine q_calls Try.func19 (by kernel_rfl) (by kernel_rfl) ?_
 refine qs ?_
 refine qg ?_
 refine og 1 [(0, (i64 0)), (1, (i64 1)), (4, (Value.pointer none))] 1 ?_
 refine od ?_
 refine qs ?_
 refine qg ?_
 have hq1 : newE 0 0 [] = 0 := by decide
 refine Ops.call (by kernel_rfl) (d := (some 10)) (by kernel_rfl) (New_ok _ none_ 0 0 none 0 [] (Ents.nil _) BigK.nil hq1) ?_
 rintro _ w6 ⟨g2, l3, A4, c5, rfl, hg11, K7, H8, hE9, hK10⟩
 have ot12 : ∀ i, (fun i => (w.heap.size ≤ i ∧ i < w6.heap.size) ∧ i ≠ g2) i → i ≠ g2 := fun i hi => hi.2
 have ng2 : w.heap.size ≤ g2 := by have := K0.size; omega
 have hn13 := keys_len2 hK10
 try rw [List.length_drop] at hn13
 try rw [List.length_append] at hn13
 try rw [List.length_map] at hn13
 try rw [List.length_map] at hn13
 refine ⟨_, _, rfl, rfl, ?_⟩
 replace K0 := K0.t0 K7
 clear K7
 have hn0l3 : l3.length = 0 := by have q := congrArg List.length hK10; simpa using q
 refine og 5 [(0, (i64 0)), (1, (i64 1)), (4, (Value.pointer none)), (5, (ptr g2)), (6, (i64 0))] 6 ?_
 refine od ?_
 refine qs ?_
 refine qs ?_
 refine qg ?_
 refine og 6 [(0, (i64 0)), (1, (i64 1)), (4, (Value.pointer none)), (5, (ptr g2)), (18, (Value.bool false))] 6 ?_
 refine od ?_
 refine q_else (o := .tmp 18) (by kernel_rfl) rfl ?_
 refine q_skip (by kernel_rfl) ?_
 refine qs ?_
 refine qg ?_
 refine og 3 [(4, (Value.pointer none)), (20, (i64 0)), (21, (i64 1)), (22, (ptr g2))] 3 ?_
 refine Ops.call (by kernel_rfl) (d := (some 23)) (by kernel_rfl) (RNew_calls _ 1 0 (-1) 0 (fun i => (w.heap.size ≤ i ∧ i < w6.heap.size) ∧ i ≠ g2) g2 0 0 A4 c5 l3 H8 hE9 ot12 (by omega) (by omega) (BigK.keys hK10 BigK.nil) (by omega) ⟨by (try simp only [hK10]); first | decide | rfl, by decide⟩ (by omega) (by omega)) ?_
 rintro _ w20 ⟨b14, g15, l16, A17, c18, T19, rfl, K21, hn28, hn29, hn30, H22, H23, hM24, hK26, hT27⟩
 have hE25 := hM24.ents
 have hw31 := K0.size
 replace hM24 := hM24.base (bs' := w.heap.size) hw31
 have nb14 : w.heap.size ≤ b14 := by omega
 have ng15 : w.heap.size ≤ g15 := by omega
 have ot32 : ∀ i, T19 i → i ≠ g2 := fun i hi => by have := (hT27 i hi).2.2; have := H8.lt; omega
 have ot33 : ∀ i, ((Value.slice A17 l16.length c18)).ownBlock = some i → i ≠ g2 := fun i hi => ot32 i (hM24.ownT i hi)
 have lb14g2 : g2 < b14 := by have := H8.lt; omega
 have lg15g2 : g2 < g15 := by have := H8.lt; omega
 have ot34 : ∀ i, T19 i → i ≠ b14 := fun i hi => (hT27 i hi).2.1
 have ot35 : ∀ i, ((Value.slice A17 l16.length c18)).ownBlock = some i → i ≠ b14 := fun i hi => ot34 i (hM24.ownT i hi)
 have ot36 : ∀ i, T19 i → i ≠ g15 := fun i hi => (hT27 i hi).1
 have ot37 : ∀ i, ((Value.slice A17 l16.length c18)).ownBlock = some i → i ≠ g15 := fun i hi => ot36 i (hM24.ownT i hi)
 have hl38 : l16.length = l3.length := by have q := congrArg List.length hK26; simpa using q
 refine ⟨_, _, rfl, rfl, ?_⟩
 replace K0 := K0.t0 K21
 replace H8 := H8.keep K21 (fun h => h)
 replace hE9 := Ents.keep0 hE9 K21
 clear K21
 have hbigl16 : BigK (l16.map EntP.key) := by rw [hK26]; exact (BigK.keys hK10 BigK.nil)
 refine og 5 [(4, (Value.pointer none)), (7, (ptr b14)), (8, (i64 0))] 9 ?_
 refine od ?_
 refine qs ?_
 refine qs ?_
 refine qg ?_
 refine og 2 [(4, (Value.pointer none)), (7, (ptr b14)), (27, (Value.bool false))] 2 ?_
 refine od ?_
 refine q_else (o := .tmp 27) (by kernel_rfl) rfl ?_
 refine q_skip (by kernel_rfl) ?_
 refine qs ?_
 refine qg ?_
 refine og 2 [(4, (ptr b14))] 2 ?_
 refine od ?_
 refine q_ret (by kernel_rfl) ?_
 refine ⟨(ptr b14), retv_tmp rfl rfl, ?_⟩
 have hz9 : ∀ i, T19 i → w.heap.size ≤ i := fun i hi => Nat.le_trans hw31 (hT27 i hi).2.2
 exact ⟨b14, g15, l16, A17, c18, T19, rfl, K0, nb14, ng15, by omega, H22, H23, hM24, by rw [hK26, hK10]; rfl, fun i hi => ⟨ot36 i hi, ot34 i hi, hz9 i hi⟩⟩

set_option maxHeartbeats 4000000 in
theorem known_calls (w : World)   : Calls Try.prog 11 ⟨[]⟩ w (fun e w' => e = .returned (.bool true) ∧ Keeps none_ w w') := by
 have K0 : Keeps none_ w w := Keeps.refl w
 refine q_calls Try.func11 (by kernel_rfl) (by kernel_rfl) ?_
 refine qs ?_
 refine qg ?_
 refine og 1 [(0, (Value.bool false))] 1 ?_
 refine od ?_
 refine qs ?_
 refine qg ?_
 refine Ops.call (by kernel_rfl) (d := (some 8)) (by kernel_rfl) (empty_calls _) ?_
 rintro _ w7 ⟨b1, g2, l3, A4, c5, T6, rfl, K8, hn15, hn16, hn17, H9, H10, hM11, hK13, hT14⟩
 have hE12 := hM11.ents
 have hw18 := K0.size
 replace hM11 := hM11.base (bs' := w.heap.size) hw18
 have nb1 : w.heap.size ≤ b1 := by omega
 have ng2 : w.heap.size ≤ g2 := by omega
 have ot19 : ∀ i, T6 i → i ≠ b1 := fun i hi => (hT14 i hi).2.1
 have ot20 : ∀ i, ((Value.slice A4 l3.length c5)).ownBlock = some i → i ≠ b1 := fun i hi => ot19 i (hM11.ownT i hi)
 have ot21 : ∀ i, T6 i → i ≠ g2 := fun i hi => (hT14 i hi).1
 have ot22 : ∀ i, ((Value.slice A4 l3.length c5)).ownBlock = some i → i ≠ g2 := fun i hi => ot21 i (hM11.ownT i hi)
 have hl23 : l3.length = 0 := by have q := congrArg List.length hK13; simpa using q
 refine ⟨_, _, rfl, rfl, ?_⟩
 replace K0 := K0.t0 K8
 clear K8
 have hbigl3 : BigK (l3.map EntP.key) := by rw [hK13]; exact BigK.nil
 refine og 1 [(0, (Value.bool false)), (1, (ptr b1))] 2 ?_
 refine od ?_
 refine qs ?_
 refine qs ?_
 refine qg ?_
 refine og 2 [(0, (Value.bool false)), (1, (ptr b1)), (10, (Value.bool false))] 2 ?_
 refine od ?_
 refine q_else (o := .tmp 10) (by kernel_rfl) rfl ?_
 refine q_skip (by kernel_rfl) ?_
 refine qs ?_
 refine qs ?_
 refine qg ?_
 refine og 1 [(0, (Value.bool false)), (1, (ptr b1)), (2, (i64 0))] 1 ?_
 refine od ?_
 refine q_block (id := 0) (by kernel_rfl) ?_
 refine q_roll 11 (by kernel_rfl) ?_
 refine roll_step ?_
 refine qs ?_
 refine qs ?_
 refine qg ?_
 refine og 2 [(0, (Value.bool false)), (1, (ptr b1)), (2, (i64 0)), (12, (Value.bool true))] 2 ?_
 refine od ?_
 refine q_then (o := .tmp 12) (by kernel_rfl) rfl ?_
 refine q_skip (by kernel_rfl) ?_
 refine qs ?_
 refine q_block (id := 1) (by kernel_rfl) ?_
 refine qg ?_
 refine og 1 [(0, (Value.bool false)), (1, (ptr b1)), (2, (i64 0)), (15, (ptr b1))] 1 ?_
 refine Ops.call (by kernel_rfl) (d := (some 16)) (by kernel_rfl) (Tick_wait _ b1 g2 0 (-1) 0 (-1) 0 1 0 10 (Value.map none) (Value.slice none 0 0) H9 (by first | omega | decide) (by first | omega | decide) (by first | omega | decide)) ?_
 rintro _ w25 ⟨rfl, K24, H26⟩
 refine ⟨_, _, rfl, rfl, ?_⟩
 replace K0 := K0.trans K24 (U := none_) (fun i h1 h2 => h2) (fun i h1 h2 => by have h2 : i = b1 := h2; exfalso; omega)
 replace H10 := H10.k1 K24 (by omega)
 replace hE12 := Ents.keep hE12 K24 ot19
 replace hM11 := LogE.keep hM11 K24 ot19
 clear K24
 refine od ?_
 refine qg ?_
 refine og 3 [(0, (Value.bool false)), (1, (ptr b1)), (2, (i64 1))] 3 ?_
 refine od ?_
 refine roll_step ?_
 refine qs ?_
 refine qs ?_
 refine qg ?_
 refine og 2 [(0, (Value.bool false)), (1, (ptr b1)), (2, (i64 1)), (12, (Value.bool true))] 2 ?_
 refine od ?_
 refine q_then (o := .tmp 12) (by kernel_rfl) rfl ?_
 refine q_skip (by kernel_rfl) ?_
 refine qs ?_
 refine q_block (id := 1) (by kernel_rfl) ?_
 refine qg ?_
 refine og 1 [(0, (Value.bool false)), (1, (ptr b1)), (2, (i64 1)), (15, (ptr b1))] 1 ?_
 refine Ops.call (by kernel_rfl) (d := (some 16)) (by kernel_rfl) (Tick_wait _ b1 g2 0 (-1) 0 (-1) 0 1 1 10 (Value.map none) (Value.slice none 0 0) H26 (by first | omega | decide) (by first | omega | decide) (by first | omega | decide)) ?_
 rintro _ w28 ⟨rfl, K27, H29⟩
 refine ⟨_, _, rfl, rfl, ?_⟩
 replace K0 := K0.trans K27 (U := none_) (fun i h1 h2 => h2) (fun i h1 h2 => by have h2 : i = b1 := h2; exfalso; omega)
 replace H10 := H10.k1 K27 (by omega)
 replace hE12 := Ents.keep hE12 K27 ot19
 replace hM11 := LogE.keep hM11 K27 ot19
 clear K27
 refine od ?_
 refine qg ?_
 refine og 3 [(0, (Value.bool false)), (1, (ptr b1)), (2, (i64 2))] 3 ?_
 refine od ?_
 refine roll_step ?_
 refine qs ?_
 refine qs ?_
 refine qg ?_
 refine og 2 [(0, (Value.bool false)), (1, (ptr b1)), (2, (i64 2)), (12, (Value.bool true))] 2 ?_
 refine od ?_
 refine q_then (o := .tmp 12) (by kernel_rfl) rfl ?_
 refine q_skip (by kernel_rfl) ?_
 refine qs ?_
 refine q_block (id := 1) (by kernel_rfl) ?_
 refine qg ?_
 refine og 1 [(0, (Value.bool false)), (1, (ptr b1)), (2, (i64 2)), (15, (ptr b1))] 1 ?_
 refine Ops.call (by kernel_rfl) (d := (some 16)) (by kernel_rfl) (Tick_wait _ b1 g2 0 (-1) 0 (-1) 0 1 2 10 (Value.map none) (Value.slice none 0 0) H29 (by first | omega | decide) (by first | omega | decide) (by first | omega | decide)) ?_
 rintro _ w31 ⟨rfl, K30, H32⟩
 refine ⟨_, _, rfl, rfl, ?_⟩
 replace K0 := K0.trans K30 (U := none_) (fun i h1 h2 => h2) (fun i h1 h2 => by have h2 : i = b1 := h2; exfalso; omega)
 replace H10 := H10.k1 K30 (by omega)
 replace hE12 := Ents.keep hE12 K30 ot19
 replace hM11 := LogE.keep hM11 K30 ot19
 clear K30
 refine od ?_
 refine qg ?_
 refine og 3 [(0, (Value.bool false)), (1, (ptr b1)), (2, (i64 3))] 3 ?_
 refine od ?_
 refine roll_step ?_
 refine qs ?_
 refine qs ?_
 refine qg ?_
 refine og 2 [(0, (Value.bool false)), (1, (ptr b1)), (2, (i64 3)), (12, (Value.bool true))] 2 ?_
 refine od ?_
 refine q_then (o := .tmp 12) (by kernel_rfl) rfl ?_
 refine q_skip (by kernel_rfl) ?_
 refine qs ?_
 refine q_block (id := 1) (by kernel_rfl) ?_
 refine qg ?_
 refine og 1 [(0, (Value.bool false)), (1, (ptr b1)), (2, (i64 3)), (15, (ptr b1))] 1 ?_
 refine Ops.call (by kernel_rfl) (d := (some 16)) (by kernel_rfl) (Tick_wait _ b1 g2 0 (-1) 0 (-1) 0 1 3 10 (Value.map none) (Value.slice none 0 0) H32 (by first | omega | decide) (by first | omega | decide) (by first | omega | decide)) ?_
 rintro _ w34 ⟨rfl, K33, H35⟩
 refine ⟨_, _, rfl, rfl, ?_⟩
 replace K0 := K0.trans K33 (U := none_) (fun i h1 h2 => h2) (fun i h1 h2 => by have h2 : i = b1 := h2; exfalso; omega)
 replace H10 := H10.k1 K33 (by omega)
 replace hE12 := Ents.keep hE12 K33 ot19
 replace hM11 := LogE.keep hM11 K33 ot19
 clear K33
 refine od ?_
 refine qg ?_
 refine og 3 [(0, (Value.bool false)), (1, (ptr b1)), (2, (i64 4))] 3 ?_
 refine od ?_
 refine roll_step ?_
 refine qs ?_
 refine qs ?_
 refine qg ?_
 refine og 2 [(0, (Value.bool false)), (1, (ptr b1)), (2, (i64 4)), (12, (Value.bool true))] 2 ?_
 refine od ?_
 refine q_then (o := .tmp 12) (by kernel_rfl) rfl ?_
 refine q_skip (by kernel_rfl) ?_
 refine qs ?_
 refine q_block (id := 1) (by kernel_rfl) ?_
 refine qg ?_
 refine og 1 [(0, (Value.bool false)), (1, (ptr b1)), (2, (i64 4)), (15, (ptr b1))] 1 ?_
 refine Ops.call (by kernel_rfl) (d := (some 16)) (by kernel_rfl) (Tick_wait _ b1 g2 0 (-1) 0 (-1) 0 1 4 10 (Value.map none) (Value.slice none 0 0) H35 (by first | omega | decide) (by first | omega | decide) (by first | omega | decide)) ?_
 rintro _ w37 ⟨rfl, K36, H38⟩
 refine ⟨_, _, rfl, rfl, ?_⟩
 replace K0 := K0.trans K36 (U := none_) (fun i h1 h2 => h2) (fun i h1 h2 => by have h2 : i = b1 := h2; exfalso; omega)
 replace H10 := H10.k1 K36 (by omega)
 replace hE12 := Ents.keep hE12 K36 ot19
 replace hM11 := LogE.keep hM11 K36 ot19
 clear K36
 refine od ?_
 refine qg ?_
 refine og 3 [(0, (Value.bool false)), (1, (ptr b1)), (2, (i64 5))] 3 ?_
 refine od ?_
 refine roll_step ?_
 refine qs ?_
 refine qs ?_
 refine qg ?_
 refine og 2 [(0, (Value.bool false)), (1, (ptr b1)), (2, (i64 5)), (12, (Value.bool true))] 2 ?_
 refine od ?_
 refine q_then (o := .tmp 12) (by kernel_rfl) rfl ?_
 refine q_skip (by kernel_rfl) ?_
 refine qs ?_
 refine q_block (id := 1) (by kernel_rfl) ?_
 refine qg ?_
 refine og 1 [(0, (Value.bool false)), (1, (ptr b1)), (2, (i64 5)), (15, (ptr b1))] 1 ?_
 refine Ops.call (by kernel_rfl) (d := (some 16)) (by kernel_rfl) (Tick_wait _ b1 g2 0 (-1) 0 (-1) 0 1 5 10 (Value.map none) (Value.slice none 0 0) H38 (by first | omega | decide) (by first | omega | decide) (by first | omega | decide)) ?_
 rintro _ w40 ⟨rfl, K39, H41⟩
 refine ⟨_, _, rfl, rfl, ?_⟩
 replace K0 := K0.trans K39 (U := none_) (fun i h1 h2 => h2) (fun i h1 h2 => by have h2 : i = b1 := h2; exfalso; omega)
 replace H10 := H10.k1 K39 (by omega)
 replace hE12 := Ents.keep hE12 K39 ot19
 replace hM11 := LogE.keep hM11 K39 ot19
 clear K39
 refine od ?_
 refine qg ?_
 refine og 3 [(0, (Value.bool false)), (1, (ptr b1)), (2, (i64 6))] 3 ?_
 refine od ?_
 refine roll_step ?_
 refine qs ?_
 refine qs ?_
 refine qg ?_
 refine og 2 [(0, (Value.bool false)), (1, (ptr b1)), (2, (i64 6)), (12, (Value.bool true))] 2 ?_
 refine od ?_
 refine q_then (o := .tmp 12) (by kernel_rfl) rfl ?_
 refine q_skip (by kernel_rfl) ?_
 refine qs ?_
 refine q_block (id := 1) (by kernel_rfl) ?_
 refine qg ?_
 refine og 1 [(0, (Value.bool false)), (1, (ptr b1)), (2, (i64 6)), (15, (ptr b1))] 1 ?_
 refine Ops.call (by kernel_rfl) (d := (some 16)) (by kernel_rfl) (Tick_wait _ b1 g2 0 (-1) 0 (-1) 0 1 6 10 (Value.map none) (Value.slice none 0 0) H41 (by first | omega | decide) (by first | omega | decide) (by first | omega | decide)) ?_
 rintro _ w43 ⟨rfl, K42, H44⟩
 refine ⟨_, _, rfl, rfl, ?_⟩
 replace K0 := K0.trans K42 (U := none_) (fun i h1 h2 => h2) (fun i h1 h2 => by have h2 : i = b1 := h2; exfalso; omega)
 replace H10 := H10.k1 K42 (by omega)
 replace hE12 := Ents.keep hE12 K42 ot19
 replace hM11 := LogE.keep hM11 K42 ot19
 clear K42
 refine od ?_
 refine qg ?_
 refine og 3 [(0, (Value.bool false)), (1, (ptr b1)), (2, (i64 7))] 3 ?_
 refine od ?_
 refine roll_step ?_
 refine qs ?_
 refine qs ?_
 refine qg ?_
 refine og 2 [(0, (Value.bool false)), (1, (ptr b1)), (2, (i64 7)), (12, (Value.bool true))] 2 ?_
 refine od ?_
 refine q_then (o := .tmp 12) (by kernel_rfl) rfl ?_
 refine q_skip (by kernel_rfl) ?_
 refine qs ?_
 refine q_block (id := 1) (by kernel_rfl) ?_
 refine qg ?_
 refine og 1 [(0, (Value.bool false)), (1, (ptr b1)), (2, (i64 7)), (15, (ptr b1))] 1 ?_
 refine Ops.call (by kernel_rfl) (d := (some 16)) (by kernel_rfl) (Tick_wait _ b1 g2 0 (-1) 0 (-1) 0 1 7 10 (Value.map none) (Value.slice none 0 0) H44 (by first | omega | decide) (by first | omega | decide) (by first | omega | decide)) ?_
 rintro _ w46 ⟨rfl, K45, H47⟩
 refine ⟨_, _, rfl, rfl, ?_⟩
 replace K0 := K0.trans K45 (U := none_) (fun i h1 h2 => h2) (fun i h1 h2 => by have h2 : i = b1 := h2; exfalso; omega)
 replace H10 := H10.k1 K45 (by omega)
 replace hE12 := Ents.keep hE12 K45 ot19
 replace hM11 := LogE.keep hM11 K45 ot19
 clear K45
 refine od ?_
 refine qg ?_
 refine og 3 [(0, (Value.bool false)), (1, (ptr b1)), (2, (i64 8))] 3 ?_
 refine od ?_
 refine roll_step ?_
 refine qs ?_
 refine qs ?_
 refine qg ?_
 refine og 2 [(0, (Value.bool false)), (1, (ptr b1)), (2, (i64 8)), (12, (Value.bool true))] 2 ?_
 refine od ?_
 refine q_then (o := .tmp 12) (by kernel_rfl) rfl ?_
 refine q_skip (by kernel_rfl) ?_
 refine qs ?_
 refine q_block (id := 1) (by kernel_rfl) ?_
 refine qg ?_
 refine og 1 [(0, (Value.bool false)), (1, (ptr b1)), (2, (i64 8)), (15, (ptr b1))] 1 ?_
 refine Ops.call (by kernel_rfl) (d := (some 16)) (by kernel_rfl) (Tick_wait _ b1 g2 0 (-1) 0 (-1) 0 1 8 10 (Value.map none) (Value.slice none 0 0) H47 (by first | omega | decide) (by first | omega | decide) (by first | omega | decide)) ?_
 rintro _ w49 ⟨rfl, K48, H50⟩
 refine ⟨_, _, rfl, rfl, ?_⟩
 replace K0 := K0.trans K48 (U := none_) (fun i h1 h2 => h2) (fun i h1 h2 => by have h2 : i = b1 := h2; exfalso; omega)
 replace H10 := H10.k1 K48 (by omega)
 replace hE12 := Ents.keep hE12 K48 ot19
 replace hM11 := LogE.keep hM11 K48 ot19
 clear K48
 refine od ?_
 refine qg ?_
 refine og 3 [(0, (Value.bool false)), (1, (ptr b1)), (2, (i64 9))] 3 ?_
 refine od ?_
 refine roll_step ?_
 refine qs ?_
 refine qs ?_
 refine qg ?_
 refine og 2 [(0, (Value.bool false)), (1, (ptr b1)), (2, (i64 9)), (12, (Value.bool true))] 2 ?_
 refine od ?_
 refine q_then (o := .tmp 12) (by kernel_rfl) rfl ?_
 refine q_skip (by kernel_rfl) ?_
 refine qs ?_
 refine q_block (id := 1) (by kernel_rfl) ?_
 refine qg ?_
 refine og 1 [(0, (Value.bool false)), (1, (ptr b1)), (2, (i64 9)), (15, (ptr b1))] 1 ?_
 refine Ops.call (by kernel_rfl) (d := (some 16)) (by kernel_rfl) (Tick_lead _ b1 g2 0 (-1) 0 (-1) 0 1 9 10 (Value.map none) (Value.slice none 0 0) T6 w.heap.size 0 0 A4 c5 l3 H50 H10 hM11 ot21 (by omega) (by omega) (by omega) ot19 (Nat.le_trans (Nat.le_refl _) K0.size) hbigl3 (by first | omega | decide) (by first | omega | decide) (by first | omega | decide) (by rw [show appE 0 0 (l3.map EntP.key) [(0 + 1, [])] = 0 from by simp only [hK13]; first | rfl | decide]) (by omega) (by first | omega | decide)) ?_
 rintro _ w55 ⟨l51, A52, c53, T54, PA63, pc64, mb65, rfl, K56, H57, H58, hM59, hK61, hT62⟩
 have hE60 := hM59.ents
 have ot66 : ∀ i, T54 i → i ≠ b1 := fun i hi => (hT62 i hi).2.1
 have ot67 : ∀ i, ((Value.slice A52 l51.length c53)).ownBlock = some i → i ≠ b1 := fun i hi => ot66 i (hM59.ownT i hi)
 have ot68 : ∀ i, T54 i → i ≠ g2 := fun i hi => (hT62 i hi).1
 have ot69 : ∀ i, ((Value.slice A52 l51.length c53)).ownBlock = some i → i ≠ g2 := fun i hi => ot68 i (hM59.ownT i hi)
 have hn70 : l51.length = l3.length + 1 := by have q := congrArg List.length hK61; simpa using q
 refine ⟨_, _, rfl, rfl, ?_⟩
 replace K0 := K0.trans K56 (U := none_) (fun i h1 h2 => h2) (fun i h1 h2 => by have h2 : i = b1 ∨ i = g2 ∨ ((Value.slice A4 l3.length c5)).ownBlock = some i := h2; rcases h2 with h2 | h2 | h2; (exfalso; omega); (exfalso; omega); (exfalso; have := (World.ownsRow.lt hM11.own i h2).1; omega))
 clear hE12
 clear hM11
 clear K56
 have hbigl51 : BigK (l51.map EntP.key) := by rw [hK61]; exact BigK.app hbigl3 (fun y hy => by rw [List.mem_singleton] at hy; subst hy; exact Nat.zero_le _)
 refine od ?_
 refine qg ?_
 refine og 3 [(0, (Value.bool false)), (1, (ptr b1)), (2, (i64 10))] 3 ?_
 refine od ?_
 refine roll_step ?_
 refine qs ?_
 refine qs ?_
 refine qg ?_
 refine og 2 [(0, (Value.bool false)), (1, (ptr b1)), (2, (i64 10)), (12, (Value.bool false))] 2 ?_
 refine od ?_
 refine q_else (o := .tmp 12) (by kernel_rfl) rfl ?_
 refine q_exit (id := 0) (by kernel_rfl) ?_
 refine qs ?_
 refine qg ?_
 refine og 1 [(0, (Value.bool false)), (1, (ptr b1)), (17, (ptr b1))] 1 ?_
 refine Ops.call (by kernel_rfl) (d := (some 18)) (by kernel_rfl) (Info_calls _ b1 g2 ((0 : Int) + 1) 0 2 0 (agC 0 0 ((0 : Int) + 1) 0 ((l3.map EntP.key) ++ [(((0 : Int) + 1), [])])) 1 0 10 (Value.map (some mb65)) (Value.slice PA63 1 pc64) H57) ?_
 rintro _ w72 ⟨rfl, K71⟩
 refine ⟨_, _, rfl, rfl, ?_⟩
 replace K0 := K0.t0 K71
 replace H57 := H57.keep K71 (fun h => h)
 replace H58 := H58.keep K71 (fun h => h)
 replace hE60 := Ents.keep0 hE60 K71
 replace hM59 := LogE.keep0 hM59 K71
 clear K71
 refine Ops.new (o := rowL [(i64 0), (i64 0), (i64 0), (i64 0), (i64 0)] 35) (V := fun b => (ptr b)) (by kernel_rfl) (d := (some 3)) (by kernel_rfl) (fun b => rfl) (fun b73 w74 hb75 H76 K77 hs78 => ?_)
 have lb73b1 : b1 < b73 := by have := H57.lt; omega
 have lb73g2 : g2 < b73 := by have := H58.lt; omega
 have nb73 : w.heap.size ≤ b73 := by have := K0.size; omega
 have ot79 : ∀ i, T54 i → i ≠ b73 := fun i hi => by have := Ents.lt hE60 i hi; omega
 have ot80 : ∀ i, ((Value.slice A52 l51.length c53)).ownBlock = some i → i ≠ b73 := fun i hi => ot79 i (hM59.ownT i hi)
 replace K0 := K0.t0 K77
 replace H57 := H57.keep K77 (fun h => h)
 replace H58 := H58.keep K77 (fun h => h)
 replace hE60 := Ents.keep0 hE60 K77
 replace hM59 := LogE.keep0 hM59 K77
 clear K77 hs78
 refine Ops.put (t := 35) (b := b73) (off := 0) (v := (agg [(i64 ((0 : Int) + 1)), (i64 0), (i64 2), (i64 0), (i64 (agC 0 0 ((0 : Int) + 1) 0 ((l3.map EntP.key) ++ [(((0 : Int) + 1), [])])))])) (ys := [(i64 ((0 : Int) + 1)), (i64 0), (i64 2), (i64 0), (i64 (agC 0 0 ((0 : Int) + 1) 0 ((l3.map EntP.key) ++ [(((0 : Int) + 1), [])])))]) (by kernel_rfl) (by kernel_rfl) H76 (by kernel_rfl) (d := none) (by kernel_rfl) rfl (fun w81 H82 K83 => ?_)
 clear H76
 replace K0 := K0.trans K83 (U := none_) (fun i h1 h2 => h2) (fun i h1 h2 => by have h2 : i = b73 := h2; exfalso; omega)
 replace H57 := H57.k1 K83 (by omega)
 replace H58 := H58.k1 K83 (by omega)
 replace hE60 := Ents.keep hE60 K83 ot79
 replace hM59 := LogE.keep hM59 K83 ot79
 clear K83
 refine od ?_
 refine qs ?_
 refine qg ?_
 refine og 1 [(0, (Value.bool false)), (1, (ptr b1)), (3, (ptr b73)), (20, (ptr b1))] 1 ?_
 refine Ops.new (o := rowL [(Value.int IntKind.u8 97)] 5) (V := fun b => (Value.slice (some ⟨b, 0, none⟩) 1 1)) (by kernel_rfl) (d := (some 21)) (by kernel_rfl) (fun b => rfl) (fun b84 w85 hb86 H87 K88 hs89 => ?_)
 have lb84b1 : b1 < b84 := by have := H57.lt; omega
 have lb84g2 : g2 < b84 := by have := H58.lt; omega
 have lb84b73 : b73 < b84 := by have := H82.lt; omega
 have nb84 : w.heap.size ≤ b84 := by have := K0.size; omega
 have ot90 : ∀ i, T54 i → i ≠ b84 := fun i hi => by have := Ents.lt hE60 i hi; omega
 have ot91 : ∀ i, ((Value.slice A52 l51.length c53)).ownBlock = some i → i ≠ b84 := fun i hi => ot90 i (hM59.ownT i hi)
 replace K0 := K0.t0 K88
 replace H57 := H57.keep K88 (fun h => h)
 replace H58 := H58.keep K88 (fun h => h)
 replace H82 := H82.keep K88 (fun h => h)
 replace hE60 := Ents.keep0 hE60 K88
 replace hM59 := LogE.keep0 hM59 K88
 clear K88 hs89
 obtain ⟨w92, hr93, K94, F95⟩ := run_markB (t := 37) (e := 5) (bs := [byte 97]) (by kernel_rfl) (show Has _ b84 (rowL (bv [byte 97]) 5) from H87) (by decide)
 refine Ops.go (v := (Value.slice (some ⟨b84, 0, none⟩) 1 1)) (by kernel_rfl) (Runs.conv (by kernel_rfl) hr93) (d := (some 22)) (by kernel_rfl) rfl ?_
 clear H87
 replace K0 := K0.trans K94 (U := none_) (fun i h1 h2 => h2) (fun i h1 h2 => by have h2 : i = b84 := h2; exfalso; omega)
 replace H57 := H57.k1 K94 (by omega)
 replace H58 := H58.k1 K94 (by omega)
 replace H82 := H82.k1 K94 (by omega)
 replace hE60 := Ents.keep hE60 K94 ot90
 replace hM59 := LogE.keep hM59 K94 ot90
 clear K94 hr93
 refine Ops.call (by kernel_rfl) (d := (some 23)) (by kernel_rfl) (Propose_calls _ b1 g2 ((0 : Int) + 1) 0 2 0 (agC 0 0 ((0 : Int) + 1) 0 ((l3.map EntP.key) ++ [(((0 : Int) + 1), [])])) 1 0 10 (Value.map (some mb65)) (Value.slice PA63 1 pc64) T54 w.heap.size 0 0 A52 c53 l51 (some ⟨b84, 0, none⟩) 1 [byte 97] H57 H58 hM59 ot68 (by omega) (by omega) (by omega) ot66 (Nat.le_trans (Nat.le_refl _) K0.size) hbigl51 (by first | omega | decide) F95 (by first | omega | decide) (fun _ i hi => Rd.lt F95 (by intro q; cases q) i hi) (fun _ i hi => by simp only [Value.ownBlock, Option.some.injEq] at hi; have := lb84g2; omega) (fun _ i hi => by simp only [Value.ownBlock, Option.some.injEq] at hi; have := lb84b1; omega) (fun _ i hi h => by simp only [Value.ownBlock, Option.some.injEq] at hi; subst hi; exact ot91 _ h rfl) (by rw [show appE 0 0 (l51.map EntP.key) [(((0 : Int) + 1), [byte 97])] = 0 from by simp only [hK61, hK13]; first | rfl | decide]) (by omega)) ?_
 rintro _ w100 ⟨l96, A97, c98, T99, rfl, K101, H102, H103, hM104, hK106, hT107⟩
 have hE105 := hM104.ents
 have ot108 : ∀ i, T99 i → i ≠ b1 := fun i hi => (hT107 i hi).2.1
 have ot109 : ∀ i, ((Value.slice A97 l96.length c98)).ownBlock = some i → i ≠ b1 := fun i hi => ot108 i (hM104.ownT i hi)
 have ot110 : ∀ i, T99 i → i ≠ g2 := fun i hi => (hT107 i hi).1
 have ot111 : ∀ i, ((Value.slice A97 l96.length c98)).ownBlock = some i → i ≠ g2 := fun i hi => ot110 i (hM104.ownT i hi)
 have ot112 : ∀ i, T99 i → i ≠ b73 := fun i hi => by rcases (hT107 i hi).2.2 with h | h; (exact ot79 i h); (have := H82.lt; omega)
 have ot113 : ∀ i, ((Value.slice A97 l96.length c98)).ownBlock = some i → i ≠ b73 := fun i hi => ot112 i (hM104.ownT i hi)
 have hn114 : l96.length = l51.length + 1 := by have q := congrArg List.length hK106; simpa using q
 refine ⟨_, _, rfl, rfl, ?_⟩
 replace K0 := K0.trans K101 (U := none_) (fun i h1 h2 => h2) (fun i h1 h2 => by have h2 : i = b1 ∨ i = g2 ∨ ((Value.slice A52 l51.length c53)).ownBlock = some i := h2; rcases h2 with h2 | h2 | h2; (exfalso; omega); (exfalso; omega); (exfalso; have := (World.ownsRow.lt hM59.own i h2).1; omega))
 replace H82 := H82.keep K101 (by intro h; change b73 = b1 ∨ b73 = g2 ∨ ((Value.slice A52 l51.length c53)).ownBlock = some b73 at h; rcases h with h | h | h; (omega); (omega); (have := ot80 b73 h; omega))
 clear hE60
 clear hM59
 clear F95
 clear K101
 have hbigl96 : BigK (l96.map EntP.key) := by rw [hK106]; exact BigK.app hbigl51 (fun y hy => by rw [List.mem_singleton] at hy; subst hy; (show ([byte 97] : List UInt8).length ≤ _); first | decide | omega)
 refine og 7 [(0, (Value.bool false)), (1, (ptr b1)), (3, (ptr b73)), (4, (i64 (0 + ((l96.length : Nat) : Int)))), (5, (Value.slice none 0 0)), (6, (i64 0))] 11 ?_
 refine od ?_
 refine qs ?_
 refine qg ?_
 refine og 1 [(0, (Value.bool false)), (3, (ptr b73)), (4, (i64 (0 + ((l96.length : Nat) : Int)))), (5, (Value.slice none 0 0)), (6, (i64 0)), (27, (ptr b1))] 1 ?_
 refine Ops.call (by kernel_rfl) (d := (some 28)) (by kernel_rfl) (Info_calls _ b1 g2 ((0 : Int) + 1) 0 2 0 (agC 0 0 ((0 : Int) + 1) (agC 0 0 ((0 : Int) + 1) 0 ((l3.map EntP.key) ++ [(((0 : Int) + 1), [])])) ((l51.map EntP.key) ++ [(((0 : Int) + 1), [byte 97])])) 1 0 10 (Value.map (some mb65)) (Value.slice PA63 1 pc64) H102) ?_
 rintro _ w116 ⟨rfl, K115⟩
 refine ⟨_, _, rfl, rfl, ?_⟩
 replace K0 := K0.t0 K115
 replace H102 := H102.keep K115 (fun h => h)
 replace H103 := H103.keep K115 (fun h => h)
 replace H82 := H82.keep K115 (fun h => h)
 replace hE105 := Ents.keep0 hE105 K115
 replace hM104 := LogE.keep0 hM104 K115
 clear K115
 refine Ops.new (o := rowL [(i64 0), (i64 0), (i64 0), (i64 0), (i64 0)] 35) (V := fun b => (ptr b)) (by kernel_rfl) (d := (some 7)) (by kernel_rfl) (fun b => rfl) (fun b117 w118 hb119 H120 K121 hs122 => ?_)
 have lb117b1 : b1 < b117 := by have := H102.lt; omega
 have lb117g2 : g2 < b117 := by have := H103.lt; omega
 have lb117b73 : b73 < b117 := by have := H82.lt; omega
 have nb117 : w.heap.size ≤ b117 := by have := K0.size; omega
 have ot123 : ∀ i, T99 i → i ≠ b117 := fun i hi => by have := Ents.lt hE105 i hi; omega
 have ot124 : ∀ i, ((Value.slice A97 l96.length c98)).ownBlock = some i → i ≠ b117 := fun i hi => ot123 i (hM104.ownT i hi)
 replace K0 := K0.t0 K121
 replace H102 := H102.keep K121 (fun h => h)
 replace H103 := H103.keep K121 (fun h => h)
 replace H82 := H82.keep K121 (fun h => h)
 replace hE105 := Ents.keep0 hE105 K121
 replace hM104 := LogE.keep0 hM104 K121
 clear K121 hs122
 refine Ops.put (t := 35) (b := b117) (off := 0) (v := (agg [(i64 ((0 : Int) + 1)), (i64 0), (i64 2), (i64 0), (i64 (agC 0 0 ((0 : Int) + 1) (agC 0 0 ((0 : Int) + 1) 0 ((l3.map EntP.key) ++ [(((0 : Int) + 1), [])])) ((l51.map EntP.key) ++ [(((0 : Int) + 1), [byte 97])])))])) (ys := [(i64 ((0 : Int) + 1)), (i64 0), (i64 2), (i64 0), (i64 (agC 0 0 ((0 : Int) + 1) (agC 0 0 ((0 : Int) + 1) 0 ((l3.map EntP.key) ++ [(((0 : Int) + 1), [])])) ((l51.map EntP.key) ++ [(((0 : Int) + 1), [byte 97])])))]) (by kernel_rfl) (by kernel_rfl) H120 (by kernel_rfl) (d := none) (by kernel_rfl) rfl (fun w125 H126 K127 => ?_)
 clear H120
 replace K0 := K0.trans K127 (U := none_) (fun i h1 h2 => h2) (fun i h1 h2 => by have h2 : i = b117 := h2; exfalso; omega)
 replace H102 := H102.k1 K127 (by omega)
 replace H103 := H103.k1 K127 (by omega)
 replace H82 := H82.k1 K127 (by omega)
 replace hE105 := Ents.keep hE105 K127 ot123
 replace hM104 := LogE.keep hM104 K127 ot123
 clear K127
 refine od ?_
 refine qs ?_
 refine qg ?_
 refine og 1 [(0, (Value.bool false)), (3, (ptr b73)), (4, (i64 (0 + ((l96.length : Nat) : Int)))), (5, (Value.slice none 0 0)), (6, (i64 0)), (7, (ptr b117)), (29, (Value.pointer (some ⟨b73, 2, none⟩)))] 1 ?_
 refine Ops.go (v := (i64 2)) (by kernel_rfl) (Runs.load (t := 3) (a := ⟨b73, 2, none⟩) (by kernel_rfl) (H82.loads (by kernel_rfl))) (d := (some 30)) (by kernel_rfl) rfl ?_
 refine og 3 [(0, (Value.bool false)), (3, (ptr b73)), (4, (i64 (0 + ((l96.length : Nat) : Int)))), (5, (Value.slice none 0 0)), (6, (i64 0)), (7, (ptr b117)), (32, (Value.bool true)), (33, (ptr b73))] 5 ?_
 refine Ops.go (v := (i64 ((0 : Int) + 1))) (by kernel_rfl) (Runs.load (t := 2) (a := ⟨b73, 0, none⟩) (by kernel_rfl) (H82.loads (by kernel_rfl))) (d := (some 34)) (by kernel_rfl) rfl ?_
 refine og 3 [(0, (Value.bool false)), (3, (ptr b73)), (4, (i64 (0 + ((l96.length : Nat) : Int)))), (5, (Value.slice none 0 0)), (6, (i64 0)), (7, (ptr b117)), (37, (Value.bool (((0 : Int) + 1) == 1)))] 9 ?_
 have h128 : (((0 : Int) + 1) == 1) = true := beq_t (by first | decide | omega | (simp only [hK106, hK61, hK13]; first | rfl | decide))
 rw [h128]
 refine og 1 [(0, (Value.bool false)), (4, (i64 (0 + ((l96.length : Nat) : Int)))), (5, (Value.slice none 0 0)), (6, (i64 0)), (7, (ptr b117)), (37, (Value.bool true)), (38, (Value.pointer (some ⟨b73, 4, none⟩)))] 10 ?_
 refine Ops.go (v := (i64 (agC 0 0 ((0 : Int) + 1) 0 ((l3.map EntP.key) ++ [(((0 : Int) + 1), [])])))) (by kernel_rfl) (Runs.load (t := 2) (a := ⟨b73, 4, none⟩) (by kernel_rfl) (H82.loads (by kernel_rfl))) (d := (some 39)) (by kernel_rfl) rfl ?_
 refine og 3 [(0, (Value.bool false)), (4, (i64 (0 + ((l96.length : Nat) : Int)))), (5, (Value.slice none 0 0)), (6, (i64 0)), (7, (ptr b117)), (42, (Value.bool ((agC 0 0 ((0 : Int) + 1) 0 ((l3.map EntP.key) ++ [(((0 : Int) + 1), [])])) == 1)))] 14 ?_
 have h129 : ((agC 0 0 ((0 : Int) + 1) 0 ((l3.map EntP.key) ++ [(((0 : Int) + 1), [])])) == 1) = true := beq_t (by first | decide | omega | (simp only [hK106, hK61, hK13]; first | rfl | decide))
 rw [h129]
 refine og 4 [(0, (Value.bool false)), (5, (Value.slice none 0 0)), (6, (i64 0)), (7, (ptr b117)), (46, (Value.bool ((0 + ((l96.length : Nat) : Int)) == 2)))] 18 ?_
 have h130 : ((0 + ((l96.length : Nat) : Int)) == 2) = true := beq_t (by first | decide | omega | (simp only [hK106, hK61, hK13]; first | rfl | decide))
 rw [h130]
 refine og 10 [(0, (Value.bool false)), (55, (Value.bool true)), (56, (Value.pointer (some ⟨b117, 4, none⟩)))] 28 ?_
 refine Ops.go (v := (i64 (agC 0 0 ((0 : Int) + 1) (agC 0 0 ((0 : Int) + 1) 0 ((l3.map EntP.key) ++ [(((0 : Int) + 1), [])])) ((l51.map EntP.key) ++ [(((0 : Int) + 1), [byte 97])])))) (by kernel_rfl) (Runs.load (t := 2) (a := ⟨b117, 4, none⟩) (by kernel_rfl) (H126.loads (by kernel_rfl))) (d := (some 57)) (by kernel_rfl) rfl ?_
 refine og 3 [(0, (Value.bool ((agC 0 0 ((0 : Int) + 1) (agC 0 0 ((0 : Int) + 1) 0 ((l3.map EntP.key) ++ [(((0 : Int) + 1), [])])) ((l51.map EntP.key) ++ [(((0 : Int) + 1), [byte 97])])) == 2)))] 32 ?_
 refine od ?_
 refine q_ret (by kernel_rfl) ?_
 refine ⟨(Value.bool ((agC 0 0 ((0 : Int) + 1) (agC 0 0 ((0 : Int) + 1) 0 ((l3.map EntP.key) ++ [(((0 : Int) + 1), [])])) ((l51.map EntP.key) ++ [(((0 : Int) + 1), [byte 97])])) == 2)), retv_tmp rfl rfl, ?_⟩
 exact ⟨by rw [show ((agC 0 0 ((0 : Int) + 1) (agC 0 0 ((0 : Int) + 1) 0 ((l3.map EntP.key) ++ [(((0 : Int) + 1), [])])) ((l51.map EntP.key) ++ [(((0 : Int) + 1), [byte 97])])) == 2) = true from beq_t (by first | decide | omega | (simp only [hK106, hK61, hK13]; first | rfl | decide))], K0⟩
end Go.Proofs.Ytnmpepjikfbpdaa
namespace Go.Proofs.Ytnmpepjikfbpdaa
open Go.Q Go.RowKit

set_option maxHeartbeats 4000000 in
theorem Deaf_tail (w : World) (F : Nat → Prop) (r b : Nat) (me n : Int) (bd : Bool) (m : MsgP) (E : Option Addr) (ec : Nat) (D : Option Addr) (dc : Nat) (U : Nat → Prop) (hF : FolL w F r (⟨1, me, n, 10 + 2 * me⟩ : FolQ) (⟨0, -1, -1, 0, 0, 0, 0, []⟩ : FolS) (.slice none 0 0)) (Hb : Has w b (rowL [(i64 m.kind), (i64 m.group), (i64 m.frm), (i64 m.to), (i64 m.term), (i64 m.index), (i64 m.logTerm), (i64 m.commit), (Value.bool m.ok), (Value.slice E m.entries.length ec), (Value.slice D m.data.length dc)] 46)) (hFb : ∀ i, F i → i ≠ b) (hbd : bd = true ↔ m.group ≠ 1 ∨ m.to ≠ me ∨ m.frm = me ∨ m.frm < 0 ∨ n ≤ m.frm ∨ m.kind < 1 ∨ 6 < m.kind ∨ m.term < 1 ∨ 1152921504606846976 < m.term ∨ m.index < 0 ∨ 1152921504606846976 < m.index ∨ m.logTerm < 0 ∨ 1152921504606846976 < m.logTerm ∨ m.commit < 0 ∨ 1152921504606846976 < m.commit) (hY : Ents w U (.slice E m.entries.length ec) m.entries) (hBigY : BigK (m.entries.map EntP.key)) (hYl : m.entries.length * 32 ≤ 140737488351232) (hm : m.Ok) (hUF : ∀ i, U i → ¬ F i) (hD : RdB w (.slice D m.data.length dc) m.data) (hDU : m.data ≠ [] → ∀ i, (Value.slice D m.data.length dc).ownBlock = some i → ¬ F i ∧ i < w.heap.size) (hdb : m.data.length ≤ 140737488351232) : wp Try.prog Try.f4.ntmps (cd Try.f4 [1, 1, 1, 1, 1, 1]) (retQ Try.prog Try.f4 (fun e w' => e = .returned (.bool true) ∧ Keeps F w w')) [(3, (ptr b)), (6, (Value.bool false)), (7, (ptr r)), (8, (Value.bool bd))] w := by
 have hi0 := hm.kind
 have hi1 := hm.group
 have hi2 := hm.frm
 have hi3 := hm.to
 have hi4 := hm.term
 have hi5 := hm.index
 have hi6 := hm.logTerm
 have hi7 := hm.commit
 have K0 : Keeps F w w := (Keeps.refl w).mono (fun _ _ h => h.elim)
 have Hbl := Hb.lt
 refine qs ?_
 refine qg ?_
 refine og 1 [(3, (ptr b)), (6, (Value.bool false)), (7, (ptr r)), (8, (Value.bool bd)), (99, (ptr r))] 1 ?_
 refine Ops.call (by kernel_rfl) (d := (some 100)) (by kernel_rfl) (InfoF_calls _ F r (⟨1, me, n, 10 + 2 * me⟩ : FolQ) (⟨0, -1, -1, 0, 0, 0, 0, []⟩ : FolS) (.slice none 0 0) hF.1) ?_
 rintro _ w2 ⟨rfl, K1⟩
 refine ⟨_, _, rfl, rfl, ?_⟩
 replace K0 := K0.tn K1
 replace Hb := Hb.keep K1 (fun h => h)
 replace hF := FolL.keep hF K1 (fun _ _ h => h)
 clear K1
 refine Ops.new (o := rowL [(i64 0), (i64 0), (i64 0), (i64 0), (i64 0)] 35) (V := fun b => (ptr b)) (by kernel_rfl) (d := (some 9)) (by kernel_rfl) (fun b => rfl) (fun b3 w4 hb5 H6 K7 hs8 => ?_)
 have lb3b : b < b3 := by have := Hb.lt; omega
 have nb3 : w.heap.size ≤ b3 := by have := K0.size; omega
 have of9 : ∀ i, F i → i ≠ b3 := fun i hi => by have := hF.2 i hi; omega
 replace K0 := K0.tn K7
 replace Hb := Hb.keep K7 (fun h => h)
 replace hF := FolL.keep hF K7 (fun _ _ h => h)
 clear K7 hs8
 refine Ops.put (t := 35) (b := b3) (off := 0) (v := (agg [(i64 0), (i64 (-1)), (i64 0), (i64 (-1)), (i64 0)])) (ys := [(i64 0), (i64 (-1)), (i64 0), (i64 (-1)), (i64 0)]) (by kernel_rfl) (by kernel_rfl) H6 (by kernel_rfl) (d := none) (by kernel_rfl) rfl (fun w10 H11 K12 => ?_)
 clear H6
 replace K0 := K0.trans K12 (U := (fun i => F i)) (fun i h1 h2 => h2) (fun i h1 h2 => by have h2 : i = b3 := h2; exfalso; omega)
 replace Hb := Hb.k1 K12 (by omega)
 replace hF := FolL.keep hF K12 of9
 clear K12
 refine od ?_
 refine qs ?_
 refine qg ?_
 refine og 1 [(3, (ptr b)), (6, (Value.bool false)), (7, (ptr r)), (8, (Value.bool bd)), (9, (ptr b3)), (101, (ptr r))] 1 ?_
 refine Ops.go (v := (MV m.kind m.ok m E ec D dc)) (by kernel_rfl) (Runs.load (t := 46) (a := ⟨b, 0, none⟩) (by kernel_rfl) (Hb.loads (by kernel_rfl))) (d := (some 102)) (by kernel_rfl) rfl ?_
 by_cases hq13 : bd = true
 ·skip
  have hq13b : bd = true := hq13
  have hbf := hbd.1 hq13
  refine Ops.call (by kernel_rfl) (d := (some 103)) (by kernel_rfl) (Step_calls _ F r (⟨1, me, n, 10 + 2 * me⟩ : FolQ) (⟨0, -1, -1, 0, 0, 0, 0, []⟩ : FolS) m E ec D dc U hF.1 hF.2 (Ents.keep hY K0 hUF) hBigY hYl hm hUF (RdB.keepg hD K0 (fun hb i hi h => (hDU hb i hi).1 h)) (fun hb i hi => ⟨(hDU hb i hi).1, Nat.lt_of_lt_of_le (hDU hb i hi).2 K0.size⟩) hdb) ?_
  rintro _ w17 ⟨s14, ov15, o16, rfl, K18, hF19, hO20, hR21⟩
  have of22 : ∀ i, (fun i => (F i ∨ w10.heap.size ≤ i) ∧ i < w17.heap.size) i → i ≠ b := fun i hi => by rcases hi.1 with z | z; (exact hFb i z); (have := Hb.lt; omega)
  have of23 : ∀ i, (fun i => (F i ∨ w10.heap.size ≤ i) ∧ i < w17.heap.size) i → i ≠ b3 := fun i hi => by rcases hi.1 with z | z; (exact of9 i z); (have := H11.lt; omega)
  obtain ⟨e25, e26⟩ : s14 = (⟨0, -1, -1, 0, 0, 0, 0, []⟩ : FolS) ∧ o16 = none := by rcases hR21 with ⟨_, z1, z2⟩ | ⟨hn, _⟩; (exact ⟨z1, z2⟩); (exact absurd (show m.group ≠ 1 ∨ m.to ≠ me ∨ m.frm = me ∨ m.frm < 0 ∨ n ≤ m.frm ∨ m.kind < 1 ∨ 6 < m.kind ∨ m.term < 1 ∨ 1152921504606846976 < m.term ∨ m.index < 0 ∨ 1152921504606846976 < m.index ∨ m.logTerm < 0 ∨ 1152921504606846976 < m.logTerm ∨ m.commit < 0 ∨ 1152921504606846976 < m.commit by omega) hn)
  rw [e25] at hF19
  rw [e26] at hO20
  have hO20 : ov15 = .slice none 0 0 := hO20
  subst hO20
  have hF19L : FolL w17 (fun i => (F i ∨ w10.heap.size ≤ i) ∧ i < w17.heap.size) r (⟨1, me, n, 10 + 2 * me⟩ : FolQ) (⟨0, -1, -1, 0, 0, 0, 0, []⟩ : FolS) (.slice none 0 0) := ⟨hF19, fun i hi => hi.2⟩
  refine ⟨_, _, rfl, rfl, ?_⟩
  replace K0 := K0.trans K18 (U := (fun i => F i)) (fun i h1 h2 => h2) (fun i h1 h2 => by have h2 : F i := h2; exact h2)
  replace Hb := Hb.keep K18 (by intro h; change F b at h; have := hFb b h; omega)
  replace H11 := H11.keep K18 (by intro h; change F b3 at h; have := of9 b3 h; omega)
  clear K18
  refine og 1 [(3, (ptr b)), (6, (Value.bool false)), (7, (ptr r)), (8, (Value.bool bd)), (9, (ptr b3)), (10, (Value.slice none 0 0))] 4 ?_
  refine od ?_
  refine qs ?_
  refine qg ?_
  refine og 1 [(3, (ptr b)), (6, (Value.bool false)), (8, (Value.bool bd)), (9, (ptr b3)), (10, (Value.slice none 0 0)), (104, (ptr r))] 1 ?_
  refine Ops.call (by kernel_rfl) (d := (some 105)) (by kernel_rfl) (InfoF_calls _ (fun i => (F i ∨ w10.heap.size ≤ i) ∧ i < w17.heap.size) r (⟨1, me, n, 10 + 2 * me⟩ : FolQ) (⟨0, -1, -1, 0, 0, 0, 0, []⟩ : FolS) (.slice none 0 0) hF19L.1) ?_
  rintro _ w28 ⟨rfl, K27⟩
  refine ⟨_, _, rfl, rfl, ?_⟩
  replace K0 := K0.tn K27
  replace Hb := Hb.keep K27 (fun h => h)
  replace H11 := H11.keep K27 (fun h => h)
  replace hF19L := FolL.keep hF19L K27 (fun _ _ h => h)
  clear K27
  refine Ops.new (o := rowL [(i64 0), (i64 0), (i64 0), (i64 0), (i64 0)] 35) (V := fun b => (ptr b)) (by kernel_rfl) (d := (some 11)) (by kernel_rfl) (fun b => rfl) (fun b29 w30 hb31 H32 K33 hs34 => ?_)
  have lb29b : b < b29 := by have := Hb.lt; omega
  have lb29b3 : b3 < b29 := by have := H11.lt; omega
  have nb29 : w.heap.size ≤ b29 := by have := K0.size; omega
  have of35 : ∀ i, (fun i => (F i ∨ w10.heap.size ≤ i) ∧ i < w17.heap.size) i → i ≠ b29 := fun i hi => by have := hF19L.2 i hi; omega
  replace K0 := K0.tn K33
  replace Hb := Hb.keep K33 (fun h => h)
  replace H11 := H11.keep K33 (fun h => h)
  replace hF19L := FolL.keep hF19L K33 (fun _ _ h => h)
  clear K33 hs34
  refine Ops.put (t := 35) (b := b29) (off := 0) (v := (agg [(i64 0), (i64 (-1)), (i64 0), (i64 (-1)), (i64 0)])) (ys := [(i64 0), (i64 (-1)), (i64 0), (i64 (-1)), (i64 0)]) (by kernel_rfl) (by kernel_rfl) H32 (by kernel_rfl) (d := none) (by kernel_rfl) rfl (fun w36 H37 K38 => ?_)
  clear H32
  replace K0 := K0.trans K38 (U := (fun i => F i)) (fun i h1 h2 => h2) (fun i h1 h2 => by have h2 : i = b29 := h2; exfalso; omega)
  replace Hb := Hb.k1 K38 (by omega)
  replace H11 := H11.k1 K38 (by omega)
  replace hF19L := FolL.keep hF19L K38 of35
  clear K38
  refine od ?_
  refine qs ?_
  refine qs ?_
  refine qg ?_
  refine og 1 [(3, (ptr b)), (6, (Value.bool false)), (9, (ptr b3)), (10, (Value.slice none 0 0)), (11, (ptr b29)), (106, (Value.bool bd))] 1 ?_
  refine od ?_
  rw [hq13b]
  refine q_then (o := .tmp 106) (by kernel_rfl) rfl ?_
  refine qs ?_
  refine qg ?_
  refine og 4 [(3, (ptr b)), (6, (Value.bool false)), (9, (ptr b3)), (11, (ptr b29)), (110, (Value.bool true))] 4 ?_
  refine Ops.go (v := (agg [(i64 0), (i64 (-1)), (i64 0), (i64 (-1)), (i64 0)])) (by kernel_rfl) (Runs.load (t := 35) (a := ⟨b3, 0, none⟩) (by kernel_rfl) (H11.loads (by kernel_rfl))) (d := (some 111)) (by kernel_rfl) rfl ?_
  refine Ops.go (v := (agg [(i64 0), (i64 (-1)), (i64 0), (i64 (-1)), (i64 0)])) (by kernel_rfl) (Runs.load (t := 35) (a := ⟨b29, 0, none⟩) (by kernel_rfl) (H37.loads (by kernel_rfl))) (d := (some 112)) (by kernel_rfl) rfl ?_
  refine Ops.go (v := (Value.bool (aggB [(i64 0), (i64 (-1)), (i64 0), (i64 (-1)), (i64 0)] [(i64 0), (i64 (-1)), (i64 0), (i64 (-1)), (i64 0)]))) (by kernel_rfl) (Runs.aggeq (t := 35) (by kernel_rfl) (by kernel_rfl)) (d := (some 113)) (by kernel_rfl) rfl ?_
  refine og 2 [(3, (ptr b)), (6, (Value.bool false)), (11, (ptr b29)), (115, (Value.bool (aggB [(i64 0), (i64 (-1)), (i64 0), (i64 (-1)), (i64 0)] [(i64 0), (i64 (-1)), (i64 0), (i64 (-1)), (i64 0)])))] 9 ?_
  have h39 : (aggB [(i64 0), (i64 (-1)), (i64 0), (i64 (-1)), (i64 0)] [(i64 0), (i64 (-1)), (i64 0), (i64 (-1)), (i64 0)]) = true := by simp [aggB, cellB]
  rw [h39]
  refine Ops.call (by kernel_rfl) (d := (some 116)) (by kernel_rfl) (known_calls _) ?_
  rintro _ w41 ⟨rfl, K40⟩
  refine ⟨_, _, rfl, rfl, ?_⟩
  replace K0 := K0.tn K40
  replace Hb := Hb.keep K40 (fun h => h)
  replace H11 := H11.keep K40 (fun h => h)
  replace H37 := H37.keep K40 (fun h => h)
  replace hF19L := FolL.keep hF19L K40 (fun _ _ h => h)
  clear K40
  refine og 2 [(3, (ptr b)), (6, (Value.bool true)), (11, (ptr b29))] 12 ?_
  refine od ?_
  refine q_ret (by kernel_rfl) ?_
  refine ⟨(Value.bool true), retv_tmp rfl rfl, ?_⟩
  exact ⟨rfl, K0⟩
 ·skip
  have hq13b : bd = false := by cases hz : bd; rfl; exact absurd hz hq13
  have hbf := show ¬ (m.group ≠ 1 ∨ m.to ≠ me ∨ m.frm = me ∨ m.frm < 0 ∨ n ≤ m.frm ∨ m.kind < 1 ∨ 6 < m.kind ∨ m.term < 1 ∨ 1152921504606846976 < m.term ∨ m.index < 0 ∨ 1152921504606846976 < m.index ∨ m.logTerm < 0 ∨ 1152921504606846976 < m.logTerm ∨ m.commit < 0 ∨ 1152921504606846976 < m.commit) from fun z => hq13 (hbd.2 z)
  refine Ops.call (by kernel_rfl) (d := (some 103)) (by kernel_rfl) (Step_calls _ F r (⟨1, me, n, 10 + 2 * me⟩ : FolQ) (⟨0, -1, -1, 0, 0, 0, 0, []⟩ : FolS) m E ec D dc U hF.1 hF.2 (Ents.keep hY K0 hUF) hBigY hYl hm hUF (RdB.keepg hD K0 (fun hb i hi h => (hDU hb i hi).1 h)) (fun hb i hi => ⟨(hDU hb i hi).1, Nat.lt_of_lt_of_le (hDU hb i hi).2 K0.size⟩) hdb) ?_
  rintro _ w45 ⟨s42, ov43, o44, rfl, K46, hF47, hO48, hR49⟩
  have of50 : ∀ i, (fun i => (F i ∨ w10.heap.size ≤ i) ∧ i < w45.heap.size) i → i ≠ b := fun i hi => by rcases hi.1 with z | z; (exact hFb i z); (have := Hb.lt; omega)
  have of51 : ∀ i, (fun i => (F i ∨ w10.heap.size ≤ i) ∧ i < w45.heap.size) i → i ≠ b3 := fun i hi => by rcases hi.1 with z | z; (exact of9 i z); (have := H11.lt; omega)
  obtain ⟨hn9, hg1, hg2, hg3, hg4, hg5⟩ := (show _ from hR49.resolve_left (fun z => absurd z.1 (show ¬ (m.group ≠ 1 ∨ m.to ≠ me ∨ m.frm = me ∨ m.frm < 0 ∨ n ≤ m.frm ∨ m.kind < 1 ∨ 6 < m.kind ∨ m.term < 1 ∨ 1152921504606846976 < m.term ∨ m.index < 0 ∨ 1152921504606846976 < m.index ∨ m.logTerm < 0 ∨ 1152921504606846976 < m.logTerm ∨ m.commit < 0 ∨ 1152921504606846976 < m.commit) by omega)))
  have hF47L : FolL w45 (fun i => (F i ∨ w10.heap.size ≤ i) ∧ i < w45.heap.size) r (⟨1, me, n, 10 + 2 * me⟩ : FolQ) s42 (.slice none 0 0) := ⟨hF47, fun i hi => hi.2⟩
  refine ⟨_, _, rfl, rfl, ?_⟩
  replace K0 := K0.trans K46 (U := (fun i => F i)) (fun i h1 h2 => h2) (fun i h1 h2 => by have h2 : F i := h2; exact h2)
  replace Hb := Hb.keep K46 (by intro h; change F b at h; have := hFb b h; omega)
  replace H11 := H11.keep K46 (by intro h; change F b3 at h; have := of9 b3 h; omega)
  clear K46
  refine og 1 [(3, (ptr b)), (6, (Value.bool false)), (7, (ptr r)), (8, (Value.bool bd)), (9, (ptr b3)), (10, ov43)] 4 ?_
  refine od ?_
  refine qs ?_
  refine qg ?_
  refine og 1 [(3, (ptr b)), (6, (Value.bool false)), (8, (Value.bool bd)), (9, (ptr b3)), (10, ov43), (104, (ptr r))] 1 ?_
  refine Ops.call (by kernel_rfl) (d := (some 105)) (by kernel_rfl) (InfoF_calls _ (fun i => (F i ∨ w10.heap.size ≤ i) ∧ i < w45.heap.size) r (⟨1, me, n, 10 + 2 * me⟩ : FolQ) s42 (.slice none 0 0) hF47L.1) ?_
  rintro _ w54 ⟨rfl, K53⟩
  refine ⟨_, _, rfl, rfl, ?_⟩
  replace K0 := K0.tn K53
  replace Hb := Hb.keep K53 (fun h => h)
  replace H11 := H11.keep K53 (fun h => h)
  replace hF47L := FolL.keep hF47L K53 (fun _ _ h => h)
  clear K53
  refine Ops.new (o := rowL [(i64 0), (i64 0), (i64 0), (i64 0), (i64 0)] 35) (V := fun b => (ptr b)) (by kernel_rfl) (d := (some 11)) (by kernel_rfl) (fun b => rfl) (fun b55 w56 hb57 H58 K59 hs60 => ?_)
  have lb55b : b < b55 := by have := Hb.lt; omega
  have lb55b3 : b3 < b55 := by have := H11.lt; omega
  have nb55 : w.heap.size ≤ b55 := by have := K0.size; omega
  have of61 : ∀ i, (fun i => (F i ∨ w10.heap.size ≤ i) ∧ i < w45.heap.size) i → i ≠ b55 := fun i hi => by have := hF47L.2 i hi; omega
  replace K0 := K0.tn K59
  replace Hb := Hb.keep K59 (fun h => h)
  replace H11 := H11.keep K59 (fun h => h)
  replace hF47L := FolL.keep hF47L K59 (fun _ _ h => h)
  clear K59 hs60
  refine Ops.put (t := 35) (b := b55) (off := 0) (v := (agg [(i64 s42.term), (i64 s42.voted), (i64 0), (i64 s42.leader), (i64 s42.commit)])) (ys := [(i64 s42.term), (i64 s42.voted), (i64 0), (i64 s42.leader), (i64 s42.commit)]) (by kernel_rfl) (by kernel_rfl) H58 (by kernel_rfl) (d := none) (by kernel_rfl) rfl (fun w62 H63 K64 => ?_)
  clear H58
  replace K0 := K0.trans K64 (U := (fun i => F i)) (fun i h1 h2 => h2) (fun i h1 h2 => by have h2 : i = b55 := h2; exfalso; omega)
  replace Hb := Hb.k1 K64 (by omega)
  replace H11 := H11.k1 K64 (by omega)
  replace hF47L := FolL.keep hF47L K64 of61
  clear K64
  refine od ?_
  refine qs ?_
  refine qs ?_
  refine qg ?_
  refine og 1 [(3, (ptr b)), (6, (Value.bool false)), (9, (ptr b3)), (10, ov43), (11, (ptr b55)), (106, (Value.bool bd))] 1 ?_
  refine od ?_
  rw [hq13b]
  refine q_else (o := .tmp 106) (by kernel_rfl) rfl ?_
  refine q_skip (by kernel_rfl) ?_
  refine qs ?_
  refine qg ?_
  refine og 1 [(3, (ptr b)), (6, (Value.bool false)), (118, (ptr b55))] 1 ?_
  refine Ops.go (v := (i64 s42.term)) (by kernel_rfl) (Runs.load (t := 2) (a := ⟨b55, 0, none⟩) (by kernel_rfl) (H63.loads (by kernel_rfl))) (d := (some 119)) (by kernel_rfl) rfl ?_
  refine og 1 [(6, (Value.bool false)), (119, (i64 s42.term)), (120, (Value.pointer (some ⟨b, 4, none⟩)))] 3 ?_
  refine Ops.go (v := (i64 m.term)) (by kernel_rfl) (Runs.load (t := 2) (a := ⟨b, 4, none⟩) (by kernel_rfl) (Hb.loads (by kernel_rfl))) (d := (some 121)) (by kernel_rfl) rfl ?_
  refine og 2 [(6, (Value.bool false)), (123, (Value.bool (decide (s42.term ≥ m.term))))] 6 ?_
  have h65 : (decide (s42.term ≥ m.term)) = true := decide_eq_true (by omega)
  rw [h65]
  refine Ops.call (by kernel_rfl) (d := (some 124)) (by kernel_rfl) (known_calls _) ?_
  rintro _ w67 ⟨rfl, K66⟩
  refine ⟨_, _, rfl, rfl, ?_⟩
  replace K0 := K0.tn K66
  replace Hb := Hb.keep K66 (fun h => h)
  replace H11 := H11.keep K66 (fun h => h)
  replace H63 := H63.keep K66 (fun h => h)
  replace hF47L := FolL.keep hF47L K66 (fun _ _ h => h)
  clear K66
  refine og 2 [(6, (Value.bool true))] 9 ?_
  refine od ?_
  refine q_ret (by kernel_rfl) ?_
  refine ⟨(Value.bool true), retv_tmp rfl rfl, ?_⟩
  exact ⟨rfl, K0⟩

set_option maxHeartbeats 4000000 in
theorem Deaf_calls (w : World) (m : MsgP) (E : Option Addr) (ec : Nat) (D : Option Addr) (dc : Nat) (me n : Int) (hm : m.Ok) (hE : RdE w (.slice E m.entries.length ec) m.entries) (hC : EntsIn w m.entries) (hD : RdB w (.slice D m.data.length dc) m.data) (hBigY : BigK (m.entries.map EntP.key)) (hYl : m.entries.length * 32 ≤ 140737488351232) (hdb : m.data.length ≤ 140737488351232) : Calls Try.prog 4 ⟨[(MV m.kind m.ok m E ec D dc), (i64 me), (i64 n)]⟩ w (fun e w' => e = .returned (.bool true) ∧ Keeps none_ w w') := by
 have hi0 := hm.kind
 have hi1 := hm.group
 have hi2 := hm.frm
 have hi3 := hm.to
 have hi4 := hm.term
 have hi5 := hm.index
 have hi6 := hm.logTerm
 have hi7 := hm.commit
 have K0 : Keeps none_ w w := Keeps.refl w
 refine q_calls Try.func4 (by kernel_rfl) (by kernel_rfl) ?_
 refine qs ?_
 refine qg ?_
 refine Ops.new (o := rowL [(i64 m.kind), (i64 m.group), (i64 m.frm), (i64 m.to), (i64 m.term), (i64 m.index), (i64 m.logTerm), (i64 m.commit), (Value.bool m.ok), (Value.slice E m.entries.length ec), (Value.slice D m.data.length dc)] 46) (V := fun b => (ptr b)) (by kernel_rfl) (d := (some 3)) (by kernel_rfl) (fun b => rfl) (fun b1 w2 hb3 H4 K5 hs6 => ?_)
 have nb1 : w.heap.size ≤ b1 := by have := K0.size; omega
 replace K0 := K0.t0 K5
 clear K5 hs6
 refine og 1 [(1, (i64 me)), (2, (i64 n)), (3, (ptr b1)), (6, (Value.bool false))] 2 ?_
 refine od ?_
 refine qs ?_
 refine qg ?_
 refine og 1 [(1, (i64 me)), (2, (i64 n)), (3, (ptr b1)), (6, (Value.bool false)), (12, (i64 n))] 1 ?_
 refine Ops.call (by kernel_rfl) (d := (some 13)) (by kernel_rfl) (Count01_calls _ n 5 (by omega)) ?_
 rintro _ _ ⟨rfl, rfl⟩
 have hc7 := cnt_range n (k := 5) (by omega)
 refine ⟨_, _, rfl, rfl, ?_⟩
 refine og 1 [(1, (i64 me)), (2, (i64 n)), (3, (ptr b1)), (6, (Value.bool false)), (14, (i64 (IntKind.i64.wrap (1 + (cnt n 5)))))] 3 ?_
 have e8 : IntKind.i64.wrap (1 + (cnt n 5)) = 1 + (cnt n 5) := wrap_i64 (by omega) (by omega)
 rw [e8]
 refine og 1 [(1, (i64 me)), (2, (i64 (1 + (cnt n 5)))), (3, (ptr b1)), (6, (Value.bool false))] 4 ?_
 refine od ?_
 refine qs ?_
 refine qg ?_
 refine og 2 [(1, (i64 me)), (2, (i64 (1 + (cnt n 5)))), (3, (ptr b1)), (6, (Value.bool false)), (15, (i64 me)), (16, (i64 (1 + (cnt n 5))))] 2 ?_
 refine Ops.call (by kernel_rfl) (d := (some 17)) (by kernel_rfl) (Count01_calls _ me (1 + (cnt n 5)) (by omega)) ?_
 rintro _ _ ⟨rfl, rfl⟩
 have hc9 := cnt_range me (k := (1 + (cnt n 5))) (by omega)
 refine ⟨_, _, rfl, rfl, ?_⟩
 refine og 1 [(1, (i64 (cnt me (1 + (cnt n 5))))), (2, (i64 (1 + (cnt n 5)))), (3, (ptr b1)), (6, (Value.bool false))] 4 ?_
 refine od ?_
 refine qs ?_
 refine qg ?_
 refine og 2 [(1, (i64 (cnt me (1 + (cnt n 5))))), (2, (i64 (1 + (cnt n 5)))), (3, (ptr b1)), (6, (Value.bool false)), (18, (i64 (cnt me (1 + (cnt n 5))))), (19, (i64 (1 + (cnt n 5))))] 2 ?_
 refine Ops.call (by kernel_rfl) (d := (some 20)) (by kernel_rfl) (emptyF_calls _ (cnt me (1 + (cnt n 5))) (1 + (cnt n 5)) (by omega) (by omega)) ?_
 rintro _ w11 ⟨r10, rfl, K12, hr13, hF14⟩
 have hz15 := K0.size
 have hF14L : FolL w11 (fun i => w2.heap.size ≤ i ∧ i < w11.heap.size) r10 (⟨1, cnt me (1 + (cnt n 5)), 1 + (cnt n 5), 10 + 2 * (cnt me (1 + (cnt n 5)))⟩ : FolQ) (⟨0, -1, -1, 0, 0, 0, 0, []⟩ : FolS) (.slice none 0 0) := ⟨hF14, fun i hi => hi.2⟩
 have of16 : ∀ i, (fun i => w2.heap.size ≤ i ∧ i < w11.heap.size) i → i ≠ b1 := fun i hi => by have h1 := hi.1; have := H4.lt; omega
 have sl17 : ∀ i, (fun i => w2.heap.size ≤ i ∧ i < w11.heap.size) i → w.heap.size ≤ i := fun i hi => Nat.le_trans hz15 hi.1
 refine ⟨_, _, rfl, rfl, ?_⟩
 replace K0 := K0.t0 K12
 replace H4 := H4.keep K12 (fun h => h)
 clear K12
 refine og 1 [(1, (i64 (cnt me (1 + (cnt n 5))))), (2, (i64 (1 + (cnt n 5)))), (3, (ptr b1)), (6, (Value.bool false)), (7, (ptr r10))] 4 ?_
 refine od ?_
 refine qs ?_
 refine qs ?_
 refine qg ?_
 refine og 2 [(1, (i64 (cnt me (1 + (cnt n 5))))), (2, (i64 (1 + (cnt n 5)))), (3, (ptr b1)), (6, (Value.bool false)), (7, (ptr r10)), (22, (Value.bool false))] 2 ?_
 refine od ?_
 refine q_else (o := .tmp 22) (by kernel_rfl) rfl ?_
 refine q_skip (by kernel_rfl) ?_
 refine qs ?_
 refine qg ?_
 refine og 1 [(1, (i64 (cnt me (1 + (cnt n 5))))), (2, (i64 (1 + (cnt n 5)))), (3, (ptr b1)), (6, (Value.bool false)), (7, (ptr r10)), (23, (Value.pointer (some ⟨b1, 1, none⟩)))] 1 ?_
 refine Ops.go (v := (i64 m.group)) (by kernel_rfl) (Runs.load (t := 3) (a := ⟨b1, 1, none⟩) (by kernel_rfl) (H4.loads (by kernel_rfl))) (d := (some 24)) (by kernel_rfl) rfl ?_
 refine og 2 [(1, (i64 (cnt me (1 + (cnt n 5))))), (2, (i64 (1 + (cnt n 5)))), (3, (ptr b1)), (6, (Value.bool false)), (7, (ptr r10)), (26, (Value.bool (m.group != 1)))] 4 ?_
 refine Ops.split (m.group != 1) (fun h18 => ?_) (fun h18 => ?_)
 ·rw [h18]
  have p19 : ¬ (m.group = 1) := of_bne_t h18
  refine og 73 [(3, (ptr b1)), (6, (Value.bool false)), (7, (ptr r10)), (8, (Value.bool true))] 77 ?_
  refine od ?_
  refine q_keep (R := [(3, (ptr b1)), (6, (Value.bool false)), (7, (ptr r10)), (8, (Value.bool true))]) (by kernel_rfl) ?_
  have hcs := K0.size
  exact q_tail (Deaf_tail w11 (fun i => w2.heap.size ≤ i ∧ i < w11.heap.size) r10 b1 (cnt me (1 + (cnt n 5))) (1 + (cnt n 5)) true m E ec D dc (fun i => i < w.heap.size) hF14L H4 of16 ⟨fun _ => by omega, fun _ => rfl⟩ ((Ents.given hE hC).keep0 K0) hBigY hYl hm (fun i hi h => by have z1 : i < w.heap.size := hi; have := sl17 i h; omega) (hD.keep0 (by omega) K0) (fun hb i hi => ⟨fun h => by have := Rd.lt hD (bv_ne hb) i hi; have := sl17 i h; omega, Nat.lt_of_lt_of_le (Rd.lt hD (bv_ne hb) i hi) K0.size⟩) hdb) (fun e w' hq => ⟨hq.1, K0.trans hq.2 (fun _ _ h => h) (fun i hi h => by have := sl17 i h; omega)⟩)
 ·rw [h18]
  have p20 : m.group = 1 := of_bne_f h18
  refine og 1 [(1, (i64 (cnt me (1 + (cnt n 5))))), (2, (i64 (1 + (cnt n 5)))), (3, (ptr b1)), (6, (Value.bool false)), (7, (ptr r10)), (26, (Value.bool false)), (27, (Value.pointer (some ⟨b1, 3, none⟩)))] 5 ?_
  refine Ops.go (v := (i64 m.to)) (by kernel_rfl) (Runs.load (t := 3) (a := ⟨b1, 3, none⟩) (by kernel_rfl) (H4.loads (by kernel_rfl))) (d := (some 28)) (by kernel_rfl) rfl ?_
  refine og 4 [(1, (i64 (cnt me (1 + (cnt n 5))))), (2, (i64 (1 + (cnt n 5)))), (3, (ptr b1)), (6, (Value.bool false)), (7, (ptr r10)), (32, (Value.bool (m.to != (cnt me (1 + (cnt n 5))))))] 10 ?_
  refine Ops.split (m.to != (cnt me (1 + (cnt n 5)))) (fun h21 => ?_) (fun h21 => ?_)
  ·rw [h21]
   have p22 : ¬ (m.to = cnt me (1 + (cnt n 5))) := of_bne_t h21
   refine og 67 [(3, (ptr b1)), (6, (Value.bool false)), (7, (ptr r10)), (8, (Value.bool true))] 77 ?_
   refine od ?_
   refine q_keep (R := [(3, (ptr b1)), (6, (Value.bool false)), (7, (ptr r10)), (8, (Value.bool true))]) (by kernel_rfl) ?_
   have hcs := K0.size
   exact q_tail (Deaf_tail w11 (fun i => w2.heap.size ≤ i ∧ i < w11.heap.size) r10 b1 (cnt me (1 + (cnt n 5))) (1 + (cnt n 5)) true m E ec D dc (fun i => i < w.heap.size) hF14L H4 of16 ⟨fun _ => by omega, fun _ => rfl⟩ ((Ents.given hE hC).keep0 K0) hBigY hYl hm (fun i hi h => by have z1 : i < w.heap.size := hi; have := sl17 i h; omega) (hD.keep0 (by omega) K0) (fun hb i hi => ⟨fun h => by have := Rd.lt hD (bv_ne hb) i hi; have := sl17 i h; omega, Nat.lt_of_lt_of_le (Rd.lt hD (bv_ne hb) i hi) K0.size⟩) hdb) (fun e w' hq => ⟨hq.1, K0.trans hq.2 (fun _ _ h => h) (fun i hi h => by have := sl17 i h; omega)⟩)
  ·rw [h21]
   have p23 : m.to = cnt me (1 + (cnt n 5)) := of_bne_f h21
   refine og 1 [(1, (i64 (cnt me (1 + (cnt n 5))))), (2, (i64 (1 + (cnt n 5)))), (3, (ptr b1)), (6, (Value.bool false)), (7, (ptr r10)), (32, (Value.bool false)), (33, (Value.pointer (some ⟨b1, 2, none⟩)))] 11 ?_
   refine Ops.go (v := (i64 m.frm)) (by kernel_rfl) (Runs.load (t := 3) (a := ⟨b1, 2, none⟩) (by kernel_rfl) (H4.loads (by kernel_rfl))) (d := (some 34)) (by kernel_rfl) rfl ?_
   refine og 4 [(2, (i64 (1 + (cnt n 5)))), (3, (ptr b1)), (6, (Value.bool false)), (7, (ptr r10)), (38, (Value.bool (m.frm == (cnt me (1 + (cnt n 5))))))] 16 ?_
   refine Ops.split (m.frm == (cnt me (1 + (cnt n 5)))) (fun h24 => ?_) (fun h24 => ?_)
   ·rw [h24]
    have p25 : m.frm = cnt me (1 + (cnt n 5)) := of_beq_t h24
    refine og 61 [(3, (ptr b1)), (6, (Value.bool false)), (7, (ptr r10)), (8, (Value.bool true))] 77 ?_
    refine od ?_
    refine q_keep (R := [(3, (ptr b1)), (6, (Value.bool false)), (7, (ptr r10)), (8, (Value.bool true))]) (by kernel_rfl) ?_
    have hcs := K0.size
    exact q_tail (Deaf_tail w11 (fun i => w2.heap.size ≤ i ∧ i < w11.heap.size) r10 b1 (cnt me (1 + (cnt n 5))) (1 + (cnt n 5)) true m E ec D dc (fun i => i < w.heap.size) hF14L H4 of16 ⟨fun _ => by omega, fun _ => rfl⟩ ((Ents.given hE hC).keep0 K0) hBigY hYl hm (fun i hi h => by have z1 : i < w.heap.size := hi; have := sl17 i h; omega) (hD.keep0 (by omega) K0) (fun hb i hi => ⟨fun h => by have := Rd.lt hD (bv_ne hb) i hi; have := sl17 i h; omega, Nat.lt_of_lt_of_le (Rd.lt hD (bv_ne hb) i hi) K0.size⟩) hdb) (fun e w' hq => ⟨hq.1, K0.trans hq.2 (fun _ _ h => h) (fun i hi h => by have := sl17 i h; omega)⟩)
   ·rw [h24]
    have p26 : ¬ (m.frm = cnt me (1 + (cnt n 5))) := of_beq_f h24
    refine og 1 [(2, (i64 (1 + (cnt n 5)))), (3, (ptr b1)), (6, (Value.bool false)), (7, (ptr r10)), (38, (Value.bool false)), (39, (Value.pointer (some ⟨b1, 2, none⟩)))] 17 ?_
    refine Ops.go (v := (i64 m.frm)) (by kernel_rfl) (Runs.load (t := 3) (a := ⟨b1, 2, none⟩) (by kernel_rfl) (H4.loads (by kernel_rfl))) (d := (some 40)) (by kernel_rfl) rfl ?_
    refine og 3 [(2, (i64 (1 + (cnt n 5)))), (3, (ptr b1)), (6, (Value.bool false)), (7, (ptr r10)), (43, (Value.bool (decide (m.frm < 0))))] 21 ?_
    refine Ops.split (decide (m.frm < 0)) (fun h27 => ?_) (fun h27 => ?_)
    ·rw [h27]
     have p28 : m.frm < 0 := of_decide_eq_true h27
     refine og 56 [(3, (ptr b1)), (6, (Value.bool false)), (7, (ptr r10)), (8, (Value.bool true))] 77 ?_
     refine od ?_
     refine q_keep (R := [(3, (ptr b1)), (6, (Value.bool false)), (7, (ptr r10)), (8, (Value.bool true))]) (by kernel_rfl) ?_
     have hcs := K0.size
     exact q_tail (Deaf_tail w11 (fun i => w2.heap.size ≤ i ∧ i < w11.heap.size) r10 b1 (cnt me (1 + (cnt n 5))) (1 + (cnt n 5)) true m E ec D dc (fun i => i < w.heap.size) hF14L H4 of16 ⟨fun _ => by omega, fun _ => rfl⟩ ((Ents.given hE hC).keep0 K0) hBigY hYl hm (fun i hi h => by have z1 : i < w.heap.size := hi; have := sl17 i h; omega) (hD.keep0 (by omega) K0) (fun hb i hi => ⟨fun h => by have := Rd.lt hD (bv_ne hb) i hi; have := sl17 i h; omega, Nat.lt_of_lt_of_le (Rd.lt hD (bv_ne hb) i hi) K0.size⟩) hdb) (fun e w' hq => ⟨hq.1, K0.trans hq.2 (fun _ _ h => h) (fun i hi h => by have := sl17 i h; omega)⟩)
    ·rw [h27]
     have p29 : ¬ (m.frm < 0) := of_decide_eq_false h27
     refine og 1 [(2, (i64 (1 + (cnt n 5)))), (3, (ptr b1)), (6, (Value.bool false)), (7, (ptr r10)), (43, (Value.bool false)), (44, (Value.pointer (some ⟨b1, 2, none⟩)))] 22 ?_
     refine Ops.go (v := (i64 m.frm)) (by kernel_rfl) (Runs.load (t := 3) (a := ⟨b1, 2, none⟩) (by kernel_rfl) (H4.loads (by kernel_rfl))) (d := (some 45)) (by kernel_rfl) rfl ?_
     refine og 4 [(3, (ptr b1)), (6, (Value.bool false)), (7, (ptr r10)), (49, (Value.bool (decide (m.frm ≥ 1 + (cnt n 5)))))] 27 ?_
     refine Ops.split (decide (m.frm ≥ 1 + (cnt n 5))) (fun h30 => ?_) (fun h30 => ?_)
     ·rw [h30]
      have p31 : m.frm ≥ 1 + (cnt n 5) := of_decide_eq_true h30
      refine og 50 [(3, (ptr b1)), (6, (Value.bool false)), (7, (ptr r10)), (8, (Value.bool true))] 77 ?_
      refine od ?_
      refine q_keep (R := [(3, (ptr b1)), (6, (Value.bool false)), (7, (ptr r10)), (8, (Value.bool true))]) (by kernel_rfl) ?_
      have hcs := K0.size
      exact q_tail (Deaf_tail w11 (fun i => w2.heap.size ≤ i ∧ i < w11.heap.size) r10 b1 (cnt me (1 + (cnt n 5))) (1 + (cnt n 5)) true m E ec D dc (fun i => i < w.heap.size) hF14L H4 of16 ⟨fun _ => by omega, fun _ => rfl⟩ ((Ents.given hE hC).keep0 K0) hBigY hYl hm (fun i hi h => by have z1 : i < w.heap.size := hi; have := sl17 i h; omega) (hD.keep0 (by omega) K0) (fun hb i hi => ⟨fun h => by have := Rd.lt hD (bv_ne hb) i hi; have := sl17 i h; omega, Nat.lt_of_lt_of_le (Rd.lt hD (bv_ne hb) i hi) K0.size⟩) hdb) (fun e w' hq => ⟨hq.1, K0.trans hq.2 (fun _ _ h => h) (fun i hi h => by have := sl17 i h; omega)⟩)
     ·rw [h30]
      have p32 : ¬ (m.frm ≥ 1 + (cnt n 5)) := of_decide_eq_false h30
      refine og 1 [(3, (ptr b1)), (6, (Value.bool false)), (7, (ptr r10)), (49, (Value.bool false)), (50, (ptr b1))] 28 ?_
      refine Ops.go (v := (i64 m.kind)) (by kernel_rfl) (Runs.load (t := 3) (a := ⟨b1, 0, none⟩) (by kernel_rfl) (H4.loads (by kernel_rfl))) (d := (some 51)) (by kernel_rfl) rfl ?_
      refine og 3 [(3, (ptr b1)), (6, (Value.bool false)), (7, (ptr r10)), (54, (Value.bool (decide (m.kind < 1))))] 32 ?_
      refine Ops.split (decide (m.kind < 1)) (fun h33 => ?_) (fun h33 => ?_)
      ·rw [h33]
       have p34 : m.kind < 1 := of_decide_eq_true h33
       refine og 45 [(3, (ptr b1)), (6, (Value.bool false)), (7, (ptr r10)), (8, (Value.bool true))] 77 ?_
       refine od ?_
       refine q_keep (R := [(3, (ptr b1)), (6, (Value.bool false)), (7, (ptr r10)), (8, (Value.bool true))]) (by kernel_rfl) ?_
       have hcs := K0.size
       exact q_tail (Deaf_tail w11 (fun i => w2.heap.size ≤ i ∧ i < w11.heap.size) r10 b1 (cnt me (1 + (cnt n 5))) (1 + (cnt n 5)) true m E ec D dc (fun i => i < w.heap.size) hF14L H4 of16 ⟨fun _ => by omega, fun _ => rfl⟩ ((Ents.given hE hC).keep0 K0) hBigY hYl hm (fun i hi h => by have z1 : i < w.heap.size := hi; have := sl17 i h; omega) (hD.keep0 (by omega) K0) (fun hb i hi => ⟨fun h => by have := Rd.lt hD (bv_ne hb) i hi; have := sl17 i h; omega, Nat.lt_of_lt_of_le (Rd.lt hD (bv_ne hb) i hi) K0.size⟩) hdb) (fun e w' hq => ⟨hq.1, K0.trans hq.2 (fun _ _ h => h) (fun i hi h => by have := sl17 i h; omega)⟩)
      ·rw [h33]
       have p35 : ¬ (m.kind < 1) := of_decide_eq_false h33
       refine og 1 [(3, (ptr b1)), (6, (Value.bool false)), (7, (ptr r10)), (54, (Value.bool false)), (55, (ptr b1))] 33 ?_
       refine Ops.go (v := (i64 m.kind)) (by kernel_rfl) (Runs.load (t := 3) (a := ⟨b1, 0, none⟩) (by kernel_rfl) (H4.loads (by kernel_rfl))) (d := (some 56)) (by kernel_rfl) rfl ?_
       refine og 3 [(3, (ptr b1)), (6, (Value.bool false)), (7, (ptr r10)), (59, (Value.bool (decide (m.kind > 6))))] 37 ?_
       refine Ops.split (decide (m.kind > 6)) (fun h36 => ?_) (fun h36 => ?_)
       ·rw [h36]
        have p37 : m.kind > 6 := of_decide_eq_true h36
        refine og 40 [(3, (ptr b1)), (6, (Value.bool false)), (7, (ptr r10)), (8, (Value.bool true))] 77 ?_
        refine od ?_
        refine q_keep (R := [(3, (ptr b1)), (6, (Value.bool false)), (7, (ptr r10)), (8, (Value.bool true))]) (by kernel_rfl) ?_
        have hcs := K0.size
        exact q_tail (Deaf_tail w11 (fun i => w2.heap.size ≤ i ∧ i < w11.heap.size) r10 b1 (cnt me (1 + (cnt n 5))) (1 + (cnt n 5)) true m E ec D dc (fun i => i < w.heap.size) hF14L H4 of16 ⟨fun _ => by omega, fun _ => rfl⟩ ((Ents.given hE hC).keep0 K0) hBigY hYl hm (fun i hi h => by have z1 : i < w.heap.size := hi; have := sl17 i h; omega) (hD.keep0 (by omega) K0) (fun hb i hi => ⟨fun h => by have := Rd.lt hD (bv_ne hb) i hi; have := sl17 i h; omega, Nat.lt_of_lt_of_le (Rd.lt hD (bv_ne hb) i hi) K0.size⟩) hdb) (fun e w' hq => ⟨hq.1, K0.trans hq.2 (fun _ _ h => h) (fun i hi h => by have := sl17 i h; omega)⟩)
       ·rw [h36]
        have p38 : ¬ (m.kind > 6) := of_decide_eq_false h36
        refine og 1 [(3, (ptr b1)), (6, (Value.bool false)), (7, (ptr r10)), (59, (Value.bool false)), (60, (Value.pointer (some ⟨b1, 4, none⟩)))] 38 ?_
        refine Ops.go (v := (i64 m.term)) (by kernel_rfl) (Runs.load (t := 2) (a := ⟨b1, 4, none⟩) (by kernel_rfl) (H4.loads (by kernel_rfl))) (d := (some 61)) (by kernel_rfl) rfl ?_
        refine og 3 [(3, (ptr b1)), (6, (Value.bool false)), (7, (ptr r10)), (64, (Value.bool (decide (m.term < 1))))] 42 ?_
        refine Ops.split (decide (m.term < 1)) (fun h39 => ?_) (fun h39 => ?_)
        ·rw [h39]
         have p40 : m.term < 1 := of_decide_eq_true h39
         refine og 35 [(3, (ptr b1)), (6, (Value.bool false)), (7, (ptr r10)), (8, (Value.bool true))] 77 ?_
         refine od ?_
         refine q_keep (R := [(3, (ptr b1)), (6, (Value.bool false)), (7, (ptr r10)), (8, (Value.bool true))]) (by kernel_rfl) ?_
         have hcs := K0.size
         exact q_tail (Deaf_tail w11 (fun i => w2.heap.size ≤ i ∧ i < w11.heap.size) r10 b1 (cnt me (1 + (cnt n 5))) (1 + (cnt n 5)) true m E ec D dc (fun i => i < w.heap.size) hF14L H4 of16 ⟨fun _ => by omega, fun _ => rfl⟩ ((Ents.given hE hC).keep0 K0) hBigY hYl hm (fun i hi h => by have z1 : i < w.heap.size := hi; have := sl17 i h; omega) (hD.keep0 (by omega) K0) (fun hb i hi => ⟨fun h => by have := Rd.lt hD (bv_ne hb) i hi; have := sl17 i h; omega, Nat.lt_of_lt_of_le (Rd.lt hD (bv_ne hb) i hi) K0.size⟩) hdb) (fun e w' hq => ⟨hq.1, K0.trans hq.2 (fun _ _ h => h) (fun i hi h => by have := sl17 i h; omega)⟩)
        ·rw [h39]
         have p41 : ¬ (m.term < 1) := of_decide_eq_false h39
         refine og 1 [(3, (ptr b1)), (6, (Value.bool false)), (7, (ptr r10)), (64, (Value.bool false)), (65, (Value.pointer (some ⟨b1, 4, none⟩)))] 43 ?_
         refine Ops.go (v := (i64 m.term)) (by kernel_rfl) (Runs.load (t := 2) (a := ⟨b1, 4, none⟩) (by kernel_rfl) (H4.loads (by kernel_rfl))) (d := (some 66)) (by kernel_rfl) rfl ?_
         refine og 3 [(3, (ptr b1)), (6, (Value.bool false)), (7, (ptr r10)), (69, (Value.bool (decide (m.term > 1152921504606846976))))] 47 ?_
         refine Ops.split (decide (m.term > 1152921504606846976)) (fun h42 => ?_) (fun h42 => ?_)
         ·rw [h42]
          have p43 : m.term > 1152921504606846976 := of_decide_eq_true h42
          refine og 30 [(3, (ptr b1)), (6, (Value.bool false)), (7, (ptr r10)), (8, (Value.bool true))] 77 ?_
          refine od ?_
          refine q_keep (R := [(3, (ptr b1)), (6, (Value.bool false)), (7, (ptr r10)), (8, (Value.bool true))]) (by kernel_rfl) ?_
          have hcs := K0.size
          exact q_tail (Deaf_tail w11 (fun i => w2.heap.size ≤ i ∧ i < w11.heap.size) r10 b1 (cnt me (1 + (cnt n 5))) (1 + (cnt n 5)) true m E ec D dc (fun i => i < w.heap.size) hF14L H4 of16 ⟨fun _ => by omega, fun _ => rfl⟩ ((Ents.given hE hC).keep0 K0) hBigY hYl hm (fun i hi h => by have z1 : i < w.heap.size := hi; have := sl17 i h; omega) (hD.keep0 (by omega) K0) (fun hb i hi => ⟨fun h => by have := Rd.lt hD (bv_ne hb) i hi; have := sl17 i h; omega, Nat.lt_of_lt_of_le (Rd.lt hD (bv_ne hb) i hi) K0.size⟩) hdb) (fun e w' hq => ⟨hq.1, K0.trans hq.2 (fun _ _ h => h) (fun i hi h => by have := sl17 i h; omega)⟩)
         ·rw [h42]
          have p44 : ¬ (m.term > 1152921504606846976) := of_decide_eq_false h42
          refine og 1 [(3, (ptr b1)), (6, (Value.bool false)), (7, (ptr r10)), (69, (Value.bool false)), (70, (Value.pointer (some ⟨b1, 5, none⟩)))] 48 ?_
          refine Ops.go (v := (i64 m.index)) (by kernel_rfl) (Runs.load (t := 2) (a := ⟨b1, 5, none⟩) (by kernel_rfl) (H4.loads (by kernel_rfl))) (d := (some 71)) (by kernel_rfl) rfl ?_
          refine og 3 [(3, (ptr b1)), (6, (Value.bool false)), (7, (ptr r10)), (74, (Value.bool (decide (m.index < 0))))] 52 ?_
          refine Ops.split (decide (m.index < 0)) (fun h45 => ?_) (fun h45 => ?_)
          ·rw [h45]
           have p46 : m.index < 0 := of_decide_eq_true h45
           refine og 25 [(3, (ptr b1)), (6, (Value.bool false)), (7, (ptr r10)), (8, (Value.bool true))] 77 ?_
           refine od ?_
           refine q_keep (R := [(3, (ptr b1)), (6, (Value.bool false)), (7, (ptr r10)), (8, (Value.bool true))]) (by kernel_rfl) ?_
           have hcs := K0.size
           exact q_tail (Deaf_tail w11 (fun i => w2.heap.size ≤ i ∧ i < w11.heap.size) r10 b1 (cnt me (1 + (cnt n 5))) (1 + (cnt n 5)) true m E ec D dc (fun i => i < w.heap.size) hF14L H4 of16 ⟨fun _ => by omega, fun _ => rfl⟩ ((Ents.given hE hC).keep0 K0) hBigY hYl hm (fun i hi h => by have z1 : i < w.heap.size := hi; have := sl17 i h; omega) (hD.keep0 (by omega) K0) (fun hb i hi => ⟨fun h => by have := Rd.lt hD (bv_ne hb) i hi; have := sl17 i h; omega, Nat.lt_of_lt_of_le (Rd.lt hD (bv_ne hb) i hi) K0.size⟩) hdb) (fun e w' hq => ⟨hq.1, K0.trans hq.2 (fun _ _ h => h) (fun i hi h => by have := sl17 i h; omega)⟩)
          ·rw [h45]
           have p47 : ¬ (m.index < 0) := of_decide_eq_false h45
           refine og 1 [(3, (ptr b1)), (6, (Value.bool false)), (7, (ptr r10)), (74, (Value.bool false)), (75, (Value.pointer (some ⟨b1, 5, none⟩)))] 53 ?_
           refine Ops.go (v := (i64 m.index)) (by kernel_rfl) (Runs.load (t := 2) (a := ⟨b1, 5, none⟩) (by kernel_rfl) (H4.loads (by kernel_rfl))) (d := (some 76)) (by kernel_rfl) rfl ?_
           refine og 3 [(3, (ptr b1)), (6, (Value.bool false)), (7, (ptr r10)), (79, (Value.bool (decide (m.index > 1152921504606846976))))] 57 ?_
           refine Ops.split (decide (m.index > 1152921504606846976)) (fun h48 => ?_) (fun h48 => ?_)
           ·rw [h48]
            have p49 : m.index > 1152921504606846976 := of_decide_eq_true h48
            refine og 20 [(3, (ptr b1)), (6, (Value.bool false)), (7, (ptr r10)), (8, (Value.bool true))] 77 ?_
            refine od ?_
            refine q_keep (R := [(3, (ptr b1)), (6, (Value.bool false)), (7, (ptr r10)), (8, (Value.bool true))]) (by kernel_rfl) ?_
            have hcs := K0.size
            exact q_tail (Deaf_tail w11 (fun i => w2.heap.size ≤ i ∧ i < w11.heap.size) r10 b1 (cnt me (1 + (cnt n 5))) (1 + (cnt n 5)) true m E ec D dc (fun i => i < w.heap.size) hF14L H4 of16 ⟨fun _ => by omega, fun _ => rfl⟩ ((Ents.given hE hC).keep0 K0) hBigY hYl hm (fun i hi h => by have z1 : i < w.heap.size := hi; have := sl17 i h; omega) (hD.keep0 (by omega) K0) (fun hb i hi => ⟨fun h => by have := Rd.lt hD (bv_ne hb) i hi; have := sl17 i h; omega, Nat.lt_of_lt_of_le (Rd.lt hD (bv_ne hb) i hi) K0.size⟩) hdb) (fun e w' hq => ⟨hq.1, K0.trans hq.2 (fun _ _ h => h) (fun i hi h => by have := sl17 i h; omega)⟩)
           ·rw [h48]
            have p50 : ¬ (m.index > 1152921504606846976) := of_decide_eq_false h48
            refine og 1 [(3, (ptr b1)), (6, (Value.bool false)), (7, (ptr r10)), (79, (Value.bool false)), (80, (Value.pointer (some ⟨b1, 6, none⟩)))] 58 ?_
            refine Ops.go (v := (i64 m.logTerm)) (by kernel_rfl) (Runs.load (t := 2) (a := ⟨b1, 6, none⟩) (by kernel_rfl) (H4.loads (by kernel_rfl))) (d := (some 81)) (by kernel_rfl) rfl ?_
            refine og 3 [(3, (ptr b1)), (6, (Value.bool false)), (7, (ptr r10)), (84, (Value.bool (decide (m.logTerm < 0))))] 62 ?_
            refine Ops.split (decide (m.logTerm < 0)) (fun h51 => ?_) (fun h51 => ?_)
            ·rw [h51]
             have p52 : m.logTerm < 0 := of_decide_eq_true h51
             refine og 15 [(3, (ptr b1)), (6, (Value.bool false)), (7, (ptr r10)), (8, (Value.bool true))] 77 ?_
             refine od ?_
             refine q_keep (R := [(3, (ptr b1)), (6, (Value.bool false)), (7, (ptr r10)), (8, (Value.bool true))]) (by kernel_rfl) ?_
             have hcs := K0.size
             exact q_tail (Deaf_tail w11 (fun i => w2.heap.size ≤ i ∧ i < w11.heap.size) r10 b1 (cnt me (1 + (cnt n 5))) (1 + (cnt n 5)) true m E ec D dc (fun i => i < w.heap.size) hF14L H4 of16 ⟨fun _ => by omega, fun _ => rfl⟩ ((Ents.given hE hC).keep0 K0) hBigY hYl hm (fun i hi h => by have z1 : i < w.heap.size := hi; have := sl17 i h; omega) (hD.keep0 (by omega) K0) (fun hb i hi => ⟨fun h => by have := Rd.lt hD (bv_ne hb) i hi; have := sl17 i h; omega, Nat.lt_of_lt_of_le (Rd.lt hD (bv_ne hb) i hi) K0.size⟩) hdb) (fun e w' hq => ⟨hq.1, K0.trans hq.2 (fun _ _ h => h) (fun i hi h => by have := sl17 i h; omega)⟩)
            ·rw [h51]
             have p53 : ¬ (m.logTerm < 0) := of_decide_eq_false h51
             refine og 1 [(3, (ptr b1)), (6, (Value.bool false)), (7, (ptr r10)), (84, (Value.bool false)), (85, (Value.pointer (some ⟨b1, 6, none⟩)))] 63 ?_
             refine Ops.go (v := (i64 m.logTerm)) (by kernel_rfl) (Runs.load (t := 2) (a := ⟨b1, 6, none⟩) (by kernel_rfl) (H4.loads (by kernel_rfl))) (d := (some 86)) (by kernel_rfl) rfl ?_
             refine og 3 [(3, (ptr b1)), (6, (Value.bool false)), (7, (ptr r10)), (89, (Value.bool (decide (m.logTerm > 1152921504606846976))))] 67 ?_
             refine Ops.split (decide (m.logTerm > 1152921504606846976)) (fun h54 => ?_) (fun h54 => ?_)
             ·rw [h54]
              have p55 : m.logTerm > 1152921504606846976 := of_decide_eq_true h54
              refine og 10 [(3, (ptr b1)), (6, (Value.bool false)), (7, (ptr r10)), (8, (Value.bool true))] 77 ?_
              refine od ?_
              refine q_keep (R := [(3, (ptr b1)), (6, (Value.bool false)), (7, (ptr r10)), (8, (Value.bool true))]) (by kernel_rfl) ?_
              have hcs := K0.size
              exact q_tail (Deaf_tail w11 (fun i => w2.heap.size ≤ i ∧ i < w11.heap.size) r10 b1 (cnt me (1 + (cnt n 5))) (1 + (cnt n 5)) true m E ec D dc (fun i => i < w.heap.size) hF14L H4 of16 ⟨fun _ => by omega, fun _ => rfl⟩ ((Ents.given hE hC).keep0 K0) hBigY hYl hm (fun i hi h => by have z1 : i < w.heap.size := hi; have := sl17 i h; omega) (hD.keep0 (by omega) K0) (fun hb i hi => ⟨fun h => by have := Rd.lt hD (bv_ne hb) i hi; have := sl17 i h; omega, Nat.lt_of_lt_of_le (Rd.lt hD (bv_ne hb) i hi) K0.size⟩) hdb) (fun e w' hq => ⟨hq.1, K0.trans hq.2 (fun _ _ h => h) (fun i hi h => by have := sl17 i h; omega)⟩)
             ·rw [h54]
              have p56 : ¬ (m.logTerm > 1152921504606846976) := of_decide_eq_false h54
              refine og 1 [(3, (ptr b1)), (6, (Value.bool false)), (7, (ptr r10)), (89, (Value.bool false)), (90, (Value.pointer (some ⟨b1, 7, none⟩)))] 68 ?_
              refine Ops.go (v := (i64 m.commit)) (by kernel_rfl) (Runs.load (t := 2) (a := ⟨b1, 7, none⟩) (by kernel_rfl) (H4.loads (by kernel_rfl))) (d := (some 91)) (by kernel_rfl) rfl ?_
              refine og 3 [(3, (ptr b1)), (6, (Value.bool false)), (7, (ptr r10)), (94, (Value.bool (decide (m.commit < 0))))] 72 ?_
              refine Ops.split (decide (m.commit < 0)) (fun h57 => ?_) (fun h57 => ?_)
              ·rw [h57]
               have p58 : m.commit < 0 := of_decide_eq_true h57
               refine og 5 [(3, (ptr b1)), (6, (Value.bool false)), (7, (ptr r10)), (8, (Value.bool true))] 77 ?_
               refine od ?_
               refine q_keep (R := [(3, (ptr b1)), (6, (Value.bool false)), (7, (ptr r10)), (8, (Value.bool true))]) (by kernel_rfl) ?_
               have hcs := K0.size
               exact q_tail (Deaf_tail w11 (fun i => w2.heap.size ≤ i ∧ i < w11.heap.size) r10 b1 (cnt me (1 + (cnt n 5))) (1 + (cnt n 5)) true m E ec D dc (fun i => i < w.heap.size) hF14L H4 of16 ⟨fun _ => by omega, fun _ => rfl⟩ ((Ents.given hE hC).keep0 K0) hBigY hYl hm (fun i hi h => by have z1 : i < w.heap.size := hi; have := sl17 i h; omega) (hD.keep0 (by omega) K0) (fun hb i hi => ⟨fun h => by have := Rd.lt hD (bv_ne hb) i hi; have := sl17 i h; omega, Nat.lt_of_lt_of_le (Rd.lt hD (bv_ne hb) i hi) K0.size⟩) hdb) (fun e w' hq => ⟨hq.1, K0.trans hq.2 (fun _ _ h => h) (fun i hi h => by have := sl17 i h; omega)⟩)
              ·rw [h57]
               have p59 : ¬ (m.commit < 0) := of_decide_eq_false h57
               refine og 1 [(3, (ptr b1)), (6, (Value.bool false)), (7, (ptr r10)), (94, (Value.bool false)), (95, (Value.pointer (some ⟨b1, 7, none⟩)))] 73 ?_
               refine Ops.go (v := (i64 m.commit)) (by kernel_rfl) (Runs.load (t := 2) (a := ⟨b1, 7, none⟩) (by kernel_rfl) (H4.loads (by kernel_rfl))) (d := (some 96)) (by kernel_rfl) rfl ?_
               refine og 3 [(3, (ptr b1)), (6, (Value.bool false)), (7, (ptr r10)), (8, (Value.bool (decide (m.commit > 1152921504606846976))))] 77 ?_
               refine od ?_
               refine q_keep (R := [(3, (ptr b1)), (6, (Value.bool false)), (7, (ptr r10)), (8, (Value.bool (decide (m.commit > 1152921504606846976))))]) (by kernel_rfl) ?_
               have hcs := K0.size
               exact q_tail (Deaf_tail w11 (fun i => w2.heap.size ≤ i ∧ i < w11.heap.size) r10 b1 (cnt me (1 + (cnt n 5))) (1 + (cnt n 5)) (decide (m.commit > 1152921504606846976)) m E ec D dc (fun i => i < w.heap.size) hF14L H4 of16 ⟨fun h => by have := of_decide_eq_true h; omega, fun h => decide_eq_true (by omega)⟩ ((Ents.given hE hC).keep0 K0) hBigY hYl hm (fun i hi h => by have z1 : i < w.heap.size := hi; have := sl17 i h; omega) (hD.keep0 (by omega) K0) (fun hb i hi => ⟨fun h => by have := Rd.lt hD (bv_ne hb) i hi; have := sl17 i h; omega, Nat.lt_of_lt_of_le (Rd.lt hD (bv_ne hb) i hi) K0.size⟩) hdb) (fun e w' hq => ⟨hq.1, K0.trans hq.2 (fun _ _ h => h) (fun i hi h => by have := sl17 i h; omega)⟩)
end Go.Proofs.Ytnmpepjikfbpdaa
namespace Go.Q
open Go.ChangeShapes Go.WideShapes Go.ChangeAt Go.RowKit Go.Deep
section
variable {H : Type} {enc : TypeId × Value → H} {P : Program} {w : World} {base : Nat} {spare : Nat → Bool} {held : Bool}
theorem weightsAll_mem {e : TypeId} : ∀ {l : List (DataW H)} {d : DataW H}, d ∈ l → ∀ {n : Nat}, n ∈ d.weights P e → n ∈ DataW.weightsAll P e l
  | [], d, h, _, _ => by cases h
  | x :: l, d, h, n, hn => by
    simp only [DataW.weightsAll, List.mem_append]
    rcases List.mem_cons.1 h with rfl | h
    · exact .inl hn
    · exact .inr (weightsAll_mem h hn)
theorem open_rows_w {t e : TypeId} {sz : Nat} {v : Value} {d : DataW H} {ps : List MemPlace} (R : List Value → DataW H → Prop) (ht : P.underlying t = some (.slice e)) (hC : P.cellsOf e = sz) (hsz : 0 < sz)
    {fuel : Nat} (h : DataW.trod enc P w base spare held fuel t [v] = some (d, ps))
    (dec : ∀ (m : Nat) (cs : List Value) (y : DataW H × List MemPlace), cs.length = sz → DataW.trod enc P w base spare held m e cs = some y → R cs y.1) :
    ∃ css : List (List Value), Rd w sz v css.flatten ∧ (∀ cs ∈ css, ∃ z, R cs z ∧ ∀ n ∈ z.weights P e, n ∈ d.weights P t) ∧ (css.length = 0 ∨ ∃ k ∈ d.weights P t, css.length * P.bytesOf e ≤ k) ∧ ∃ A c, v = .slice A css.length c := by
  have hv := slice_trod ht h
  rcases open_slice ht h with ⟨hcs, hx⟩ | ⟨a, len, cap', m, k, D, Pl, hcs, hb, hl, hm, hmm, hxx, hi⟩
  · simp only [List.cons.injEq, and_true] at hcs
    subst hcs
    exact ⟨[], Rd.nil w sz, by simp, .inl rfl, none, 0, rfl⟩
  · have hd : d = .slice ((List.range len).map D) ((List.range (m - len)).map fun j => D (len + j)) := by
      simp only [Prod.mk.injEq] at hxx; exact hxx.1
    have hlm : len ≤ m := by rw [hmm]; split <;> omega
    -- each element's cells are read as one of the data
    obtain ⟨css, hr, hc, hdd, A, c, hA⟩ := open_rows (fun cs => ∃ z, R cs z) ht hC hsz hv h fun m cs y hl htr => ⟨y.1, dec m cs y hl htr⟩
    -- the same rows, told with their places
    have hn : css.length = len := by
      simp only [List.cons.injEq, and_true] at hcs
      rw [hA] at hcs
      injection hcs with _ h2 _
    have hat : ∀ i, i < len → ∃ cs z, css[i]? = some cs ∧ R cs z ∧ ∀ n ∈ z.weights P e, n ∈ d.weights P t := by
      intro i hin
      obtain ⟨cs', hc', htr⟩ := hi i (by omega)
      rw [hC] at hc'
      obtain ⟨_, hlen, hcell⟩ := World.cells?_some hc'
      have hci : i < css.length := by omega
      refine ⟨css[i], D i, List.getElem?_eq_getElem hci, ?_, ?_⟩
      · have hcl := (hc css[i] (List.getElem_mem hci)).1
        have heq : css[i] = cs' := by
          apply List.ext_getElem?
          intro j
          rcases Nat.lt_or_ge j sz with hj | hj
          · have h1 : css[i][j]? = some (css[i][j]'(by omega)) := List.getElem?_eq_getElem (by omega)
            have h2 : cs'[j]? = some (cs'[j]'(by omega)) := List.getElem?_eq_getElem (by omega)
            have hfl : (css.flatten)[i * sz + j]? = css[i][j]? := by
              have e1 : css.flatten = css.flatMap id := by simp [List.flatMap]
              have hall : ∀ l : List (List Value), (∀ x ∈ l, x.length = sz) → ∀ (k : Nat) (x : List Value), l[k]? = some x → ∀ q, q < sz → l.flatten[k * sz + q]? = x[q]? := by
                intro l
                induction l with
                | nil => intro _ k x hx; simp at hx
                | cons y l ih =>
                  intro hy k x hx q hq
                  have hyl := hy y (by simp)
                  cases k with
                  | zero =>
                    simp only [List.getElem?_cons_zero, Option.some.injEq] at hx
                    subst hx
                    rw [List.flatten_cons, Nat.zero_mul, Nat.zero_add, List.getElem?_append_left (by omega)]
                  | succ k =>
                    simp only [List.getElem?_cons_succ] at hx
                    rw [List.flatten_cons, List.getElem?_append_right (by rw [hyl, Nat.add_mul]; omega), hyl, show (k + 1) * sz + q - sz = k * sz + q from by rw [Nat.add_mul]; omega]
                    exact ih (fun z hz => hy z (by simp [hz])) k x hx q hq
              exact hall css (fun x hx => (hc x hx).1) i _ (List.getElem?_eq_getElem hci) j hj
            obtain ⟨bk, off, hAA⟩ := Rd.addr (hA ▸ hr : Rd w sz (.slice A css.length c) css.flatten) (by omega)
            have hw1 := Rd.cell (hA ▸ hr : Rd w sz (.slice A css.length c) css.flatten) hAA (hfl.trans h1)
            have hw2 := hcell j hj
            have ha : a = ⟨bk, off, none⟩ := by
              simp only [List.cons.injEq, and_true] at hcs
              rw [hA] at hcs
              injection hcs with h1 _ _
              rw [hAA] at h1
              exact (Option.some.inj h1).symm
            rw [ha, add_plain, add_plain, Nat.add_assoc, hw1, h2] at hw2
            rw [h1, h2]
            exact hw2
          · rw [List.getElem?_eq_none (by omega), List.getElem?_eq_none (by omega)]
        rw [heq]
        exact dec _ cs' _ hlen htr
      · intro n hn'
        rw [hd]
        simp only [DataW.weights, ht]
        exact List.mem_cons.2 (.inr (List.mem_append.2 (.inl (weightsAll_mem (List.mem_map.2 ⟨i, List.mem_range.2 hin, rfl⟩) hn'))))
    refine ⟨css, hr, fun cs hcs => ?_, ?_, A, c, hA⟩
    · obtain ⟨i, hi1, hi2⟩ := List.getElem_of_mem hcs
      obtain ⟨cs2, z, h1, h2, h3⟩ := hat i (by omega)
      rw [List.getElem?_eq_getElem hi1, hi2] at h1
      have := Option.some.inj h1
      subst this
      exact ⟨z, h2, h3⟩
    · refine .inr ⟨_, by rw [hd]; simp only [DataW.weights, ht]; exact List.mem_cons_self .., ?_⟩
      rw [hn]
      exact Nat.mul_le_mul_right _ (by simp)
end
end Go.Q
namespace Go.Q
open Go.ChangeShapes Go.WideShapes Go.ChangeAt Go.RowKit Go.Deep
/-- A message and where its entries and its bytes stand. -/
structure MsgR where
  m : MsgP
  E : Option Addr
  D : Option Addr
  ec : Nat
  dc : Nat
def MsgR.cells (x : MsgR) : List Value := [i64 x.m.kind, i64 x.m.group, i64 x.m.frm, i64 x.m.to, i64 x.m.term, i64 x.m.index, i64 x.m.logTerm, i64 x.m.commit, .bool x.m.ok, .slice x.E x.m.entries.length x.ec, .slice x.D x.m.data.length x.dc]
theorem MsgR.two (x : MsgR) : x.cells.length = 11 := rfl
theorem MsgR.one (x : MsgR) : oneCells x.cells = true := rfl
structure MsgR.In (w : World) (x : MsgR) : Prop where
  ok : x.m.Ok
  ents : RdE w (.slice x.E x.m.entries.length x.ec) x.m.entries
  ins : EntsIn w x.m.entries
  data : RdB w (.slice x.D x.m.data.length x.dc) x.m.data
  big : BigK (x.m.entries.map EntP.key)
  elen : x.m.entries.length * 32 ≤ 140737488351232
  dlen : x.m.data.length ≤ 140737488351232
section
variable {H : Type} {enc : TypeId × Value → H} {P : Program} {w : World} {base : Nat} {spare : Nat → Bool} {held : Bool}
theorem dec_ents {t e b tb i0 : TypeId} {fs : Array Field} {v : Value} {fuel : Nat} {z : DataW H × List MemPlace} (ht : P.underlying t = some (.slice e)) (he : P.underlying e = some (.struct fs)) (hC : P.cellsOf e = 2) (hbe : P.bytesOf e = 32)
    (k0 : fieldAt? P fs 0 = some (0, 1, i0)) (k1 : fieldAt? P fs 1 = some (1, 1, tb)) (u0 : P.underlying i0 = some (.int .i64)) (u1 : P.underlying tb = some (.slice b)) (hb8 : P.underlying b = some (.int .u8)) (hbC : P.cellsOf b = 1) (hbb : P.bytesOf b = 1)
    (hz : ∀ k ∈ z.1.weights P t, k ≤ 140737488351232) (h : DataW.trod enc P w base spare held fuel t [v] = some z) :
    ∃ (l : List EntP) (A : Option Addr) (c : Nat), v = .slice A l.length c ∧ RdE w (.slice A l.length c) l ∧ EntsIn w l ∧ EntsOk l ∧ l.length * 32 ≤ 140737488351232 ∧ ∀ x ∈ l, x.cmd.length ≤ 140737488351232 := by
  have hr : reachBytes = 140737488351232 := by decide
  obtain ⟨css, hR, hc, hl, A, c, hA⟩ := open_rows_w (sz := 2) (d := z.1) (ps := z.2) (fun cs z => (∀ k ∈ z.weights P e, k ≤ 140737488351232) → ∃ x : EntP, ((-9223372036854775808 ≤ x.term ∧ x.term ≤ 9223372036854775807) ∧ RdB w (.slice x.A x.cmd.length x.c) x.cmd ∧ x.cmd.length ≤ 140737488351232) ∧ cs = x.cells) ht hC (by decide) h fun m cs y hl htr hz => by
    match cs, hl with
    | [c0, c1], _ =>
      obtain ⟨m0, z0, s0, _⟩ := trod_field he htr k0
      obtain ⟨m1, z1, s1, w1⟩ := trod_field he htr k1
      obtain ⟨n0, e0, _, w0⟩ := DataW.trod_int u0 s0
      have hs1 := slice_trod u1 (v := c1) s1
      obtain ⟨bs, hB, hBd⟩ := open_bytes_in (d := z1.1) (ps := z1.2) u1 hb8 hbC hs1 s1
      have hbz := slice_weight u1 hbb (fun k hk => by rw [hr]; exact hz k (w1 k hk)) hBd
      rw [Nat.mul_one] at hbz
      obtain ⟨B, d, rfl⟩ := hB.form
      simp only [List.drop_zero, List.take_succ_cons, List.take_zero, List.cons.injEq, and_true] at e0
      subst e0
      exact ⟨⟨n0, B, d, bs⟩, ⟨wf_i64 w0, hB, hbz⟩, rfl⟩
  obtain ⟨l, hb, hl2, hg⟩ := flat_models (f := EntP.cells) (Good := fun x => (-9223372036854775808 ≤ x.term ∧ x.term ≤ 9223372036854775807) ∧ RdB w (.slice x.A x.cmd.length x.c) x.cmd ∧ x.cmd.length ≤ 140737488351232) (css := css) fun cs hcs => by
    obtain ⟨z, h1, h2⟩ := hc cs hcs
    exact h1 fun k hk => hz k (h2 k hk)
  rw [← hl2] at hA hl
  subst hA
  rw [hbe] at hl
  refine ⟨l, A, c, rfl, by unfold RdE RdT; rw [← hb]; exact hR, fun x hx => (hg x hx).2.1, fun x hx => (hg x hx).1, ?_, fun x hx => (hg x hx).2.2⟩
  rcases hl with h0 | ⟨k, hk, hk2⟩
  · omega
  · exact Nat.le_trans hk2 (hz k hk)
/-- What the fields of a message's type are. -/
structure MsgT (P : Program) (e r g b tb i0 : TypeId) (fs rs : Array Field) (t : Nat → TypeId) : Prop where
  he : P.underlying e = some (.struct fs)
  hC : P.cellsOf e = 11
  k : ∀ j, j < 11 → fieldAt? P fs j = some (j, 1, t j)
  u : ∀ j, j < 8 → P.underlying (t j) = some (.int .i64)
  u8 : P.underlying (t 8) = some .bool
  u9 : P.underlying (t 9) = some (.slice r)
  u10 : P.underlying (t 10) = some (.slice b)
  hr : P.underlying r = some (.struct rs)
  hrC : P.cellsOf r = 2
  hrb : P.bytesOf r = 32
  j0 : fieldAt? P rs 0 = some (0, 1, i0)
  j1 : fieldAt? P rs 1 = some (1, 1, tb)
  v0 : P.underlying i0 = some (.int .i64)
  v1 : P.underlying tb = some (.slice b)
  hb8 : P.underlying b = some (.int .u8)
  hbC : P.cellsOf b = 1
  hbb : P.bytesOf b = 1
theorem dec_msg {e r g b tb i0 : TypeId} {fs rs : Array Field} {t : Nat → TypeId} (M : MsgT P e r g b tb i0 fs rs t) {m : Nat} {cs : List Value} {y : DataW H × List MemPlace} (hl : cs.length = 11) (hz : ∀ k ∈ y.1.weights P e, k ≤ 140737488351232)
    (h : DataW.trod enc P w base spare held m e cs = some y) : ∃ x : MsgR, x.In w ∧ cs = x.cells := by
  have hr : reachBytes = 140737488351232 := by decide
  match cs, hl with
  | [c0, c1, c2, c3, c4, c5, c6, c7, c8, c9, c10], _ =>
    obtain ⟨_, _, s0, _⟩ := trod_field M.he h (M.k 0 (by decide))
    obtain ⟨_, _, s1, _⟩ := trod_field M.he h (M.k 1 (by decide))
    obtain ⟨_, _, s2, _⟩ := trod_field M.he h (M.k 2 (by decide))
    obtain ⟨_, _, s3, _⟩ := trod_field M.he h (M.k 3 (by decide))
    obtain ⟨_, _, s4, _⟩ := trod_field M.he h (M.k 4 (by decide))
    obtain ⟨_, _, s5, _⟩ := trod_field M.he h (M.k 5 (by decide))
    obtain ⟨_, _, s6, _⟩ := trod_field M.he h (M.k 6 (by decide))
    obtain ⟨_, _, s7, _⟩ := trod_field M.he h (M.k 7 (by decide))
    obtain ⟨_, _, s8, _⟩ := trod_field M.he h (M.k 8 (by decide))
    obtain ⟨_, z9, s9, w9⟩ := trod_field M.he h (M.k 9 (by decide))
    obtain ⟨_, z10, s10, w10⟩ := trod_field M.he h (M.k 10 (by decide))
    obtain ⟨n0, e0, _, r0⟩ := DataW.trod_int (M.u 0 (by decide)) s0
    obtain ⟨n1, e1, _, r1⟩ := DataW.trod_int (M.u 1 (by decide)) s1
    obtain ⟨n2, e2, _, r2⟩ := DataW.trod_int (M.u 2 (by decide)) s2
    obtain ⟨n3, e3, _, r3⟩ := DataW.trod_int (M.u 3 (by decide)) s3
    obtain ⟨n4, e4, _, r4⟩ := DataW.trod_int (M.u 4 (by decide)) s4
    obtain ⟨n5, e5, _, r5⟩ := DataW.trod_int (M.u 5 (by decide)) s5
    obtain ⟨n6, e6, _, r6⟩ := DataW.trod_int (M.u 6 (by decide)) s6
    obtain ⟨n7, e7, _, r7⟩ := DataW.trod_int (M.u 7 (by decide)) s7
    obtain ⟨b8, e8, _⟩ := DataW.trod_bool M.u8 s8
    simp only [List.drop_succ_cons, List.drop_zero, List.take_succ_cons, List.take_zero, List.cons.injEq, and_true] at e0 e1 e2 e3 e4 e5 e6 e7 e8
    obtain ⟨l, A, c, h9, hR, hI, hO, hn, hc⟩ := dec_ents (v := c9) M.u9 M.hr M.hrC M.hrb M.j0 M.j1 M.v0 M.v1 M.hb8 M.hbC M.hbb (fun k hk => hz k (w9 k hk)) s9
    have hs10 := slice_trod M.u10 (v := c10) s10
    obtain ⟨bs, hB, hBd⟩ := open_bytes_in (d := z10.1) (ps := z10.2) M.u10 M.hb8 M.hbC hs10 s10
    have hbz := slice_weight M.u10 M.hbb (fun k hk => by rw [hr]; exact hz k (w10 k hk)) hBd
    rw [Nat.mul_one] at hbz
    obtain ⟨B, d, rfl⟩ := hB.form
    subst e0; subst e1; subst e2; subst e3; subst e4; subst e5; subst e6; subst e7; subst e8; subst h9
    exact ⟨⟨⟨n0, n1, n2, n3, n4, n5, n6, n7, b8, l, bs⟩, A, B, c, d⟩, ⟨⟨wf_i64 r0, wf_i64 r1, wf_i64 r2, wf_i64 r3, wf_i64 r4, wf_i64 r5, wf_i64 r6, wf_i64 r7, hO⟩, hR, hI, hB, BigK.of hc, hn, hbz⟩, rfl⟩
/-- A message that comes in. -/
theorem open_msgW {e r g b tb i0 : TypeId} {fs rs : Array Field} {t : Nat → TypeId} (M : MsgT P e r g b tb i0 fs rs t) (h11 : fs.size = 11) {v : Value} {d : DataW H} {ps : List MemPlace} (hv : Value.okWide P w .any 0 e v) (hz : ∀ k ∈ d.weights P e, k ≤ reachBytes) (h : DataW.Trod enc P w base spare held e v d ps) :
    ∃ x : MsgR, x.In w ∧ v = agg x.cells := by
  obtain ⟨cs, m, rfl, hl, h⟩ := struct_cells M.he (by rw [M.hC, h11]) hv h
  obtain ⟨x, hx, rfl⟩ := dec_msg M (by rw [hl, h11]) (fun k hk => by have := hz k hk; have hr : reachBytes = 140737488351232 := by decide
                                                                     rw [hr] at this; exact this) h
  exact ⟨x, hx, rfl⟩
end
end Go.Q
