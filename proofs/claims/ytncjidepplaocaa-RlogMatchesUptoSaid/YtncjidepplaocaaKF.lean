/- entries are appended to a log -/
import Derived.Test.YtncjidepplaocaaProg
import Derived.Test.YtncjidepplaocaaKC
import Derived.Test.YtncjidepplaocaaLX
set_option linter.unusedVariables false
namespace Go.Proofs.Ytncjidepplaocaa
open Go.Q Go.RowKit

theorem Append_ok (w : World) (T : Nat → Prop) (g : Nat) (base old : Int) (A : Option Addr) (l : List EntP) (U : Nat → Prop) (B : Option Addr) (d : Nat) (ys : List EntP) (H0 : Has w g (rowL [i64 base, i64 old, .slice A l.length l.length] 55)) (hE : Ents w T (.slice A l.length l.length) l) (hT : ∀ i, T i → i ≠ g) (hB : 0 ≤ base ∧ base ≤ 2305843009213693952) (hL : l.length ≤ 4096) (hY : Ents w U (.slice B ys.length d) ys) (hU : ∀ i, U i → i ≠ g) (hBig : BigK (l.map EntP.key)) (hBigY : BigK (ys.map EntP.key)) (hYl : ys.length * 32 ≤ 140737488351232) (hq : appE base old (l.map EntP.key) (ys.map EntP.key) = 0) : Calls Try.prog 21 ⟨[(ptr g), (Value.slice B ys.length d)]⟩ w (fun e w' => ∃ l' A' c' T', e = .returned (i64 0) ∧ Keeps (fun i => i = g) w w' ∧ Has w' g (rowL [i64 base, i64 old, .slice A' l'.length c'] 55) ∧ Ents w' T' (.slice A' l'.length c') l' ∧ l'.map EntP.key = (l.map EntP.key) ++ ys.map EntP.key ∧ ∀ i, T' i → i ≠ g ∧ (T i ∨ w.heap.size ≤ i)) := by
 have hcap := Ents.len hE
 have Hg := H0.lt
 have hcy := Ents.len hY
 have hT0 := hT
 have hTl := Ents.lt hE
 have hUl := Ents.lt hY
 have K0 : Keeps (fun i => i = g) w w := (Keeps.refl w).mono (fun _ _ h => h.elim)
 refine q_calls Try.func21 (by kernel_rfl) (by kernel_rfl) ?_
 refine qs ?_
 refine qg ?_
 refine og 1 [(0, (ptr g)), (1, (Value.slice B ys.length d)), (4, (i64 0))] 1 ?_
 refine od ?_
 refine qs ?_
 refine qs ?_
 refine qg ?_
 refine og 2 [(0, (ptr g)), (1, (Value.slice B ys.length d)), (4, (i64 0)), (8, (Value.bool false))] 2 ?_
 refine od ?_
 refine q_else (o := .tmp 8) (by kernel_rfl) rfl ?_
 refine q_skip (by kernel_rfl) ?_
 refine qs ?_
 refine qg ?_
 refine og 1 [(0, (ptr g)), (1, (Value.slice B ys.length d)), (4, (i64 0)), (10, (ptr g))] 1 ?_
 refine Ops.call (by kernel_rfl) (d := (some 11)) (by kernel_rfl) (Last_calls _ T g base old A l.length l H0 hE hT (by omega) (by omega)) ?_
 rintro _ w2 ⟨rfl, K1⟩
 refine ⟨_, _, rfl, rfl, ?_⟩
 replace K0 := K0.trans K1 (U := (fun i => i = g)) (fun i h1 h2 => h2) (fun i h1 h2 => by exact h2.elim)
 replace H0 := H0.keep K1 (fun h => h)
 replace hE := Ents.keep0 hE K1
 replace hY := Ents.keep0 hY K1
 clear K1
 refine og 5 [(0, (ptr g)), (1, (Value.slice B ys.length d)), (4, (i64 0)), (6, (i64 (lastK base old (l.map EntP.key))))] 7 ?_
 refine od ?_
 refine qs ?_
 refine q_block (id := 0) (by kernel_rfl) ?_
 refine qs ?_
 refine qg ?_
 refine og 3 [(0, (ptr g)), (1, (Value.slice B ys.length d)), (4, (i64 0)), (6, (i64 (lastK base old (l.map EntP.key)))), (17, (Value.pointer (some ⟨g, 2, none⟩)))] 3 ?_
 refine Ops.go (v := (Value.slice A l.length l.length)) (by kernel_rfl) (Runs.load (t := 22) (a := ⟨g, 2, none⟩) (by kernel_rfl) (H0.loads (by kernel_rfl))) (d := (some 18)) (by kernel_rfl) rfl ?_
 refine og 4 [(0, (ptr g)), (1, (Value.slice B ys.length d)), (4, (i64 0)), (6, (i64 (lastK base old (l.map EntP.key)))), (22, (i64 (IntKind.i64.wrap (((l.length : Nat) : Int) + ((ys.length : Nat) : Int)))))] 8 ?_
 have e3 : IntKind.i64.wrap (((l.length : Nat) : Int) + ((ys.length : Nat) : Int)) = ((l.length + ys.length : Nat) : Int) := by rw [wrap_i64 (by omega) (by omega)]; omega
 rw [e3]
 clear e3
 refine og 2 [(0, (ptr g)), (1, (Value.slice B ys.length d)), (4, (i64 0)), (6, (i64 (lastK base old (l.map EntP.key)))), (14, (Value.bool (decide (((l.length + ys.length : Nat) : Int) > 4096))))] 10 ?_
 refine od ?_
 refine q_cond (o := .tmp 14) (b := (decide (((l.length + ys.length : Nat) : Int) > 4096))) (by kernel_rfl) rfl (fun h4 => ?_) (fun h4 => ?_)
 ·rw [h4]
  have p5 : ((l.length + ys.length : Nat) : Int) > 4096 := of_decide_eq_true h4
  refine qs ?_
  refine qg ?_
  refine og 1 [(0, (ptr g)), (1, (Value.slice B ys.length d)), (4, (i64 4)), (6, (i64 (lastK base old (l.map EntP.key))))] 1 ?_
  refine od ?_
  refine q_ret (by kernel_rfl) ?_
  refine ⟨(i64 4), retv_tmp rfl rfl, ?_⟩
  exfalso; have hq := appE_ok hq; rw [List.length_map, List.length_map] at hq; omega
 ·rw [h4]
  have p6 : ¬ (((l.length + ys.length : Nat) : Int) > 4096) := of_decide_eq_false h4
  refine qs ?_
  refine qg ?_
  refine og 2 [(0, (ptr g)), (1, (Value.slice B ys.length d)), (4, (i64 0)), (25, (i64 (lastK base old (l.map EntP.key)))), (26, (Value.slice B ys.length d))] 2 ?_
  refine Ops.call (by kernel_rfl) (d := (some 27)) (by kernel_rfl) (rising_calls _ U (lastK base old (l.map EntP.key)) B d ys hY) ?_
  rintro _ w8 ⟨rfl, K7⟩
  refine ⟨_, _, rfl, rfl, ?_⟩
  replace K0 := K0.trans K7 (U := (fun i => i = g)) (fun i h1 h2 => h2) (fun i h1 h2 => by exact h2.elim)
  replace H0 := H0.keep K7 (fun h => h)
  replace hE := Ents.keep0 hE K7
  replace hY := Ents.keep0 hY K7
  clear K7
  refine og 2 [(0, (ptr g)), (1, (Value.slice B ys.length d)), (4, (i64 0)), (24, (Value.bool (!(risingK (lastK base old (l.map EntP.key)) (ys.map EntP.key)))))] 5 ?_
  refine od ?_
  refine q_cond (o := .tmp 24) (b := (!(risingK (lastK base old (l.map EntP.key)) (ys.map EntP.key)))) (by kernel_rfl) rfl (fun h9 => ?_) (fun h9 => ?_)
  ·rw [h9]
   have p10 : (risingK (lastK base old (l.map EntP.key)) (ys.map EntP.key)) = false := (bnot_true h9)
   refine qs ?_
   refine qg ?_
   refine og 1 [(0, (ptr g)), (1, (Value.slice B ys.length d)), (4, (i64 1))] 1 ?_
   refine od ?_
   refine q_ret (by kernel_rfl) ?_
   refine ⟨(i64 1), retv_tmp rfl rfl, ?_⟩
   exfalso; have hq := appE_ok hq; rw [List.length_map, List.length_map] at hq; have hq2 := hq.2; rw [(bnot_true h9)] at hq2; cases hq2
  ·rw [h9]
   have p11 : (risingK (lastK base old (l.map EntP.key)) (ys.map EntP.key)) = true := (bnot_false h9)
   refine q_skip (by kernel_rfl) ?_
   refine qs ?_
   refine q_draw (fun wz => Keeps (fun i => i = g) w8 wz) 11 (by kernel_rfl) (by kernel_rfl) (by kernel_rfl) (fun w12 K13 _ _ => ⟨(K13.mono (fun _ _ h => h.elim)), ?_⟩)
   replace K0 := K0.trans K13 (U := (fun i => i = g)) (fun i h1 h2 => h2) (fun i h1 h2 => by exact h2.elim)
   replace H0 := H0.keep K13 (fun h => h)
   replace hE := Ents.keep0 hE K13
   replace hY := Ents.keep0 hY K13
   refine Dr.strong (S' := (fun wz => Keeps (fun i => i = g) w12 wz)) ((Keeps.refl w12).mono (fun _ _ h => h.elim)) (fun wz hx => K13.trans hx (fun i _ h => h.elim) (fun _ _ h => h)) ?_
   clear K13
   refine Dr.takes (fuel' := 6) (is' := [5, 3, 2, 1, 0]) [0, 1, 2, 3, 5] [(4, (i64 0)), (29, (ptr g)), (32, (Value.pointer (some ⟨g, 2, none⟩))), (34, (Value.slice B ys.length d))] (by kernel_rfl) rfl (by kernel_rfl) ?_
   refine Dr.float [(4, (i64 0)), (29, (ptr g)), (33, (Value.slice A l.length l.length)), (34, (Value.slice B ys.length d))] 4 ?_
   refine DrB.call (i := 4) (j := 6) (t := 22) (a := ⟨g, 2, none⟩) (v := (Value.slice A l.length l.length)) (by kernel_rfl) (.inl rfl) (by kernel_rfl) (by kernel_rfl) (by kernel_rfl) (by kernel_rfl) (di := (some 33)) (by kernel_rfl) (by kernel_rfl) (by kernel_rfl) (by kernel_rfl) (dj := (some 35)) (by kernel_rfl) (H0.loads (by kernel_rfl)) ((Keeps.refl _).mono (fun _ _ h => h.elim)) (own_calls _ U B d ys hY (BigK.l hBigY) (by omega)) ?_
   rintro _ w17 ⟨l14, A15, c16, rfl, K18, hE19, hK20⟩
   have ot21 : ∀ i, (fun i => w12.heap.size ≤ i ∧ i < w17.heap.size) i → i ≠ g := fun i hi => by have := hi.1; have := H0.lt; omega
   have hz22 := K0.size
   have hn23 := keys_len2 hK20
   try rw [List.length_drop] at hn23
   try rw [List.length_append] at hn23
   try rw [List.length_map] at hn23
   try rw [List.length_map] at hn23
   replace K0 := K0.trans K18 (U := (fun i => i = g)) (fun i h1 h2 => h2) (fun i h1 h2 => by exact h2.elim)
   replace H0 := H0.keep K18 (fun h => h)
   replace hE := Ents.keep0 hE K18
   replace hY := Ents.keep0 hY K18
   refine ⟨_, _, _, rfl, (K18.mono (fun _ _ h => h.elim)), rfl, rfl, ?_⟩
   refine DrB.strong (S' := (fun wz => Keeps (fun i => i = g) w17 wz)) ((Keeps.refl w17).mono (fun _ _ h => h.elim)) (fun wz hx => K18.trans hx (fun i _ h => h.elim) (fun _ _ h => h)) ?_
   clear K18
   refine DrB.end_ (t := 22) (a := ⟨g, 2, none⟩) (v := (Value.slice A l.length l.length)) (R := [(4, (i64 0)), (29, (ptr g)), (33, (Value.slice A l.length l.length)), (35, (Value.slice A15 l14.length c16))]) (by kernel_rfl) (by kernel_rfl) (by kernel_rfl) (di := (some 33)) (by kernel_rfl) (by kernel_rfl) (by kernel_rfl) (H0.loads (by kernel_rfl)) ((Keeps.refl _).mono (fun _ _ h => h.elim)) ?_
   obtain ⟨A24, c25, w26, hr27, K28, hE29⟩ := Ents.app (ty := 22) tyE hE hE19 (by omega) (by omega)
   obtain ⟨l30, hl31⟩ : ∃ z, z = l ++ l14 := ⟨_, rfl⟩
   rw [← hl31] at hr27 hE29
   have ot32 : ∀ i, (fun i => (T i ∨ (fun i => w12.heap.size ≤ i ∧ i < w17.heap.size) i ∨ w17.heap.size ≤ i) ∧ i < w26.heap.size) i → i ≠ g := fun i hi => by rcases hi.1 with h | h | h; (exact hT i h); (exact ot21 i h); (have := H0.lt; omega)
   have hz33 := K0.size
   replace K0 := K0.trans K28 (U := (fun i => i = g)) (fun i h1 h2 => h2) (fun i h1 h2 => by exact h2.elim)
   replace H0 := H0.keep K28 (fun h => h)
   replace hE := Ents.keep0 hE K28
   replace hY := Ents.keep0 hY K28
   replace hE19 := Ents.keep0 hE19 K28
   refine Dr.go (i := 7) (v := (Value.slice A24 l30.length c25)) (by kernel_rfl) (by kernel_rfl) (Runs.append (ts := #[22, 22]) (ty := 22) (vs := [(Value.slice A l.length l.length), (Value.slice A15 l14.length c16)]) (by kernel_rfl) hr27) (d := (some 36)) (by kernel_rfl) rfl (K28.mono (fun _ _ h => h.elim)) ?_
   refine Dr.strong (S' := (fun wz => Keeps (fun i => i = g) w26 wz)) ((Keeps.refl w26).mono (fun _ _ h => h.elim)) (fun wz hx => K28.trans hx (fun i _ h => h.elim) (fun _ _ h => h)) ?_
   clear K28 hr27
   have hn34 : l30.length = l.length + l14.length := by rw [hl31]; simp
   refine Dr.takes (fuel' := 1) (is' := [9, 8, 7, 4, 6, 5, 3, 2, 1, 0]) [8, 9] [(4, (i64 0)), (36, (Value.slice A24 l30.length c25)), (38, (Value.pointer (some ⟨g, 2, none⟩)))] (by kernel_rfl) rfl (by kernel_rfl) ?_
   refine Dr.put (i := 10) (t := 22) (b := g) (off := 2) (v := (Value.slice A24 l30.length c25)) (ys := [(i64 base), (i64 old), (Value.slice A24 l30.length c25)]) (by kernel_rfl) (by kernel_rfl) (by kernel_rfl) H0 (by kernel_rfl) (d := none) (by kernel_rfl) rfl (fun w35 H36 K37 => ?_)
   clear H0
   replace K0 := K0.trans K37 (U := (fun i => i = g)) (fun i h1 h2 => h2) (fun i h1 h2 => by have h2 : i = g := h2; show i = g; omega)
   replace hE := Ents.keep hE K37 (fun i hi hs => by have hs : i = g := hs; have := hT i hi; omega)
   replace hY := Ents.keep hY K37 (fun i hi hs => by have hs : i = g := hs; have := hU i hi; omega)
   replace hE19 := Ents.keep hE19 K37 (fun i hi hs => by have hs : i = g := hs; have := ot21 i hi; omega)
   replace hE29 := Ents.keep hE29 K37 (fun i hi hs => by have hs : i = g := hs; have := ot32 i hi; omega)
   refine ⟨K37, ?_⟩
   refine Dr.strong (S' := (fun wz => Keeps (fun i => i = g) w35 wz)) ((Keeps.refl w35).mono (fun _ _ h => h.elim)) (fun wz hx => K37.trans hx (fun i _ h => by have h : i = g := h; show i = g; omega) (fun _ _ h => h)) ?_
   clear K37
   refine Dr.done (by kernel_rfl) ?_
   refine qs ?_
   refine qg ?_
   refine og 1 [(4, (i64 0))] 1 ?_
   refine od ?_
   refine q_ret (by kernel_rfl) ?_
   refine ⟨(i64 0), retv_tmp rfl rfl, ?_⟩
   exact ⟨l30, A24, c25, (fun i => (T i ∨ (fun i => w12.heap.size ≤ i ∧ i < w17.heap.size) i ∨ w17.heap.size ≤ i) ∧ i < w26.heap.size), rfl, K0, H36, hE29, by rw [hl31, List.map_append, hK20], fun i hi => by rcases hi.1 with h | h | h; (exact ⟨hT0 i h, .inl h⟩); (have := h.1; exact ⟨by omega, .inr (by omega)⟩); (exact ⟨by omega, .inr (by omega)⟩)⟩

theorem Append_bad (w : World) (T : Nat → Prop) (g : Nat) (base old : Int) (A : Option Addr) (l : List EntP) (U : Nat → Prop) (B : Option Addr) (d : Nat) (ys : List EntP) (H0 : Has w g (rowL [i64 base, i64 old, .slice A l.length l.length] 55)) (hE : Ents w T (.slice A l.length l.length) l) (hT : ∀ i, T i → i ≠ g) (hB : 0 ≤ base ∧ base ≤ 2305843009213693952) (hL : l.length ≤ 4096) (hY : Ents w U (.slice B ys.length d) ys) (hU : ∀ i, U i → i ≠ g) (hBig : BigK (l.map EntP.key)) (hBigY : BigK (ys.map EntP.key)) (hYl : ys.length * 32 ≤ 140737488351232) (hq : appE base old (l.map EntP.key) (ys.map EntP.key) ≠ 0) : Calls Try.prog 21 ⟨[(ptr g), (Value.slice B ys.length d)]⟩ w (fun e w' => e = .returned (i64 (appE base old (l.map EntP.key) (ys.map EntP.key))) ∧ Keeps none_ w w') := by
 have hcap := Ents.len hE
 have Hg := H0.lt
 have hcy := Ents.len hY
 have hT0 := hT
 have hTl := Ents.lt hE
 have hUl := Ents.lt hY
 have K0 : Keeps none_ w w := Keeps.refl w
 refine q_calls Try.func21 (by kernel_rfl) (by kernel_rfl) ?_
 refine qs ?_
 refine qg ?_
 refine og 1 [(0, (ptr g)), (1, (Value.slice B ys.length d)), (4, (i64 0))] 1 ?_
 refine od ?_
 refine qs ?_
 refine qs ?_
 refine qg ?_
 refine og 2 [(0, (ptr g)), (1, (Value.slice B ys.length d)), (4, (i64 0)), (8, (Value.bool false))] 2 ?_
 refine od ?_
 refine q_else (o := .tmp 8) (by kernel_rfl) rfl ?_
 refine q_skip (by kernel_rfl) ?_
 refine qs ?_
 refine qg ?_
 refine og 1 [(0, (ptr g)), (1, (Value.slice B ys.length d)), (4, (i64 0)), (10, (ptr g))] 1 ?_
 refine Ops.call (by kernel_rfl) (d := (some 11)) (by kernel_rfl) (Last_calls _ T g base old A l.length l H0 hE hT (by omega) (by omega)) ?_
 rintro _ w2 ⟨rfl, K1⟩
 refine ⟨_, _, rfl, rfl, ?_⟩
 replace K0 := K0.t0 K1
 replace H0 := H0.keep K1 (fun h => h)
 replace hE := Ents.keep0 hE K1
 replace hY := Ents.keep0 hY K1
 clear K1
 refine og 5 [(0, (ptr g)), (1, (Value.slice B ys.length d)), (4, (i64 0)), (6, (i64 (lastK base old (l.map EntP.key))))] 7 ?_
 refine od ?_
 refine qs ?_
 refine q_block (id := 0) (by kernel_rfl) ?_
 refine qs ?_
 refine qg ?_
 refine og 3 [(0, (ptr g)), (1, (Value.slice B ys.length d)), (4, (i64 0)), (6, (i64 (lastK base old (l.map EntP.key)))), (17, (Value.pointer (some ⟨g, 2, none⟩)))] 3 ?_
 refine Ops.go (v := (Value.slice A l.length l.length)) (by kernel_rfl) (Runs.load (t := 22) (a := ⟨g, 2, none⟩) (by kernel_rfl) (H0.loads (by kernel_rfl))) (d := (some 18)) (by kernel_rfl) rfl ?_
 refine og 4 [(0, (ptr g)), (1, (Value.slice B ys.length d)), (4, (i64 0)), (6, (i64 (lastK base old (l.map EntP.key)))), (22, (i64 (IntKind.i64.wrap (((l.length : Nat) : Int) + ((ys.length : Nat) : Int)))))] 8 ?_
 have e3 : IntKind.i64.wrap (((l.length : Nat) : Int) + ((ys.length : Nat) : Int)) = ((l.length + ys.length : Nat) : Int) := by rw [wrap_i64 (by omega) (by omega)]; omega
 rw [e3]
 clear e3
 refine og 2 [(0, (ptr g)), (1, (Value.slice B ys.length d)), (4, (i64 0)), (6, (i64 (lastK base old (l.map EntP.key)))), (14, (Value.bool (decide (((l.length + ys.length : Nat) : Int) > 4096))))] 10 ?_
 refine od ?_
 refine q_cond (o := .tmp 14) (b := (decide (((l.length + ys.length : Nat) : Int) > 4096))) (by kernel_rfl) rfl (fun h4 => ?_) (fun h4 => ?_)
 ·rw [h4]
  have p5 : ((l.length + ys.length : Nat) : Int) > 4096 := of_decide_eq_true h4
  refine qs ?_
  refine qg ?_
  refine og 1 [(0, (ptr g)), (1, (Value.slice B ys.length d)), (4, (i64 4)), (6, (i64 (lastK base old (l.map EntP.key))))] 1 ?_
  refine od ?_
  refine q_ret (by kernel_rfl) ?_
  refine ⟨(i64 4), retv_tmp rfl rfl, ?_⟩
  have e : appE base old (l.map EntP.key) (ys.map EntP.key) = 4 := by unfold appE; rw [List.length_map, List.length_map]; rw [if_pos (by omega)]
  exact ⟨by rw [e], K0⟩
 ·rw [h4]
  have p6 : ¬ (((l.length + ys.length : Nat) : Int) > 4096) := of_decide_eq_false h4
  refine qs ?_
  refine qg ?_
  refine og 2 [(0, (ptr g)), (1, (Value.slice B ys.length d)), (4, (i64 0)), (25, (i64 (lastK base old (l.map EntP.key)))), (26, (Value.slice B ys.length d))] 2 ?_
  refine Ops.call (by kernel_rfl) (d := (some 27)) (by kernel_rfl) (rising_calls _ U (lastK base old (l.map EntP.key)) B d ys hY) ?_
  rintro _ w8 ⟨rfl, K7⟩
  refine ⟨_, _, rfl, rfl, ?_⟩
  replace K0 := K0.t0 K7
  replace H0 := H0.keep K7 (fun h => h)
  replace hE := Ents.keep0 hE K7
  replace hY := Ents.keep0 hY K7
  clear K7
  refine og 2 [(0, (ptr g)), (1, (Value.slice B ys.length d)), (4, (i64 0)), (24, (Value.bool (!(risingK (lastK base old (l.map EntP.key)) (ys.map EntP.key)))))] 5 ?_
  refine od ?_
  have h9 : (!(risingK (lastK base old (l.map EntP.key)) (ys.map EntP.key))) = true := by rw [show (risingK (lastK base old (l.map EntP.key)) (ys.map EntP.key)) = false from Bool.eq_false_iff.2 (fun h => hq (by unfold appE; rw [List.length_map, List.length_map, if_neg (by omega), if_pos h]))]; rfl
  rw [h9]
  refine q_then (o := .tmp 24) (by kernel_rfl) rfl ?_
  refine qs ?_
  refine qg ?_
  refine og 1 [(0, (ptr g)), (1, (Value.slice B ys.length d)), (4, (i64 1))] 1 ?_
  refine od ?_
  refine q_ret (by kernel_rfl) ?_
  refine ⟨(i64 1), retv_tmp rfl rfl, ?_⟩
  have e : appE base old (l.map EntP.key) (ys.map EntP.key) = 1 := by unfold appE; rw [List.length_map, List.length_map]; rw [if_neg (by omega), if_neg (by rw [(bnot_true h9)]; decide)]
  exact ⟨by rw [e], K0⟩
end Go.Proofs.Ytncjidepplaocaa
