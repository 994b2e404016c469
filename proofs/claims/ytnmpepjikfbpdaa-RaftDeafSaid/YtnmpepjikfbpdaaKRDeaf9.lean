/- What the claim stands on, part 9: rules of the walk, contracts of the functions, plain laws. -/
import Derived.Test.YtnmpepjikfbpdaaProg
import Derived.Test.YtnmpepjikfbpdaaKRDeaf5
import Derived.Test.YtnmpepjikfbpdaaKRDeaf8
import Derived.Test.YtnmpepjikfbpdaaKRDeaf7
set_option linter.unusedVariables false
namespace Go.Proofs.Ytnmpepjikfbpdaa
open Go.Q Go.RowKit

set_option maxHeartbeats 4000000 in
theorem Match_calls (w : World) (T : Nat → Prop) (g : Nat) (base old : Int) (A : Option Addr) (c : Nat) (l : List EntP) (n t0 : Int) (U : Nat → Prop) (B : Option Addr) (d : Nat) (ys : List EntP) (H0 : Has w g (rowL [i64 base, i64 old, .slice A l.length c] 78)) (hE : Ents w T (.slice A l.length c) l) (hT : ∀ i, T i → i ≠ g) (hB : 0 ≤ base ∧ base ≤ 2305843009213693952) (hL : l.length ≤ 4096) (hn : -9223372036854775808 ≤ n ∧ n ≤ 9223372036854775807) (ht : -9223372036854775808 ≤ t0 ∧ t0 ≤ 9223372036854775807) (hY : Ents w U (.slice B ys.length d) ys) (hU : ∀ i, U i → i ≠ g) (hBig : BigK (l.map EntP.key)) (hBigY : BigK (ys.map EntP.key)) (hYl : ys.length * 32 ≤ 140737488351232) : Calls Try.prog 64 ⟨[(ptr g), (i64 n), (i64 t0), (Value.slice B ys.length d)]⟩ w (fun e w' => ∃ l' A' c' T', e = .returned (.tuple #[i64 (matchK base old (l.map EntP.key) n t0 (ys.map EntP.key)).1.1, i64 (matchK base old (l.map EntP.key) n t0 (ys.map EntP.key)).1.2.1, i64 (matchK base old (l.map EntP.key) n t0 (ys.map EntP.key)).1.2.2]) ∧ Keeps (fun i => i = g) w w' ∧ Has w' g (rowL [i64 base, i64 old, .slice A' l'.length c'] 78) ∧ Ents w' T' (.slice A' l'.length c') l' ∧ l'.map EntP.key = (matchK base old (l.map EntP.key) n t0 (ys.map EntP.key)).2 ∧ ∀ i, T' i → i ≠ g ∧ (T i ∨ w.heap.size ≤ i)) := by
 have hcap := Ents.len hE
 have Hg := H0.lt
 have hcm := hcap.2.2
 unfold maxLen at hcm
 have hcy := Ents.len hY
 have hT0 := hT
 have hTl := Ents.lt hE
 have hUl := Ents.lt hY
 have hyl : (ys.map EntP.key).length = ys.length := List.length_map ..
 have hll : (l.map EntP.key).length = l.length := List.length_map ..
 have K0 : Keeps (fun i => i = g) w w := (Keeps.refl w).mono (fun _ _ h => h.elim)
 refine q_calls Try.func64 (by kernel_rfl) (by kernel_rfl) ?_
 refine qs ?_
 refine qg ?_
 refine og 3 [(0, (ptr g)), (1, (i64 n)), (2, (i64 t0)), (3, (Value.slice B ys.length d)), (8, (i64 0)), (9, (i64 0)), (10, (i64 0))] 3 ?_
 refine od ?_
 refine qs ?_
 refine q_block (id := 0) (by kernel_rfl) ?_
 refine qs ?_
 refine qg ?_
 refine og 3 [(0, (ptr g)), (1, (i64 n)), (2, (i64 t0)), (3, (Value.slice B ys.length d)), (8, (i64 0)), (9, (i64 0)), (10, (i64 0)), (17, (Value.bool false))] 3 ?_
 refine od ?_
 refine q_else (o := .tmp 17) (by kernel_rfl) rfl ?_
 refine qs ?_
 refine qg ?_
 refine og 3 [(0, (ptr g)), (1, (i64 n)), (2, (i64 t0)), (3, (Value.slice B ys.length d)), (8, (i64 0)), (9, (i64 0)), (10, (i64 0)), (23, (Value.bool (decide (n < 0))))] 3 ?_
 refine Ops.split (decide (n < 0)) (fun h1 => ?_) (fun h1 => ?_)
 ·rw [h1]
  have p2 : n < 0 := of_decide_eq_true h1
  refine og 4 [(0, (ptr g)), (1, (i64 n)), (2, (i64 t0)), (3, (Value.slice B ys.length d)), (8, (i64 0)), (9, (i64 0)), (10, (i64 0)), (20, (Value.bool true))] 7 ?_
  refine od ?_
  refine q_then (o := .tmp 20) (by kernel_rfl) rfl ?_
  refine qs ?_
  refine qg ?_
  refine og 3 [(0, (ptr g)), (1, (i64 n)), (2, (i64 t0)), (3, (Value.slice B ys.length d)), (8, (i64 0)), (9, (i64 0)), (10, (i64 1))] 3 ?_
  refine od ?_
  refine q_ret (by kernel_rfl) ?_
  refine ⟨(Value.tuple #[(i64 0), (i64 0), (i64 1)]), retv_tmp3 rfl rfl rfl rfl, ?_⟩
  have e : matchK base old (l.map EntP.key) n t0 (ys.map EntP.key) = ((0, 0, 1), (l.map EntP.key)) := by unfold matchK; rw [if_pos (by omega)]
  exact ⟨l, A, c, T, by rw [e], K0, H0, hE, by rw [e], fun i hi => ⟨hT0 i hi, .inl hi⟩⟩
 ·rw [h1]
  have p3 : ¬ (n < 0) := of_decide_eq_false h1
  refine og 4 [(0, (ptr g)), (1, (i64 n)), (2, (i64 t0)), (3, (Value.slice B ys.length d)), (8, (i64 0)), (9, (i64 0)), (10, (i64 0)), (20, (Value.bool (decide (t0 < 0))))] 7 ?_
  refine od ?_
  refine q_cond (o := .tmp 20) (b := (decide (t0 < 0))) (by kernel_rfl) rfl (fun h4 => ?_) (fun h4 => ?_)
  ·rw [h4]
   have p5 : t0 < 0 := of_decide_eq_true h4
   refine qs ?_
   refine qg ?_
   refine og 3 [(0, (ptr g)), (1, (i64 n)), (2, (i64 t0)), (3, (Value.slice B ys.length d)), (8, (i64 0)), (9, (i64 0)), (10, (i64 1))] 3 ?_
   refine od ?_
   refine q_ret (by kernel_rfl) ?_
   refine ⟨(Value.tuple #[(i64 0), (i64 0), (i64 1)]), retv_tmp3 rfl rfl rfl rfl, ?_⟩
   have e : matchK base old (l.map EntP.key) n t0 (ys.map EntP.key) = ((0, 0, 1), (l.map EntP.key)) := by unfold matchK; rw [if_pos (by omega)]
   exact ⟨l, A, c, T, by rw [e], K0, H0, hE, by rw [e], fun i hi => ⟨hT0 i hi, .inl hi⟩⟩
  ·rw [h4]
   have p6 : ¬ (t0 < 0) := of_decide_eq_false h4
   refine q_skip (by kernel_rfl) ?_
   refine qs ?_
   refine qs ?_
   refine qg ?_
   refine og 3 [(0, (ptr g)), (1, (i64 n)), (2, (i64 t0)), (3, (Value.slice B ys.length d)), (8, (i64 0)), (9, (i64 0)), (10, (i64 0)), (29, (ptr g))] 3 ?_
   refine Ops.go (v := (i64 base)) (by kernel_rfl) (Runs.load (t := 2) (a := ⟨g, 0, none⟩) (by kernel_rfl) (H0.loads (by kernel_rfl))) (d := (some 30)) (by kernel_rfl) rfl ?_
   refine og 2 [(0, (ptr g)), (1, (i64 n)), (2, (i64 t0)), (3, (Value.slice B ys.length d)), (8, (i64 0)), (9, (i64 0)), (10, (i64 0)), (32, (i64 (IntKind.i64.wrap (base - n))))] 6 ?_
   have e7 : IntKind.i64.wrap (base - n) = base - n := wrap_i64 (by omega) (by omega)
   rw [e7]
   refine og 1 [(0, (ptr g)), (1, (i64 n)), (2, (i64 t0)), (3, (Value.slice B ys.length d)), (8, (i64 0)), (9, (i64 0)), (10, (i64 0)), (11, (i64 (base - n)))] 7 ?_
   refine od ?_
   refine qs ?_
   refine qg ?_
   refine og 2 [(0, (ptr g)), (1, (i64 n)), (2, (i64 t0)), (3, (Value.slice B ys.length d)), (8, (i64 0)), (9, (i64 0)), (10, (i64 0)), (11, (i64 (base - n))), (34, (Value.bool (decide (base - n > 0))))] 2 ?_
   refine od ?_
   refine q_cond (o := .tmp 34) (b := (decide (base - n > 0))) (by kernel_rfl) rfl (fun h8 => ?_) (fun h8 => ?_)
   ·rw [h8]
    have p9 : base - n > 0 := of_decide_eq_true h8
    obtain ⟨ks0, hks0⟩ : ∃ m : Nat, base - n = (m : Int) := Int.eq_ofNat_of_zero_le (by omega)
    rw [hks0]
    refine qs ?_
    refine qs ?_
    refine qg ?_
    refine og 4 [(0, (ptr g)), (1, (i64 n)), (2, (i64 t0)), (3, (Value.slice B ys.length d)), (8, (i64 0)), (9, (i64 0)), (10, (i64 0)), (11, (i64 ((ks0 : Nat) : Int))), (38, (Value.bool (decide (((ks0 : Nat) : Int) > ((ys.length : Nat) : Int)))))] 4 ?_
    refine od ?_
    refine q_cond (o := .tmp 38) (b := (decide (((ks0 : Nat) : Int) > ((ys.length : Nat) : Int)))) (by kernel_rfl) rfl (fun h10 => ?_) (fun h10 => ?_)
    ·rw [h10]
     have p11 : ((ks0 : Nat) : Int) > ((ys.length : Nat) : Int) := of_decide_eq_true h10
     refine qs ?_
     refine qg ?_
     refine og 3 [(0, (ptr g)), (1, (i64 n)), (2, (i64 t0)), (3, (Value.slice B ys.length d)), (8, (i64 0)), (9, (i64 0)), (10, (i64 5)), (11, (i64 ((ks0 : Nat) : Int)))] 3 ?_
     refine od ?_
     refine q_ret (by kernel_rfl) ?_
     refine ⟨(Value.tuple #[(i64 0), (i64 0), (i64 5)]), retv_tmp3 rfl rfl rfl rfl, ?_⟩
     have e : matchK base old (l.map EntP.key) n t0 (ys.map EntP.key) = ((0, 0, 5), (l.map EntP.key)) := by unfold matchK; rw [if_neg (by omega), if_pos (by omega), if_pos (by omega)]
     exact ⟨l, A, c, T, by rw [e], K0, H0, hE, by rw [e], fun i hi => ⟨hT0 i hi, .inl hi⟩⟩
    ·rw [h10]
     have p12 : ¬ (((ks0 : Nat) : Int) > ((ys.length : Nat) : Int)) := of_decide_eq_false h10
     refine q_skip (by kernel_rfl) ?_
     refine q_draw (fun wz => Keeps none_ w wz) 9 (by kernel_rfl) (by kernel_rfl) (by kernel_rfl) (fun w13 K14 _ _ => ⟨K14, ?_⟩)
     replace K0 := K0.tn K14
     replace H0 := H0.keep K14 (fun h => h)
     replace hE := Ents.keep0 hE K14
     replace hY := Ents.keep0 hY K14
     refine Dr.strong (S' := (fun wz => Keeps none_ w13 wz)) (Keeps.refl w13) (fun wz hx => K14.trans hx (fun i _ h => h) (fun _ _ h => h)) ?_
     clear K14
     refine Dr.takes (fuel' := 6) (is' := _) [0, 1, 2] [(0, (ptr g)), (1, (i64 n)), (2, (i64 t0)), (3, (Value.slice B ys.length d)), (8, (i64 0)), (9, (i64 0)), (10, (i64 0)), (11, (i64 ((ks0 : Nat) : Int))), (41, (ptr g))] (by kernel_rfl) rfl (by kernel_rfl) ?_
     refine Dr.take (i := 3) (v := (i64 base)) (by kernel_rfl) (by kernel_rfl) (fun wz hS => Runs.load (t := 2) (a := ⟨g, 0, none⟩) (by kernel_rfl) ((H0.keep hS (fun h => h)).loads (by kernel_rfl))) (d := (some 42)) (by kernel_rfl) rfl ?_
     obtain ⟨A20, c21, hr17, hE18⟩ := Ents.cutRun (P := Try.prog) (t := 22) (e := 43) (by kernel_rfl) (by kernel_rfl) hY ks0 ys.length (kl := .i64) (hi := none) (.inl ⟨rfl, rfl⟩) (by omega) (by omega)
     obtain ⟨l15, hl16⟩ : ∃ z, z = (ys.drop ks0).take (ys.length - ks0) := ⟨_, rfl⟩
     rw [← hl16] at hr17 hE18
     have hn19 : l15.length = ys.length - ks0 := by rw [hl16]; simp only [List.length_take, List.length_drop]; omega
     have hc22 := Ents.len hE18
     refine Dr.takes (fuel' := 3) (is' := _) [4, 5] [(0, (ptr g)), (1, (i64 n)), (2, (i64 t0)), (3, (Value.slice B ys.length d)), (8, (i64 0)), (9, (i64 0)), (10, (i64 0)), (42, (i64 base)), (43, (Value.slice B ys.length d)), (44, (i64 ((ks0 : Nat) : Int)))] (by kernel_rfl) rfl (by kernel_rfl) ?_
     refine Dr.take (i := 6) (v := (Value.slice A20 l15.length c21)) (by kernel_rfl) (by kernel_rfl) (fun wz hS => Runs.slice (by kernel_rfl) (hr17 _)) (d := (some 45)) (by kernel_rfl) rfl ?_
     refine Dr.takes (fuel' := 0) (is' := _) [7, 8] [(0, (ptr g)), (1, (i64 base)), (2, (i64 t0)), (3, (Value.slice A20 l15.length c21)), (8, (i64 0)), (9, (i64 0)), (10, (i64 0))] (by kernel_rfl) rfl (by kernel_rfl) ?_
     refine Dr.done (by kernel_rfl) ?_
     refine qs ?_
     refine qg ?_
     refine og 4 [(0, (ptr g)), (1, (i64 base)), (3, (Value.slice A20 l15.length c21)), (8, (i64 0)), (9, (i64 0)), (10, (i64 0)), (60, (i64 (IntKind.i64.wrap (base + ((l15.length : Nat) : Int)))))] 4 ?_
     have e23 : IntKind.i64.wrap (base + ((l15.length : Nat) : Int)) = base + ((l15.length : Nat) : Int) := wrap_i64 (by omega) (by omega)
     rw [e23]
     refine og 1 [(0, (ptr g)), (1, (i64 base)), (3, (Value.slice A20 l15.length c21)), (8, (i64 0)), (9, (i64 0)), (10, (i64 0)), (13, (i64 (base + ((l15.length : Nat) : Int))))] 5 ?_
     refine od ?_
     refine qs ?_
     refine q_block (id := 1) (by kernel_rfl) ?_
     refine q_keep (R := [(0, (ptr g)), (1, (i64 base)), (3, (Value.slice A20 l15.length c21)), (8, (i64 0)), (9, (i64 0)), (10, (i64 0)), (13, (i64 (base + ((l15.length : Nat) : Int))))]) (by kernel_rfl) ?_
     refine q_loop (fun (gs : Int × Nat × (Option Addr) × Nat) L (wx : World) => match gs with | (a, i, B1, d1) => L = [(0, (ptr g)), (1, (i64 a)), (3, (Value.slice B1 ((l15.drop i).length) d1)), (8, (i64 0)), (9, (i64 0)), (10, (i64 0)), (13, (i64 (base + ((l15.length : Nat) : Int))))] ∧ a = base + (i : Int) ∧ runK base old (l.map EntP.key) base (l15.map EntP.key) = i + runK base old (l.map EntP.key) a ((l15.map EntP.key).drop i) ∧ a ≤ base + (l.length : Int) ∧ i ≤ l15.length ∧ Ents wx U (.slice B1 (l15.drop i).length d1) (l15.drop i) ∧ Ents wx T (.slice A l.length c) l ∧ Keeps (fun i => i = g) w wx ∧ Has wx g (rowL [(i64 base), (i64 old), (Value.slice A l.length c)] 78)) (fun (gs : Int × Nat × (Option Addr) × Nat) => match gs with | (a, i, B1, d1) => l15.length - i) (base, 0, A20, c21) (by kernel_rfl) ⟨rfl, (by simp), (by simp), (by omega), Nat.zero_le _, hE18, hE, K0, H0⟩ ?_
     clear H0 hE hY hE18 K0
     rintro ⟨a, i, B1, d1⟩ _ w24 ⟨rfl, ha, hrun, hpos, hi, hY1, hE, K25, H26⟩
     have hc1 := Ents.len hY1
     have hdl : (l15.drop i).length = l15.length - i := List.length_drop
     refine qs ?_
     refine qs ?_
     refine qg ?_
     refine og 3 [(0, (ptr g)), (1, (i64 a)), (3, (Value.slice B1 ((l15.drop i).length) d1)), (8, (i64 0)), (9, (i64 0)), (10, (i64 0)), (13, (i64 (base + ((l15.length : Nat) : Int)))), (63, (Value.bool (decide ((((l15.drop i).length : Nat) : Int) > 0))))] 3 ?_
     refine od ?_
     refine q_cond (o := .tmp 63) (b := (decide ((((l15.drop i).length : Nat) : Int) > 0))) (by kernel_rfl) rfl (fun h27 => ?_) (fun h27 => ?_)
     ·rw [h27]
      have p28 : (((l15.drop i).length : Nat) : Int) > 0 := of_decide_eq_true h27
      obtain ⟨y, hy⟩ : ∃ z, (l15.drop i)[0]? = some z := ⟨_, List.getElem?_eq_getElem (by omega)⟩
      have hyk : ((l15.map EntP.key).drop i)[0]? = some (y.term, y.cmd) := by rw [← List.map_drop]; exact ekey_at hy
      refine q_skip (by kernel_rfl) ?_
      refine q_block (id := 2) (by kernel_rfl) ?_
      refine qs ?_
      refine qg ?_
      refine og 3 [(0, (ptr g)), (1, (i64 a)), (3, (Value.slice B1 ((l15.drop i).length) d1)), (8, (i64 0)), (9, (i64 0)), (10, (i64 0)), (13, (i64 (base + ((l15.length : Nat) : Int)))), (64, (ptr g)), (66, (i64 (IntKind.i64.wrap (a + 1))))] 3 ?_
      have e29 : IntKind.i64.wrap (a + 1) = a + 1 := wrap_i64 (by omega) (by omega)
      rw [e29]
      rcases at_or base l.length (a + 1) with q30 | q31 | q32 | ⟨k35, q33, q34⟩
      ·exfalso; omega
      ·skip
       refine Ops.call (by kernel_rfl) (d := (some 67)) (by kernel_rfl) (at_high _ T g base old A c l (a + 1) H26 hE hT (by omega) (by omega) (by omega) q31) ?_
       rintro _ w39 ⟨rfl, K38⟩
       refine ⟨_, _, rfl, rfl, ?_⟩
       replace K25 := K25.tn K38
       replace H26 := H26.keep K38 (fun h => h)
       replace hE := Ents.keep0 hE K38
       replace hY1 := Ents.keep0 hY1 K38
       clear K38
       refine og 1 [(0, (ptr g)), (1, (i64 a)), (3, (Value.slice B1 ((l15.drop i).length) d1)), (8, (i64 0)), (9, (i64 0)), (10, (i64 0)), (13, (i64 (base + ((l15.length : Nat) : Int)))), (14, Value.nilIface)] 5 ?_
       refine od ?_
       refine qs ?_
       refine qs ?_
       refine q_draw (fun wz => Keeps none_ w39 wz) 11 (by kernel_rfl) (by kernel_rfl) (by kernel_rfl) (fun w40 K41 _ _ => ⟨K41, ?_⟩)
       replace K25 := K25.tn K41
       replace H26 := H26.keep K41 (fun h => h)
       replace hE := Ents.keep0 hE K41
       replace hY1 := Ents.keep0 hY1 K41
       refine Dr.strong (S' := (fun wz => Keeps none_ w40 wz)) (Keeps.refl w40) (fun wz hx => K41.trans hx (fun i _ h => h) (fun _ _ h => h)) ?_
       clear K41
       refine Dr.takes (fuel' := 0) (is' := _) [0, 1, 2, 3, 4, 5, 6, 7, 8, 9, 10] [(0, (ptr g)), (1, (i64 a)), (3, (Value.slice B1 ((l15.drop i).length) d1)), (8, (i64 0)), (9, (i64 0)), (10, (i64 0)), (13, (i64 (base + ((l15.length : Nat) : Int)))), (78, (Value.bool true))] (by kernel_rfl) rfl (by kernel_rfl) ?_
       refine Dr.done (by kernel_rfl) ?_
       refine q_then (o := .tmp 78) (by kernel_rfl) rfl ?_
       refine q_exit (id := 1) (by kernel_rfl) ?_
       refine qs ?_
       refine qs ?_
       refine qg ?_
       refine og 3 [(0, (ptr g)), (1, (i64 a)), (3, (Value.slice B1 ((l15.drop i).length) d1)), (8, (i64 0)), (9, (i64 0)), (10, (i64 0)), (13, (i64 (base + ((l15.length : Nat) : Int)))), (85, (Value.bool ((((l15.drop i).length : Nat) : Int) == 0)))] 3 ?_
       refine od ?_
       obtain ⟨j, hj⟩ : ∃ m : Nat, a - base = (m : Int) := Int.eq_ofNat_of_zero_le (by omega)
       have h42 : ((((l15.drop i).length : Nat) : Int) == 0) = false := beq_f (by omega)
       rw [h42]
       refine q_else (o := .tmp 85) (by kernel_rfl) rfl ?_
       refine q_skip (by kernel_rfl) ?_
       refine qs ?_
       refine q_draw (fun wz => Keeps none_ w40 wz) 28 (by kernel_rfl) (by kernel_rfl) (by kernel_rfl) (fun w43 K44 _ _ => ⟨K44, ?_⟩)
       replace K25 := K25.tn K44
       replace H26 := H26.keep K44 (fun h => h)
       replace hE := Ents.keep0 hE K44
       replace hY1 := Ents.keep0 hY1 K44
       refine Dr.strong (S' := (fun wz => Keeps none_ w43 wz)) (Keeps.refl w43) (fun wz hx => K44.trans hx (fun i _ h => h) (fun _ _ h => h)) ?_
       clear K44
       refine Dr.takes (fuel' := 25) (is' := _) [0, 1, 2] [(0, (ptr g)), (1, (i64 a)), (3, (Value.slice B1 ((l15.drop i).length) d1)), (8, (i64 0)), (9, (i64 0)), (10, (i64 0)), (13, (i64 (base + ((l15.length : Nat) : Int)))), (89, (ptr g))] (by kernel_rfl) rfl (by kernel_rfl) ?_
       refine Dr.take (i := 3) (v := (i64 base)) (by kernel_rfl) (by kernel_rfl) (fun wz hS => Runs.load (t := 2) (a := ⟨g, 0, none⟩) (by kernel_rfl) ((H26.keep hS (fun h => h)).loads (by kernel_rfl))) (d := (some 90)) (by kernel_rfl) rfl ?_
       refine Dr.takes (fuel' := 21) (is' := _) [4, 5, 6] [(0, (ptr g)), (1, (i64 a)), (3, (Value.slice B1 ((l15.drop i).length) d1)), (8, (i64 0)), (9, (i64 0)), (10, (i64 0)), (13, (i64 (base + ((l15.length : Nat) : Int)))), (90, (i64 base)), (93, (Value.pointer (some ⟨g, 1, none⟩)))] (by kernel_rfl) rfl (by kernel_rfl) ?_
       refine Dr.take (i := 7) (v := (i64 old)) (by kernel_rfl) (by kernel_rfl) (fun wz hS => Runs.load (t := 2) (a := ⟨g, 1, none⟩) (by kernel_rfl) ((H26.keep hS (fun h => h)).loads (by kernel_rfl))) (d := (some 94)) (by kernel_rfl) rfl ?_
       refine Dr.takes (fuel' := 17) (is' := _) [8, 9, 10] [(0, (ptr g)), (1, (i64 a)), (3, (Value.slice B1 ((l15.drop i).length) d1)), (8, (i64 0)), (9, (i64 0)), (10, (i64 0)), (13, (i64 (base + ((l15.length : Nat) : Int)))), (90, (i64 base)), (94, (i64 old)), (97, (Value.pointer (some ⟨g, 2, none⟩)))] (by kernel_rfl) rfl (by kernel_rfl) ?_
       refine Dr.take (i := 11) (v := (Value.slice A l.length c)) (by kernel_rfl) (by kernel_rfl) (fun wz hS => Runs.load (t := 22) (a := ⟨g, 2, none⟩) (by kernel_rfl) ((H26.keep hS (fun h => h)).loads (by kernel_rfl))) (d := (some 98)) (by kernel_rfl) rfl ?_
       refine Dr.takes (fuel' := 12) (is' := _) [12, 13, 14, 15] [(0, (ptr g)), (1, (i64 a)), (3, (Value.slice B1 ((l15.drop i).length) d1)), (8, (i64 0)), (9, (i64 0)), (10, (i64 0)), (13, (i64 (base + ((l15.length : Nat) : Int)))), (90, (i64 base)), (94, (i64 old)), (98, (Value.slice A l.length c)), (99, (i64 a)), (102, (ptr g))] (by kernel_rfl) rfl (by kernel_rfl) ?_
       refine Dr.take (i := 16) (v := (i64 base)) (by kernel_rfl) (by kernel_rfl) (fun wz hS => Runs.load (t := 2) (a := ⟨g, 0, none⟩) (by kernel_rfl) ((H26.keep hS (fun h => h)).loads (by kernel_rfl))) (d := (some 103)) (by kernel_rfl) rfl ?_
       refine Dr.takes (fuel' := 10) (is' := _) [17] [(0, (ptr g)), (1, (i64 a)), (3, (Value.slice B1 ((l15.drop i).length) d1)), (8, (i64 0)), (9, (i64 0)), (10, (i64 0)), (13, (i64 (base + ((l15.length : Nat) : Int)))), (90, (i64 base)), (94, (i64 old)), (98, (Value.slice A l.length c)), (104, (i64 (IntKind.i64.wrap (a - base))))] (by kernel_rfl) rfl (by kernel_rfl) ?_
       have e45 : IntKind.i64.wrap (a - base) = ((j : Nat) : Int) := by rw [wrap_i64 (by omega) (by omega)]; omega
       rw [e45]
       refine Dr.takes (fuel' := 6) (is' := _) [18, 19, 20, 21] [(0, (ptr g)), (1, (i64 a)), (3, (Value.slice B1 ((l15.drop i).length) d1)), (8, (i64 0)), (9, (i64 0)), (10, (i64 0)), (13, (i64 (base + ((l15.length : Nat) : Int)))), (90, (i64 base)), (94, (i64 old)), (98, (Value.slice A l.length c)), (104, (i64 ((j : Nat) : Int))), (105, (i64 a)), (108, (ptr g))] (by kernel_rfl) rfl (by kernel_rfl) ?_
       refine Dr.take (i := 22) (v := (i64 base)) (by kernel_rfl) (by kernel_rfl) (fun wz hS => Runs.load (t := 2) (a := ⟨g, 0, none⟩) (by kernel_rfl) ((H26.keep hS (fun h => h)).loads (by kernel_rfl))) (d := (some 109)) (by kernel_rfl) rfl ?_
       refine Dr.takes (fuel' := 4) (is' := _) [23] [(0, (ptr g)), (1, (i64 a)), (3, (Value.slice B1 ((l15.drop i).length) d1)), (8, (i64 0)), (9, (i64 0)), (10, (i64 0)), (13, (i64 (base + ((l15.length : Nat) : Int)))), (90, (i64 base)), (94, (i64 old)), (98, (Value.slice A l.length c)), (104, (i64 ((j : Nat) : Int))), (110, (i64 (IntKind.i64.wrap (a - base))))] (by kernel_rfl) rfl (by kernel_rfl) ?_
       have e46 : IntKind.i64.wrap (a - base) = ((j : Nat) : Int) := by rw [wrap_i64 (by omega) (by omega)]; omega
       rw [e46]
       obtain ⟨hr49, hE50⟩ := Ents.headRun (P := Try.prog) (t := 22) (e := 43) (by kernel_rfl) (by kernel_rfl) hE j j (kh := .i64) (mx := (some (i64 ((j : Nat) : Int)))) (.inr ⟨_, rfl⟩) (by omega) (by omega) (by omega)
       obtain ⟨l47, hl48⟩ : ∃ z, z = l.take j := ⟨_, rfl⟩
       rw [← hl48] at hr49 hE50
       have hn51 : l47.length = j := by rw [hl48]; simp only [List.length_take]; omega
       have hc52 := Ents.len hE50
       refine Dr.take (i := 24) (v := (Value.slice A l47.length j)) (by kernel_rfl) (by kernel_rfl) (fun wz hS => Runs.slice (by kernel_rfl) (hr49 _)) (d := (some 111)) (by kernel_rfl) rfl ?_
       refine Dr.takes (fuel' := 2) (is' := _) [25] [(0, (ptr g)), (1, (i64 a)), (3, (Value.slice B1 ((l15.drop i).length) d1)), (8, (i64 0)), (9, (i64 0)), (10, (i64 0)), (13, (i64 (base + ((l15.length : Nat) : Int)))), (112, (agg [(i64 base), (i64 old), (Value.slice A l47.length j)]))] (by kernel_rfl) rfl (by kernel_rfl) ?_
       refine Dr.new (i := 26) (o := rowL [(i64 base), (i64 old), (Value.slice A l47.length j)] 78) (V := fun b => (ptr b)) (by kernel_rfl) (by kernel_rfl) (d := (some 113)) (by kernel_rfl) (fun b => rfl) (fun b53 w54 hb55 H56 K57 hs58 => ?_)
       have lb53g : g < b53 := by have := H26.lt; omega
       have nb53 : w.heap.size ≤ b53 := by have := K25.size; omega
       have ot59 : ∀ i, T i → i ≠ b53 := fun i hi => by have := Ents.lt hE i hi; omega
       have ot60 : ∀ i, U i → i ≠ b53 := fun i hi => by have := Ents.lt hY1 i hi; omega
       have ot61 : ∀ i, T i → i ≠ b53 := fun i hi => by have := Ents.lt hE50 i hi; omega
       replace K25 := K25.tn K57
       replace H26 := H26.keep K57 (fun h => h)
       replace hE := Ents.keep0 hE K57
       replace hY1 := Ents.keep0 hY1 K57
       replace hE50 := Ents.keep0 hE50 K57
       refine ⟨K57, ?_⟩
       refine Dr.strong (S' := (fun wz => Keeps none_ w54 wz)) (Keeps.refl w54) (fun wz hx => K57.trans hx (fun i _ h => h) (fun _ _ h => h)) ?_
       clear K57 hs58
       refine Dr.takes (fuel' := 0) (is' := _) [27] [(0, (ptr g)), (1, (i64 a)), (3, (Value.slice B1 ((l15.drop i).length) d1)), (8, (i64 0)), (9, (i64 0)), (10, (i64 0)), (13, (i64 (base + ((l15.length : Nat) : Int)))), (15, (ptr b53))] (by kernel_rfl) rfl (by kernel_rfl) ?_
       refine Dr.done (by kernel_rfl) ?_
       refine qs ?_
       refine qs ?_
       refine qg ?_
       refine og 2 [(0, (ptr g)), (1, (i64 a)), (8, (i64 0)), (9, (i64 0)), (10, (i64 0)), (13, (i64 (base + ((l15.length : Nat) : Int)))), (15, (ptr b53)), (114, (ptr b53)), (115, (Value.slice B1 ((l15.drop i).length) d1))] 2 ?_
       by_cases hq62 : appE base old (l47.map EntP.key) ((l15.drop i).map EntP.key) = 0
       ·skip
        refine Ops.call (by kernel_rfl) (d := (some 116)) (by kernel_rfl) (Append_ok _ T b53 base old A l47 U B1 d1 (l15.drop i) (by have q := H56; rw [← hn51] at q; exact q) (by have q := hE50; rw [← hn51] at q; exact q) ot61 (by omega) (by omega) hY1 ot60 (BigK.take hl48 hBig) (BigK.cut (k := i) (j := l15.length) (by rw [List.take_of_length_le (by simp)]) (BigK.cut hl16 hBigY)) (by omega) hq62) ?_
        rintro _ w67 ⟨l63, A64, c65, T66, rfl, K68, H69, hE70, hK71, hT72⟩
        have ot73 : ∀ i, T66 i → i ≠ g := fun i hi => by rcases (hT72 i hi).2 with h | h; (exact hT i h); (have := H26.lt; omega)
        have ot74 : ∀ i, T66 i → i ≠ b53 := fun i hi => (hT72 i hi).1
        have hn75 := keys_len2 hK71
        try rw [List.length_drop] at hn75
        try rw [List.length_append] at hn75
        try rw [List.length_map] at hn75
        try rw [List.length_map] at hn75
        have hz76 := K25.size
        refine ⟨_, _, rfl, rfl, ?_⟩
        replace K25 := K25.trans K68 (U := (fun i => i = g)) (fun i h1 h2 => h2) (fun i h1 h2 => by have h2 : i = b53 := h2; show i = g; omega)
        replace H26 := H26.k1 K68 (by omega)
        replace hE := Ents.keep hE K68 ot59
        replace hY1 := Ents.keep hY1 K68 ot60
        replace hE50 := Ents.keep hE50 K68 ot61
        clear K68
        refine og 1 [(0, (ptr g)), (1, (i64 a)), (8, (i64 0)), (9, (i64 0)), (10, (i64 0)), (13, (i64 (base + ((l15.length : Nat) : Int)))), (15, (ptr b53)), (16, (i64 0))] 4 ?_
        refine od ?_
        refine qs ?_
        refine qg ?_
        refine og 2 [(0, (ptr g)), (1, (i64 a)), (8, (i64 0)), (9, (i64 0)), (10, (i64 0)), (13, (i64 (base + ((l15.length : Nat) : Int)))), (15, (ptr b53)), (16, (i64 0)), (118, (Value.bool false))] 2 ?_
        refine od ?_
        refine q_else (o := .tmp 118) (by kernel_rfl) rfl ?_
        refine q_skip (by kernel_rfl) ?_
        refine qs ?_
        refine qg ?_
        refine og 4 [(1, (i64 a)), (8, (i64 0)), (9, (i64 0)), (10, (i64 0)), (13, (i64 (base + ((l15.length : Nat) : Int)))), (120, (ptr g)), (123, (Value.pointer (some ⟨b53, 2, none⟩)))] 4 ?_
        refine Ops.go (v := (Value.slice A64 l63.length c65)) (by kernel_rfl) (Runs.load (t := 22) (a := ⟨b53, 2, none⟩) (by kernel_rfl) (H69.loads (by kernel_rfl))) (d := (some 124)) (by kernel_rfl) rfl ?_
        refine og 2 [(1, (i64 a)), (8, (i64 0)), (9, (i64 0)), (10, (i64 0)), (13, (i64 (base + ((l15.length : Nat) : Int)))), (124, (Value.slice A64 l63.length c65)), (126, (Value.pointer (some ⟨g, 2, none⟩)))] 7 ?_
        refine Ops.put (t := 22) (b := g) (off := 2) (v := (Value.slice A64 l63.length c65)) (ys := [(i64 base), (i64 old), (Value.slice A64 l63.length c65)]) (by kernel_rfl) (by kernel_rfl) H26 (by kernel_rfl) (d := none) (by kernel_rfl) rfl (fun w77 H78 K79 => ?_)
        clear H26
        replace K25 := K25.t1 K79 (fun _ => rfl)
        replace H69 := H69.k1 K79 (by omega)
        replace hE := Ents.keep hE K79 hT
        replace hY1 := Ents.keep hY1 K79 hU
        replace hE50 := Ents.keep hE50 K79 hT
        replace hE70 := Ents.keep hE70 K79 ot73
        clear K79
        refine od ?_
        refine qs ?_
        refine qg ?_
        refine og 3 [(8, (i64 0)), (9, (i64 0)), (10, (i64 0)), (127, (i64 (base + ((l15.length : Nat) : Int)))), (129, (i64 (IntKind.i64.wrap (a + 1))))] 3 ?_
        have e80 : IntKind.i64.wrap (a + 1) = a + 1 := wrap_i64 (by omega) (by omega)
        rw [e80]
        refine og 3 [(8, (i64 (base + ((l15.length : Nat) : Int)))), (9, (i64 (a + 1))), (10, (i64 0))] 6 ?_
        refine od ?_
        refine q_ret (by kernel_rfl) ?_
        refine ⟨(Value.tuple #[(i64 (base + ((l15.length : Nat) : Int))), (i64 (a + 1)), (i64 0)]), retv_tmp3 rfl rfl rfl rfl, ?_⟩
        have em : matchK base old (l.map EntP.key) n t0 (ys.map EntP.key) = matchT base old (l.map EntP.key) base (l15.map EntP.key) := by unfold matchK; rw [if_neg (by omega), if_pos (by omega), if_neg (by omega), show (base - n).toNat = ks0 by omega, hl16, List.take_of_length_le (by simp), List.map_drop]
        have hyz : (l15.map EntP.key).length = l15.length := List.length_map ..
        have hr0 : runK base old (l.map EntP.key) a ((l15.map EntP.key).drop i) = 0 := (runK_high (by omega) _)
        rw [hr0, Nat.add_zero] at hrun
        have hkp : (l47.map EntP.key) = (l.map EntP.key).take j := by rw [hl48, List.map_take]
        have hkd : (l15.drop i).map EntP.key = (l15.map EntP.key).drop i := List.map_drop ..
        rw [hkp, hkd] at hq62
        have e := em.trans (matchT_ok hrun (by omega) (by omega) hq62)
        exact ⟨l63, A64, c65, T66, by rw [e, hyz] <;> first | rfl | (rw [ha]; done) | (rw [ha]; rfl), K25, H78, hE70, by rw [e, hK71, hkp, hkd], fun i hi => ⟨ot73 i hi, ((hT72 i hi).2).imp id (fun h => by omega)⟩⟩
       ·skip
        refine Ops.call (by kernel_rfl) (d := (some 116)) (by kernel_rfl) (Append_bad _ T b53 base old A l47 U B1 d1 (l15.drop i) (by have q := H56; rw [← hn51] at q; exact q) (by have q := hE50; rw [← hn51] at q; exact q) ot61 (by omega) (by omega) hY1 ot60 (BigK.take hl48 hBig) (BigK.cut (k := i) (j := l15.length) (by rw [List.take_of_length_le (by simp)]) (BigK.cut hl16 hBigY)) (by omega) hq62) ?_
        rintro _ w82 ⟨rfl, K81⟩
        refine ⟨_, _, rfl, rfl, ?_⟩
        replace K25 := K25.tn K81
        replace H26 := H26.keep K81 (fun h => h)
        replace H56 := H56.keep K81 (fun h => h)
        replace hE := Ents.keep0 hE K81
        replace hY1 := Ents.keep0 hY1 K81
        replace hE50 := Ents.keep0 hE50 K81
        clear K81
        refine og 1 [(0, (ptr g)), (1, (i64 a)), (8, (i64 0)), (9, (i64 0)), (10, (i64 0)), (13, (i64 (base + ((l15.length : Nat) : Int)))), (15, (ptr b53)), (16, (i64 (appE base old (l47.map EntP.key) ((l15.drop i).map EntP.key))))] 4 ?_
        refine od ?_
        refine qs ?_
        refine qg ?_
        refine og 2 [(0, (ptr g)), (1, (i64 a)), (8, (i64 0)), (9, (i64 0)), (10, (i64 0)), (13, (i64 (base + ((l15.length : Nat) : Int)))), (15, (ptr b53)), (16, (i64 (appE base old (l47.map EntP.key) ((l15.drop i).map EntP.key)))), (118, (Value.bool ((appE base old (l47.map EntP.key) ((l15.drop i).map EntP.key)) != 0)))] 2 ?_
        refine od ?_
        have h84 : ((appE base old (l47.map EntP.key) ((l15.drop i).map EntP.key)) != 0) = true := bne_t hq62
        rw [h84]
        refine q_then (o := .tmp 118) (by kernel_rfl) rfl ?_
        refine qs ?_
        refine qg ?_
        refine og 4 [(0, (ptr g)), (1, (i64 a)), (8, (i64 0)), (9, (i64 0)), (10, (i64 (appE base old (l47.map EntP.key) ((l15.drop i).map EntP.key)))), (13, (i64 (base + ((l15.length : Nat) : Int)))), (15, (ptr b53))] 4 ?_
        refine od ?_
        refine q_ret (by kernel_rfl) ?_
        refine ⟨(Value.tuple #[(i64 0), (i64 0), (i64 (appE base old (l47.map EntP.key) ((l15.drop i).map EntP.key)))]), retv_tmp3 rfl rfl rfl rfl, ?_⟩
        have em : matchK base old (l.map EntP.key) n t0 (ys.map EntP.key) = matchT base old (l.map EntP.key) base (l15.map EntP.key) := by unfold matchK; rw [if_neg (by omega), if_pos (by omega), if_neg (by omega), show (base - n).toNat = ks0 by omega, hl16, List.take_of_length_le (by simp), List.map_drop]
        have hyz : (l15.map EntP.key).length = l15.length := List.length_map ..
        have hr0 : runK base old (l.map EntP.key) a ((l15.map EntP.key).drop i) = 0 := (runK_high (by omega) _)
        rw [hr0, Nat.add_zero] at hrun
        have hkp : (l47.map EntP.key) = (l.map EntP.key).take j := by rw [hl48, List.map_take]
        have hkd : (l15.drop i).map EntP.key = (l15.map EntP.key).drop i := List.map_drop ..
        rw [hkp, hkd] at hq62
        have e := em.trans (matchT_bad hrun (by omega) (by omega) hq62)
        exact ⟨l, A, c, T, by rw [e, hkp, hkd], K25, H26, hE, by rw [e], fun i hi => ⟨hT0 i hi, .inl hi⟩⟩
      ·exfalso; omega
      ·skip
       obtain ⟨x36, hx37⟩ : ∃ y, l[k35]? = some y := ⟨_, List.getElem?_eq_getElem q34⟩
       refine Ops.call (by kernel_rfl) (d := (some 67)) (by kernel_rfl) (at_here _ T g base old A c l (a + 1) k35 x36 H26 hE hT (by omega) (by omega) q33 q34 hx37) ?_
       rintro _ w86 ⟨rfl, K85⟩
       refine ⟨_, _, rfl, rfl, ?_⟩
       replace K25 := K25.tn K85
       replace H26 := H26.keep K85 (fun h => h)
       replace hE := Ents.keep0 hE K85
       replace hY1 := Ents.keep0 hY1 K85
       clear K85
       refine og 1 [(0, (ptr g)), (1, (i64 a)), (3, (Value.slice B1 ((l15.drop i).length) d1)), (8, (i64 0)), (9, (i64 0)), (10, (i64 0)), (13, (i64 (base + ((l15.length : Nat) : Int)))), (14, (Value.iface 88 (agg [(i64 x36.term), (Value.slice x36.A x36.cmd.length x36.c)])))] 5 ?_
       refine od ?_
       refine qs ?_
       refine qs ?_
       refine q_draw (fun wz => Keeps none_ w86 wz) 11 (by kernel_rfl) (by kernel_rfl) (by kernel_rfl) (fun w87 K88 _ _ => ⟨K88, ?_⟩)
       replace K25 := K25.tn K88
       replace H26 := H26.keep K88 (fun h => h)
       replace hE := Ents.keep0 hE K88
       replace hY1 := Ents.keep0 hY1 K88
       refine Dr.strong (S' := (fun wz => Keeps none_ w87 wz)) (Keeps.refl w87) (fun wz hx => K88.trans hx (fun i _ h => h) (fun _ _ h => h)) ?_
       clear K88
       obtain ⟨z0, hz0⟩ : ∃ z : Nat, z = 0 := ⟨_, rfl⟩
       have hyz : (l15.drop i)[z0]? = some y := by rw [hz0]; exact hy
       obtain ⟨rb89, ro90, hA91⟩ := Rd.addr (Ents.rd hY1) (by omega)
       refine Dr.takes (fuel' := 6) (is' := _) [0, 1, 2, 3, 5] [(0, (ptr g)), (1, (i64 a)), (3, (Value.slice B1 ((l15.drop i).length) d1)), (8, (i64 0)), (9, (i64 0)), (10, (i64 0)), (13, (i64 (base + ((l15.length : Nat) : Int)))), (70, (Value.bool false)), (71, (Value.iface 88 (agg [(i64 x36.term), (Value.slice x36.A x36.cmd.length x36.c)]))), (73, (Value.slice B1 ((l15.drop i).length) d1))] (by kernel_rfl) rfl (by kernel_rfl) ?_
       refine Dr.take (i := 6) (v := (Value.pointer (some ⟨rb89, ro90 + z0 * 2, none⟩))) (by kernel_rfl) (by kernel_rfl) (fun wz hS => Runs.ixSliceE (k := IntKind.i64) (t := 22) (len := ((l15.drop i).length)) (cap := d1) (s := 2) (off' := ro90 + z0 * 2) (i := 0) hA91 (by kernel_rfl) (by kernel_rfl) (by omega) (by omega) (by omega)) (d := (some 74)) (by kernel_rfl) rfl ?_
       refine Dr.takes (fuel' := 4) (is' := _) [7] [(0, (ptr g)), (1, (i64 a)), (3, (Value.slice B1 ((l15.drop i).length) d1)), (8, (i64 0)), (9, (i64 0)), (10, (i64 0)), (13, (i64 (base + ((l15.length : Nat) : Int)))), (70, (Value.bool false)), (71, (Value.iface 88 (agg [(i64 x36.term), (Value.slice x36.A x36.cmd.length x36.c)]))), (75, (Value.pointer (some ⟨rb89, ro90 + z0 * 2, none⟩)))] (by kernel_rfl) rfl (by kernel_rfl) ?_
       refine Dr.take (i := 8) (v := (i64 y.term)) (by kernel_rfl) (by kernel_rfl) (fun wz hS => Runs.load (t := 2) (a := ⟨rb89, ro90 + z0 * 2, none⟩) (by kernel_rfl) (RdT.ldf (f := EntP.cells) (x := y) (o := 0) EntP.two (Ents.rd (Ents.keep0 hY1 hS)) (by kernel_rfl) hA91 hyz rfl)) (d := (some 76)) (by kernel_rfl) rfl ?_
       refine Dr.call (i := 4) (by kernel_rfl) (by kernel_rfl) (d := (some 72)) (by kernel_rfl) (fun _ => here_calls _ x36) ?_
       rintro _ w93 ⟨rfl, K92⟩
       replace K25 := K25.tn K92
       replace H26 := H26.keep K92 (fun h => h)
       replace hE := Ents.keep0 hE K92
       replace hY1 := Ents.keep0 hY1 K92
       refine ⟨_, _, rfl, rfl, K92, ?_⟩
       refine Dr.strong (S' := (fun wz => Keeps none_ w93 wz)) (Keeps.refl w93) (fun wz hx => K92.trans hx (fun i _ h => h) (fun _ _ h => h)) ?_
       clear K92
       refine Dr.takes (fuel' := 0) (is' := _) [9, 10] [(0, (ptr g)), (1, (i64 a)), (3, (Value.slice B1 ((l15.drop i).length) d1)), (8, (i64 0)), (9, (i64 0)), (10, (i64 0)), (13, (i64 (base + ((l15.length : Nat) : Int)))), (78, (Value.bool (x36.term != y.term)))] (by kernel_rfl) rfl (by kernel_rfl) ?_
       refine Dr.done (by kernel_rfl) ?_
       refine q_cond (o := .tmp 78) (b := (x36.term != y.term)) (by kernel_rfl) rfl (fun h94 => ?_) (fun h94 => ?_)
       ·rw [h94]
        have p95 : ¬ (x36.term = y.term) := of_bne_t h94
        refine q_exit (id := 1) (by kernel_rfl) ?_
        refine qs ?_
        refine qs ?_
        refine qg ?_
        refine og 3 [(0, (ptr g)), (1, (i64 a)), (3, (Value.slice B1 ((l15.drop i).length) d1)), (8, (i64 0)), (9, (i64 0)), (10, (i64 0)), (13, (i64 (base + ((l15.length : Nat) : Int)))), (85, (Value.bool ((((l15.drop i).length : Nat) : Int) == 0)))] 3 ?_
        refine od ?_
        obtain ⟨j, hj⟩ : ∃ m : Nat, a - base = (m : Int) := Int.eq_ofNat_of_zero_le (by omega)
        have h96 : ((((l15.drop i).length : Nat) : Int) == 0) = false := beq_f (by omega)
        rw [h96]
        refine q_else (o := .tmp 85) (by kernel_rfl) rfl ?_
        refine q_skip (by kernel_rfl) ?_
        refine qs ?_
        refine q_draw (fun wz => Keeps none_ w93 wz) 28 (by kernel_rfl) (by kernel_rfl) (by kernel_rfl) (fun w97 K98 _ _ => ⟨K98, ?_⟩)
        replace K25 := K25.tn K98
        replace H26 := H26.keep K98 (fun h => h)
        replace hE := Ents.keep0 hE K98
        replace hY1 := Ents.keep0 hY1 K98
        refine Dr.strong (S' := (fun wz => Keeps none_ w97 wz)) (Keeps.refl w97) (fun wz hx => K98.trans hx (fun i _ h => h) (fun _ _ h => h)) ?_
        clear K98
        refine Dr.takes (fuel' := 25) (is' := _) [0, 1, 2] [(0, (ptr g)), (1, (i64 a)), (3, (Value.slice B1 ((l15.drop i).length) d1)), (8, (i64 0)), (9, (i64 0)), (10, (i64 0)), (13, (i64 (base + ((l15.length : Nat) : Int)))), (89, (ptr g))] (by kernel_rfl) rfl (by kernel_rfl) ?_
        refine Dr.take (i := 3) (v := (i64 base)) (by kernel_rfl) (by kernel_rfl) (fun wz hS => Runs.load (t := 2) (a := ⟨g, 0, none⟩) (by kernel_rfl) ((H26.keep hS (fun h => h)).loads (by kernel_rfl))) (d := (some 90)) (by kernel_rfl) rfl ?_
        refine Dr.takes (fuel' := 21) (is' := _) [4, 5, 6] [(0, (ptr g)), (1, (i64 a)), (3, (Value.slice B1 ((l15.drop i).length) d1)), (8, (i64 0)), (9, (i64 0)), (10, (i64 0)), (13, (i64 (base + ((l15.length : Nat) : Int)))), (90, (i64 base)), (93, (Value.pointer (some ⟨g, 1, none⟩)))] (by kernel_rfl) rfl (by kernel_rfl) ?_
        refine Dr.take (i := 7) (v := (i64 old)) (by kernel_rfl) (by kernel_rfl) (fun wz hS => Runs.load (t := 2) (a := ⟨g, 1, none⟩) (by kernel_rfl) ((H26.keep hS (fun h => h)).loads (by kernel_rfl))) (d := (some 94)) (by kernel_rfl) rfl ?_
        refine Dr.takes (fuel' := 17) (is' := _) [8, 9, 10] [(0, (ptr g)), (1, (i64 a)), (3, (Value.slice B1 ((l15.drop i).length) d1)), (8, (i64 0)), (9, (i64 0)), (10, (i64 0)), (13, (i64 (base + ((l15.length : Nat) : Int)))), (90, (i64 base)), (94, (i64 old)), (97, (Value.pointer (some ⟨g, 2, none⟩)))] (by kernel_rfl) rfl (by kernel_rfl) ?_
        refine Dr.take (i := 11) (v := (Value.slice A l.length c)) (by kernel_rfl) (by kernel_rfl) (fun wz hS => Runs.load (t := 22) (a := ⟨g, 2, none⟩) (by kernel_rfl) ((H26.keep hS (fun h => h)).loads (by kernel_rfl))) (d := (some 98)) (by kernel_rfl) rfl ?_
        refine Dr.takes (fuel' := 12) (is' := _) [12, 13, 14, 15] [(0, (ptr g)), (1, (i64 a)), (3, (Value.slice B1 ((l15.drop i).length) d1)), (8, (i64 0)), (9, (i64 0)), (10, (i64 0)), (13, (i64 (base + ((l15.length : Nat) : Int)))), (90, (i64 base)), (94, (i64 old)), (98, (Value.slice A l.length c)), (99, (i64 a)), (102, (ptr g))] (by kernel_rfl) rfl (by kernel_rfl) ?_
        refine Dr.take (i := 16) (v := (i64 base)) (by kernel_rfl) (by kernel_rfl) (fun wz hS => Runs.load (t := 2) (a := ⟨g, 0, none⟩) (by kernel_rfl) ((H26.keep hS (fun h => h)).loads (by kernel_rfl))) (d := (some 103)) (by kernel_rfl) rfl ?_
        refine Dr.takes (fuel' := 10) (is' := _) [17] [(0, (ptr g)), (1, (i64 a)), (3, (Value.slice B1 ((l15.drop i).length) d1)), (8, (i64 0)), (9, (i64 0)), (10, (i64 0)), (13, (i64 (base + ((l15.length : Nat) : Int)))), (90, (i64 base)), (94, (i64 old)), (98, (Value.slice A l.length c)), (104, (i64 (IntKind.i64.wrap (a - base))))] (by kernel_rfl) rfl (by kernel_rfl) ?_
        have e99 : IntKind.i64.wrap (a - base) = ((j : Nat) : Int) := by rw [wrap_i64 (by omega) (by omega)]; omega
        rw [e99]
        refine Dr.takes (fuel' := 6) (is' := _) [18, 19, 20, 21] [(0, (ptr g)), (1, (i64 a)), (3, (Value.slice B1 ((l15.drop i).length) d1)), (8, (i64 0)), (9, (i64 0)), (10, (i64 0)), (13, (i64 (base + ((l15.length : Nat) : Int)))), (90, (i64 base)), (94, (i64 old)), (98, (Value.slice A l.length c)), (104, (i64 ((j : Nat) : Int))), (105, (i64 a)), (108, (ptr g))] (by kernel_rfl) rfl (by kernel_rfl) ?_
        refine Dr.take (i := 22) (v := (i64 base)) (by kernel_rfl) (by kernel_rfl) (fun wz hS => Runs.load (t := 2) (a := ⟨g, 0, none⟩) (by kernel_rfl) ((H26.keep hS (fun h => h)).loads (by kernel_rfl))) (d := (some 109)) (by kernel_rfl) rfl ?_
        refine Dr.takes (fuel' := 4) (is' := _) [23] [(0, (ptr g)), (1, (i64 a)), (3, (Value.slice B1 ((l15.drop i).length) d1)), (8, (i64 0)), (9, (i64 0)), (10, (i64 0)), (13, (i64 (base + ((l15.length : Nat) : Int)))), (90, (i64 base)), (94, (i64 old)), (98, (Value.slice A l.length c)), (104, (i64 ((j : Nat) : Int))), (110, (i64 (IntKind.i64.wrap (a - base))))] (by kernel_rfl) rfl (by kernel_rfl) ?_
        have e100 : IntKind.i64.wrap (a - base) = ((j : Nat) : Int) := by rw [wrap_i64 (by omega) (by omega)]; omega
        rw [e100]
        obtain ⟨hr103, hE104⟩ := Ents.headRun (P := Try.prog) (t := 22) (e := 43) (by kernel_rfl) (by kernel_rfl) hE j j (kh := .i64) (mx := (some (i64 ((j : Nat) : Int)))) (.inr ⟨_, rfl⟩) (by omega) (by omega) (by omega)
        obtain ⟨l101, hl102⟩ : ∃ z, z = l.take j := ⟨_, rfl⟩
        rw [← hl102] at hr103 hE104
        have hn105 : l101.length = j := by rw [hl102]; simp only [List.length_take]; omega
        have hc106 := Ents.len hE104
        refine Dr.take (i := 24) (v := (Value.slice A l101.length j)) (by kernel_rfl) (by kernel_rfl) (fun wz hS => Runs.slice (by kernel_rfl) (hr103 _)) (d := (some 111)) (by kernel_rfl) rfl ?_
        refine Dr.takes (fuel' := 2) (is' := _) [25] [(0, (ptr g)), (1, (i64 a)), (3, (Value.slice B1 ((l15.drop i).length) d1)), (8, (i64 0)), (9, (i64 0)), (10, (i64 0)), (13, (i64 (base + ((l15.length : Nat) : Int)))), (112, (agg [(i64 base), (i64 old), (Value.slice A l101.length j)]))] (by kernel_rfl) rfl (by kernel_rfl) ?_
        refine Dr.new (i := 26) (o := rowL [(i64 base), (i64 old), (Value.slice A l101.length j)] 78) (V := fun b => (ptr b)) (by kernel_rfl) (by kernel_rfl) (d := (some 113)) (by kernel_rfl) (fun b => rfl) (fun b107 w108 hb109 H110 K111 hs112 => ?_)
        have lb107g : g < b107 := by have := H26.lt; omega
        have nb107 : w.heap.size ≤ b107 := by have := K25.size; omega
        have ot113 : ∀ i, T i → i ≠ b107 := fun i hi => by have := Ents.lt hE i hi; omega
        have ot114 : ∀ i, U i → i ≠ b107 := fun i hi => by have := Ents.lt hY1 i hi; omega
        have ot115 : ∀ i, T i → i ≠ b107 := fun i hi => by have := Ents.lt hE104 i hi; omega
        replace K25 := K25.tn K111
        replace H26 := H26.keep K111 (fun h => h)
        replace hE := Ents.keep0 hE K111
        replace hY1 := Ents.keep0 hY1 K111
        replace hE104 := Ents.keep0 hE104 K111
        refine ⟨K111, ?_⟩
        refine Dr.strong (S' := (fun wz => Keeps none_ w108 wz)) (Keeps.refl w108) (fun wz hx => K111.trans hx (fun i _ h => h) (fun _ _ h => h)) ?_
        clear K111 hs112
        refine Dr.takes (fuel' := 0) (is' := _) [27] [(0, (ptr g)), (1, (i64 a)), (3, (Value.slice B1 ((l15.drop i).length) d1)), (8, (i64 0)), (9, (i64 0)), (10, (i64 0)), (13, (i64 (base + ((l15.length : Nat) : Int)))), (15, (ptr b107))] (by kernel_rfl) rfl (by kernel_rfl) ?_
        refine Dr.done (by kernel_rfl) ?_
        refine qs ?_
        refine qs ?_
        refine qg ?_
        refine og 2 [(0, (ptr g)), (1, (i64 a)), (8, (i64 0)), (9, (i64 0)), (10, (i64 0)), (13, (i64 (base + ((l15.length : Nat) : Int)))), (15, (ptr b107)), (114, (ptr b107)), (115, (Value.slice B1 ((l15.drop i).length) d1))] 2 ?_
        by_cases hq116 : appE base old (l101.map EntP.key) ((l15.drop i).map EntP.key) = 0
        ·skip
         refine Ops.call (by kernel_rfl) (d := (some 116)) (by kernel_rfl) (Append_ok _ T b107 base old A l101 U B1 d1 (l15.drop i) (by have q := H110; rw [← hn105] at q; exact q) (by have q := hE104; rw [← hn105] at q; exact q) ot115 (by omega) (by omega) hY1 ot114 (BigK.take hl102 hBig) (BigK.cut (k := i) (j := l15.length) (by rw [List.take_of_length_le (by simp)]) (BigK.cut hl16 hBigY)) (by omega) hq116) ?_
         rintro _ w121 ⟨l117, A118, c119, T120, rfl, K122, H123, hE124, hK125, hT126⟩
         have ot127 : ∀ i, T120 i → i ≠ g := fun i hi => by rcases (hT126 i hi).2 with h | h; (exact hT i h); (have := H26.lt; omega)
         have ot128 : ∀ i, T120 i → i ≠ b107 := fun i hi => (hT126 i hi).1
         have hn129 := keys_len2 hK125
         try rw [List.length_drop] at hn129
         try rw [List.length_append] at hn129
         try rw [List.length_map] at hn129
         try rw [List.length_map] at hn129
         have hz130 := K25.size
         refine ⟨_, _, rfl, rfl, ?_⟩
         replace K25 := K25.trans K122 (U := (fun i => i = g)) (fun i h1 h2 => h2) (fun i h1 h2 => by have h2 : i = b107 := h2; show i = g; omega)
         replace H26 := H26.k1 K122 (by omega)
         replace hE := Ents.keep hE K122 ot113
         replace hY1 := Ents.keep hY1 K122 ot114
         replace hE104 := Ents.keep hE104 K122 ot115
         clear K122
         refine og 1 [(0, (ptr g)), (1, (i64 a)), (8, (i64 0)), (9, (i64 0)), (10, (i64 0)), (13, (i64 (base + ((l15.length : Nat) : Int)))), (15, (ptr b107)), (16, (i64 0))] 4 ?_
         refine od ?_
         refine qs ?_
         refine qg ?_
         refine og 2 [(0, (ptr g)), (1, (i64 a)), (8, (i64 0)), (9, (i64 0)), (10, (i64 0)), (13, (i64 (base + ((l15.length : Nat) : Int)))), (15, (ptr b107)), (16, (i64 0)), (118, (Value.bool false))] 2 ?_
         refine od ?_
         refine q_else (o := .tmp 118) (by kernel_rfl) rfl ?_
         refine q_skip (by kernel_rfl) ?_
         refine qs ?_
         refine qg ?_
         refine og 4 [(1, (i64 a)), (8, (i64 0)), (9, (i64 0)), (10, (i64 0)), (13, (i64 (base + ((l15.length : Nat) : Int)))), (120, (ptr g)), (123, (Value.pointer (some ⟨b107, 2, none⟩)))] 4 ?_
         refine Ops.go (v := (Value.slice A118 l117.length c119)) (by kernel_rfl) (Runs.load (t := 22) (a := ⟨b107, 2, none⟩) (by kernel_rfl) (H123.loads (by kernel_rfl))) (d := (some 124)) (by kernel_rfl) rfl ?_
         refine og 2 [(1, (i64 a)), (8, (i64 0)), (9, (i64 0)), (10, (i64 0)), (13, (i64 (base + ((l15.length : Nat) : Int)))), (124, (Value.slice A118 l117.length c119)), (126, (Value.pointer (some ⟨g, 2, none⟩)))] 7 ?_
         refine Ops.put (t := 22) (b := g) (off := 2) (v := (Value.slice A118 l117.length c119)) (ys := [(i64 base), (i64 old), (Value.slice A118 l117.length c119)]) (by kernel_rfl) (by kernel_rfl) H26 (by kernel_rfl) (d := none) (by kernel_rfl) rfl (fun w131 H132 K133 => ?_)
         clear H26
         replace K25 := K25.t1 K133 (fun _ => rfl)
         replace H123 := H123.k1 K133 (by omega)
         replace hE := Ents.keep hE K133 hT
         replace hY1 := Ents.keep hY1 K133 hU
         replace hE104 := Ents.keep hE104 K133 hT
         replace hE124 := Ents.keep hE124 K133 ot127
         clear K133
         refine od ?_
         refine qs ?_
         refine qg ?_
         refine og 3 [(8, (i64 0)), (9, (i64 0)), (10, (i64 0)), (127, (i64 (base + ((l15.length : Nat) : Int)))), (129, (i64 (IntKind.i64.wrap (a + 1))))] 3 ?_
         have e134 : IntKind.i64.wrap (a + 1) = a + 1 := wrap_i64 (by omega) (by omega)
         rw [e134]
         refine og 3 [(8, (i64 (base + ((l15.length : Nat) : Int)))), (9, (i64 (a + 1))), (10, (i64 0))] 6 ?_
         refine od ?_
         refine q_ret (by kernel_rfl) ?_
         refine ⟨(Value.tuple #[(i64 (base + ((l15.length : Nat) : Int))), (i64 (a + 1)), (i64 0)]), retv_tmp3 rfl rfl rfl rfl, ?_⟩
         have em : matchK base old (l.map EntP.key) n t0 (ys.map EntP.key) = matchT base old (l.map EntP.key) base (l15.map EntP.key) := by unfold matchK; rw [if_neg (by omega), if_pos (by omega), if_neg (by omega), show (base - n).toNat = ks0 by omega, hl16, List.take_of_length_le (by simp), List.map_drop]
         have hyz : (l15.map EntP.key).length = l15.length := List.length_map ..
         have hr0 : runK base old (l.map EntP.key) a ((l15.map EntP.key).drop i) = 0 := (runK_ne (k := k35) (by omega) (ekey_at hx37) hyk (by omega))
         rw [hr0, Nat.add_zero] at hrun
         have hkp : (l101.map EntP.key) = (l.map EntP.key).take j := by rw [hl102, List.map_take]
         have hkd : (l15.drop i).map EntP.key = (l15.map EntP.key).drop i := List.map_drop ..
         rw [hkp, hkd] at hq116
         have e := em.trans (matchT_ok hrun (by omega) (by omega) hq116)
         exact ⟨l117, A118, c119, T120, by rw [e, hyz] <;> first | rfl | (rw [ha]; done) | (rw [ha]; rfl), K25, H132, hE124, by rw [e, hK125, hkp, hkd], fun i hi => ⟨ot127 i hi, ((hT126 i hi).2).imp id (fun h => by omega)⟩⟩
        ·skip
         refine Ops.call (by kernel_rfl) (d := (some 116)) (by kernel_rfl) (Append_bad _ T b107 base old A l101 U B1 d1 (l15.drop i) (by have q := H110; rw [← hn105] at q; exact q) (by have q := hE104; rw [← hn105] at q; exact q) ot115 (by omega) (by omega) hY1 ot114 (BigK.take hl102 hBig) (BigK.cut (k := i) (j := l15.length) (by rw [List.take_of_length_le (by simp)]) (BigK.cut hl16 hBigY)) (by omega) hq116) ?_
         rintro _ w136 ⟨rfl, K135⟩
         refine ⟨_, _, rfl, rfl, ?_⟩
         replace K25 := K25.tn K135
         replace H26 := H26.keep K135 (fun h => h)
         replace H110 := H110.keep K135 (fun h => h)
         replace hE := Ents.keep0 hE K135
         replace hY1 := Ents.keep0 hY1 K135
         replace hE104 := Ents.keep0 hE104 K135
         clear K135
         refine og 1 [(0, (ptr g)), (1, (i64 a)), (8, (i64 0)), (9, (i64 0)), (10, (i64 0)), (13, (i64 (base + ((l15.length : Nat) : Int)))), (15, (ptr b107)), (16, (i64 (appE base old (l101.map EntP.key) ((l15.drop i).map EntP.key))))] 4 ?_
         refine od ?_
         refine qs ?_
         refine qg ?_
         refine og 2 [(0, (ptr g)), (1, (i64 a)), (8, (i64 0)), (9, (i64 0)), (10, (i64 0)), (13, (i64 (base + ((l15.length : Nat) : Int)))), (15, (ptr b107)), (16, (i64 (appE base old (l101.map EntP.key) ((l15.drop i).map EntP.key)))), (118, (Value.bool ((appE base old (l101.map EntP.key) ((l15.drop i).map EntP.key)) != 0)))] 2 ?_
         refine od ?_
         have h138 : ((appE base old (l101.map EntP.key) ((l15.drop i).map EntP.key)) != 0) = true := bne_t hq116
         rw [h138]
         refine q_then (o := .tmp 118) (by kernel_rfl) rfl ?_
         refine qs ?_
         refine qg ?_
         refine og 4 [(0, (ptr g)), (1, (i64 a)), (8, (i64 0)), (9, (i64 0)), (10, (i64 (appE base old (l101.map EntP.key) ((l15.drop i).map EntP.key)))), (13, (i64 (base + ((l15.length : Nat) : Int)))), (15, (ptr b107))] 4 ?_
         refine od ?_
         refine q_ret (by kernel_rfl) ?_
         refine ⟨(Value.tuple #[(i64 0), (i64 0), (i64 (appE base old (l101.map EntP.key) ((l15.drop i).map EntP.key)))]), retv_tmp3 rfl rfl rfl rfl, ?_⟩
         have em : matchK base old (l.map EntP.key) n t0 (ys.map EntP.key) = matchT base old (l.map EntP.key) base (l15.map EntP.key) := by unfold matchK; rw [if_neg (by omega), if_pos (by omega), if_neg (by omega), show (base - n).toNat = ks0 by omega, hl16, List.take_of_length_le (by simp), List.map_drop]
         have hyz : (l15.map EntP.key).length = l15.length := List.length_map ..
         have hr0 : runK base old (l.map EntP.key) a ((l15.map EntP.key).drop i) = 0 := (runK_ne (k := k35) (by omega) (ekey_at hx37) hyk (by omega))
         rw [hr0, Nat.add_zero] at hrun
         have hkp : (l101.map EntP.key) = (l.map EntP.key).take j := by rw [hl102, List.map_take]
         have hkd : (l15.drop i).map EntP.key = (l15.map EntP.key).drop i := List.map_drop ..
         rw [hkp, hkd] at hq116
         have e := em.trans (matchT_bad hrun (by omega) (by omega) hq116)
         exact ⟨l, A, c, T, by rw [e, hkp, hkd], K25, H26, hE, by rw [e], fun i hi => ⟨hT0 i hi, .inl hi⟩⟩
       ·rw [h94]
        have p139 : x36.term = y.term := of_bne_f h94
        have hre := runK_eq (old := old) (k := k35) (by omega) (ekey_at hx37) hyk (by omega)
        refine q_skip (by kernel_rfl) ?_
        refine q_draw (fun wz => Keeps none_ w93 wz) 6 (by kernel_rfl) (by kernel_rfl) (by kernel_rfl) (fun w140 K141 _ _ => ⟨K141, ?_⟩)
        replace K25 := K25.tn K141
        replace H26 := H26.keep K141 (fun h => h)
        replace hE := Ents.keep0 hE K141
        replace hY1 := Ents.keep0 hY1 K141
        refine Dr.strong (S' := (fun wz => Keeps none_ w140 wz)) (Keeps.refl w140) (fun wz hx => K141.trans hx (fun i _ h => h) (fun _ _ h => h)) ?_
        clear K141
        refine Dr.takes (fuel' := 4) (is' := _) [0, 1] [(0, (ptr g)), (1, (i64 a)), (3, (Value.slice B1 ((l15.drop i).length) d1)), (8, (i64 0)), (9, (i64 0)), (10, (i64 0)), (13, (i64 (base + ((l15.length : Nat) : Int)))), (80, (i64 (IntKind.i64.wrap (a + 1))))] (by kernel_rfl) rfl (by kernel_rfl) ?_
        have e142 : IntKind.i64.wrap (a + 1) = a + 1 := wrap_i64 (by omega) (by omega)
        rw [e142]
        obtain ⟨A148, c149, hr145, hE146⟩ := Ents.cutRun (P := Try.prog) (t := 22) (e := 43) (by kernel_rfl) (by kernel_rfl) hY1 1 ((l15.drop i).length) (kl := .i64) (hi := none) (.inl ⟨rfl, rfl⟩) (by omega) (by omega)
        have he150 : ((l15.drop i).drop 1).take ((l15.drop i).length - 1) = l15.drop (i + 1) := by rw [List.drop_drop]; exact List.take_of_length_le (by rw [List.length_drop, List.length_drop]; omega)
        rw [he150] at hr145 hE146
        refine Dr.takes (fuel' := 3) (is' := _) [2] [(0, (ptr g)), (1, (i64 a)), (3, (Value.slice B1 ((l15.drop i).length) d1)), (8, (i64 0)), (9, (i64 0)), (10, (i64 0)), (13, (i64 (base + ((l15.length : Nat) : Int)))), (80, (i64 (a + 1))), (81, (Value.slice B1 ((l15.drop i).length) d1))] (by kernel_rfl) rfl (by kernel_rfl) ?_
        refine Dr.take (i := 3) (v := (Value.slice A148 ((l15.drop (i + 1)).length) c149)) (by kernel_rfl) (by kernel_rfl) (fun wz hS => Runs.slice (by kernel_rfl) (hr145 _)) (d := (some 82)) (by kernel_rfl) rfl ?_
        refine Dr.takes (fuel' := 0) (is' := _) [4, 5] [(0, (ptr g)), (1, (i64 (a + 1))), (3, (Value.slice A148 ((l15.drop (i + 1)).length) c149)), (8, (i64 0)), (9, (i64 0)), (10, (i64 0)), (13, (i64 (base + ((l15.length : Nat) : Int))))] (by kernel_rfl) rfl (by kernel_rfl) ?_
        refine Dr.keep (R := [(0, (ptr g)), (1, (i64 (a + 1))), (3, (Value.slice A148 ((l15.drop (i + 1)).length) c149)), (8, (i64 0)), (9, (i64 0)), (10, (i64 0)), (13, (i64 (base + ((l15.length : Nat) : Int))))]) (by kernel_rfl) ?_
        refine Dr.done (by kernel_rfl) ?_
        exact ⟨(a + 1, i + 1, A148, c149), ⟨rfl, (by omega), (by rw [hrun, hre, List.drop_drop]; omega), (by omega), (by omega), hE146, hE, K25, H26⟩, (show l15.length - (i + 1) < l15.length - i from by omega)⟩
     ·rw [h27]
      have p151 : ¬ ((((l15.drop i).length : Nat) : Int) > 0) := of_decide_eq_false h27
      refine q_exit (id := 1) (by kernel_rfl) ?_
      refine qs ?_
      refine qs ?_
      refine qg ?_
      refine og 3 [(0, (ptr g)), (1, (i64 a)), (3, (Value.slice B1 ((l15.drop i).length) d1)), (8, (i64 0)), (9, (i64 0)), (10, (i64 0)), (13, (i64 (base + ((l15.length : Nat) : Int)))), (85, (Value.bool ((((l15.drop i).length : Nat) : Int) == 0)))] 3 ?_
      refine od ?_
      have h152 : ((((l15.drop i).length : Nat) : Int) == 0) = true := beq_t (by omega)
      rw [h152]
      refine q_then (o := .tmp 85) (by kernel_rfl) rfl ?_
      refine qs ?_
      refine qg ?_
      refine og 4 [(0, (ptr g)), (1, (i64 a)), (3, (Value.slice B1 ((l15.drop i).length) d1)), (8, (i64 (base + ((l15.length : Nat) : Int)))), (9, (i64 0)), (10, (i64 0)), (13, (i64 (base + ((l15.length : Nat) : Int))))] 4 ?_
      refine od ?_
      refine q_ret (by kernel_rfl) ?_
      refine ⟨(Value.tuple #[(i64 (base + ((l15.length : Nat) : Int))), (i64 0), (i64 0)]), retv_tmp3 rfl rfl rfl rfl, ?_⟩
      have em : matchK base old (l.map EntP.key) n t0 (ys.map EntP.key) = matchT base old (l.map EntP.key) base (l15.map EntP.key) := by unfold matchK; rw [if_neg (by omega), if_pos (by omega), if_neg (by omega), show (base - n).toNat = ks0 by omega, hl16, List.take_of_length_le (by simp), List.map_drop]
      have hyz : (l15.map EntP.key).length = l15.length := List.length_map ..
      have hr0 : runK base old (l.map EntP.key) a ((l15.map EntP.key).drop i) = 0 := by rw [List.drop_of_length_le (by omega)]; rfl
      have e := em.trans (matchT_end (by rw [hrun, hr0]; omega))
      exact ⟨l, A, c, T, by rw [e, hyz], K25, H26, hE, by rw [e], fun i hi => ⟨hT0 i hi, .inl hi⟩⟩
   ·rw [h8]
    have p153 : ¬ (base - n > 0) := of_decide_eq_false h8
    refine qs ?_
    refine qg ?_
    refine og 2 [(0, (ptr g)), (1, (i64 n)), (2, (i64 t0)), (3, (Value.slice B ys.length d)), (8, (i64 0)), (9, (i64 0)), (10, (i64 0)), (46, (ptr g)), (47, (i64 n))] 2 ?_
    rcases at_or base l.length n with q154 | q155 | q156 | ⟨k159, q157, q158⟩
    ·skip
     refine Ops.call (by kernel_rfl) (d := (some 48)) (by kernel_rfl) (at_low _ T g base old A c l n H0 hE hT (by omega) (by omega) q154) ?_
     rintro _ w163 ⟨rfl, K162⟩
     refine ⟨_, _, rfl, rfl, ?_⟩
     replace K0 := K0.tn K162
     replace H0 := H0.keep K162 (fun h => h)
     replace hE := Ents.keep0 hE K162
     replace hY := Ents.keep0 hY K162
     clear K162
     refine og 1 [(0, (ptr g)), (1, (i64 n)), (2, (i64 t0)), (3, (Value.slice B ys.length d)), (8, (i64 0)), (9, (i64 0)), (10, (i64 0)), (12, Value.nilIface)] 4 ?_
     refine od ?_
     refine qs ?_
     refine qg ?_
     refine og 8 [(0, (ptr g)), (1, (i64 n)), (3, (Value.slice B ys.length d)), (8, (i64 0)), (9, (i64 0)), (10, (i64 0)), (56, (Value.bool true))] 8 ?_
     refine od ?_
     refine q_then (o := .tmp 56) (by kernel_rfl) rfl ?_
     refine qs ?_
     refine qg ?_
     refine og 3 [(0, (ptr g)), (1, (i64 n)), (3, (Value.slice B ys.length d)), (8, (i64 0)), (9, (i64 0)), (10, (i64 5))] 3 ?_
     refine od ?_
     refine q_ret (by kernel_rfl) ?_
     refine ⟨(Value.tuple #[(i64 0), (i64 0), (i64 5)]), retv_tmp3 rfl rfl rfl rfl, ?_⟩
     have e : matchK base old (l.map EntP.key) n t0 (ys.map EntP.key) = ((0, 0, 5), (l.map EntP.key)) := by unfold matchK; rw [if_neg (by omega), if_neg (by omega), termK_none (by rw [hll]; omega), if_neg (by simp <;> omega)]
     exact ⟨l, A, c, T, by rw [e], K0, H0, hE, by rw [e], fun i hi => ⟨hT0 i hi, .inl hi⟩⟩
    ·skip
     refine Ops.call (by kernel_rfl) (d := (some 48)) (by kernel_rfl) (at_high _ T g base old A c l n H0 hE hT (by omega) (by omega) (by omega) q155) ?_
     rintro _ w165 ⟨rfl, K164⟩
     refine ⟨_, _, rfl, rfl, ?_⟩
     replace K0 := K0.tn K164
     replace H0 := H0.keep K164 (fun h => h)
     replace hE := Ents.keep0 hE K164
     replace hY := Ents.keep0 hY K164
     clear K164
     refine og 1 [(0, (ptr g)), (1, (i64 n)), (2, (i64 t0)), (3, (Value.slice B ys.length d)), (8, (i64 0)), (9, (i64 0)), (10, (i64 0)), (12, Value.nilIface)] 4 ?_
     refine od ?_
     refine qs ?_
     refine qg ?_
     refine og 8 [(0, (ptr g)), (1, (i64 n)), (3, (Value.slice B ys.length d)), (8, (i64 0)), (9, (i64 0)), (10, (i64 0)), (56, (Value.bool true))] 8 ?_
     refine od ?_
     refine q_then (o := .tmp 56) (by kernel_rfl) rfl ?_
     refine qs ?_
     refine qg ?_
     refine og 3 [(0, (ptr g)), (1, (i64 n)), (3, (Value.slice B ys.length d)), (8, (i64 0)), (9, (i64 0)), (10, (i64 5))] 3 ?_
     refine od ?_
     refine q_ret (by kernel_rfl) ?_
     refine ⟨(Value.tuple #[(i64 0), (i64 0), (i64 5)]), retv_tmp3 rfl rfl rfl rfl, ?_⟩
     have e : matchK base old (l.map EntP.key) n t0 (ys.map EntP.key) = ((0, 0, 5), (l.map EntP.key)) := by unfold matchK; rw [if_neg (by omega), if_neg (by omega), termK_none (by rw [hll]; omega), if_neg (by simp <;> omega)]
     exact ⟨l, A, c, T, by rw [e], K0, H0, hE, by rw [e], fun i hi => ⟨hT0 i hi, .inl hi⟩⟩
    ·skip
     refine Ops.call (by kernel_rfl) (d := (some 48)) (by kernel_rfl) (at_gone _ T g base old A c l n H0 hE hT (by omega) (by omega) q156) ?_
     rintro _ w167 ⟨rfl, K166⟩
     refine ⟨_, _, rfl, rfl, ?_⟩
     replace K0 := K0.tn K166
     replace H0 := H0.keep K166 (fun h => h)
     replace hE := Ents.keep0 hE K166
     replace hY := Ents.keep0 hY K166
     clear K166
     refine og 1 [(0, (ptr g)), (1, (i64 n)), (2, (i64 t0)), (3, (Value.slice B ys.length d)), (8, (i64 0)), (9, (i64 0)), (10, (i64 0)), (12, (Value.iface 121 (agg [(i64 old)])))] 4 ?_
     refine od ?_
     refine qs ?_
     refine qg ?_
     refine og 4 [(0, (ptr g)), (1, (i64 n)), (2, (i64 t0)), (3, (Value.slice B ys.length d)), (8, (i64 0)), (9, (i64 0)), (10, (i64 0)), (51, (Value.bool false)), (52, (Value.iface 121 (agg [(i64 old)])))] 4 ?_
     refine Ops.call (by kernel_rfl) (d := (some 53)) (by kernel_rfl) (gone_calls _ old) ?_
     rintro _ w169 ⟨rfl, K168⟩
     refine ⟨_, _, rfl, rfl, ?_⟩
     replace K0 := K0.tn K168
     replace H0 := H0.keep K168 (fun h => h)
     replace hE := Ents.keep0 hE K168
     replace hY := Ents.keep0 hY K168
     clear K168
     refine og 3 [(0, (ptr g)), (1, (i64 n)), (3, (Value.slice B ys.length d)), (8, (i64 0)), (9, (i64 0)), (10, (i64 0)), (56, (Value.bool (old != t0)))] 8 ?_
     refine od ?_
     refine q_cond (o := .tmp 56) (b := (old != t0)) (by kernel_rfl) rfl (fun h170 => ?_) (fun h170 => ?_)
     ·rw [h170]
      have p171 : ¬ (old = t0) := of_bne_t h170
      refine qs ?_
      refine qg ?_
      refine og 3 [(0, (ptr g)), (1, (i64 n)), (3, (Value.slice B ys.length d)), (8, (i64 0)), (9, (i64 0)), (10, (i64 5))] 3 ?_
      refine od ?_
      refine q_ret (by kernel_rfl) ?_
      refine ⟨(Value.tuple #[(i64 0), (i64 0), (i64 5)]), retv_tmp3 rfl rfl rfl rfl, ?_⟩
      have e : matchK base old (l.map EntP.key) n t0 (ys.map EntP.key) = ((0, 0, 5), (l.map EntP.key)) := by unfold matchK; rw [if_neg (by omega), if_neg (by omega), q156, termK_base, if_neg (by simp <;> omega)]
      exact ⟨l, A, c, T, by rw [e], K0, H0, hE, by rw [e], fun i hi => ⟨hT0 i hi, .inl hi⟩⟩
     ·rw [h170]
      have p172 : old = t0 := of_bne_f h170
      refine q_skip (by kernel_rfl) ?_
      refine qs ?_
      refine qg ?_
      refine og 4 [(0, (ptr g)), (1, (i64 n)), (3, (Value.slice B ys.length d)), (8, (i64 0)), (9, (i64 0)), (10, (i64 0)), (60, (i64 (IntKind.i64.wrap (n + ((ys.length : Nat) : Int)))))] 4 ?_
      have e173 : IntKind.i64.wrap (n + ((ys.length : Nat) : Int)) = n + ((ys.length : Nat) : Int) := wrap_i64 (by omega) (by omega)
      rw [e173]
      refine og 1 [(0, (ptr g)), (1, (i64 n)), (3, (Value.slice B ys.length d)), (8, (i64 0)), (9, (i64 0)), (10, (i64 0)), (13, (i64 (n + ((ys.length : Nat) : Int))))] 5 ?_
      refine od ?_
      refine qs ?_
      refine q_block (id := 1) (by kernel_rfl) ?_
      refine q_keep (R := [(0, (ptr g)), (1, (i64 n)), (3, (Value.slice B ys.length d)), (8, (i64 0)), (9, (i64 0)), (10, (i64 0)), (13, (i64 (n + ((ys.length : Nat) : Int))))]) (by kernel_rfl) ?_
      refine q_loop (fun (gs : Int × Nat × (Option Addr) × Nat) L (wx : World) => match gs with | (a, i, B1, d1) => L = [(0, (ptr g)), (1, (i64 a)), (3, (Value.slice B1 ((ys.drop i).length) d1)), (8, (i64 0)), (9, (i64 0)), (10, (i64 0)), (13, (i64 (n + ((ys.length : Nat) : Int))))] ∧ a = n + (i : Int) ∧ runK base old (l.map EntP.key) n (ys.map EntP.key) = i + runK base old (l.map EntP.key) a ((ys.map EntP.key).drop i) ∧ a ≤ base + (l.length : Int) ∧ i ≤ ys.length ∧ Ents wx U (.slice B1 (ys.drop i).length d1) (ys.drop i) ∧ Ents wx T (.slice A l.length c) l ∧ Keeps (fun i => i = g) w wx ∧ Has wx g (rowL [(i64 base), (i64 old), (Value.slice A l.length c)] 78)) (fun (gs : Int × Nat × (Option Addr) × Nat) => match gs with | (a, i, B1, d1) => ys.length - i) (n, 0, B, d) (by kernel_rfl) ⟨rfl, (by simp), (by simp), (by omega), Nat.zero_le _, hY, hE, K0, H0⟩ ?_
      clear H0 hE hY K0
      rintro ⟨a, i, B1, d1⟩ _ w174 ⟨rfl, ha, hrun, hpos, hi, hY1, hE, K175, H176⟩
      have hc1 := Ents.len hY1
      have hdl : (ys.drop i).length = ys.length - i := List.length_drop
      refine qs ?_
      refine qs ?_
      refine qg ?_
      refine og 3 [(0, (ptr g)), (1, (i64 a)), (3, (Value.slice B1 ((ys.drop i).length) d1)), (8, (i64 0)), (9, (i64 0)), (10, (i64 0)), (13, (i64 (n + ((ys.length : Nat) : Int)))), (63, (Value.bool (decide ((((ys.drop i).length : Nat) : Int) > 0))))] 3 ?_
      refine od ?_
      refine q_cond (o := .tmp 63) (b := (decide ((((ys.drop i).length : Nat) : Int) > 0))) (by kernel_rfl) rfl (fun h177 => ?_) (fun h177 => ?_)
      ·rw [h177]
       have p178 : (((ys.drop i).length : Nat) : Int) > 0 := of_decide_eq_true h177
       obtain ⟨y, hy⟩ : ∃ z, (ys.drop i)[0]? = some z := ⟨_, List.getElem?_eq_getElem (by omega)⟩
       have hyk : ((ys.map EntP.key).drop i)[0]? = some (y.term, y.cmd) := by rw [← List.map_drop]; exact ekey_at hy
       refine q_skip (by kernel_rfl) ?_
       refine q_block (id := 2) (by kernel_rfl) ?_
       refine qs ?_
       refine qg ?_
       refine og 3 [(0, (ptr g)), (1, (i64 a)), (3, (Value.slice B1 ((ys.drop i).length) d1)), (8, (i64 0)), (9, (i64 0)), (10, (i64 0)), (13, (i64 (n + ((ys.length : Nat) : Int)))), (64, (ptr g)), (66, (i64 (IntKind.i64.wrap (a + 1))))] 3 ?_
       have e179 : IntKind.i64.wrap (a + 1) = a + 1 := wrap_i64 (by omega) (by omega)
       rw [e179]
       rcases at_or base l.length (a + 1) with q180 | q181 | q182 | ⟨k185, q183, q184⟩
       ·exfalso; omega
       ·skip
        refine Ops.call (by kernel_rfl) (d := (some 67)) (by kernel_rfl) (at_high _ T g base old A c l (a + 1) H176 hE hT (by omega) (by omega) (by omega) q181) ?_
        rintro _ w189 ⟨rfl, K188⟩
        refine ⟨_, _, rfl, rfl, ?_⟩
        replace K175 := K175.tn K188
        replace H176 := H176.keep K188 (fun h => h)
        replace hE := Ents.keep0 hE K188
        replace hY1 := Ents.keep0 hY1 K188
        clear K188
        refine og 1 [(0, (ptr g)), (1, (i64 a)), (3, (Value.slice B1 ((ys.drop i).length) d1)), (8, (i64 0)), (9, (i64 0)), (10, (i64 0)), (13, (i64 (n + ((ys.length : Nat) : Int)))), (14, Value.nilIface)] 5 ?_
        refine od ?_
        refine qs ?_
        refine qs ?_
        refine q_draw (fun wz => Keeps none_ w189 wz) 11 (by kernel_rfl) (by kernel_rfl) (by kernel_rfl) (fun w190 K191 _ _ => ⟨K191, ?_⟩)
        replace K175 := K175.tn K191
        replace H176 := H176.keep K191 (fun h => h)
        replace hE := Ents.keep0 hE K191
        replace hY1 := Ents.keep0 hY1 K191
        refine Dr.strong (S' := (fun wz => Keeps none_ w190 wz)) (Keeps.refl w190) (fun wz hx => K191.trans hx (fun i _ h => h) (fun _ _ h => h)) ?_
        clear K191
        refine Dr.takes (fuel' := 0) (is' := _) [0, 1, 2, 3, 4, 5, 6, 7, 8, 9, 10] [(0, (ptr g)), (1, (i64 a)), (3, (Value.slice B1 ((ys.drop i).length) d1)), (8, (i64 0)), (9, (i64 0)), (10, (i64 0)), (13, (i64 (n + ((ys.length : Nat) : Int)))), (78, (Value.bool true))] (by kernel_rfl) rfl (by kernel_rfl) ?_
        refine Dr.done (by kernel_rfl) ?_
        refine q_then (o := .tmp 78) (by kernel_rfl) rfl ?_
        refine q_exit (id := 1) (by kernel_rfl) ?_
        refine qs ?_
        refine qs ?_
        refine qg ?_
        refine og 3 [(0, (ptr g)), (1, (i64 a)), (3, (Value.slice B1 ((ys.drop i).length) d1)), (8, (i64 0)), (9, (i64 0)), (10, (i64 0)), (13, (i64 (n + ((ys.length : Nat) : Int)))), (85, (Value.bool ((((ys.drop i).length : Nat) : Int) == 0)))] 3 ?_
        refine od ?_
        obtain ⟨j, hj⟩ : ∃ m : Nat, a - base = (m : Int) := Int.eq_ofNat_of_zero_le (by omega)
        have h192 : ((((ys.drop i).length : Nat) : Int) == 0) = false := beq_f (by omega)
        rw [h192]
        refine q_else (o := .tmp 85) (by kernel_rfl) rfl ?_
        refine q_skip (by kernel_rfl) ?_
        refine qs ?_
        refine q_draw (fun wz => Keeps none_ w190 wz) 28 (by kernel_rfl) (by kernel_rfl) (by kernel_rfl) (fun w193 K194 _ _ => ⟨K194, ?_⟩)
        replace K175 := K175.tn K194
        replace H176 := H176.keep K194 (fun h => h)
        replace hE := Ents.keep0 hE K194
        replace hY1 := Ents.keep0 hY1 K194
        refine Dr.strong (S' := (fun wz => Keeps none_ w193 wz)) (Keeps.refl w193) (fun wz hx => K194.trans hx (fun i _ h => h) (fun _ _ h => h)) ?_
        clear K194
        refine Dr.takes (fuel' := 25) (is' := _) [0, 1, 2] [(0, (ptr g)), (1, (i64 a)), (3, (Value.slice B1 ((ys.drop i).length) d1)), (8, (i64 0)), (9, (i64 0)), (10, (i64 0)), (13, (i64 (n + ((ys.length : Nat) : Int)))), (89, (ptr g))] (by kernel_rfl) rfl (by kernel_rfl) ?_
        refine Dr.take (i := 3) (v := (i64 base)) (by kernel_rfl) (by kernel_rfl) (fun wz hS => Runs.load (t := 2) (a := ⟨g, 0, none⟩) (by kernel_rfl) ((H176.keep hS (fun h => h)).loads (by kernel_rfl))) (d := (some 90)) (by kernel_rfl) rfl ?_
        refine Dr.takes (fuel' := 21) (is' := _) [4, 5, 6] [(0, (ptr g)), (1, (i64 a)), (3, (Value.slice B1 ((ys.drop i).length) d1)), (8, (i64 0)), (9, (i64 0)), (10, (i64 0)), (13, (i64 (n + ((ys.length : Nat) : Int)))), (90, (i64 base)), (93, (Value.pointer (some ⟨g, 1, none⟩)))] (by kernel_rfl) rfl (by kernel_rfl) ?_
        refine Dr.take (i := 7) (v := (i64 old)) (by kernel_rfl) (by kernel_rfl) (fun wz hS => Runs.load (t := 2) (a := ⟨g, 1, none⟩) (by kernel_rfl) ((H176.keep hS (fun h => h)).loads (by kernel_rfl))) (d := (some 94)) (by kernel_rfl) rfl ?_
        refine Dr.takes (fuel' := 17) (is' := _) [8, 9, 10] [(0, (ptr g)), (1, (i64 a)), (3, (Value.slice B1 ((ys.drop i).length) d1)), (8, (i64 0)), (9, (i64 0)), (10, (i64 0)), (13, (i64 (n + ((ys.length : Nat) : Int)))), (90, (i64 base)), (94, (i64 old)), (97, (Value.pointer (some ⟨g, 2, none⟩)))] (by kernel_rfl) rfl (by kernel_rfl) ?_
        refine Dr.take (i := 11) (v := (Value.slice A l.length c)) (by kernel_rfl) (by kernel_rfl) (fun wz hS => Runs.load (t := 22) (a := ⟨g, 2, none⟩) (by kernel_rfl) ((H176.keep hS (fun h => h)).loads (by kernel_rfl))) (d := (some 98)) (by kernel_rfl) rfl ?_
        refine Dr.takes (fuel' := 12) (is' := _) [12, 13, 14, 15] [(0, (ptr g)), (1, (i64 a)), (3, (Value.slice B1 ((ys.drop i).length) d1)), (8, (i64 0)), (9, (i64 0)), (10, (i64 0)), (13, (i64 (n + ((ys.length : Nat) : Int)))), (90, (i64 base)), (94, (i64 old)), (98, (Value.slice A l.length c)), (99, (i64 a)), (102, (ptr g))] (by kernel_rfl) rfl (by kernel_rfl) ?_
        refine Dr.take (i := 16) (v := (i64 base)) (by kernel_rfl) (by kernel_rfl) (fun wz hS => Runs.load (t := 2) (a := ⟨g, 0, none⟩) (by kernel_rfl) ((H176.keep hS (fun h => h)).loads (by kernel_rfl))) (d := (some 103)) (by kernel_rfl) rfl ?_
        refine Dr.takes (fuel' := 10) (is' := _) [17] [(0, (ptr g)), (1, (i64 a)), (3, (Value.slice B1 ((ys.drop i).length) d1)), (8, (i64 0)), (9, (i64 0)), (10, (i64 0)), (13, (i64 (n + ((ys.length : Nat) : Int)))), (90, (i64 base)), (94, (i64 old)), (98, (Value.slice A l.length c)), (104, (i64 (IntKind.i64.wrap (a - base))))] (by kernel_rfl) rfl (by kernel_rfl) ?_
        have e195 : IntKind.i64.wrap (a - base) = ((j : Nat) : Int) := by rw [wrap_i64 (by omega) (by omega)]; omega
        rw [e195]
        refine Dr.takes (fuel' := 6) (is' := _) [18, 19, 20, 21] [(0, (ptr g)), (1, (i64 a)), (3, (Value.slice B1 ((ys.drop i).length) d1)), (8, (i64 0)), (9, (i64 0)), (10, (i64 0)), (13, (i64 (n + ((ys.length : Nat) : Int)))), (90, (i64 base)), (94, (i64 old)), (98, (Value.slice A l.length c)), (104, (i64 ((j : Nat) : Int))), (105, (i64 a)), (108, (ptr g))] (by kernel_rfl) rfl (by kernel_rfl) ?_
        refine Dr.take (i := 22) (v := (i64 base)) (by kernel_rfl) (by kernel_rfl) (fun wz hS => Runs.load (t := 2) (a := ⟨g, 0, none⟩) (by kernel_rfl) ((H176.keep hS (fun h => h)).loads (by kernel_rfl))) (d := (some 109)) (by kernel_rfl) rfl ?_
        refine Dr.takes (fuel' := 4) (is' := _) [23] [(0, (ptr g)), (1, (i64 a)), (3, (Value.slice B1 ((ys.drop i).length) d1)), (8, (i64 0)), (9, (i64 0)), (10, (i64 0)), (13, (i64 (n + ((ys.length : Nat) : Int)))), (90, (i64 base)), (94, (i64 old)), (98, (Value.slice A l.length c)), (104, (i64 ((j : Nat) : Int))), (110, (i64 (IntKind.i64.wrap (a - base))))] (by kernel_rfl) rfl (by kernel_rfl) ?_
        have e196 : IntKind.i64.wrap (a - base) = ((j : Nat) : Int) := by rw [wrap_i64 (by omega) (by omega)]; omega
        rw [e196]
        obtain ⟨hr199, hE200⟩ := Ents.headRun (P := Try.prog) (t := 22) (e := 43) (by kernel_rfl) (by kernel_rfl) hE j j (kh := .i64) (mx := (some (i64 ((j : Nat) : Int)))) (.inr ⟨_, rfl⟩) (by omega) (by omega) (by omega)
        obtain ⟨l197, hl198⟩ : ∃ z, z = l.take j := ⟨_, rfl⟩
        rw [← hl198] at hr199 hE200
        have hn201 : l197.length = j := by rw [hl198]; simp only [List.length_take]; omega
        have hc202 := Ents.len hE200
        refine Dr.take (i := 24) (v := (Value.slice A l197.length j)) (by kernel_rfl) (by kernel_rfl) (fun wz hS => Runs.slice (by kernel_rfl) (hr199 _)) (d := (some 111)) (by kernel_rfl) rfl ?_
        refine Dr.takes (fuel' := 2) (is' := _) [25] [(0, (ptr g)), (1, (i64 a)), (3, (Value.slice B1 ((ys.drop i).length) d1)), (8, (i64 0)), (9, (i64 0)), (10, (i64 0)), (13, (i64 (n + ((ys.length : Nat) : Int)))), (112, (agg [(i64 base), (i64 old), (Value.slice A l197.length j)]))] (by kernel_rfl) rfl (by kernel_rfl) ?_
        refine Dr.new (i := 26) (o := rowL [(i64 base), (i64 old), (Value.slice A l197.length j)] 78) (V := fun b => (ptr b)) (by kernel_rfl) (by kernel_rfl) (d := (some 113)) (by kernel_rfl) (fun b => rfl) (fun b203 w204 hb205 H206 K207 hs208 => ?_)
        have lb203g : g < b203 := by have := H176.lt; omega
        have nb203 : w.heap.size ≤ b203 := by have := K175.size; omega
        have ot209 : ∀ i, T i → i ≠ b203 := fun i hi => by have := Ents.lt hE i hi; omega
        have ot210 : ∀ i, U i → i ≠ b203 := fun i hi => by have := Ents.lt hY1 i hi; omega
        have ot211 : ∀ i, T i → i ≠ b203 := fun i hi => by have := Ents.lt hE200 i hi; omega
        replace K175 := K175.tn K207
        replace H176 := H176.keep K207 (fun h => h)
        replace hE := Ents.keep0 hE K207
        replace hY1 := Ents.keep0 hY1 K207
        replace hE200 := Ents.keep0 hE200 K207
        refine ⟨K207, ?_⟩
        refine Dr.strong (S' := (fun wz => Keeps none_ w204 wz)) (Keeps.refl w204) (fun wz hx => K207.trans hx (fun i _ h => h) (fun _ _ h => h)) ?_
        clear K207 hs208
        refine Dr.takes (fuel' := 0) (is' := _) [27] [(0, (ptr g)), (1, (i64 a)), (3, (Value.slice B1 ((ys.drop i).length) d1)), (8, (i64 0)), (9, (i64 0)), (10, (i64 0)), (13, (i64 (n + ((ys.length : Nat) : Int)))), (15, (ptr b203))] (by kernel_rfl) rfl (by kernel_rfl) ?_
        refine Dr.done (by kernel_rfl) ?_
        refine qs ?_
        refine qs ?_
        refine qg ?_
        refine og 2 [(0, (ptr g)), (1, (i64 a)), (8, (i64 0)), (9, (i64 0)), (10, (i64 0)), (13, (i64 (n + ((ys.length : Nat) : Int)))), (15, (ptr b203)), (114, (ptr b203)), (115, (Value.slice B1 ((ys.drop i).length) d1))] 2 ?_
        by_cases hq212 : appE base old (l197.map EntP.key) ((ys.drop i).map EntP.key) = 0
        ·skip
         refine Ops.call (by kernel_rfl) (d := (some 116)) (by kernel_rfl) (Append_ok _ T b203 base old A l197 U B1 d1 (ys.drop i) (by have q := H206; rw [← hn201] at q; exact q) (by have q := hE200; rw [← hn201] at q; exact q) ot211 (by omega) (by omega) hY1 ot210 (BigK.take hl198 hBig) (BigK.cut (k := i) (j := ys.length) (by rw [List.take_of_length_le (by simp)]) hBigY) (by omega) hq212) ?_
         rintro _ w217 ⟨l213, A214, c215, T216, rfl, K218, H219, hE220, hK221, hT222⟩
         have ot223 : ∀ i, T216 i → i ≠ g := fun i hi => by rcases (hT222 i hi).2 with h | h; (exact hT i h); (have := H176.lt; omega)
         have ot224 : ∀ i, T216 i → i ≠ b203 := fun i hi => (hT222 i hi).1
         have hn225 := keys_len2 hK221
         try rw [List.length_drop] at hn225
         try rw [List.length_append] at hn225
         try rw [List.length_map] at hn225
         try rw [List.length_map] at hn225
         have hz226 := K175.size
         refine ⟨_, _, rfl, rfl, ?_⟩
         replace K175 := K175.trans K218 (U := (fun i => i = g)) (fun i h1 h2 => h2) (fun i h1 h2 => by have h2 : i = b203 := h2; show i = g; omega)
         replace H176 := H176.k1 K218 (by omega)
         replace hE := Ents.keep hE K218 ot209
         replace hY1 := Ents.keep hY1 K218 ot210
         replace hE200 := Ents.keep hE200 K218 ot211
         clear K218
         refine og 1 [(0, (ptr g)), (1, (i64 a)), (8, (i64 0)), (9, (i64 0)), (10, (i64 0)), (13, (i64 (n + ((ys.length : Nat) : Int)))), (15, (ptr b203)), (16, (i64 0))] 4 ?_
         refine od ?_
         refine qs ?_
         refine qg ?_
         refine og 2 [(0, (ptr g)), (1, (i64 a)), (8, (i64 0)), (9, (i64 0)), (10, (i64 0)), (13, (i64 (n + ((ys.length : Nat) : Int)))), (15, (ptr b203)), (16, (i64 0)), (118, (Value.bool false))] 2 ?_
         refine od ?_
         refine q_else (o := .tmp 118) (by kernel_rfl) rfl ?_
         refine q_skip (by kernel_rfl) ?_
         refine qs ?_
         refine qg ?_
         refine og 4 [(1, (i64 a)), (8, (i64 0)), (9, (i64 0)), (10, (i64 0)), (13, (i64 (n + ((ys.length : Nat) : Int)))), (120, (ptr g)), (123, (Value.pointer (some ⟨b203, 2, none⟩)))] 4 ?_
         refine Ops.go (v := (Value.slice A214 l213.length c215)) (by kernel_rfl) (Runs.load (t := 22) (a := ⟨b203, 2, none⟩) (by kernel_rfl) (H219.loads (by kernel_rfl))) (d := (some 124)) (by kernel_rfl) rfl ?_
         refine og 2 [(1, (i64 a)), (8, (i64 0)), (9, (i64 0)), (10, (i64 0)), (13, (i64 (n + ((ys.length : Nat) : Int)))), (124, (Value.slice A214 l213.length c215)), (126, (Value.pointer (some ⟨g, 2, none⟩)))] 7 ?_
         refine Ops.put (t := 22) (b := g) (off := 2) (v := (Value.slice A214 l213.length c215)) (ys := [(i64 base), (i64 old), (Value.slice A214 l213.length c215)]) (by kernel_rfl) (by kernel_rfl) H176 (by kernel_rfl) (d := none) (by kernel_rfl) rfl (fun w227 H228 K229 => ?_)
         clear H176
         replace K175 := K175.t1 K229 (fun _ => rfl)
         replace H219 := H219.k1 K229 (by omega)
         replace hE := Ents.keep hE K229 hT
         replace hY1 := Ents.keep hY1 K229 hU
         replace hE200 := Ents.keep hE200 K229 hT
         replace hE220 := Ents.keep hE220 K229 ot223
         clear K229
         refine od ?_
         refine qs ?_
         refine qg ?_
         refine og 3 [(8, (i64 0)), (9, (i64 0)), (10, (i64 0)), (127, (i64 (n + ((ys.length : Nat) : Int)))), (129, (i64 (IntKind.i64.wrap (a + 1))))] 3 ?_
         have e230 : IntKind.i64.wrap (a + 1) = a + 1 := wrap_i64 (by omega) (by omega)
         rw [e230]
         refine og 3 [(8, (i64 (n + ((ys.length : Nat) : Int)))), (9, (i64 (a + 1))), (10, (i64 0))] 6 ?_
         refine od ?_
         refine q_ret (by kernel_rfl) ?_
         refine ⟨(Value.tuple #[(i64 (n + ((ys.length : Nat) : Int))), (i64 (a + 1)), (i64 0)]), retv_tmp3 rfl rfl rfl rfl, ?_⟩
         have em : matchK base old (l.map EntP.key) n t0 (ys.map EntP.key) = matchT base old (l.map EntP.key) n (ys.map EntP.key) := by unfold matchK; rw [if_neg (by omega), if_neg (by omega), if_pos (by rw [q156, termK_base]; exact Prod.ext (by simp only; omega) rfl)]
         have hyz : (ys.map EntP.key).length = ys.length := List.length_map ..
         have hr0 : runK base old (l.map EntP.key) a ((ys.map EntP.key).drop i) = 0 := (runK_high (by omega) _)
         rw [hr0, Nat.add_zero] at hrun
         have hkp : (l197.map EntP.key) = (l.map EntP.key).take j := by rw [hl198, List.map_take]
         have hkd : (ys.drop i).map EntP.key = (ys.map EntP.key).drop i := List.map_drop ..
         rw [hkp, hkd] at hq212
         have e := em.trans (matchT_ok hrun (by omega) (by omega) hq212)
         exact ⟨l213, A214, c215, T216, by rw [e, hyz] <;> first | rfl | (rw [ha]; done) | (rw [ha]; rfl), K175, H228, hE220, by rw [e, hK221, hkp, hkd], fun i hi => ⟨ot223 i hi, ((hT222 i hi).2).imp id (fun h => by omega)⟩⟩
        ·skip
         refine Ops.call (by kernel_rfl) (d := (some 116)) (by kernel_rfl) (Append_bad _ T b203 base old A l197 U B1 d1 (ys.drop i) (by have q := H206; rw [← hn201] at q; exact q) (by have q := hE200; rw [← hn201] at q; exact q) ot211 (by omega) (by omega) hY1 ot210 (BigK.take hl198 hBig) (BigK.cut (k := i) (j := ys.length) (by rw [List.take_of_length_le (by simp)]) hBigY) (by omega) hq212) ?_
         rintro _ w232 ⟨rfl, K231⟩
         refine ⟨_, _, rfl, rfl, ?_⟩
         replace K175 := K175.tn K231
         replace H176 := H176.keep K231 (fun h => h)
         replace H206 := H206.keep K231 (fun h => h)
         replace hE := Ents.keep0 hE K231
         replace hY1 := Ents.keep0 hY1 K231
         replace hE200 := Ents.keep0 hE200 K231
         clear K231
         refine og 1 [(0, (ptr g)), (1, (i64 a)), (8, (i64 0)), (9, (i64 0)), (10, (i64 0)), (13, (i64 (n + ((ys.length : Nat) : Int)))), (15, (ptr b203)), (16, (i64 (appE base old (l197.map EntP.key) ((ys.drop i).map EntP.key))))] 4 ?_
         refine od ?_
         refine qs ?_
         refine qg ?_
         refine og 2 [(0, (ptr g)), (1, (i64 a)), (8, (i64 0)), (9, (i64 0)), (10, (i64 0)), (13, (i64 (n + ((ys.length : Nat) : Int)))), (15, (ptr b203)), (16, (i64 (appE base old (l197.map EntP.key) ((ys.drop i).map EntP.key)))), (118, (Value.bool ((appE base old (l197.map EntP.key) ((ys.drop i).map EntP.key)) != 0)))] 2 ?_
         refine od ?_
         have h234 : ((appE base old (l197.map EntP.key) ((ys.drop i).map EntP.key)) != 0) = true := bne_t hq212
         rw [h234]
         refine q_then (o := .tmp 118) (by kernel_rfl) rfl ?_
         refine qs ?_
         refine qg ?_
         refine og 4 [(0, (ptr g)), (1, (i64 a)), (8, (i64 0)), (9, (i64 0)), (10, (i64 (appE base old (l197.map EntP.key) ((ys.drop i).map EntP.key)))), (13, (i64 (n + ((ys.length : Nat) : Int)))), (15, (ptr b203))] 4 ?_
         refine od ?_
         refine q_ret (by kernel_rfl) ?_
         refine ⟨(Value.tuple #[(i64 0), (i64 0), (i64 (appE base old (l197.map EntP.key) ((ys.drop i).map EntP.key)))]), retv_tmp3 rfl rfl rfl rfl, ?_⟩
         have em : matchK base old (l.map EntP.key) n t0 (ys.map EntP.key) = matchT base old (l.map EntP.key) n (ys.map EntP.key) := by unfold matchK; rw [if_neg (by omega), if_neg (by omega), if_pos (by rw [q156, termK_base]; exact Prod.ext (by simp only; omega) rfl)]
         have hyz : (ys.map EntP.key).length = ys.length := List.length_map ..
         have hr0 : runK base old (l.map EntP.key) a ((ys.map EntP.key).drop i) = 0 := (runK_high (by omega) _)
         rw [hr0, Nat.add_zero] at hrun
         have hkp : (l197.map EntP.key) = (l.map EntP.key).take j := by rw [hl198, List.map_take]
         have hkd : (ys.drop i).map EntP.key = (ys.map EntP.key).drop i := List.map_drop ..
         rw [hkp, hkd] at hq212
         have e := em.trans (matchT_bad hrun (by omega) (by omega) hq212)
         exact ⟨l, A, c, T, by rw [e, hkp, hkd], K175, H176, hE, by rw [e], fun i hi => ⟨hT0 i hi, .inl hi⟩⟩
       ·exfalso; omega
       ·skip
        obtain ⟨x186, hx187⟩ : ∃ y, l[k185]? = some y := ⟨_, List.getElem?_eq_getElem q184⟩
        refine Ops.call (by kernel_rfl) (d := (some 67)) (by kernel_rfl) (at_here _ T g base old A c l (a + 1) k185 x186 H176 hE hT (by omega) (by omega) q183 q184 hx187) ?_
        rintro _ w236 ⟨rfl, K235⟩
        refine ⟨_, _, rfl, rfl, ?_⟩
        replace K175 := K175.tn K235
        replace H176 := H176.keep K235 (fun h => h)
        replace hE := Ents.keep0 hE K235
        replace hY1 := Ents.keep0 hY1 K235
        clear K235
        refine og 1 [(0, (ptr g)), (1, (i64 a)), (3, (Value.slice B1 ((ys.drop i).length) d1)), (8, (i64 0)), (9, (i64 0)), (10, (i64 0)), (13, (i64 (n + ((ys.length : Nat) : Int)))), (14, (Value.iface 88 (agg [(i64 x186.term), (Value.slice x186.A x186.cmd.length x186.c)])))] 5 ?_
        refine od ?_
        refine qs ?_
        refine qs ?_
        refine q_draw (fun wz => Keeps none_ w236 wz) 11 (by kernel_rfl) (by kernel_rfl) (by kernel_rfl) (fun w237 K238 _ _ => ⟨K238, ?_⟩)
        replace K175 := K175.tn K238
        replace H176 := H176.keep K238 (fun h => h)
        replace hE := Ents.keep0 hE K238
        replace hY1 := Ents.keep0 hY1 K238
        refine Dr.strong (S' := (fun wz => Keeps none_ w237 wz)) (Keeps.refl w237) (fun wz hx => K238.trans hx (fun i _ h => h) (fun _ _ h => h)) ?_
        clear K238
        obtain ⟨z0, hz0⟩ : ∃ z : Nat, z = 0 := ⟨_, rfl⟩
        have hyz : (ys.drop i)[z0]? = some y := by rw [hz0]; exact hy
        obtain ⟨rb239, ro240, hA241⟩ := Rd.addr (Ents.rd hY1) (by omega)
        refine Dr.takes (fuel' := 6) (is' := _) [0, 1, 2, 3, 5] [(0, (ptr g)), (1, (i64 a)), (3, (Value.slice B1 ((ys.drop i).length) d1)), (8, (i64 0)), (9, (i64 0)), (10, (i64 0)), (13, (i64 (n + ((ys.length : Nat) : Int)))), (70, (Value.bool false)), (71, (Value.iface 88 (agg [(i64 x186.term), (Value.slice x186.A x186.cmd.length x186.c)]))), (73, (Value.slice B1 ((ys.drop i).length) d1))] (by kernel_rfl) rfl (by kernel_rfl) ?_
        refine Dr.take (i := 6) (v := (Value.pointer (some ⟨rb239, ro240 + z0 * 2, none⟩))) (by kernel_rfl) (by kernel_rfl) (fun wz hS => Runs.ixSliceE (k := IntKind.i64) (t := 22) (len := ((ys.drop i).length)) (cap := d1) (s := 2) (off' := ro240 + z0 * 2) (i := 0) hA241 (by kernel_rfl) (by kernel_rfl) (by omega) (by omega) (by omega)) (d := (some 74)) (by kernel_rfl) rfl ?_
        refine Dr.takes (fuel' := 4) (is' := _) [7] [(0, (ptr g)), (1, (i64 a)), (3, (Value.slice B1 ((ys.drop i).length) d1)), (8, (i64 0)), (9, (i64 0)), (10, (i64 0)), (13, (i64 (n + ((ys.length : Nat) : Int)))), (70, (Value.bool false)), (71, (Value.iface 88 (agg [(i64 x186.term), (Value.slice x186.A x186.cmd.length x186.c)]))), (75, (Value.pointer (some ⟨rb239, ro240 + z0 * 2, none⟩)))] (by kernel_rfl) rfl (by kernel_rfl) ?_
        refine Dr.take (i := 8) (v := (i64 y.term)) (by kernel_rfl) (by kernel_rfl) (fun wz hS => Runs.load (t := 2) (a := ⟨rb239, ro240 + z0 * 2, none⟩) (by kernel_rfl) (RdT.ldf (f := EntP.cells) (x := y) (o := 0) EntP.two (Ents.rd (Ents.keep0 hY1 hS)) (by kernel_rfl) hA241 hyz rfl)) (d := (some 76)) (by kernel_rfl) rfl ?_
        refine Dr.call (i := 4) (by kernel_rfl) (by kernel_rfl) (d := (some 72)) (by kernel_rfl) (fun _ => here_calls _ x186) ?_
        rintro _ w243 ⟨rfl, K242⟩
        replace K175 := K175.tn K242
        replace H176 := H176.keep K242 (fun h => h)
        replace hE := Ents.keep0 hE K242
        replace hY1 := Ents.keep0 hY1 K242
        refine ⟨_, _, rfl, rfl, K242, ?_⟩
        refine Dr.strong (S' := (fun wz => Keeps none_ w243 wz)) (Keeps.refl w243) (fun wz hx => K242.trans hx (fun i _ h => h) (fun _ _ h => h)) ?_
        clear K242
        refine Dr.takes (fuel' := 0) (is' := _) [9, 10] [(0, (ptr g)), (1, (i64 a)), (3, (Value.slice B1 ((ys.drop i).length) d1)), (8, (i64 0)), (9, (i64 0)), (10, (i64 0)), (13, (i64 (n + ((ys.length : Nat) : Int)))), (78, (Value.bool (x186.term != y.term)))] (by kernel_rfl) rfl (by kernel_rfl) ?_
        refine Dr.done (by kernel_rfl) ?_
        refine q_cond (o := .tmp 78) (b := (x186.term != y.term)) (by kernel_rfl) rfl (fun h244 => ?_) (fun h244 => ?_)
        ·rw [h244]
         have p245 : ¬ (x186.term = y.term) := of_bne_t h244
         refine q_exit (id := 1) (by kernel_rfl) ?_
         refine qs ?_
         refine qs ?_
         refine qg ?_
         refine og 3 [(0, (ptr g)), (1, (i64 a)), (3, (Value.slice B1 ((ys.drop i).length) d1)), (8, (i64 0)), (9, (i64 0)), (10, (i64 0)), (13, (i64 (n + ((ys.length : Nat) : Int)))), (85, (Value.bool ((((ys.drop i).length : Nat) : Int) == 0)))] 3 ?_
         refine od ?_
         obtain ⟨j, hj⟩ : ∃ m : Nat, a - base = (m : Int) := Int.eq_ofNat_of_zero_le (by omega)
         have h246 : ((((ys.drop i).length : Nat) : Int) == 0) = false := beq_f (by omega)
         rw [h246]
         refine q_else (o := .tmp 85) (by kernel_rfl) rfl ?_
         refine q_skip (by kernel_rfl) ?_
         refine qs ?_
         refine q_draw (fun wz => Keeps none_ w243 wz) 28 (by kernel_rfl) (by kernel_rfl) (by kernel_rfl) (fun w247 K248 _ _ => ⟨K248, ?_⟩)
         replace K175 := K175.tn K248
         replace H176 := H176.keep K248 (fun h => h)
         replace hE := Ents.keep0 hE K248
         replace hY1 := Ents.keep0 hY1 K248
         refine Dr.strong (S' := (fun wz => Keeps none_ w247 wz)) (Keeps.refl w247) (fun wz hx => K248.trans hx (fun i _ h => h) (fun _ _ h => h)) ?_
         clear K248
         refine Dr.takes (fuel' := 25) (is' := _) [0, 1, 2] [(0, (ptr g)), (1, (i64 a)), (3, (Value.slice B1 ((ys.drop i).length) d1)), (8, (i64 0)), (9, (i64 0)), (10, (i64 0)), (13, (i64 (n + ((ys.length : Nat) : Int)))), (89, (ptr g))] (by kernel_rfl) rfl (by kernel_rfl) ?_
         refine Dr.take (i := 3) (v := (i64 base)) (by kernel_rfl) (by kernel_rfl) (fun wz hS => Runs.load (t := 2) (a := ⟨g, 0, none⟩) (by kernel_rfl) ((H176.keep hS (fun h => h)).loads (by kernel_rfl))) (d := (some 90)) (by kernel_rfl) rfl ?_
         refine Dr.takes (fuel' := 21) (is' := _) [4, 5, 6] [(0, (ptr g)), (1, (i64 a)), (3, (Value.slice B1 ((ys.drop i).length) d1)), (8, (i64 0)), (9, (i64 0)), (10, (i64 0)), (13, (i64 (n + ((ys.length : Nat) : Int)))), (90, (i64 base)), (93, (Value.pointer (some ⟨g, 1, none⟩)))] (by kernel_rfl) rfl (by kernel_rfl) ?_
         refine Dr.take (i := 7) (v := (i64 old)) (by kernel_rfl) (by kernel_rfl) (fun wz hS => Runs.load (t := 2) (a := ⟨g, 1, none⟩) (by kernel_rfl) ((H176.keep hS (fun h => h)).loads (by kernel_rfl))) (d := (some 94)) (by kernel_rfl) rfl ?_
         refine Dr.takes (fuel' := 17) (is' := _) [8, 9, 10] [(0, (ptr g)), (1, (i64 a)), (3, (Value.slice B1 ((ys.drop i).length) d1)), (8, (i64 0)), (9, (i64 0)), (10, (i64 0)), (13, (i64 (n + ((ys.length : Nat) : Int)))), (90, (i64 base)), (94, (i64 old)), (97, (Value.pointer (some ⟨g, 2, none⟩)))] (by kernel_rfl) rfl (by kernel_rfl) ?_
         refine Dr.take (i := 11) (v := (Value.slice A l.length c)) (by kernel_rfl) (by kernel_rfl) (fun wz hS => Runs.load (t := 22) (a := ⟨g, 2, none⟩) (by kernel_rfl) ((H176.keep hS (fun h => h)).loads (by kernel_rfl))) (d := (some 98)) (by kernel_rfl) rfl ?_
         refine Dr.takes (fuel' := 12) (is' := _) [12, 13, 14, 15] [(0, (ptr g)), (1, (i64 a)), (3, (Value.slice B1 ((ys.drop i).length) d1)), (8, (i64 0)), (9, (i64 0)), (10, (i64 0)), (13, (i64 (n + ((ys.length : Nat) : Int)))), (90, (i64 base)), (94, (i64 old)), (98, (Value.slice A l.length c)), (99, (i64 a)), (102, (ptr g))] (by kernel_rfl) rfl (by kernel_rfl) ?_
         refine Dr.take (i := 16) (v := (i64 base)) (by kernel_rfl) (by kernel_rfl) (fun wz hS => Runs.load (t := 2) (a := ⟨g, 0, none⟩) (by kernel_rfl) ((H176.keep hS (fun h => h)).loads (by kernel_rfl))) (d := (some 103)) (by kernel_rfl) rfl ?_
         refine Dr.takes (fuel' := 10) (is' := _) [17] [(0, (ptr g)), (1, (i64 a)), (3, (Value.slice B1 ((ys.drop i).length) d1)), (8, (i64 0)), (9, (i64 0)), (10, (i64 0)), (13, (i64 (n + ((ys.length : Nat) : Int)))), (90, (i64 base)), (94, (i64 old)), (98, (Value.slice A l.length c)), (104, (i64 (IntKind.i64.wrap (a - base))))] (by kernel_rfl) rfl (by kernel_rfl) ?_
         have e249 : IntKind.i64.wrap (a - base) = ((j : Nat) : Int) := by rw [wrap_i64 (by omega) (by omega)]; omega
         rw [e249]
         refine Dr.takes (fuel' := 6) (is' := _) [18, 19, 20, 21] [(0, (ptr g)), (1, (i64 a)), (3, (Value.slice B1 ((ys.drop i).length) d1)), (8, (i64 0)), (9, (i64 0)), (10, (i64 0)), (13, (i64 (n + ((ys.length : Nat) : Int)))), (90, (i64 base)), (94, (i64 old)), (98, (Value.slice A l.length c)), (104, (i64 ((j : Nat) : Int))), (105, (i64 a)), (108, (ptr g))] (by kernel_rfl) rfl (by kernel_rfl) ?_
         refine Dr.take (i := 22) (v := (i64 base)) (by kernel_rfl) (by kernel_rfl) (fun wz hS => Runs.load (t := 2) (a := ⟨g, 0, none⟩) (by kernel_rfl) ((H176.keep hS (fun h => h)).loads (by kernel_rfl))) (d := (some 109)) (by kernel_rfl) rfl ?_
         refine Dr.takes (fuel' := 4) (is' := _) [23] [(0, (ptr g)), (1, (i64 a)), (3, (Value.slice B1 ((ys.drop i).length) d1)), (8, (i64 0)), (9, (i64 0)), (10, (i64 0)), (13, (i64 (n + ((ys.length : Nat) : Int)))), (90, (i64 base)), (94, (i64 old)), (98, (Value.slice A l.length c)), (104, (i64 ((j : Nat) : Int))), (110, (i64 (IntKind.i64.wrap (a - base))))] (by kernel_rfl) rfl (by kernel_rfl) ?_
         have e250 : IntKind.i64.wrap (a - base) = ((j : Nat) : Int) := by rw [wrap_i64 (by omega) (by omega)]; omega
         rw [e250]
         obtain ⟨hr253, hE254⟩ := Ents.headRun (P := Try.prog) (t := 22) (e := 43) (by kernel_rfl) (by kernel_rfl) hE j j (kh := .i64) (mx := (some (i64 ((j : Nat) : Int)))) (.inr ⟨_, rfl⟩) (by omega) (by omega) (by omega)
         obtain ⟨l251, hl252⟩ : ∃ z, z = l.take j := ⟨_, rfl⟩
         rw [← hl252] at hr253 hE254
         have hn255 : l251.length = j := by rw [hl252]; simp only [List.length_take]; omega
         have hc256 := Ents.len hE254
         refine Dr.take (i := 24) (v := (Value.slice A l251.length j)) (by kernel_rfl) (by kernel_rfl) (fun wz hS => Runs.slice (by kernel_rfl) (hr253 _)) (d := (some 111)) (by kernel_rfl) rfl ?_
         refine Dr.takes (fuel' := 2) (is' := _) [25] [(0, (ptr g)), (1, (i64 a)), (3, (Value.slice B1 ((ys.drop i).length) d1)), (8, (i64 0)), (9, (i64 0)), (10, (i64 0)), (13, (i64 (n + ((ys.length : Nat) : Int)))), (112, (agg [(i64 base), (i64 old), (Value.slice A l251.length j)]))] (by kernel_rfl) rfl (by kernel_rfl) ?_
         refine Dr.new (i := 26) (o := rowL [(i64 base), (i64 old), (Value.slice A l251.length j)] 78) (V := fun b => (ptr b)) (by kernel_rfl) (by kernel_rfl) (d := (some 113)) (by kernel_rfl) (fun b => rfl) (fun b257 w258 hb259 H260 K261 hs262 => ?_)
         have lb257g : g < b257 := by have := H176.lt; omega
         have nb257 : w.heap.size ≤ b257 := by have := K175.size; omega
         have ot263 : ∀ i, T i → i ≠ b257 := fun i hi => by have := Ents.lt hE i hi; omega
         have ot264 : ∀ i, U i → i ≠ b257 := fun i hi => by have := Ents.lt hY1 i hi; omega
         have ot265 : ∀ i, T i → i ≠ b257 := fun i hi => by have := Ents.lt hE254 i hi; omega
         replace K175 := K175.tn K261
         replace H176 := H176.keep K261 (fun h => h)
         replace hE := Ents.keep0 hE K261
         replace hY1 := Ents.keep0 hY1 K261
         replace hE254 := Ents.keep0 hE254 K261
         refine ⟨K261, ?_⟩
         refine Dr.strong (S' := (fun wz => Keeps none_ w258 wz)) (Keeps.refl w258) (fun wz hx => K261.trans hx (fun i _ h => h) (fun _ _ h => h)) ?_
         clear K261 hs262
         refine Dr.takes (fuel' := 0) (is' := _) [27] [(0, (ptr g)), (1, (i64 a)), (3, (Value.slice B1 ((ys.drop i).length) d1)), (8, (i64 0)), (9, (i64 0)), (10, (i64 0)), (13, (i64 (n + ((ys.length : Nat) : Int)))), (15, (ptr b257))] (by kernel_rfl) rfl (by kernel_rfl) ?_
         refine Dr.done (by kernel_rfl) ?_
         refine qs ?_
         refine qs ?_
         refine qg ?_
         refine og 2 [(0, (ptr g)), (1, (i64 a)), (8, (i64 0)), (9, (i64 0)), (10, (i64 0)), (13, (i64 (n + ((ys.length : Nat) : Int)))), (15, (ptr b257)), (114, (ptr b257)), (115, (Value.slice B1 ((ys.drop i).length) d1))] 2 ?_
         by_cases hq266 : appE base old (l251.map EntP.key) ((ys.drop i).map EntP.key) = 0
         ·skip
          refine Ops.call (by kernel_rfl) (d := (some 116)) (by kernel_rfl) (Append_ok _ T b257 base old A l251 U B1 d1 (ys.drop i) (by have q := H260; rw [← hn255] at q; exact q) (by have q := hE254; rw [← hn255] at q; exact q) ot265 (by omega) (by omega) hY1 ot264 (BigK.take hl252 hBig) (BigK.cut (k := i) (j := ys.length) (by rw [List.take_of_length_le (by simp)]) hBigY) (by omega) hq266) ?_
          rintro _ w271 ⟨l267, A268, c269, T270, rfl, K272, H273, hE274, hK275, hT276⟩
          have ot277 : ∀ i, T270 i → i ≠ g := fun i hi => by rcases (hT276 i hi).2 with h | h; (exact hT i h); (have := H176.lt; omega)
          have ot278 : ∀ i, T270 i → i ≠ b257 := fun i hi => (hT276 i hi).1
          have hn279 := keys_len2 hK275
          try rw [List.length_drop] at hn279
          try rw [List.length_append] at hn279
          try rw [List.length_map] at hn279
          try rw [List.length_map] at hn279
          have hz280 := K175.size
          refine ⟨_, _, rfl, rfl, ?_⟩
          replace K175 := K175.trans K272 (U := (fun i => i = g)) (fun i h1 h2 => h2) (fun i h1 h2 => by have h2 : i = b257 := h2; show i = g; omega)
          replace H176 := H176.k1 K272 (by omega)
          replace hE := Ents.keep hE K272 ot263
          replace hY1 := Ents.keep hY1 K272 ot264
          replace hE254 := Ents.keep hE254 K272 ot265
          clear K272
          refine og 1 [(0, (ptr g)), (1, (i64 a)), (8, (i64 0)), (9, (i64 0)), (10, (i64 0)), (13, (i64 (n + ((ys.length : Nat) : Int)))), (15, (ptr b257)), (16, (i64 0))] 4 ?_
          refine od ?_
          refine qs ?_
          refine qg ?_
          refine og 2 [(0, (ptr g)), (1, (i64 a)), (8, (i64 0)), (9, (i64 0)), (10, (i64 0)), (13, (i64 (n + ((ys.length : Nat) : Int)))), (15, (ptr b257)), (16, (i64 0)), (118, (Value.bool false))] 2 ?_
          refine od ?_
          refine q_else (o := .tmp 118) (by kernel_rfl) rfl ?_
          refine q_skip (by kernel_rfl) ?_
          refine qs ?_
          refine qg ?_
          refine og 4 [(1, (i64 a)), (8, (i64 0)), (9, (i64 0)), (10, (i64 0)), (13, (i64 (n + ((ys.length : Nat) : Int)))), (120, (ptr g)), (123, (Value.pointer (some ⟨b257, 2, none⟩)))] 4 ?_
          refine Ops.go (v := (Value.slice A268 l267.length c269)) (by kernel_rfl) (Runs.load (t := 22) (a := ⟨b257, 2, none⟩) (by kernel_rfl) (H273.loads (by kernel_rfl))) (d := (some 124)) (by kernel_rfl) rfl ?_
          refine og 2 [(1, (i64 a)), (8, (i64 0)), (9, (i64 0)), (10, (i64 0)), (13, (i64 (n + ((ys.length : Nat) : Int)))), (124, (Value.slice A268 l267.length c269)), (126, (Value.pointer (some ⟨g, 2, none⟩)))] 7 ?_
          refine Ops.put (t := 22) (b := g) (off := 2) (v := (Value.slice A268 l267.length c269)) (ys := [(i64 base), (i64 old), (Value.slice A268 l267.length c269)]) (by kernel_rfl) (by kernel_rfl) H176 (by kernel_rfl) (d := none) (by kernel_rfl) rfl (fun w281 H282 K283 => ?_)
          clear H176
          replace K175 := K175.t1 K283 (fun _ => rfl)
          replace H273 := H273.k1 K283 (by omega)
          replace hE := Ents.keep hE K283 hT
          replace hY1 := Ents.keep hY1 K283 hU
          replace hE254 := Ents.keep hE254 K283 hT
          replace hE274 := Ents.keep hE274 K283 ot277
          clear K283
          refine od ?_
          refine qs ?_
          refine qg ?_
          refine og 3 [(8, (i64 0)), (9, (i64 0)), (10, (i64 0)), (127, (i64 (n + ((ys.length : Nat) : Int)))), (129, (i64 (IntKind.i64.wrap (a + 1))))] 3 ?_
          have e284 : IntKind.i64.wrap (a + 1) = a + 1 := wrap_i64 (by omega) (by omega)
          rw [e284]
          refine og 3 [(8, (i64 (n + ((ys.length : Nat) : Int)))), (9, (i64 (a + 1))), (10, (i64 0))] 6 ?_
          refine od ?_
          refine q_ret (by kernel_rfl) ?_
          refine ⟨(Value.tuple #[(i64 (n + ((ys.length : Nat) : Int))), (i64 (a + 1)), (i64 0)]), retv_tmp3 rfl rfl rfl rfl, ?_⟩
          have em : matchK base old (l.map EntP.key) n t0 (ys.map EntP.key) = matchT base old (l.map EntP.key) n (ys.map EntP.key) := by unfold matchK; rw [if_neg (by omega), if_neg (by omega), if_pos (by rw [q156, termK_base]; exact Prod.ext (by simp only; omega) rfl)]
          have hyz : (ys.map EntP.key).length = ys.length := List.length_map ..
          have hr0 : runK base old (l.map EntP.key) a ((ys.map EntP.key).drop i) = 0 := (runK_ne (k := k185) (by omega) (ekey_at hx187) hyk (by omega))
          rw [hr0, Nat.add_zero] at hrun
          have hkp : (l251.map EntP.key) = (l.map EntP.key).take j := by rw [hl252, List.map_take]
          have hkd : (ys.drop i).map EntP.key = (ys.map EntP.key).drop i := List.map_drop ..
          rw [hkp, hkd] at hq266
          have e := em.trans (matchT_ok hrun (by omega) (by omega) hq266)
          exact ⟨l267, A268, c269, T270, by rw [e, hyz] <;> first | rfl | (rw [ha]; done) | (rw [ha]; rfl), K175, H282, hE274, by rw [e, hK275, hkp, hkd], fun i hi => ⟨ot277 i hi, ((hT276 i hi).2).imp id (fun h => by omega)⟩⟩
         ·skip
          refine Ops.call (by kernel_rfl) (d := (some 116)) (by kernel_rfl) (Append_bad _ T b257 base old A l251 U B1 d1 (ys.drop i) (by have q := H260; rw [← hn255] at q; exact q) (by have q := hE254; rw [← hn255] at q; exact q) ot265 (by omega) (by omega) hY1 ot264 (BigK.take hl252 hBig) (BigK.cut (k := i) (j := ys.length) (by rw [List.take_of_length_le (by simp)]) hBigY) (by omega) hq266) ?_
          rintro _ w286 ⟨rfl, K285⟩
          refine ⟨_, _, rfl, rfl, ?_⟩
          replace K175 := K175.tn K285
          replace H176 := H176.keep K285 (fun h => h)
          replace H260 := H260.keep K285 (fun h => h)
          replace hE := Ents.keep0 hE K285
          replace hY1 := Ents.keep0 hY1 K285
          replace hE254 := Ents.keep0 hE254 K285
          clear K285
          refine og 1 [(0, (ptr g)), (1, (i64 a)), (8, (i64 0)), (9, (i64 0)), (10, (i64 0)), (13, (i64 (n + ((ys.length : Nat) : Int)))), (15, (ptr b257)), (16, (i64 (appE base old (l251.map EntP.key) ((ys.drop i).map EntP.key))))] 4 ?_
          refine od ?_
          refine qs ?_
          refine qg ?_
          refine og 2 [(0, (ptr g)), (1, (i64 a)), (8, (i64 0)), (9, (i64 0)), (10, (i64 0)), (13, (i64 (n + ((ys.length : Nat) : Int)))), (15, (ptr b257)), (16, (i64 (appE base old (l251.map EntP.key) ((ys.drop i).map EntP.key)))), (118, (Value.bool ((appE base old (l251.map EntP.key) ((ys.drop i).map EntP.key)) != 0)))] 2 ?_
          refine od ?_
          have h288 : ((appE base old (l251.map EntP.key) ((ys.drop i).map EntP.key)) != 0) = true := bne_t hq266
          rw [h288]
          refine q_then (o := .tmp 118) (by kernel_rfl) rfl ?_
          refine qs ?_
          refine qg ?_
          refine og 4 [(0, (ptr g)), (1, (i64 a)), (8, (i64 0)), (9, (i64 0)), (10, (i64 (appE base old (l251.map EntP.key) ((ys.drop i).map EntP.key)))), (13, (i64 (n + ((ys.length : Nat) : Int)))), (15, (ptr b257))] 4 ?_
          refine od ?_
          refine q_ret (by kernel_rfl) ?_
          refine ⟨(Value.tuple #[(i64 0), (i64 0), (i64 (appE base old (l251.map EntP.key) ((ys.drop i).map EntP.key)))]), retv_tmp3 rfl rfl rfl rfl, ?_⟩
          have em : matchK base old (l.map EntP.key) n t0 (ys.map EntP.key) = matchT base old (l.map EntP.key) n (ys.map EntP.key) := by unfold matchK; rw [if_neg (by omega), if_neg (by omega), if_pos (by rw [q156, termK_base]; exact Prod.ext (by simp only; omega) rfl)]
          have hyz : (ys.map EntP.key).length = ys.length := List.length_map ..
          have hr0 : runK base old (l.map EntP.key) a ((ys.map EntP.key).drop i) = 0 := (runK_ne (k := k185) (by omega) (ekey_at hx187) hyk (by omega))
          rw [hr0, Nat.add_zero] at hrun
          have hkp : (l251.map EntP.key) = (l.map EntP.key).take j := by rw [hl252, List.map_take]
          have hkd : (ys.drop i).map EntP.key = (ys.map EntP.key).drop i := List.map_drop ..
          rw [hkp, hkd] at hq266
          have e := em.trans (matchT_bad hrun (by omega) (by omega) hq266)
          exact ⟨l, A, c, T, by rw [e, hkp, hkd], K175, H176, hE, by rw [e], fun i hi => ⟨hT0 i hi, .inl hi⟩⟩
        ·rw [h244]
         have p289 : x186.term = y.term := of_bne_f h244
         have hre := runK_eq (old := old) (k := k185) (by omega) (ekey_at hx187) hyk (by omega)
         refine q_skip (by kernel_rfl) ?_
         refine q_draw (fun wz => Keeps none_ w243 wz) 6 (by kernel_rfl) (by kernel_rfl) (by kernel_rfl) (fun w290 K291 _ _ => ⟨K291, ?_⟩)
         replace K175 := K175.tn K291
         replace H176 := H176.keep K291 (fun h => h)
         replace hE := Ents.keep0 hE K291
         replace hY1 := Ents.keep0 hY1 K291
         refine Dr.strong (S' := (fun wz => Keeps none_ w290 wz)) (Keeps.refl w290) (fun wz hx => K291.trans hx (fun i _ h => h) (fun _ _ h => h)) ?_
         clear K291
         refine Dr.takes (fuel' := 4) (is' := _) [0, 1] [(0, (ptr g)), (1, (i64 a)), (3, (Value.slice B1 ((ys.drop i).length) d1)), (8, (i64 0)), (9, (i64 0)), (10, (i64 0)), (13, (i64 (n + ((ys.length : Nat) : Int)))), (80, (i64 (IntKind.i64.wrap (a + 1))))] (by kernel_rfl) rfl (by kernel_rfl) ?_
         have e292 : IntKind.i64.wrap (a + 1) = a + 1 := wrap_i64 (by omega) (by omega)
         rw [e292]
         obtain ⟨A298, c299, hr295, hE296⟩ := Ents.cutRun (P := Try.prog) (t := 22) (e := 43) (by kernel_rfl) (by kernel_rfl) hY1 1 ((ys.drop i).length) (kl := .i64) (hi := none) (.inl ⟨rfl, rfl⟩) (by omega) (by omega)
         have he300 : ((ys.drop i).drop 1).take ((ys.drop i).length - 1) = ys.drop (i + 1) := by rw [List.drop_drop]; exact List.take_of_length_le (by rw [List.length_drop, List.length_drop]; omega)
         rw [he300] at hr295 hE296
         refine Dr.takes (fuel' := 3) (is' := _) [2] [(0, (ptr g)), (1, (i64 a)), (3, (Value.slice B1 ((ys.drop i).length) d1)), (8, (i64 0)), (9, (i64 0)), (10, (i64 0)), (13, (i64 (n + ((ys.length : Nat) : Int)))), (80, (i64 (a + 1))), (81, (Value.slice B1 ((ys.drop i).length) d1))] (by kernel_rfl) rfl (by kernel_rfl) ?_
         refine Dr.take (i := 3) (v := (Value.slice A298 ((ys.drop (i + 1)).length) c299)) (by kernel_rfl) (by kernel_rfl) (fun wz hS => Runs.slice (by kernel_rfl) (hr295 _)) (d := (some 82)) (by kernel_rfl) rfl ?_
         refine Dr.takes (fuel' := 0) (is' := _) [4, 5] [(0, (ptr g)), (1, (i64 (a + 1))), (3, (Value.slice A298 ((ys.drop (i + 1)).length) c299)), (8, (i64 0)), (9, (i64 0)), (10, (i64 0)), (13, (i64 (n + ((ys.length : Nat) : Int))))] (by kernel_rfl) rfl (by kernel_rfl) ?_
         refine Dr.keep (R := [(0, (ptr g)), (1, (i64 (a + 1))), (3, (Value.slice A298 ((ys.drop (i + 1)).length) c299)), (8, (i64 0)), (9, (i64 0)), (10, (i64 0)), (13, (i64 (n + ((ys.length : Nat) : Int))))]) (by kernel_rfl) ?_
         refine Dr.done (by kernel_rfl) ?_
         exact ⟨(a + 1, i + 1, A298, c299), ⟨rfl, (by omega), (by rw [hrun, hre, List.drop_drop]; omega), (by omega), (by omega), hE296, hE, K175, H176⟩, (show ys.length - (i + 1) < ys.length - i from by omega)⟩
      ·rw [h177]
       have p301 : ¬ ((((ys.drop i).length : Nat) : Int) > 0) := of_decide_eq_false h177
       refine q_exit (id := 1) (by kernel_rfl) ?_
       refine qs ?_
       refine qs ?_
       refine qg ?_
       refine og 3 [(0, (ptr g)), (1, (i64 a)), (3, (Value.slice B1 ((ys.drop i).length) d1)), (8, (i64 0)), (9, (i64 0)), (10, (i64 0)), (13, (i64 (n + ((ys.length : Nat) : Int)))), (85, (Value.bool ((((ys.drop i).length : Nat) : Int) == 0)))] 3 ?_
       refine od ?_
       have h302 : ((((ys.drop i).length : Nat) : Int) == 0) = true := beq_t (by omega)
       rw [h302]
       refine q_then (o := .tmp 85) (by kernel_rfl) rfl ?_
       refine qs ?_
       refine qg ?_
       refine og 4 [(0, (ptr g)), (1, (i64 a)), (3, (Value.slice B1 ((ys.drop i).length) d1)), (8, (i64 (n + ((ys.length : Nat) : Int)))), (9, (i64 0)), (10, (i64 0)), (13, (i64 (n + ((ys.length : Nat) : Int))))] 4 ?_
       refine od ?_
       refine q_ret (by kernel_rfl) ?_
       refine ⟨(Value.tuple #[(i64 (n + ((ys.length : Nat) : Int))), (i64 0), (i64 0)]), retv_tmp3 rfl rfl rfl rfl, ?_⟩
       have em : matchK base old (l.map EntP.key) n t0 (ys.map EntP.key) = matchT base old (l.map EntP.key) n (ys.map EntP.key) := by unfold matchK; rw [if_neg (by omega), if_neg (by omega), if_pos (by rw [q156, termK_base]; exact Prod.ext (by simp only; omega) rfl)]
       have hyz : (ys.map EntP.key).length = ys.length := List.length_map ..
       have hr0 : runK base old (l.map EntP.key) a ((ys.map EntP.key).drop i) = 0 := by rw [List.drop_of_length_le (by omega)]; rfl
       have e := em.trans (matchT_end (by rw [hrun, hr0]; omega))
       exact ⟨l, A, c, T, by rw [e, hyz], K175, H176, hE, by rw [e], fun i hi => ⟨hT0 i hi, .inl hi⟩⟩
    ·skip
     obtain ⟨x160, hx161⟩ : ∃ y, l[k159]? = some y := ⟨_, List.getElem?_eq_getElem q158⟩
     refine Ops.call (by kernel_rfl) (d := (some 48)) (by kernel_rfl) (at_here _ T g base old A c l n k159 x160 H0 hE hT (by omega) (by omega) q157 q158 hx161) ?_
     rintro _ w304 ⟨rfl, K303⟩
     refine ⟨_, _, rfl, rfl, ?_⟩
     replace K0 := K0.tn K303
     replace H0 := H0.keep K303 (fun h => h)
     replace hE := Ents.keep0 hE K303
     replace hY := Ents.keep0 hY K303
     clear K303
     refine og 1 [(0, (ptr g)), (1, (i64 n)), (2, (i64 t0)), (3, (Value.slice B ys.length d)), (8, (i64 0)), (9, (i64 0)), (10, (i64 0)), (12, (Value.iface 88 (agg [(i64 x160.term), (Value.slice x160.A x160.cmd.length x160.c)])))] 4 ?_
     refine od ?_
     refine qs ?_
     refine qg ?_
     refine og 4 [(0, (ptr g)), (1, (i64 n)), (2, (i64 t0)), (3, (Value.slice B ys.length d)), (8, (i64 0)), (9, (i64 0)), (10, (i64 0)), (51, (Value.bool false)), (52, (Value.iface 88 (agg [(i64 x160.term), (Value.slice x160.A x160.cmd.length x160.c)])))] 4 ?_
     refine Ops.call (by kernel_rfl) (d := (some 53)) (by kernel_rfl) (here_calls _ x160) ?_
     rintro _ w306 ⟨rfl, K305⟩
     refine ⟨_, _, rfl, rfl, ?_⟩
     replace K0 := K0.tn K305
     replace H0 := H0.keep K305 (fun h => h)
     replace hE := Ents.keep0 hE K305
     replace hY := Ents.keep0 hY K305
     clear K305
     refine og 3 [(0, (ptr g)), (1, (i64 n)), (3, (Value.slice B ys.length d)), (8, (i64 0)), (9, (i64 0)), (10, (i64 0)), (56, (Value.bool (x160.term != t0)))] 8 ?_
     refine od ?_
     refine q_cond (o := .tmp 56) (b := (x160.term != t0)) (by kernel_rfl) rfl (fun h307 => ?_) (fun h307 => ?_)
     ·rw [h307]
      have p308 : ¬ (x160.term = t0) := of_bne_t h307
      refine qs ?_
      refine qg ?_
      refine og 3 [(0, (ptr g)), (1, (i64 n)), (3, (Value.slice B ys.length d)), (8, (i64 0)), (9, (i64 0)), (10, (i64 5))] 3 ?_
      refine od ?_
      refine q_ret (by kernel_rfl) ?_
      refine ⟨(Value.tuple #[(i64 0), (i64 0), (i64 5)]), retv_tmp3 rfl rfl rfl rfl, ?_⟩
      have e : matchK base old (l.map EntP.key) n t0 (ys.map EntP.key) = ((0, 0, 5), (l.map EntP.key)) := by unfold matchK; rw [if_neg (by omega), if_neg (by omega), q157, termK_at (ekey_at hx161), if_neg (by simp <;> omega)]
      exact ⟨l, A, c, T, by rw [e], K0, H0, hE, by rw [e], fun i hi => ⟨hT0 i hi, .inl hi⟩⟩
     ·rw [h307]
      have p309 : x160.term = t0 := of_bne_f h307
      refine q_skip (by kernel_rfl) ?_
      refine qs ?_
      refine qg ?_
      refine og 4 [(0, (ptr g)), (1, (i64 n)), (3, (Value.slice B ys.length d)), (8, (i64 0)), (9, (i64 0)), (10, (i64 0)), (60, (i64 (IntKind.i64.wrap (n + ((ys.length : Nat) : Int)))))] 4 ?_
      have e310 : IntKind.i64.wrap (n + ((ys.length : Nat) : Int)) = n + ((ys.length : Nat) : Int) := wrap_i64 (by omega) (by omega)
      rw [e310]
      refine og 1 [(0, (ptr g)), (1, (i64 n)), (3, (Value.slice B ys.length d)), (8, (i64 0)), (9, (i64 0)), (10, (i64 0)), (13, (i64 (n + ((ys.length : Nat) : Int))))] 5 ?_
      refine od ?_
      refine qs ?_
      refine q_block (id := 1) (by kernel_rfl) ?_
      refine q_keep (R := [(0, (ptr g)), (1, (i64 n)), (3, (Value.slice B ys.length d)), (8, (i64 0)), (9, (i64 0)), (10, (i64 0)), (13, (i64 (n + ((ys.length : Nat) : Int))))]) (by kernel_rfl) ?_
      refine q_loop (fun (gs : Int × Nat × (Option Addr) × Nat) L (wx : World) => match gs with | (a, i, B1, d1) => L = [(0, (ptr g)), (1, (i64 a)), (3, (Value.slice B1 ((ys.drop i).length) d1)), (8, (i64 0)), (9, (i64 0)), (10, (i64 0)), (13, (i64 (n + ((ys.length : Nat) : Int))))] ∧ a = n + (i : Int) ∧ runK base old (l.map EntP.key) n (ys.map EntP.key) = i + runK base old (l.map EntP.key) a ((ys.map EntP.key).drop i) ∧ a ≤ base + (l.length : Int) ∧ i ≤ ys.length ∧ Ents wx U (.slice B1 (ys.drop i).length d1) (ys.drop i) ∧ Ents wx T (.slice A l.length c) l ∧ Keeps (fun i => i = g) w wx ∧ Has wx g (rowL [(i64 base), (i64 old), (Value.slice A l.length c)] 78)) (fun (gs : Int × Nat × (Option Addr) × Nat) => match gs with | (a, i, B1, d1) => ys.length - i) (n, 0, B, d) (by kernel_rfl) ⟨rfl, (by simp), (by simp), (by omega), Nat.zero_le _, hY, hE, K0, H0⟩ ?_
      clear H0 hE hY K0
      rintro ⟨a, i, B1, d1⟩ _ w311 ⟨rfl, ha, hrun, hpos, hi, hY1, hE, K312, H313⟩
      have hc1 := Ents.len hY1
      have hdl : (ys.drop i).length = ys.length - i := List.length_drop
      refine qs ?_
      refine qs ?_
      refine qg ?_
      refine og 3 [(0, (ptr g)), (1, (i64 a)), (3, (Value.slice B1 ((ys.drop i).length) d1)), (8, (i64 0)), (9, (i64 0)), (10, (i64 0)), (13, (i64 (n + ((ys.length : Nat) : Int)))), (63, (Value.bool (decide ((((ys.drop i).length : Nat) : Int) > 0))))] 3 ?_
      refine od ?_
      refine q_cond (o := .tmp 63) (b := (decide ((((ys.drop i).length : Nat) : Int) > 0))) (by kernel_rfl) rfl (fun h314 => ?_) (fun h314 => ?_)
      ·rw [h314]
       have p315 : (((ys.drop i).length : Nat) : Int) > 0 := of_decide_eq_true h314
       obtain ⟨y, hy⟩ : ∃ z, (ys.drop i)[0]? = some z := ⟨_, List.getElem?_eq_getElem (by omega)⟩
       have hyk : ((ys.map EntP.key).drop i)[0]? = some (y.term, y.cmd) := by rw [← List.map_drop]; exact ekey_at hy
       refine q_skip (by kernel_rfl) ?_
       refine q_block (id := 2) (by kernel_rfl) ?_
       refine qs ?_
       refine qg ?_
       refine og 3 [(0, (ptr g)), (1, (i64 a)), (3, (Value.slice B1 ((ys.drop i).length) d1)), (8, (i64 0)), (9, (i64 0)), (10, (i64 0)), (13, (i64 (n + ((ys.length : Nat) : Int)))), (64, (ptr g)), (66, (i64 (IntKind.i64.wrap (a + 1))))] 3 ?_
       have e316 : IntKind.i64.wrap (a + 1) = a + 1 := wrap_i64 (by omega) (by omega)
       rw [e316]
       rcases at_or base l.length (a + 1) with q317 | q318 | q319 | ⟨k322, q320, q321⟩
       ·exfalso; omega
       ·skip
        refine Ops.call (by kernel_rfl) (d := (some 67)) (by kernel_rfl) (at_high _ T g base old A c l (a + 1) H313 hE hT (by omega) (by omega) (by omega) q318) ?_
        rintro _ w326 ⟨rfl, K325⟩
        refine ⟨_, _, rfl, rfl, ?_⟩
        replace K312 := K312.tn K325
        replace H313 := H313.keep K325 (fun h => h)
        replace hE := Ents.keep0 hE K325
        replace hY1 := Ents.keep0 hY1 K325
        clear K325
        refine og 1 [(0, (ptr g)), (1, (i64 a)), (3, (Value.slice B1 ((ys.drop i).length) d1)), (8, (i64 0)), (9, (i64 0)), (10, (i64 0)), (13, (i64 (n + ((ys.length : Nat) : Int)))), (14, Value.nilIface)] 5 ?_
        refine od ?_
        refine qs ?_
        refine qs ?_
        refine q_draw (fun wz => Keeps none_ w326 wz) 11 (by kernel_rfl) (by kernel_rfl) (by kernel_rfl) (fun w327 K328 _ _ => ⟨K328, ?_⟩)
        replace K312 := K312.tn K328
        replace H313 := H313.keep K328 (fun h => h)
        replace hE := Ents.keep0 hE K328
        replace hY1 := Ents.keep0 hY1 K328
        refine Dr.strong (S' := (fun wz => Keeps none_ w327 wz)) (Keeps.refl w327) (fun wz hx => K328.trans hx (fun i _ h => h) (fun _ _ h => h)) ?_
        clear K328
        refine Dr.takes (fuel' := 0) (is' := _) [0, 1, 2, 3, 4, 5, 6, 7, 8, 9, 10] [(0, (ptr g)), (1, (i64 a)), (3, (Value.slice B1 ((ys.drop i).length) d1)), (8, (i64 0)), (9, (i64 0)), (10, (i64 0)), (13, (i64 (n + ((ys.length : Nat) : Int)))), (78, (Value.bool true))] (by kernel_rfl) rfl (by kernel_rfl) ?_
        refine Dr.done (by kernel_rfl) ?_
        refine q_then (o := .tmp 78) (by kernel_rfl) rfl ?_
        refine q_exit (id := 1) (by kernel_rfl) ?_
        refine qs ?_
        refine qs ?_
        refine qg ?_
        refine og 3 [(0, (ptr g)), (1, (i64 a)), (3, (Value.slice B1 ((ys.drop i).length) d1)), (8, (i64 0)), (9, (i64 0)), (10, (i64 0)), (13, (i64 (n + ((ys.length : Nat) : Int)))), (85, (Value.bool ((((ys.drop i).length : Nat) : Int) == 0)))] 3 ?_
        refine od ?_
        obtain ⟨j, hj⟩ : ∃ m : Nat, a - base = (m : Int) := Int.eq_ofNat_of_zero_le (by omega)
        have h329 : ((((ys.drop i).length : Nat) : Int) == 0) = false := beq_f (by omega)
        rw [h329]
        refine q_else (o := .tmp 85) (by kernel_rfl) rfl ?_
        refine q_skip (by kernel_rfl) ?_
        refine qs ?_
        refine q_draw (fun wz => Keeps none_ w327 wz) 28 (by kernel_rfl) (by kernel_rfl) (by kernel_rfl) (fun w330 K331 _ _ => ⟨K331, ?_⟩)
        replace K312 := K312.tn K331
        replace H313 := H313.keep K331 (fun h => h)
        replace hE := Ents.keep0 hE K331
        replace hY1 := Ents.keep0 hY1 K331
        refine Dr.strong (S' := (fun wz => Keeps none_ w330 wz)) (Keeps.refl w330) (fun wz hx => K331.trans hx (fun i _ h => h) (fun _ _ h => h)) ?_
        clear K331
        refine Dr.takes (fuel' := 25) (is' := _) [0, 1, 2] [(0, (ptr g)), (1, (i64 a)), (3, (Value.slice B1 ((ys.drop i).length) d1)), (8, (i64 0)), (9, (i64 0)), (10, (i64 0)), (13, (i64 (n + ((ys.length : Nat) : Int)))), (89, (ptr g))] (by kernel_rfl) rfl (by kernel_rfl) ?_
        refine Dr.take (i := 3) (v := (i64 base)) (by kernel_rfl) (by kernel_rfl) (fun wz hS => Runs.load (t := 2) (a := ⟨g, 0, none⟩) (by kernel_rfl) ((H313.keep hS (fun h => h)).loads (by kernel_rfl))) (d := (some 90)) (by kernel_rfl) rfl ?_
        refine Dr.takes (fuel' := 21) (is' := _) [4, 5, 6] [(0, (ptr g)), (1, (i64 a)), (3, (Value.slice B1 ((ys.drop i).length) d1)), (8, (i64 0)), (9, (i64 0)), (10, (i64 0)), (13, (i64 (n + ((ys.length : Nat) : Int)))), (90, (i64 base)), (93, (Value.pointer (some ⟨g, 1, none⟩)))] (by kernel_rfl) rfl (by kernel_rfl) ?_
        refine Dr.take (i := 7) (v := (i64 old)) (by kernel_rfl) (by kernel_rfl) (fun wz hS => Runs.load (t := 2) (a := ⟨g, 1, none⟩) (by kernel_rfl) ((H313.keep hS (fun h => h)).loads (by kernel_rfl))) (d := (some 94)) (by kernel_rfl) rfl ?_
        refine Dr.takes (fuel' := 17) (is' := _) [8, 9, 10] [(0, (ptr g)), (1, (i64 a)), (3, (Value.slice B1 ((ys.drop i).length) d1)), (8, (i64 0)), (9, (i64 0)), (10, (i64 0)), (13, (i64 (n + ((ys.length : Nat) : Int)))), (90, (i64 base)), (94, (i64 old)), (97, (Value.pointer (some ⟨g, 2, none⟩)))] (by kernel_rfl) rfl (by kernel_rfl) ?_
        refine Dr.take (i := 11) (v := (Value.slice A l.length c)) (by kernel_rfl) (by kernel_rfl) (fun wz hS => Runs.load (t := 22) (a := ⟨g, 2, none⟩) (by kernel_rfl) ((H313.keep hS (fun h => h)).loads (by kernel_rfl))) (d := (some 98)) (by kernel_rfl) rfl ?_
        refine Dr.takes (fuel' := 12) (is' := _) [12, 13, 14, 15] [(0, (ptr g)), (1, (i64 a)), (3, (Value.slice B1 ((ys.drop i).length) d1)), (8, (i64 0)), (9, (i64 0)), (10, (i64 0)), (13, (i64 (n + ((ys.length : Nat) : Int)))), (90, (i64 base)), (94, (i64 old)), (98, (Value.slice A l.length c)), (99, (i64 a)), (102, (ptr g))] (by kernel_rfl) rfl (by kernel_rfl) ?_
        refine Dr.take (i := 16) (v := (i64 base)) (by kernel_rfl) (by kernel_rfl) (fun wz hS => Runs.load (t := 2) (a := ⟨g, 0, none⟩) (by kernel_rfl) ((H313.keep hS (fun h => h)).loads (by kernel_rfl))) (d := (some 103)) (by kernel_rfl) rfl ?_
        refine Dr.takes (fuel' := 10) (is' := _) [17] [(0, (ptr g)), (1, (i64 a)), (3, (Value.slice B1 ((ys.drop i).length) d1)), (8, (i64 0)), (9, (i64 0)), (10, (i64 0)), (13, (i64 (n + ((ys.length : Nat) : Int)))), (90, (i64 base)), (94, (i64 old)), (98, (Value.slice A l.length c)), (104, (i64 (IntKind.i64.wrap (a - base))))] (by kernel_rfl) rfl (by kernel_rfl) ?_
        have e332 : IntKind.i64.wrap (a - base) = ((j : Nat) : Int) := by rw [wrap_i64 (by omega) (by omega)]; omega
        rw [e332]
        refine Dr.takes (fuel' := 6) (is' := _) [18, 19, 20, 21] [(0, (ptr g)), (1, (i64 a)), (3, (Value.slice B1 ((ys.drop i).length) d1)), (8, (i64 0)), (9, (i64 0)), (10, (i64 0)), (13, (i64 (n + ((ys.length : Nat) : Int)))), (90, (i64 base)), (94, (i64 old)), (98, (Value.slice A l.length c)), (104, (i64 ((j : Nat) : Int))), (105, (i64 a)), (108, (ptr g))] (by kernel_rfl) rfl (by kernel_rfl) ?_
        refine Dr.take (i := 22) (v := (i64 base)) (by kernel_rfl) (by kernel_rfl) (fun wz hS => Runs.load (t := 2) (a := ⟨g, 0, none⟩) (by kernel_rfl) ((H313.keep hS (fun h => h)).loads (by kernel_rfl))) (d := (some 109)) (by kernel_rfl) rfl ?_
        refine Dr.takes (fuel' := 4) (is' := _) [23] [(0, (ptr g)), (1, (i64 a)), (3, (Value.slice B1 ((ys.drop i).length) d1)), (8, (i64 0)), (9, (i64 0)), (10, (i64 0)), (13, (i64 (n + ((ys.length : Nat) : Int)))), (90, (i64 base)), (94, (i64 old)), (98, (Value.slice A l.length c)), (104, (i64 ((j : Nat) : Int))), (110, (i64 (IntKind.i64.wrap (a - base))))] (by kernel_rfl) rfl (by kernel_rfl) ?_
        have e333 : IntKind.i64.wrap (a - base) = ((j : Nat) : Int) := by rw [wrap_i64 (by omega) (by omega)]; omega
        rw [e333]
        obtain ⟨hr336, hE337⟩ := Ents.headRun (P := Try.prog) (t := 22) (e := 43) (by kernel_rfl) (by kernel_rfl) hE j j (kh := .i64) (mx := (some (i64 ((j : Nat) : Int)))) (.inr ⟨_, rfl⟩) (by omega) (by omega) (by omega)
        obtain ⟨l334, hl335⟩ : ∃ z, z = l.take j := ⟨_, rfl⟩
        rw [← hl335] at hr336 hE337
        have hn338 : l334.length = j := by rw [hl335]; simp only [List.length_take]; omega
        have hc339 := Ents.len hE337
        refine Dr.take (i := 24) (v := (Value.slice A l334.length j)) (by kernel_rfl) (by kernel_rfl) (fun wz hS => Runs.slice (by kernel_rfl) (hr336 _)) (d := (some 111)) (by kernel_rfl) rfl ?_
        refine Dr.takes (fuel' := 2) (is' := _) [25] [(0, (ptr g)), (1, (i64 a)), (3, (Value.slice B1 ((ys.drop i).length) d1)), (8, (i64 0)), (9, (i64 0)), (10, (i64 0)), (13, (i64 (n + ((ys.length : Nat) : Int)))), (112, (agg [(i64 base), (i64 old), (Value.slice A l334.length j)]))] (by kernel_rfl) rfl (by kernel_rfl) ?_
        refine Dr.new (i := 26) (o := rowL [(i64 base), (i64 old), (Value.slice A l334.length j)] 78) (V := fun b => (ptr b)) (by kernel_rfl) (by kernel_rfl) (d := (some 113)) (by kernel_rfl) (fun b => rfl) (fun b340 w341 hb342 H343 K344 hs345 => ?_)
        have lb340g : g < b340 := by have := H313.lt; omega
        have nb340 : w.heap.size ≤ b340 := by have := K312.size; omega
        have ot346 : ∀ i, T i → i ≠ b340 := fun i hi => by have := Ents.lt hE i hi; omega
        have ot347 : ∀ i, U i → i ≠ b340 := fun i hi => by have := Ents.lt hY1 i hi; omega
        have ot348 : ∀ i, T i → i ≠ b340 := fun i hi => by have := Ents.lt hE337 i hi; omega
        replace K312 := K312.tn K344
        replace H313 := H313.keep K344 (fun h => h)
        replace hE := Ents.keep0 hE K344
        replace hY1 := Ents.keep0 hY1 K344
        replace hE337 := Ents.keep0 hE337 K344
        refine ⟨K344, ?_⟩
        refine Dr.strong (S' := (fun wz => Keeps none_ w341 wz)) (Keeps.refl w341) (fun wz hx => K344.trans hx (fun i _ h => h) (fun _ _ h => h)) ?_
        clear K344 hs345
        refine Dr.takes (fuel' := 0) (is' := _) [27] [(0, (ptr g)), (1, (i64 a)), (3, (Value.slice B1 ((ys.drop i).length) d1)), (8, (i64 0)), (9, (i64 0)), (10, (i64 0)), (13, (i64 (n + ((ys.length : Nat) : Int)))), (15, (ptr b340))] (by kernel_rfl) rfl (by kernel_rfl) ?_
        refine Dr.done (by kernel_rfl) ?_
        refine qs ?_
        refine qs ?_
        refine qg ?_
        refine og 2 [(0, (ptr g)), (1, (i64 a)), (8, (i64 0)), (9, (i64 0)), (10, (i64 0)), (13, (i64 (n + ((ys.length : Nat) : Int)))), (15, (ptr b340)), (114, (ptr b340)), (115, (Value.slice B1 ((ys.drop i).length) d1))] 2 ?_
        by_cases hq349 : appE base old (l334.map EntP.key) ((ys.drop i).map EntP.key) = 0
        ·skip
         refine Ops.call (by kernel_rfl) (d := (some 116)) (by kernel_rfl) (Append_ok _ T b340 base old A l334 U B1 d1 (ys.drop i) (by have q := H343; rw [← hn338] at q; exact q) (by have q := hE337; rw [← hn338] at q; exact q) ot348 (by omega) (by omega) hY1 ot347 (BigK.take hl335 hBig) (BigK.cut (k := i) (j := ys.length) (by rw [List.take_of_length_le (by simp)]) hBigY) (by omega) hq349) ?_
         rintro _ w354 ⟨l350, A351, c352, T353, rfl, K355, H356, hE357, hK358, hT359⟩
         have ot360 : ∀ i, T353 i → i ≠ g := fun i hi => by rcases (hT359 i hi).2 with h | h; (exact hT i h); (have := H313.lt; omega)
         have ot361 : ∀ i, T353 i → i ≠ b340 := fun i hi => (hT359 i hi).1
         have hn362 := keys_len2 hK358
         try rw [List.length_drop] at hn362
         try rw [List.length_append] at hn362
         try rw [List.length_map] at hn362
         try rw [List.length_map] at hn362
         have hz363 := K312.size
         refine ⟨_, _, rfl, rfl, ?_⟩
         replace K312 := K312.trans K355 (U := (fun i => i = g)) (fun i h1 h2 => h2) (fun i h1 h2 => by have h2 : i = b340 := h2; show i = g; omega)
         replace H313 := H313.k1 K355 (by omega)
         replace hE := Ents.keep hE K355 ot346
         replace hY1 := Ents.keep hY1 K355 ot347
         replace hE337 := Ents.keep hE337 K355 ot348
         clear K355
         refine og 1 [(0, (ptr g)), (1, (i64 a)), (8, (i64 0)), (9, (i64 0)), (10, (i64 0)), (13, (i64 (n + ((ys.length : Nat) : Int)))), (15, (ptr b340)), (16, (i64 0))] 4 ?_
         refine od ?_
         refine qs ?_
         refine qg ?_
         refine og 2 [(0, (ptr g)), (1, (i64 a)), (8, (i64 0)), (9, (i64 0)), (10, (i64 0)), (13, (i64 (n + ((ys.length : Nat) : Int)))), (15, (ptr b340)), (16, (i64 0)), (118, (Value.bool false))] 2 ?_
         refine od ?_
         refine q_else (o := .tmp 118) (by kernel_rfl) rfl ?_
         refine q_skip (by kernel_rfl) ?_
         refine qs ?_
         refine qg ?_
         refine og 4 [(1, (i64 a)), (8, (i64 0)), (9, (i64 0)), (10, (i64 0)), (13, (i64 (n + ((ys.length : Nat) : Int)))), (120, (ptr g)), (123, (Value.pointer (some ⟨b340, 2, none⟩)))] 4 ?_
         refine Ops.go (v := (Value.slice A351 l350.length c352)) (by kernel_rfl) (Runs.load (t := 22) (a := ⟨b340, 2, none⟩) (by kernel_rfl) (H356.loads (by kernel_rfl))) (d := (some 124)) (by kernel_rfl) rfl ?_
         refine og 2 [(1, (i64 a)), (8, (i64 0)), (9, (i64 0)), (10, (i64 0)), (13, (i64 (n + ((ys.length : Nat) : Int)))), (124, (Value.slice A351 l350.length c352)), (126, (Value.pointer (some ⟨g, 2, none⟩)))] 7 ?_
         refine Ops.put (t := 22) (b := g) (off := 2) (v := (Value.slice A351 l350.length c352)) (ys := [(i64 base), (i64 old), (Value.slice A351 l350.length c352)]) (by kernel_rfl) (by kernel_rfl) H313 (by kernel_rfl) (d := none) (by kernel_rfl) rfl (fun w364 H365 K366 => ?_)
         clear H313
         replace K312 := K312.t1 K366 (fun _ => rfl)
         replace H356 := H356.k1 K366 (by omega)
         replace hE := Ents.keep hE K366 hT
         replace hY1 := Ents.keep hY1 K366 hU
         replace hE337 := Ents.keep hE337 K366 hT
         replace hE357 := Ents.keep hE357 K366 ot360
         clear K366
         refine od ?_
         refine qs ?_
         refine qg ?_
         refine og 3 [(8, (i64 0)), (9, (i64 0)), (10, (i64 0)), (127, (i64 (n + ((ys.length : Nat) : Int)))), (129, (i64 (IntKind.i64.wrap (a + 1))))] 3 ?_
         have e367 : IntKind.i64.wrap (a + 1) = a + 1 := wrap_i64 (by omega) (by omega)
         rw [e367]
         refine og 3 [(8, (i64 (n + ((ys.length : Nat) : Int)))), (9, (i64 (a + 1))), (10, (i64 0))] 6 ?_
         refine od ?_
         refine q_ret (by kernel_rfl) ?_
         refine ⟨(Value.tuple #[(i64 (n + ((ys.length : Nat) : Int))), (i64 (a + 1)), (i64 0)]), retv_tmp3 rfl rfl rfl rfl, ?_⟩
         have em : matchK base old (l.map EntP.key) n t0 (ys.map EntP.key) = matchT base old (l.map EntP.key) n (ys.map EntP.key) := by unfold matchK; rw [if_neg (by omega), if_neg (by omega), if_pos (by rw [q157, termK_at (ekey_at hx161)]; exact Prod.ext (by simp only; omega) rfl)]
         have hyz : (ys.map EntP.key).length = ys.length := List.length_map ..
         have hr0 : runK base old (l.map EntP.key) a ((ys.map EntP.key).drop i) = 0 := (runK_high (by omega) _)
         rw [hr0, Nat.add_zero] at hrun
         have hkp : (l334.map EntP.key) = (l.map EntP.key).take j := by rw [hl335, List.map_take]
         have hkd : (ys.drop i).map EntP.key = (ys.map EntP.key).drop i := List.map_drop ..
         rw [hkp, hkd] at hq349
         have e := em.trans (matchT_ok hrun (by omega) (by omega) hq349)
         exact ⟨l350, A351, c352, T353, by rw [e, hyz] <;> first | rfl | (rw [ha]; done) | (rw [ha]; rfl), K312, H365, hE357, by rw [e, hK358, hkp, hkd], fun i hi => ⟨ot360 i hi, ((hT359 i hi).2).imp id (fun h => by omega)⟩⟩
        ·skip
         refine Ops.call (by kernel_rfl) (d := (some 116)) (by kernel_rfl) (Append_bad _ T b340 base old A l334 U B1 d1 (ys.drop i) (by have q := H343; rw [← hn338] at q; exact q) (by have q := hE337; rw [← hn338] at q; exact q) ot348 (by omega) (by omega) hY1 ot347 (BigK.take hl335 hBig) (BigK.cut (k := i) (j := ys.length) (by rw [List.take_of_length_le (by simp)]) hBigY) (by omega) hq349) ?_
         rintro _ w369 ⟨rfl, K368⟩
         refine ⟨_, _, rfl, rfl, ?_⟩
         replace K312 := K312.tn K368
         replace H313 := H313.keep K368 (fun h => h)
         replace H343 := H343.keep K368 (fun h => h)
         replace hE := Ents.keep0 hE K368
         replace hY1 := Ents.keep0 hY1 K368
         replace hE337 := Ents.keep0 hE337 K368
         clear K368
         refine og 1 [(0, (ptr g)), (1, (i64 a)), (8, (i64 0)), (9, (i64 0)), (10, (i64 0)), (13, (i64 (n + ((ys.length : Nat) : Int)))), (15, (ptr b340)), (16, (i64 (appE base old (l334.map EntP.key) ((ys.drop i).map EntP.key))))] 4 ?_
         refine od ?_
         refine qs ?_
         refine qg ?_
         refine og 2 [(0, (ptr g)), (1, (i64 a)), (8, (i64 0)), (9, (i64 0)), (10, (i64 0)), (13, (i64 (n + ((ys.length : Nat) : Int)))), (15, (ptr b340)), (16, (i64 (appE base old (l334.map EntP.key) ((ys.drop i).map EntP.key)))), (118, (Value.bool ((appE base old (l334.map EntP.key) ((ys.drop i).map EntP.key)) != 0)))] 2 ?_
         refine od ?_
         have h371 : ((appE base old (l334.map EntP.key) ((ys.drop i).map EntP.key)) != 0) = true := bne_t hq349
         rw [h371]
         refine q_then (o := .tmp 118) (by kernel_rfl) rfl ?_
         refine qs ?_
         refine qg ?_
         refine og 4 [(0, (ptr g)), (1, (i64 a)), (8, (i64 0)), (9, (i64 0)), (10, (i64 (appE base old (l334.map EntP.key) ((ys.drop i).map EntP.key)))), (13, (i64 (n + ((ys.length : Nat) : Int)))), (15, (ptr b340))] 4 ?_
         refine od ?_
         refine q_ret (by kernel_rfl) ?_
         refine ⟨(Value.tuple #[(i64 0), (i64 0), (i64 (appE base old (l334.map EntP.key) ((ys.drop i).map EntP.key)))]), retv_tmp3 rfl rfl rfl rfl, ?_⟩
         have em : matchK base old (l.map EntP.key) n t0 (ys.map EntP.key) = matchT base old (l.map EntP.key) n (ys.map EntP.key) := by unfold matchK; rw [if_neg (by omega), if_neg (by omega), if_pos (by rw [q157, termK_at (ekey_at hx161)]; exact Prod.ext (by simp only; omega) rfl)]
         have hyz : (ys.map EntP.key).length = ys.length := List.length_map ..
         have hr0 : runK base old (l.map EntP.key) a ((ys.map EntP.key).drop i) = 0 := (runK_high (by omega) _)
         rw [hr0, Nat.add_zero] at hrun
         have hkp : (l334.map EntP.key) = (l.map EntP.key).take j := by rw [hl335, List.map_take]
         have hkd : (ys.drop i).map EntP.key = (ys.map EntP.key).drop i := List.map_drop ..
         rw [hkp, hkd] at hq349
         have e := em.trans (matchT_bad hrun (by omega) (by omega) hq349)
         exact ⟨l, A, c, T, by rw [e, hkp, hkd], K312, H313, hE, by rw [e], fun i hi => ⟨hT0 i hi, .inl hi⟩⟩
       ·exfalso; omega
       ·skip
        obtain ⟨x323, hx324⟩ : ∃ y, l[k322]? = some y := ⟨_, List.getElem?_eq_getElem q321⟩
        refine Ops.call (by kernel_rfl) (d := (some 67)) (by kernel_rfl) (at_here _ T g base old A c l (a + 1) k322 x323 H313 hE hT (by omega) (by omega) q320 q321 hx324) ?_
        rintro _ w373 ⟨rfl, K372⟩
        refine ⟨_, _, rfl, rfl, ?_⟩
        replace K312 := K312.tn K372
        replace H313 := H313.keep K372 (fun h => h)
        replace hE := Ents.keep0 hE K372
        replace hY1 := Ents.keep0 hY1 K372
        clear K372
        refine og 1 [(0, (ptr g)), (1, (i64 a)), (3, (Value.slice B1 ((ys.drop i).length) d1)), (8, (i64 0)), (9, (i64 0)), (10, (i64 0)), (13, (i64 (n + ((ys.length : Nat) : Int)))), (14, (Value.iface 88 (agg [(i64 x323.term), (Value.slice x323.A x323.cmd.length x323.c)])))] 5 ?_
        refine od ?_
        refine qs ?_
        refine qs ?_
        refine q_draw (fun wz => Keeps none_ w373 wz) 11 (by kernel_rfl) (by kernel_rfl) (by kernel_rfl) (fun w374 K375 _ _ => ⟨K375, ?_⟩)
        replace K312 := K312.tn K375
        replace H313 := H313.keep K375 (fun h => h)
        replace hE := Ents.keep0 hE K375
        replace hY1 := Ents.keep0 hY1 K375
        refine Dr.strong (S' := (fun wz => Keeps none_ w374 wz)) (Keeps.refl w374) (fun wz hx => K375.trans hx (fun i _ h => h) (fun _ _ h => h)) ?_
        clear K375
        obtain ⟨z0, hz0⟩ : ∃ z : Nat, z = 0 := ⟨_, rfl⟩
        have hyz : (ys.drop i)[z0]? = some y := by rw [hz0]; exact hy
        obtain ⟨rb376, ro377, hA378⟩ := Rd.addr (Ents.rd hY1) (by omega)
        refine Dr.takes (fuel' := 6) (is' := _) [0, 1, 2, 3, 5] [(0, (ptr g)), (1, (i64 a)), (3, (Value.slice B1 ((ys.drop i).length) d1)), (8, (i64 0)), (9, (i64 0)), (10, (i64 0)), (13, (i64 (n + ((ys.length : Nat) : Int)))), (70, (Value.bool false)), (71, (Value.iface 88 (agg [(i64 x323.term), (Value.slice x323.A x323.cmd.length x323.c)]))), (73, (Value.slice B1 ((ys.drop i).length) d1))] (by kernel_rfl) rfl (by kernel_rfl) ?_
        refine Dr.take (i := 6) (v := (Value.pointer (some ⟨rb376, ro377 + z0 * 2, none⟩))) (by kernel_rfl) (by kernel_rfl) (fun wz hS => Runs.ixSliceE (k := IntKind.i64) (t := 22) (len := ((ys.drop i).length)) (cap := d1) (s := 2) (off' := ro377 + z0 * 2) (i := 0) hA378 (by kernel_rfl) (by kernel_rfl) (by omega) (by omega) (by omega)) (d := (some 74)) (by kernel_rfl) rfl ?_
        refine Dr.takes (fuel' := 4) (is' := _) [7] [(0, (ptr g)), (1, (i64 a)), (3, (Value.slice B1 ((ys.drop i).length) d1)), (8, (i64 0)), (9, (i64 0)), (10, (i64 0)), (13, (i64 (n + ((ys.length : Nat) : Int)))), (70, (Value.bool false)), (71, (Value.iface 88 (agg [(i64 x323.term), (Value.slice x323.A x323.cmd.length x323.c)]))), (75, (Value.pointer (some ⟨rb376, ro377 + z0 * 2, none⟩)))] (by kernel_rfl) rfl (by kernel_rfl) ?_
        refine Dr.take (i := 8) (v := (i64 y.term)) (by kernel_rfl) (by kernel_rfl) (fun wz hS => Runs.load (t := 2) (a := ⟨rb376, ro377 + z0 * 2, none⟩) (by kernel_rfl) (RdT.ldf (f := EntP.cells) (x := y) (o := 0) EntP.two (Ents.rd (Ents.keep0 hY1 hS)) (by kernel_rfl) hA378 hyz rfl)) (d := (some 76)) (by kernel_rfl) rfl ?_
        refine Dr.call (i := 4) (by kernel_rfl) (by kernel_rfl) (d := (some 72)) (by kernel_rfl) (fun _ => here_calls _ x323) ?_
        rintro _ w380 ⟨rfl, K379⟩
        replace K312 := K312.tn K379
        replace H313 := H313.keep K379 (fun h => h)
        replace hE := Ents.keep0 hE K379
        replace hY1 := Ents.keep0 hY1 K379
        refine ⟨_, _, rfl, rfl, K379, ?_⟩
        refine Dr.strong (S' := (fun wz => Keeps none_ w380 wz)) (Keeps.refl w380) (fun wz hx => K379.trans hx (fun i _ h => h) (fun _ _ h => h)) ?_
        clear K379
        refine Dr.takes (fuel' := 0) (is' := _) [9, 10] [(0, (ptr g)), (1, (i64 a)), (3, (Value.slice B1 ((ys.drop i).length) d1)), (8, (i64 0)), (9, (i64 0)), (10, (i64 0)), (13, (i64 (n + ((ys.length : Nat) : Int)))), (78, (Value.bool (x323.term != y.term)))] (by kernel_rfl) rfl (by kernel_rfl) ?_
        refine Dr.done (by kernel_rfl) ?_
        refine q_cond (o := .tmp 78) (b := (x323.term != y.term)) (by kernel_rfl) rfl (fun h381 => ?_) (fun h381 => ?_)
        ·rw [h381]
         have p382 : ¬ (x323.term = y.term) := of_bne_t h381
         refine q_exit (id := 1) (by kernel_rfl) ?_
         refine qs ?_
         refine qs ?_
         refine qg ?_
         refine og 3 [(0, (ptr g)), (1, (i64 a)), (3, (Value.slice B1 ((ys.drop i).length) d1)), (8, (i64 0)), (9, (i64 0)), (10, (i64 0)), (13, (i64 (n + ((ys.length : Nat) : Int)))), (85, (Value.bool ((((ys.drop i).length : Nat) : Int) == 0)))] 3 ?_
         refine od ?_
         obtain ⟨j, hj⟩ : ∃ m : Nat, a - base = (m : Int) := Int.eq_ofNat_of_zero_le (by omega)
         have h383 : ((((ys.drop i).length : Nat) : Int) == 0) = false := beq_f (by omega)
         rw [h383]
         refine q_else (o := .tmp 85) (by kernel_rfl) rfl ?_
         refine q_skip (by kernel_rfl) ?_
         refine qs ?_
         refine q_draw (fun wz => Keeps none_ w380 wz) 28 (by kernel_rfl) (by kernel_rfl) (by kernel_rfl) (fun w384 K385 _ _ => ⟨K385, ?_⟩)
         replace K312 := K312.tn K385
         replace H313 := H313.keep K385 (fun h => h)
         replace hE := Ents.keep0 hE K385
         replace hY1 := Ents.keep0 hY1 K385
         refine Dr.strong (S' := (fun wz => Keeps none_ w384 wz)) (Keeps.refl w384) (fun wz hx => K385.trans hx (fun i _ h => h) (fun _ _ h => h)) ?_
         clear K385
         refine Dr.takes (fuel' := 25) (is' := _) [0, 1, 2] [(0, (ptr g)), (1, (i64 a)), (3, (Value.slice B1 ((ys.drop i).length) d1)), (8, (i64 0)), (9, (i64 0)), (10, (i64 0)), (13, (i64 (n + ((ys.length : Nat) : Int)))), (89, (ptr g))] (by kernel_rfl) rfl (by kernel_rfl) ?_
         refine Dr.take (i := 3) (v := (i64 base)) (by kernel_rfl) (by kernel_rfl) (fun wz hS => Runs.load (t := 2) (a := ⟨g, 0, none⟩) (by kernel_rfl) ((H313.keep hS (fun h => h)).loads (by kernel_rfl))) (d := (some 90)) (by kernel_rfl) rfl ?_
         refine Dr.takes (fuel' := 21) (is' := _) [4, 5, 6] [(0, (ptr g)), (1, (i64 a)), (3, (Value.slice B1 ((ys.drop i).length) d1)), (8, (i64 0)), (9, (i64 0)), (10, (i64 0)), (13, (i64 (n + ((ys.length : Nat) : Int)))), (90, (i64 base)), (93, (Value.pointer (some ⟨g, 1, none⟩)))] (by kernel_rfl) rfl (by kernel_rfl) ?_
         refine Dr.take (i := 7) (v := (i64 old)) (by kernel_rfl) (by kernel_rfl) (fun wz hS => Runs.load (t := 2) (a := ⟨g, 1, none⟩) (by kernel_rfl) ((H313.keep hS (fun h => h)).loads (by kernel_rfl))) (d := (some 94)) (by kernel_rfl) rfl ?_
         refine Dr.takes (fuel' := 17) (is' := _) [8, 9, 10] [(0, (ptr g)), (1, (i64 a)), (3, (Value.slice B1 ((ys.drop i).length) d1)), (8, (i64 0)), (9, (i64 0)), (10, (i64 0)), (13, (i64 (n + ((ys.length : Nat) : Int)))), (90, (i64 base)), (94, (i64 old)), (97, (Value.pointer (some ⟨g, 2, none⟩)))] (by kernel_rfl) rfl (by kernel_rfl) ?_
         refine Dr.take (i := 11) (v := (Value.slice A l.length c)) (by kernel_rfl) (by kernel_rfl) (fun wz hS => Runs.load (t := 22) (a := ⟨g, 2, none⟩) (by kernel_rfl) ((H313.keep hS (fun h => h)).loads (by kernel_rfl))) (d := (some 98)) (by kernel_rfl) rfl ?_
         refine Dr.takes (fuel' := 12) (is' := _) [12, 13, 14, 15] [(0, (ptr g)), (1, (i64 a)), (3, (Value.slice B1 ((ys.drop i).length) d1)), (8, (i64 0)), (9, (i64 0)), (10, (i64 0)), (13, (i64 (n + ((ys.length : Nat) : Int)))), (90, (i64 base)), (94, (i64 old)), (98, (Value.slice A l.length c)), (99, (i64 a)), (102, (ptr g))] (by kernel_rfl) rfl (by kernel_rfl) ?_
         refine Dr.take (i := 16) (v := (i64 base)) (by kernel_rfl) (by kernel_rfl) (fun wz hS => Runs.load (t := 2) (a := ⟨g, 0, none⟩) (by kernel_rfl) ((H313.keep hS (fun h => h)).loads (by kernel_rfl))) (d := (some 103)) (by kernel_rfl) rfl ?_
         refine Dr.takes (fuel' := 10) (is' := _) [17] [(0, (ptr g)), (1, (i64 a)), (3, (Value.slice B1 ((ys.drop i).length) d1)), (8, (i64 0)), (9, (i64 0)), (10, (i64 0)), (13, (i64 (n + ((ys.length : Nat) : Int)))), (90, (i64 base)), (94, (i64 old)), (98, (Value.slice A l.length c)), (104, (i64 (IntKind.i64.wrap (a - base))))] (by kernel_rfl) rfl (by kernel_rfl) ?_
         have e386 : IntKind.i64.wrap (a - base) = ((j : Nat) : Int) := by rw [wrap_i64 (by omega) (by omega)]; omega
         rw [e386]
         refine Dr.takes (fuel' := 6) (is' := _) [18, 19, 20, 21] [(0, (ptr g)), (1, (i64 a)), (3, (Value.slice B1 ((ys.drop i).length) d1)), (8, (i64 0)), (9, (i64 0)), (10, (i64 0)), (13, (i64 (n + ((ys.length : Nat) : Int)))), (90, (i64 base)), (94, (i64 old)), (98, (Value.slice A l.length c)), (104, (i64 ((j : Nat) : Int))), (105, (i64 a)), (108, (ptr g))] (by kernel_rfl) rfl (by kernel_rfl) ?_
         refine Dr.take (i := 22) (v := (i64 base)) (by kernel_rfl) (by kernel_rfl) (fun wz hS => Runs.load (t := 2) (a := ⟨g, 0, none⟩) (by kernel_rfl) ((H313.keep hS (fun h => h)).loads (by kernel_rfl))) (d := (some 109)) (by kernel_rfl) rfl ?_
         refine Dr.takes (fuel' := 4) (is' := _) [23] [(0, (ptr g)), (1, (i64 a)), (3, (Value.slice B1 ((ys.drop i).length) d1)), (8, (i64 0)), (9, (i64 0)), (10, (i64 0)), (13, (i64 (n + ((ys.length : Nat) : Int)))), (90, (i64 base)), (94, (i64 old)), (98, (Value.slice A l.length c)), (104, (i64 ((j : Nat) : Int))), (110, (i64 (IntKind.i64.wrap (a - base))))] (by kernel_rfl) rfl (by kernel_rfl) ?_
         have e387 : IntKind.i64.wrap (a - base) = ((j : Nat) : Int) := by rw [wrap_i64 (by omega) (by omega)]; omega
         rw [e387]
         obtain ⟨hr390, hE391⟩ := Ents.headRun (P := Try.prog) (t := 22) (e := 43) (by kernel_rfl) (by kernel_rfl) hE j j (kh := .i64) (mx := (some (i64 ((j : Nat) : Int)))) (.inr ⟨_, rfl⟩) (by omega) (by omega) (by omega)
         obtain ⟨l388, hl389⟩ : ∃ z, z = l.take j := ⟨_, rfl⟩
         rw [← hl389] at hr390 hE391
         have hn392 : l388.length = j := by rw [hl389]; simp only [List.length_take]; omega
         have hc393 := Ents.len hE391
         refine Dr.take (i := 24) (v := (Value.slice A l388.length j)) (by kernel_rfl) (by kernel_rfl) (fun wz hS => Runs.slice (by kernel_rfl) (hr390 _)) (d := (some 111)) (by kernel_rfl) rfl ?_
         refine Dr.takes (fuel' := 2) (is' := _) [25] [(0, (ptr g)), (1, (i64 a)), (3, (Value.slice B1 ((ys.drop i).length) d1)), (8, (i64 0)), (9, (i64 0)), (10, (i64 0)), (13, (i64 (n + ((ys.length : Nat) : Int)))), (112, (agg [(i64 base), (i64 old), (Value.slice A l388.length j)]))] (by kernel_rfl) rfl (by kernel_rfl) ?_
         refine Dr.new (i := 26) (o := rowL [(i64 base), (i64 old), (Value.slice A l388.length j)] 78) (V := fun b => (ptr b)) (by kernel_rfl) (by kernel_rfl) (d := (some 113)) (by kernel_rfl) (fun b => rfl) (fun b394 w395 hb396 H397 K398 hs399 => ?_)
         have lb394g : g < b394 := by have := H313.lt; omega
         have nb394 : w.heap.size ≤ b394 := by have := K312.size; omega
         have ot400 : ∀ i, T i → i ≠ b394 := fun i hi => by have := Ents.lt hE i hi; omega
         have ot401 : ∀ i, U i → i ≠ b394 := fun i hi => by have := Ents.lt hY1 i hi; omega
         have ot402 : ∀ i, T i → i ≠ b394 := fun i hi => by have := Ents.lt hE391 i hi; omega
         replace K312 := K312.tn K398
         replace H313 := H313.keep K398 (fun h => h)
         replace hE := Ents.keep0 hE K398
         replace hY1 := Ents.keep0 hY1 K398
         replace hE391 := Ents.keep0 hE391 K398
         refine ⟨K398, ?_⟩
         refine Dr.strong (S' := (fun wz => Keeps none_ w395 wz)) (Keeps.refl w395) (fun wz hx => K398.trans hx (fun i _ h => h) (fun _ _ h => h)) ?_
         clear K398 hs399
         refine Dr.takes (fuel' := 0) (is' := _) [27] [(0, (ptr g)), (1, (i64 a)), (3, (Value.slice B1 ((ys.drop i).length) d1)), (8, (i64 0)), (9, (i64 0)), (10, (i64 0)), (13, (i64 (n + ((ys.length : Nat) : Int)))), (15, (ptr b394))] (by kernel_rfl) rfl (by kernel_rfl) ?_
         refine Dr.done (by kernel_rfl) ?_
         refine qs ?_
         refine qs ?_
         refine qg ?_
         refine og 2 [(0, (ptr g)), (1, (i64 a)), (8, (i64 0)), (9, (i64 0)), (10, (i64 0)), (13, (i64 (n + ((ys.length : Nat) : Int)))), (15, (ptr b394)), (114, (ptr b394)), (115, (Value.slice B1 ((ys.drop i).length) d1))] 2 ?_
         by_cases hq403 : appE base old (l388.map EntP.key) ((ys.drop i).map EntP.key) = 0
         ·skip
          refine Ops.call (by kernel_rfl) (d := (some 116)) (by kernel_rfl) (Append_ok _ T b394 base old A l388 U B1 d1 (ys.drop i) (by have q := H397; rw [← hn392] at q; exact q) (by have q := hE391; rw [← hn392] at q; exact q) ot402 (by omega) (by omega) hY1 ot401 (BigK.take hl389 hBig) (BigK.cut (k := i) (j := ys.length) (by rw [List.take_of_length_le (by simp)]) hBigY) (by omega) hq403) ?_
          rintro _ w408 ⟨l404, A405, c406, T407, rfl, K409, H410, hE411, hK412, hT413⟩
          have ot414 : ∀ i, T407 i → i ≠ g := fun i hi => by rcases (hT413 i hi).2 with h | h; (exact hT i h); (have := H313.lt; omega)
          have ot415 : ∀ i, T407 i → i ≠ b394 := fun i hi => (hT413 i hi).1
          have hn416 := keys_len2 hK412
          try rw [List.length_drop] at hn416
          try rw [List.length_append] at hn416
          try rw [List.length_map] at hn416
          try rw [List.length_map] at hn416
          have hz417 := K312.size
          refine ⟨_, _, rfl, rfl, ?_⟩
          replace K312 := K312.trans K409 (U := (fun i => i = g)) (fun i h1 h2 => h2) (fun i h1 h2 => by have h2 : i = b394 := h2; show i = g; omega)
          replace H313 := H313.k1 K409 (by omega)
          replace hE := Ents.keep hE K409 ot400
          replace hY1 := Ents.keep hY1 K409 ot401
          replace hE391 := Ents.keep hE391 K409 ot402
          clear K409
          refine og 1 [(0, (ptr g)), (1, (i64 a)), (8, (i64 0)), (9, (i64 0)), (10, (i64 0)), (13, (i64 (n + ((ys.length : Nat) : Int)))), (15, (ptr b394)), (16, (i64 0))] 4 ?_
          refine od ?_
          refine qs ?_
          refine qg ?_
          refine og 2 [(0, (ptr g)), (1, (i64 a)), (8, (i64 0)), (9, (i64 0)), (10, (i64 0)), (13, (i64 (n + ((ys.length : Nat) : Int)))), (15, (ptr b394)), (16, (i64 0)), (118, (Value.bool false))] 2 ?_
          refine od ?_
          refine q_else (o := .tmp 118) (by kernel_rfl) rfl ?_
          refine q_skip (by kernel_rfl) ?_
          refine qs ?_
          refine qg ?_
          refine og 4 [(1, (i64 a)), (8, (i64 0)), (9, (i64 0)), (10, (i64 0)), (13, (i64 (n + ((ys.length : Nat) : Int)))), (120, (ptr g)), (123, (Value.pointer (some ⟨b394, 2, none⟩)))] 4 ?_
          refine Ops.go (v := (Value.slice A405 l404.length c406)) (by kernel_rfl) (Runs.load (t := 22) (a := ⟨b394, 2, none⟩) (by kernel_rfl) (H410.loads (by kernel_rfl))) (d := (some 124)) (by kernel_rfl) rfl ?_
          refine og 2 [(1, (i64 a)), (8, (i64 0)), (9, (i64 0)), (10, (i64 0)), (13, (i64 (n + ((ys.length : Nat) : Int)))), (124, (Value.slice A405 l404.length c406)), (126, (Value.pointer (some ⟨g, 2, none⟩)))] 7 ?_
          refine Ops.put (t := 22) (b := g) (off := 2) (v := (Value.slice A405 l404.length c406)) (ys := [(i64 base), (i64 old), (Value.slice A405 l404.length c406)]) (by kernel_rfl) (by kernel_rfl) H313 (by kernel_rfl) (d := none) (by kernel_rfl) rfl (fun w418 H419 K420 => ?_)
          clear H313
          replace K312 := K312.t1 K420 (fun _ => rfl)
          replace H410 := H410.k1 K420 (by omega)
          replace hE := Ents.keep hE K420 hT
          replace hY1 := Ents.keep hY1 K420 hU
          replace hE391 := Ents.keep hE391 K420 hT
          replace hE411 := Ents.keep hE411 K420 ot414
          clear K420
          refine od ?_
          refine qs ?_
          refine qg ?_
          refine og 3 [(8, (i64 0)), (9, (i64 0)), (10, (i64 0)), (127, (i64 (n + ((ys.length : Nat) : Int)))), (129, (i64 (IntKind.i64.wrap (a + 1))))] 3 ?_
          have e421 : IntKind.i64.wrap (a + 1) = a + 1 := wrap_i64 (by omega) (by omega)
          rw [e421]
          refine og 3 [(8, (i64 (n + ((ys.length : Nat) : Int)))), (9, (i64 (a + 1))), (10, (i64 0))] 6 ?_
          refine od ?_
          refine q_ret (by kernel_rfl) ?_
          refine ⟨(Value.tuple #[(i64 (n + ((ys.length : Nat) : Int))), (i64 (a + 1)), (i64 0)]), retv_tmp3 rfl rfl rfl rfl, ?_⟩
          have em : matchK base old (l.map EntP.key) n t0 (ys.map EntP.key) = matchT base old (l.map EntP.key) n (ys.map EntP.key) := by unfold matchK; rw [if_neg (by omega), if_neg (by omega), if_pos (by rw [q157, termK_at (ekey_at hx161)]; exact Prod.ext (by simp only; omega) rfl)]
          have hyz : (ys.map EntP.key).length = ys.length := List.length_map ..
          have hr0 : runK base old (l.map EntP.key) a ((ys.map EntP.key).drop i) = 0 := (runK_ne (k := k322) (by omega) (ekey_at hx324) hyk (by omega))
          rw [hr0, Nat.add_zero] at hrun
          have hkp : (l388.map EntP.key) = (l.map EntP.key).take j := by rw [hl389, List.map_take]
          have hkd : (ys.drop i).map EntP.key = (ys.map EntP.key).drop i := List.map_drop ..
          rw [hkp, hkd] at hq403
          have e := em.trans (matchT_ok hrun (by omega) (by omega) hq403)
          exact ⟨l404, A405, c406, T407, by rw [e, hyz] <;> first | rfl | (rw [ha]; done) | (rw [ha]; rfl), K312, H419, hE411, by rw [e, hK412, hkp, hkd], fun i hi => ⟨ot414 i hi, ((hT413 i hi).2).imp id (fun h => by omega)⟩⟩
         ·skip
          refine Ops.call (by kernel_rfl) (d := (some 116)) (by kernel_rfl) (Append_bad _ T b394 base old A l388 U B1 d1 (ys.drop i) (by have q := H397; rw [← hn392] at q; exact q) (by have q := hE391; rw [← hn392] at q; exact q) ot402 (by omega) (by omega) hY1 ot401 (BigK.take hl389 hBig) (BigK.cut (k := i) (j := ys.length) (by rw [List.take_of_length_le (by simp)]) hBigY) (by omega) hq403) ?_
          rintro _ w423 ⟨rfl, K422⟩
          refine ⟨_, _, rfl, rfl, ?_⟩
          replace K312 := K312.tn K422
          replace H313 := H313.keep K422 (fun h => h)
          replace H397 := H397.keep K422 (fun h => h)
          replace hE := Ents.keep0 hE K422
          replace hY1 := Ents.keep0 hY1 K422
          replace hE391 := Ents.keep0 hE391 K422
          clear K422
          refine og 1 [(0, (ptr g)), (1, (i64 a)), (8, (i64 0)), (9, (i64 0)), (10, (i64 0)), (13, (i64 (n + ((ys.length : Nat) : Int)))), (15, (ptr b394)), (16, (i64 (appE base old (l388.map EntP.key) ((ys.drop i).map EntP.key))))] 4 ?_
          refine od ?_
          refine qs ?_
          refine qg ?_
          refine og 2 [(0, (ptr g)), (1, (i64 a)), (8, (i64 0)), (9, (i64 0)), (10, (i64 0)), (13, (i64 (n + ((ys.length : Nat) : Int)))), (15, (ptr b394)), (16, (i64 (appE base old (l388.map EntP.key) ((ys.drop i).map EntP.key)))), (118, (Value.bool ((appE base old (l388.map EntP.key) ((ys.drop i).map EntP.key)) != 0)))] 2 ?_
          refine od ?_
          have h425 : ((appE base old (l388.map EntP.key) ((ys.drop i).map EntP.key)) != 0) = true := bne_t hq403
          rw [h425]
          refine q_then (o := .tmp 118) (by kernel_rfl) rfl ?_
          refine qs ?_
          refine qg ?_
          refine og 4 [(0, (ptr g)), (1, (i64 a)), (8, (i64 0)), (9, (i64 0)), (10, (i64 (appE base old (l388.map EntP.key) ((ys.drop i).map EntP.key)))), (13, (i64 (n + ((ys.length : Nat) : Int)))), (15, (ptr b394))] 4 ?_
          refine od ?_
          refine q_ret (by kernel_rfl) ?_
          refine ⟨(Value.tuple #[(i64 0), (i64 0), (i64 (appE base old (l388.map EntP.key) ((ys.drop i).map EntP.key)))]), retv_tmp3 rfl rfl rfl rfl, ?_⟩
          have em : matchK base old (l.map EntP.key) n t0 (ys.map EntP.key) = matchT base old (l.map EntP.key) n (ys.map EntP.key) := by unfold matchK; rw [if_neg (by omega), if_neg (by omega), if_pos (by rw [q157, termK_at (ekey_at hx161)]; exact Prod.ext (by simp only; omega) rfl)]
          have hyz : (ys.map EntP.key).length = ys.length := List.length_map ..
          have hr0 : runK base old (l.map EntP.key) a ((ys.map EntP.key).drop i) = 0 := (runK_ne (k := k322) (by omega) (ekey_at hx324) hyk (by omega))
          rw [hr0, Nat.add_zero] at hrun
          have hkp : (l388.map EntP.key) = (l.map EntP.key).take j := by rw [hl389, List.map_take]
          have hkd : (ys.drop i).map EntP.key = (ys.map EntP.key).drop i := List.map_drop ..
          rw [hkp, hkd] at hq403
          have e := em.trans (matchT_bad hrun (by omega) (by omega) hq403)
          exact ⟨l, A, c, T, by rw [e, hkp, hkd], K312, H313, hE, by rw [e], fun i hi => ⟨hT0 i hi, .inl hi⟩⟩
        ·rw [h381]
         have p426 : x323.term = y.term := of_bne_f h381
         have hre := runK_eq (old := old) (k := k322) (by omega) (ekey_at hx324) hyk (by omega)
         refine q_skip (by kernel_rfl) ?_
         refine q_draw (fun wz => Keeps none_ w380 wz) 6 (by kernel_rfl) (by kernel_rfl) (by kernel_rfl) (fun w427 K428 _ _ => ⟨K428, ?_⟩)
         replace K312 := K312.tn K428
         replace H313 := H313.keep K428 (fun h => h)
         replace hE := Ents.keep0 hE K428
         replace hY1 := Ents.keep0 hY1 K428
         refine Dr.strong (S' := (fun wz => Keeps none_ w427 wz)) (Keeps.refl w427) (fun wz hx => K428.trans hx (fun i _ h => h) (fun _ _ h => h)) ?_
         clear K428
         refine Dr.takes (fuel' := 4) (is' := _) [0, 1] [(0, (ptr g)), (1, (i64 a)), (3, (Value.slice B1 ((ys.drop i).length) d1)), (8, (i64 0)), (9, (i64 0)), (10, (i64 0)), (13, (i64 (n + ((ys.length : Nat) : Int)))), (80, (i64 (IntKind.i64.wrap (a + 1))))] (by kernel_rfl) rfl (by kernel_rfl) ?_
         have e429 : IntKind.i64.wrap (a + 1) = a + 1 := wrap_i64 (by omega) (by omega)
         rw [e429]
         obtain ⟨A435, c436, hr432, hE433⟩ := Ents.cutRun (P := Try.prog) (t := 22) (e := 43) (by kernel_rfl) (by kernel_rfl) hY1 1 ((ys.drop i).length) (kl := .i64) (hi := none) (.inl ⟨rfl, rfl⟩) (by omega) (by omega)
         have he437 : ((ys.drop i).drop 1).take ((ys.drop i).length - 1) = ys.drop (i + 1) := by rw [List.drop_drop]; exact List.take_of_length_le (by rw [List.length_drop, List.length_drop]; omega)
         rw [he437] at hr432 hE433
         refine Dr.takes (fuel' := 3) (is' := _) [2] [(0, (ptr g)), (1, (i64 a)), (3, (Value.slice B1 ((ys.drop i).length) d1)), (8, (i64 0)), (9, (i64 0)), (10, (i64 0)), (13, (i64 (n + ((ys.length : Nat) : Int)))), (80, (i64 (a + 1))), (81, (Value.slice B1 ((ys.drop i).length) d1))] (by kernel_rfl) rfl (by kernel_rfl) ?_
         refine Dr.take (i := 3) (v := (Value.slice A435 ((ys.drop (i + 1)).length) c436)) (by kernel_rfl) (by kernel_rfl) (fun wz hS => Runs.slice (by kernel_rfl) (hr432 _)) (d := (some 82)) (by kernel_rfl) rfl ?_
         refine Dr.takes (fuel' := 0) (is' := _) [4, 5] [(0, (ptr g)), (1, (i64 (a + 1))), (3, (Value.slice A435 ((ys.drop (i + 1)).length) c436)), (8, (i64 0)), (9, (i64 0)), (10, (i64 0)), (13, (i64 (n + ((ys.length : Nat) : Int))))] (by kernel_rfl) rfl (by kernel_rfl) ?_
         refine Dr.keep (R := [(0, (ptr g)), (1, (i64 (a + 1))), (3, (Value.slice A435 ((ys.drop (i + 1)).length) c436)), (8, (i64 0)), (9, (i64 0)), (10, (i64 0)), (13, (i64 (n + ((ys.length : Nat) : Int))))]) (by kernel_rfl) ?_
         refine Dr.done (by kernel_rfl) ?_
         exact ⟨(a + 1, i + 1, A435, c436), ⟨rfl, (by omega), (by rw [hrun, hre, List.drop_drop]; omega), (by omega), (by omega), hE433, hE, K312, H313⟩, (show ys.length - (i + 1) < ys.length - i from by omega)⟩
      ·rw [h314]
       have p438 : ¬ ((((ys.drop i).length : Nat) : Int) > 0) := of_decide_eq_false h314
       refine q_exit (id := 1) (by kernel_rfl) ?_
       refine qs ?_
       refine qs ?_
       refine qg ?_
       refine og 3 [(0, (ptr g)), (1, (i64 a)), (3, (Value.slice B1 ((ys.drop i).length) d1)), (8, (i64 0)), (9, (i64 0)), (10, (i64 0)), (13, (i64 (n + ((ys.length : Nat) : Int)))), (85, (Value.bool ((((ys.drop i).length : Nat) : Int) == 0)))] 3 ?_
       refine od ?_
       have h439 : ((((ys.drop i).length : Nat) : Int) == 0) = true := beq_t (by omega)
       rw [h439]
       refine q_then (o := .tmp 85) (by kernel_rfl) rfl ?_
       refine qs ?_
       refine qg ?_
       refine og 4 [(0, (ptr g)), (1, (i64 a)), (3, (Value.slice B1 ((ys.drop i).length) d1)), (8, (i64 (n + ((ys.length : Nat) : Int)))), (9, (i64 0)), (10, (i64 0)), (13, (i64 (n + ((ys.length : Nat) : Int))))] 4 ?_
       refine od ?_
       refine q_ret (by kernel_rfl) ?_
       refine ⟨(Value.tuple #[(i64 (n + ((ys.length : Nat) : Int))), (i64 0), (i64 0)]), retv_tmp3 rfl rfl rfl rfl, ?_⟩
       have em : matchK base old (l.map EntP.key) n t0 (ys.map EntP.key) = matchT base old (l.map EntP.key) n (ys.map EntP.key) := by unfold matchK; rw [if_neg (by omega), if_neg (by omega), if_pos (by rw [q157, termK_at (ekey_at hx161)]; exact Prod.ext (by simp only; omega) rfl)]
       have hyz : (ys.map EntP.key).length = ys.length := List.length_map ..
       have hr0 : runK base old (l.map EntP.key) a ((ys.map EntP.key).drop i) = 0 := by rw [List.drop_of_length_le (by omega)]; rfl
       have e := em.trans (matchT_end (by rw [hrun, hr0]; omega))
       exact ⟨l, A, c, T, by rw [e, hyz], K312, H313, hE, by rw [e], fun i hi => ⟨hT0 i hi, .inl hi⟩⟩
end Go.Proofs.Ytnmpepjikfbpdaa
namespace Go.Q
/-- What matching with a part of another log comes to. -/
structure MatchLaw (ks ms : Ks) (n t : Int) (ys : Ks) : Prop where
  err : (matchK 0 0 ks n t ys).1.2.2 = 0 ∨ (matchK 0 0 ks n t ys).1.2.2 = 1
  told : (matchK 0 0 ks n t ys).1.2.2 = 0 → (matchK 0 0 ks n t ys).1.1 = n + (ys.length : Int)
  same : (matchK 0 0 ks n t ys).1.2.2 = 0 → ∀ k, 0 ≤ k → k ≤ n + (ys.length : Int) → termK 0 0 (matchK 0 0 ks n t ys).2 k = termK 0 0 ms k ∧ (termK 0 0 ms k).2 = 0
  again : (matchK 0 0 ks n t ys).1.2.2 = 0 → matchK 0 0 (matchK 0 0 ks n t ys).2 n t ys = ((n + (ys.length : Int), 0, 0), (matchK 0 0 ks n t ys).2)
theorem matchK_len {base old n t : Int} {ks ys : Ks} (h : ks.length ≤ 4096) : (matchK base old ks n t ys).2.length ≤ 4096 := by
  have hT : ∀ m zs, (matchT base old ks m zs).2.length ≤ 4096 := by
    intro m zs
    unfold matchT
    split
    · exact h
    · split
      · exact h
      · next ha =>
        have := (appE_ok (Decidable.not_not.1 ha)).1
        simp only [List.length_append]
        exact this
  unfold matchK
  split
  · exact h
  · split
    · split
      · exact h
      · exact hT _ _
    · split
      · exact hT _ _
      · exact h
end Go.Q
namespace Go.Proofs.Ytnmpepjikfbpdaa
open Go.Q Go.RowKit

theorem late1_calls (w : World) (x : EntP) (b : Nat) (m : MsgP) (E : Option Addr) (ec : Nat) (D : Option Addr) (dc : Nat) (Hb : Has w b (rowL [(i64 m.kind), (i64 m.group), (i64 m.frm), (i64 m.to), (i64 m.term), (i64 m.index), (i64 m.logTerm), (i64 m.commit), (Value.bool m.ok), (Value.slice E m.entries.length ec), (Value.slice D m.data.length dc)] 46)) : Calls Try.prog 63 ⟨[(agg [(i64 x.term), (Value.slice x.A x.cmd.length x.c)]), (ptr b)]⟩ w (fun e w' => ∃ t, e = .returned (.bool t) ∧ Keeps none_ w w') := by
 have Hbl := Hb.lt
 have K0 : Keeps none_ w w := Keeps.refl w
 refine q_calls Try.func63 (by kernel_rfl) (by kernel_rfl) ?_
 refine qs ?_
 refine qg ?_
 refine Ops.new (o := rowL [(i64 x.term), (Value.slice x.A x.cmd.length x.c)] 43) (V := fun b => (ptr b)) (by kernel_rfl) (d := (some 2)) (by kernel_rfl) (fun b => rfl) (fun b1 w2 hb3 H4 K5 hs6 => ?_)
 have lb1b : b < b1 := by have := Hb.lt; omega
 have nb1 : w.heap.size ≤ b1 := by have := K0.size; omega
 replace K0 := K0.t0 K5
 replace Hb := Hb.keep K5 (fun h => h)
 clear K5 hs6
 refine og 1 [(1, (ptr b)), (2, (ptr b1)), (3, (Value.bool false))] 2 ?_
 refine od ?_
 refine qs ?_
 refine qg ?_
 refine og 1 [(1, (ptr b)), (3, (Value.bool false)), (4, (ptr b1))] 1 ?_
 refine Ops.go (v := (i64 x.term)) (by kernel_rfl) (Runs.load (t := 2) (a := ⟨b1, 0, none⟩) (by kernel_rfl) (H4.loads (by kernel_rfl))) (d := (some 5)) (by kernel_rfl) rfl ?_
 refine og 1 [(3, (Value.bool false)), (5, (i64 x.term)), (6, (Value.pointer (some ⟨b, 4, none⟩)))] 3 ?_
 refine Ops.go (v := (i64 m.term)) (by kernel_rfl) (Runs.load (t := 2) (a := ⟨b, 4, none⟩) (by kernel_rfl) (Hb.loads (by kernel_rfl))) (d := (some 7)) (by kernel_rfl) rfl ?_
 refine og 2 [(3, (Value.bool (decide (x.term > m.term))))] 6 ?_
 refine od ?_
 refine q_ret (by kernel_rfl) ?_
 refine ⟨(Value.bool (decide (x.term > m.term))), retv_tmp rfl rfl, ?_⟩
 exact ⟨_, rfl, K0⟩

theorem lateIx_calls (w : World) (b : Nat) (m : MsgP) (E : Option Addr) (ec : Nat) (D : Option Addr) (dc : Nat) (U : Nat → Prop) (Hb : Has w b (rowL [(i64 m.kind), (i64 m.group), (i64 m.frm), (i64 m.to), (i64 m.term), (i64 m.index), (i64 m.logTerm), (i64 m.commit), (Value.bool m.ok), (Value.slice E m.entries.length ec), (Value.slice D m.data.length dc)] 46)) (hY : Ents w U (.slice E m.entries.length ec) m.entries) (hBigY : BigK (m.entries.map EntP.key)) (hYl : m.entries.length * 32 ≤ 140737488351232) : Calls Try.prog 70 ⟨[(Value.slice E m.entries.length ec), (Value.func (Fn.func 63) ⟨[]⟩ ⟨[(ptr b)]⟩)]⟩ w (fun e w' => ∃ j : Int, e = .returned (i64 j) ∧ Keeps none_ w w') := by
 have Hbl := Hb.lt
 have hcy := Ents.len hY
 have hcm := hcy.2.2
 unfold maxLen at hcm
 have K0 : Keeps none_ w w := Keeps.refl w
 refine q_calls Try.func70 (by kernel_rfl) (by kernel_rfl) ?_
 refine qs ?_
 refine qg ?_
 refine og 1 [(0, (Value.slice E m.entries.length ec)), (1, (Value.func (Fn.func 63) ⟨[]⟩ ⟨[(ptr b)]⟩)), (4, (i64 0))] 1 ?_
 refine od ?_
 refine qs ?_
 refine qs ?_
 refine qg ?_
 refine og 3 [(0, (Value.slice E m.entries.length ec)), (1, (Value.func (Fn.func 63) ⟨[]⟩ ⟨[(ptr b)]⟩)), (4, (i64 0)), (7, (i64 ((m.entries.length : Nat) : Int))), (8, (i64 0))] 3 ?_
 refine od ?_
 refine q_block (id := 0) (by kernel_rfl) ?_
 refine q_keep (R := [(0, (Value.slice E m.entries.length ec)), (1, (Value.func (Fn.func 63) ⟨[]⟩ ⟨[(ptr b)]⟩)), (4, (i64 0)), (7, (i64 ((m.entries.length : Nat) : Int))), (8, (i64 0))]) (by kernel_rfl) ?_
 refine q_loop (fun (i : Nat) L (wx : World) => L = [(0, (Value.slice E m.entries.length ec)), (1, (Value.func (Fn.func 63) ⟨[]⟩ ⟨[(ptr b)]⟩)), (4, (i64 0)), (7, (i64 ((m.entries.length : Nat) : Int))), (8, (i64 ((i : Nat) : Int)))] ∧ i ≤ m.entries.length ∧ Ents wx U (.slice E m.entries.length ec) m.entries ∧ Keeps none_ w wx ∧ Has wx b (rowL [(i64 m.kind), (i64 m.group), (i64 m.frm), (i64 m.to), (i64 m.term), (i64 m.index), (i64 m.logTerm), (i64 m.commit), (Value.bool m.ok), (Value.slice E m.entries.length ec), (Value.slice D m.data.length dc)] 46)) (fun (i : Nat) => m.entries.length - i) 0 (by kernel_rfl) ⟨rfl, Nat.zero_le _, hY, K0, Hb⟩ ?_
 clear Hb hY K0
 rintro i _ w1 ⟨rfl, hi, hY, K2, H3⟩
 refine qs ?_
 refine qg ?_
 refine og 1 [(0, (Value.slice E m.entries.length ec)), (1, (Value.func (Fn.func 63) ⟨[]⟩ ⟨[(ptr b)]⟩)), (4, (i64 0)), (7, (i64 ((m.entries.length : Nat) : Int))), (8, (i64 ((i : Nat) : Int))), (9, (Value.bool (decide (((i : Nat) : Int) < ((m.entries.length : Nat) : Int)))))] 1 ?_
 refine od ?_
 refine qs ?_
 refine q_cond (o := .tmp 9) (b := (decide (((i : Nat) : Int) < ((m.entries.length : Nat) : Int)))) (by kernel_rfl) rfl (fun h4 => ?_) (fun h4 => ?_)
 ·rw [h4]
  have p5 : ((i : Nat) : Int) < ((m.entries.length : Nat) : Int) := of_decide_eq_true h4
  refine q_skip (by kernel_rfl) ?_
  refine qs ?_
  refine q_block (id := 1) (by kernel_rfl) ?_
  refine qs ?_
  refine qg ?_
  refine og 2 [(0, (Value.slice E m.entries.length ec)), (1, (Value.func (Fn.func 63) ⟨[]⟩ ⟨[(ptr b)]⟩)), (4, (i64 0)), (5, (i64 ((i : Nat) : Int))), (7, (i64 ((m.entries.length : Nat) : Int))), (8, (i64 ((i : Nat) : Int)))] 2 ?_
  refine od ?_
  refine qs ?_
  refine qg ?_
  refine og 3 [(0, (Value.slice E m.entries.length ec)), (1, (Value.func (Fn.func 63) ⟨[]⟩ ⟨[(ptr b)]⟩)), (4, (i64 0)), (5, (i64 ((i : Nat) : Int))), (7, (i64 ((m.entries.length : Nat) : Int))), (8, (i64 ((i : Nat) : Int))), (11, (Value.func (Fn.func 63) ⟨[]⟩ ⟨[(ptr b)]⟩)), (12, (Value.slice E m.entries.length ec)), (13, (i64 ((i : Nat) : Int)))] 3 ?_
  obtain ⟨x, hx⟩ : ∃ y, m.entries[i]? = some y := ⟨_, List.getElem?_eq_getElem (by omega)⟩
  obtain ⟨rb6, ro7, hA8⟩ := Rd.addr (Ents.rd hY) (by omega)
  refine Ops.go (by kernel_rfl) (Runs.ixSliceE (k := IntKind.i64) (t := 22) (len := m.entries.length) (cap := ec) (s := 2) (off' := ro7 + i * 2) (i := ((i : Nat) : Int)) hA8 (by kernel_rfl) (by kernel_rfl) (by omega) (by omega) (by omega)) (d := (some 14)) (by kernel_rfl) rfl ?_
  refine Ops.go (v := (agg [(i64 x.term), (Value.slice x.A x.cmd.length x.c)])) (by kernel_rfl) (Runs.load (t := 43) (a := ⟨rb6, ro7 + i * 2, none⟩) (by kernel_rfl) (RdT.ld (f := EntP.cells) (x := x) EntP.two (Ents.rd hY) (by kernel_rfl) (by kernel_rfl) hA8 hx)) (d := (some 15)) (by kernel_rfl) rfl ?_
  refine Ops.call (by kernel_rfl) (d := (some 16)) (by kernel_rfl) (late1_calls _ x b m E ec D dc H3) ?_
  rintro _ w11 ⟨t9, rfl, K10⟩
  refine ⟨_, _, rfl, rfl, ?_⟩
  replace K2 := K2.trans K10 (U := none_) (fun i h1 h2 => h2) (fun i h1 h2 => by exact h2)
  replace H3 := H3.keep K10 (fun h => h)
  replace hY := Ents.keep0 hY K10
  clear K10
  refine od ?_
  refine q_cond (o := .tmp 16) (b := t9) (by kernel_rfl) rfl (fun h12 => ?_) (fun h12 => ?_)
  ·rw [h12]
   have p13 : t9 = true := h12
   refine qs ?_
   refine qg ?_
   refine og 2 [(0, (Value.slice E m.entries.length ec)), (1, (Value.func (Fn.func 63) ⟨[]⟩ ⟨[(ptr b)]⟩)), (4, (i64 ((i : Nat) : Int))), (7, (i64 ((m.entries.length : Nat) : Int))), (8, (i64 ((i : Nat) : Int)))] 2 ?_
   refine od ?_
   refine q_ret (by kernel_rfl) ?_
   refine ⟨(i64 ((i : Nat) : Int)), retv_tmp rfl rfl, ?_⟩
   exact ⟨_, rfl, K2⟩
  ·rw [h12]
   have p14 : t9 = false := h12
   refine q_skip (by kernel_rfl) ?_
   refine qg ?_
   refine og 1 [(0, (Value.slice E m.entries.length ec)), (1, (Value.func (Fn.func 63) ⟨[]⟩ ⟨[(ptr b)]⟩)), (4, (i64 0)), (7, (i64 ((m.entries.length : Nat) : Int))), (8, (i64 ((i : Nat) : Int))), (18, (i64 (IntKind.i64.wrap (((i : Nat) : Int) + 1))))] 1 ?_
   have e15 : IntKind.i64.wrap (((i : Nat) : Int) + 1) = ((i + 1 : Nat) : Int) := by rw [wrap_i64 (by omega) (by omega)]; omega
   rw [e15]
   clear e15
   refine og 1 [(0, (Value.slice E m.entries.length ec)), (1, (Value.func (Fn.func 63) ⟨[]⟩ ⟨[(ptr b)]⟩)), (4, (i64 0)), (7, (i64 ((m.entries.length : Nat) : Int))), (8, (i64 ((i + 1 : Nat) : Int)))] 2 ?_
   refine Ops.keep (R := [(0, (Value.slice E m.entries.length ec)), (1, (Value.func (Fn.func 63) ⟨[]⟩ ⟨[(ptr b)]⟩)), (4, (i64 0)), (7, (i64 ((m.entries.length : Nat) : Int))), (8, (i64 ((i + 1 : Nat) : Int)))]) (by kernel_rfl) ?_
   refine od ?_
   exact ⟨i + 1, ⟨rfl, (by omega), hY, K2, H3⟩, (show m.entries.length - (i + 1) < m.entries.length - i from by omega)⟩
 ·rw [h4]
  have p16 : ¬ (((i : Nat) : Int) < ((m.entries.length : Nat) : Int)) := of_decide_eq_false h4
  refine q_exit (id := 0) (by kernel_rfl) ?_
  refine qs ?_
  refine qg ?_
  refine og 1 [(4, (i64 (-1)))] 1 ?_
  refine od ?_
  refine q_ret (by kernel_rfl) ?_
  refine ⟨(i64 (-1)), retv_tmp rfl rfl, ?_⟩
  exact ⟨_, rfl, K2⟩

theorem late_calls (w : World) (b : Nat) (m : MsgP) (E : Option Addr) (ec : Nat) (D : Option Addr) (dc : Nat) (U : Nat → Prop) (Hb : Has w b (rowL [(i64 m.kind), (i64 m.group), (i64 m.frm), (i64 m.to), (i64 m.term), (i64 m.index), (i64 m.logTerm), (i64 m.commit), (Value.bool m.ok), (Value.slice E m.entries.length ec), (Value.slice D m.data.length dc)] 46)) (hY : Ents w U (.slice E m.entries.length ec) m.entries) (hBigY : BigK (m.entries.map EntP.key)) (hYl : m.entries.length * 32 ≤ 140737488351232) : Calls Try.prog 62 ⟨[(Value.slice E m.entries.length ec), (Value.func (Fn.func 63) ⟨[]⟩ ⟨[(ptr b)]⟩)]⟩ w (fun e w' => ∃ t, e = .returned (.bool t) ∧ Keeps none_ w w') := by
 have Hbl := Hb.lt
 have K0 : Keeps none_ w w := Keeps.refl w
 refine q_calls Try.func62 (by kernel_rfl) (by kernel_rfl) ?_
 refine qs ?_
 refine qg ?_
 refine og 1 [(0, (Value.slice E m.entries.length ec)), (1, (Value.func (Fn.func 63) ⟨[]⟩ ⟨[(ptr b)]⟩)), (4, (Value.bool false))] 1 ?_
 refine od ?_
 refine qs ?_
 refine qg ?_
 refine og 2 [(4, (Value.bool false)), (5, (Value.slice E m.entries.length ec)), (6, (Value.func (Fn.func 63) ⟨[]⟩ ⟨[(ptr b)]⟩))] 2 ?_
 refine Ops.call (by kernel_rfl) (d := (some 7)) (by kernel_rfl) (lateIx_calls _ b m E ec D dc U Hb hY hBigY hYl) ?_
 rintro _ w3 ⟨t1, rfl, K2⟩
 refine ⟨_, _, rfl, rfl, ?_⟩
 replace K0 := K0.t0 K2
 replace Hb := Hb.keep K2 (fun h => h)
 replace hY := Ents.keep0 hY K2
 clear K2
 refine og 2 [(4, (Value.bool (decide (t1 ≥ 0))))] 5 ?_
 refine od ?_
 refine q_ret (by kernel_rfl) ?_
 refine ⟨(Value.bool (decide (t1 ≥ 0))), retv_tmp rfl rfl, ?_⟩
 exact ⟨_, rfl, K0⟩

set_option maxHeartbeats 2000000 in
theorem add_calls (w : World) (r g : Nat) (term voted leader commit group me n elapsed timeout : Int) (kv cv : Value) (came : Bool) (T : Nat → Prop) (base old : Int) (A : Option Addr) (c : Nat) (l : List EntP) (m : MsgP) (E : Option Addr) (ec : Nat) (D : Option Addr) (dc : Nat) (U : Nat → Prop) (Hr : Has w r (rowL [(i64 term), (i64 voted), (i64 0), (i64 leader), (i64 commit), (i64 group), (i64 me), (i64 n), (ptr g), (i64 elapsed), (i64 timeout), (Value.slice none 0 0), (Value.map none), (Value.slice none 0 0), kv, cv, (Value.bool came), (Value.slice none 0 0)] 84)) (H0 : Has w g (rowL [i64 base, i64 old, .slice A l.length c] 78)) (hE : Ents w T (.slice A l.length c) l) (hT : ∀ i, T i → i ≠ g) (hB : 0 ≤ base ∧ base ≤ 2305843009213693952) (hL : l.length ≤ 4096) (hrg : r ≠ g) (hrT : ∀ i, T i → i ≠ r) (hBig : BigK (l.map EntP.key)) (hY : Ents w U (.slice E m.entries.length ec) m.entries) (hBigY : BigK (m.entries.map EntP.key)) (hYl : m.entries.length * 32 ≤ 140737488351232) (hUr : ∀ i, U i → i ≠ r) (hUg : ∀ i, U i → i ≠ g) (hm : 0 ≤ m.index ∧ m.index ≤ 1152921504606846976 ∧ 0 ≤ m.commit ∧ m.commit ≤ 1152921504606846976 ∧ -9223372036854775808 ≤ m.logTerm ∧ m.logTerm ≤ 9223372036854775807) (hcm : commit ≤ 2305843009213693952) (hb0 : base ≤ commit) : Calls Try.prog 49 ⟨[(ptr r), (MV m.kind m.ok m E ec D dc)]⟩ w (fun e w' => ∃ (g' : Nat) (A' : Option Addr) (c' : Nat) (l' : List EntP) (T' : Nat → Prop) (cm : Int) (ob cap : Nat) (rest : List Value) (ix : Int) (ok : Bool), e = .returned (.tuple #[]) ∧ Keeps (fun i => i = r) w w' ∧ Has w' r (rowL [(i64 term), (i64 voted), (i64 0), (i64 m.frm), (i64 cm), (i64 group), (i64 me), (i64 n), (ptr g'), (i64 0), (i64 timeout), (Value.slice none 0 0), (Value.map none), (Value.slice none 0 0), kv, cv, (Value.bool came), (.slice (some ⟨ob, 0, none⟩) 1 cap)] 84) ∧ Has w' g' (rowL [i64 base, i64 old, .slice A' l'.length c'] 78) ∧ Ents w' T' (.slice A' l'.length c') l' ∧ l'.length ≤ 4096 ∧ BigK (l'.map EntP.key) ∧ (∀ i, T' i → i ≠ g' ∧ i ≠ r ∧ (T i ∨ w.heap.size ≤ i)) ∧ (g' = g ∨ w.heap.size ≤ g') ∧ r ≠ g' ∧ (commit ≤ cm ∧ cm ≤ 2305843009213693952) ∧ Has w' ob (rowL ([(i64 4), (i64 group), (i64 me), (i64 m.frm), (i64 term), (i64 ix), (i64 0), (i64 0), (Value.bool ok), (Value.slice none 0 0), (Value.slice none 0 0)] ++ rest) 46) ∧ w.heap.size ≤ ob) := by
 have hcap := Ents.len hE
 have Hg := H0.lt
 have Hrl := Hr.lt
 have hUl := Ents.lt hY
 have K0 : Keeps (fun i => i = r) w w := (Keeps.refl w).mono (fun _ _ h => h.elim)
 refine q_calls Try.func49 (by kernel_rfl) (by kernel_rfl) ?_
 refine qs ?_
 refine qg ?_
 refine Ops.new (o := rowL [(i64 m.kind), (i64 m.group), (i64 m.frm), (i64 m.to), (i64 m.term), (i64 m.index), (i64 m.logTerm), (i64 m.commit), (Value.bool m.ok), (Value.slice E m.entries.length ec), (Value.slice D m.data.length dc)] 46) (V := fun b => (ptr b)) (by kernel_rfl) (d := (some 3)) (by kernel_rfl) (fun b => rfl) (fun b1 w2 hb3 H4 K5 hs6 => ?_)
 have lb1r : r < b1 := by have := Hr.lt; omega
 have lb1g : g < b1 := by have := H0.lt; omega
 have nb1 : w.heap.size ≤ b1 := by have := K0.size; omega
 have ot7 : ∀ i, T i → i ≠ b1 := fun i hi => by have := Ents.lt hE i hi; omega
 have ot8 : ∀ i, U i → i ≠ b1 := fun i hi => by have := Ents.lt hY i hi; omega
 replace K0 := K0.tn K5
 replace Hr := Hr.keep K5 (fun h => h)
 replace H0 := H0.keep K5 (fun h => h)
 replace hE := Ents.keep0 hE K5
 replace hY := Ents.keep0 hY K5
 clear K5 hs6
 refine od ?_
 refine qs ?_
 refine qg ?_
 refine og 2 [(0, (ptr r)), (3, (ptr b1)), (11, (ptr r)), (12, (Value.pointer (some ⟨b1, 2, none⟩)))] 2 ?_
 refine Ops.go (v := (i64 m.frm)) (by kernel_rfl) (Runs.load (t := 3) (a := ⟨b1, 2, none⟩) (by kernel_rfl) (H4.loads (by kernel_rfl))) (d := (some 13)) (by kernel_rfl) rfl ?_
 refine Ops.call (by kernel_rfl) (d := (some 14)) (by kernel_rfl) (Ffollow_calls _ r g term voted leader commit group me n elapsed timeout kv cv came m.frm Hr) ?_
 rintro _ w10 ⟨rfl, K9, H11⟩
 refine ⟨_, _, rfl, rfl, ?_⟩
 replace K0 := K0.t1 K9 (fun _ => rfl)
 replace H0 := H0.k1 K9 (by omega)
 replace H4 := H4.k1 K9 (by omega)
 replace hE := Ents.keep hE K9 hrT
 replace hY := Ents.keep hY K9 hUr
 clear K9
 refine od ?_
 refine qs ?_
 refine qg ?_
 refine og 1 [(0, (ptr r)), (3, (ptr b1)), (15, (Value.pointer (some ⟨b1, 9, none⟩)))] 1 ?_
 refine Ops.go (v := (Value.slice E m.entries.length ec)) (by kernel_rfl) (Runs.load (t := 22) (a := ⟨b1, 9, none⟩) (by kernel_rfl) (H4.loads (by kernel_rfl))) (d := (some 16)) (by kernel_rfl) rfl ?_
 refine og 1 [(0, (ptr r)), (3, (ptr b1)), (16, (Value.slice E m.entries.length ec)), (17, (Value.func (Fn.func 63) ⟨[]⟩ ⟨[(ptr b1)]⟩))] 3 ?_
 refine Ops.call (by kernel_rfl) (d := (some 18)) (by kernel_rfl) (late_calls _ b1 m E ec D dc U H4 hY hBigY hYl) ?_
 rintro _ w14 ⟨t12, rfl, K13⟩
 refine ⟨_, _, rfl, rfl, ?_⟩
 replace K0 := K0.tn K13
 replace H11 := H11.keep K13 (fun h => h)
 replace H0 := H0.keep K13 (fun h => h)
 replace H4 := H4.keep K13 (fun h => h)
 replace hE := Ents.keep0 hE K13
 replace hY := Ents.keep0 hY K13
 clear K13
 refine og 1 [(0, (ptr r)), (3, (ptr b1)), (4, (Value.bool t12))] 5 ?_
 refine od ?_
 refine qs ?_
 refine qg ?_
 refine og 3 [(0, (ptr r)), (3, (ptr b1)), (4, (Value.bool t12)), (21, (Value.pointer (some ⟨r, 8, none⟩)))] 3 ?_
 refine Ops.go (v := (ptr g)) (by kernel_rfl) (Runs.load (t := 24) (a := ⟨r, 8, none⟩) (by kernel_rfl) (H11.loads (by kernel_rfl))) (d := (some 22)) (by kernel_rfl) rfl ?_
 have hz00 := K0.size
 refine Ops.call (by kernel_rfl) (d := (some 23)) (by kernel_rfl) (Copy_calls _ T g base old A c l H0 hE hT (by omega) (by omega) hBig) ?_
 rintro _ w19 ⟨g15, l16, A17, c18, rfl, hg24, K20, H21, hE22, hK23⟩
 have ot25 : ∀ i, (fun i => (w14.heap.size ≤ i ∧ i < w19.heap.size) ∧ i ≠ g15) i → i ≠ r := fun i hi => by have := hi.1.1; have := H11.lt; omega
 have lg15r : r < g15 := by have := H11.lt; omega
 have ot26 : ∀ i, (fun i => (w14.heap.size ≤ i ∧ i < w19.heap.size) ∧ i ≠ g15) i → i ≠ g := fun i hi => by have := hi.1.1; have := H0.lt; omega
 have lg15g : g < g15 := by have := H0.lt; omega
 have ot27 : ∀ i, (fun i => (w14.heap.size ≤ i ∧ i < w19.heap.size) ∧ i ≠ g15) i → i ≠ b1 := fun i hi => by have := hi.1.1; have := H4.lt; omega
 have lg15b1 : b1 < g15 := by have := H4.lt; omega
 have ot28 : ∀ i, T i → i ≠ g15 := fun i hi => by have := Ents.lt hE i hi; omega
 have ot29 : ∀ i, U i → i ≠ g15 := fun i hi => by have := Ents.lt hY i hi; omega
 have ot30 : ∀ i, (fun i => (w14.heap.size ≤ i ∧ i < w19.heap.size) ∧ i ≠ g15) i → i ≠ g15 := fun i hi => hi.2
 have ng15 : w.heap.size ≤ g15 := by have := K0.size; omega
 have hn31 := keys_len2 hK23
 try rw [List.length_drop] at hn31
 try rw [List.length_append] at hn31
 try rw [List.length_map] at hn31
 try rw [List.length_map] at hn31
 refine ⟨_, _, rfl, rfl, ?_⟩
 replace K0 := K0.tn K20
 replace H11 := H11.keep K20 (fun h => h)
 replace H0 := H0.keep K20 (fun h => h)
 replace H4 := H4.keep K20 (fun h => h)
 replace hE := Ents.keep0 hE K20
 replace hY := Ents.keep0 hY K20
 clear K20
 refine og 1 [(0, (ptr r)), (3, (ptr b1)), (4, (Value.bool t12)), (5, (ptr g15))] 6 ?_
 refine od ?_
 refine qs ?_
 refine qg ?_
 refine og 2 [(0, (ptr r)), (3, (ptr b1)), (4, (Value.bool t12)), (5, (ptr g15)), (25, (ptr g15)), (26, (Value.pointer (some ⟨b1, 5, none⟩)))] 2 ?_
 refine Ops.go (v := (i64 m.index)) (by kernel_rfl) (Runs.load (t := 2) (a := ⟨b1, 5, none⟩) (by kernel_rfl) (H4.loads (by kernel_rfl))) (d := (some 27)) (by kernel_rfl) rfl ?_
 refine og 1 [(0, (ptr r)), (3, (ptr b1)), (4, (Value.bool t12)), (5, (ptr g15)), (25, (ptr g15)), (27, (i64 m.index)), (28, (Value.pointer (some ⟨b1, 6, none⟩)))] 4 ?_
 refine Ops.go (v := (i64 m.logTerm)) (by kernel_rfl) (Runs.load (t := 2) (a := ⟨b1, 6, none⟩) (by kernel_rfl) (H4.loads (by kernel_rfl))) (d := (some 29)) (by kernel_rfl) rfl ?_
 refine og 1 [(0, (ptr r)), (3, (ptr b1)), (4, (Value.bool t12)), (5, (ptr g15)), (25, (ptr g15)), (27, (i64 m.index)), (29, (i64 m.logTerm)), (30, (Value.pointer (some ⟨b1, 9, none⟩)))] 6 ?_
 refine Ops.go (v := (Value.slice E m.entries.length ec)) (by kernel_rfl) (Runs.load (t := 22) (a := ⟨b1, 9, none⟩) (by kernel_rfl) (H4.loads (by kernel_rfl))) (d := (some 31)) (by kernel_rfl) rfl ?_
 refine Ops.call (by kernel_rfl) (d := (some 32)) (by kernel_rfl) (Match_calls _ (fun i => (w14.heap.size ≤ i ∧ i < w19.heap.size) ∧ i ≠ g15) g15 base old A17 c18 l16 m.index m.logTerm U E ec m.entries H21 hE22 ot30 (by omega) (by omega) (by omega) (by omega) hY ot29 (BigK.keys hK23 hBig) hBigY (by omega)) ?_
 rintro _ w36 ⟨l32, A33, c34, T35, rfl, K37, H38, hE39, hK40, hT41⟩
 have ot42 : ∀ i, T35 i → i ≠ r := fun i hi => by rcases (hT41 i hi).2 with h | h; (exact ot25 i h); (have := H11.lt; omega)
 have ot43 : ∀ i, T35 i → i ≠ g := fun i hi => by rcases (hT41 i hi).2 with h | h; (exact ot26 i h); (have := H0.lt; omega)
 have ot44 : ∀ i, T35 i → i ≠ b1 := fun i hi => by rcases (hT41 i hi).2 with h | h; (exact ot27 i h); (have := H4.lt; omega)
 have ot45 : ∀ i, T35 i → i ≠ g15 := fun i hi => (hT41 i hi).1
 have hn46 := keys_len2 hK40
 try rw [List.length_drop] at hn46
 try rw [List.length_append] at hn46
 try rw [List.length_map] at hn46
 try rw [List.length_map] at hn46
 have hz47 := K0.size
 refine ⟨_, _, rfl, rfl, ?_⟩
 replace K0 := K0.trans K37 (U := (fun i => i = r)) (fun i h1 h2 => h2) (fun i h1 h2 => by have h2 : i = g15 := h2; show i = r; omega)
 replace H11 := H11.k1 K37 (by omega)
 replace H0 := H0.k1 K37 (by omega)
 replace H4 := H4.k1 K37 (by omega)
 replace hE := Ents.keep hE K37 ot28
 replace hY := Ents.keep hY K37 ot29
 replace hE22 := Ents.keep hE22 K37 ot30
 clear K37
 refine og 7 [(0, (ptr r)), (3, (ptr b1)), (4, (Value.bool t12)), (5, (ptr g15)), (6, (i64 ((matchK base old (l16.map EntP.key) m.index m.logTerm (m.entries.map EntP.key)).1.1))), (7, (i64 ((matchK base old (l16.map EntP.key) m.index m.logTerm (m.entries.map EntP.key)).1.2.1))), (8, (i64 ((matchK base old (l16.map EntP.key) m.index m.logTerm (m.entries.map EntP.key)).1.2.2)))] 15 ?_
 refine od ?_
 refine qs ?_
 refine qs ?_
 refine qg ?_
 refine og 2 [(0, (ptr r)), (3, (ptr b1)), (5, (ptr g15)), (6, (i64 ((matchK base old (l16.map EntP.key) m.index m.logTerm (m.entries.map EntP.key)).1.1))), (7, (i64 ((matchK base old (l16.map EntP.key) m.index m.logTerm (m.entries.map EntP.key)).1.2.1))), (8, (i64 ((matchK base old (l16.map EntP.key) m.index m.logTerm (m.entries.map EntP.key)).1.2.2))), (37, (Value.bool t12))] 2 ?_
 refine Ops.split t12 (fun h48 => ?_) (fun h48 => ?_)
 ·rw [h48]
  have p49 : t12 = true := h48
  refine og 16 [(0, (ptr r)), (3, (ptr b1)), (5, (ptr g15)), (6, (i64 ((matchK base old (l16.map EntP.key) m.index m.logTerm (m.entries.map EntP.key)).1.1))), (53, (Value.bool true))] 18 ?_
  refine od ?_
  refine q_then (o := .tmp 53) (by kernel_rfl) rfl ?_
  refine qs ?_
  refine qg ?_
  refine og 3 [(0, (ptr r)), (3, (ptr b1)), (5, (ptr g15)), (6, (i64 ((matchK base old (l16.map EntP.key) m.index m.logTerm (m.entries.map EntP.key)).1.1))), (57, (Value.pointer (some ⟨r, 8, none⟩)))] 3 ?_
  refine Ops.go (v := (ptr g)) (by kernel_rfl) (Runs.load (t := 24) (a := ⟨r, 8, none⟩) (by kernel_rfl) (H11.loads (by kernel_rfl))) (d := (some 58)) (by kernel_rfl) rfl ?_
  refine Ops.call (by kernel_rfl) (d := (some 59)) (by kernel_rfl) (Last_calls _ T g base old A c l H0 hE hT (by omega) (by omega)) ?_
  rintro _ w51 ⟨rfl, K50⟩
  refine ⟨_, _, rfl, rfl, ?_⟩
  replace K0 := K0.tn K50
  replace H11 := H11.keep K50 (fun h => h)
  replace H0 := H0.keep K50 (fun h => h)
  replace H4 := H4.keep K50 (fun h => h)
  replace H38 := H38.keep K50 (fun h => h)
  replace hE := Ents.keep0 hE K50
  replace hY := Ents.keep0 hY K50
  replace hE22 := Ents.keep0 hE22 K50
  replace hE39 := Ents.keep0 hE39 K50
  clear K50
  refine og 5 [(0, (ptr r)), (3, (ptr b1)), (5, (ptr g15)), (6, (i64 ((matchK base old (l16.map EntP.key) m.index m.logTerm (m.entries.map EntP.key)).1.1))), (9, (i64 (base + ((l.length : Nat) : Int))))] 10 ?_
  refine od ?_
  refine qs ?_
  refine qg ?_
  refine og 2 [(0, (ptr r)), (3, (ptr b1)), (5, (ptr g15)), (6, (i64 ((matchK base old (l16.map EntP.key) m.index m.logTerm (m.entries.map EntP.key)).1.1))), (9, (i64 (base + ((l.length : Nat) : Int)))), (62, (ptr r)), (63, (Value.pointer (some ⟨b1, 2, none⟩)))] 2 ?_
  refine Ops.go (v := (i64 m.frm)) (by kernel_rfl) (Runs.load (t := 3) (a := ⟨b1, 2, none⟩) (by kernel_rfl) (H4.loads (by kernel_rfl))) (d := (some 64)) (by kernel_rfl) rfl ?_
  refine og 1 [(0, (ptr r)), (3, (ptr b1)), (5, (ptr g15)), (6, (i64 ((matchK base old (l16.map EntP.key) m.index m.logTerm (m.entries.map EntP.key)).1.1))), (9, (i64 (base + ((l.length : Nat) : Int)))), (62, (ptr r)), (64, (i64 m.frm)), (65, (Value.pointer (some ⟨b1, 5, none⟩)))] 4 ?_
  refine Ops.go (v := (i64 m.index)) (by kernel_rfl) (Runs.load (t := 2) (a := ⟨b1, 5, none⟩) (by kernel_rfl) (H4.loads (by kernel_rfl))) (d := (some 66)) (by kernel_rfl) rfl ?_
  refine og 1 [(0, (ptr r)), (3, (ptr b1)), (5, (ptr g15)), (6, (i64 ((matchK base old (l16.map EntP.key) m.index m.logTerm (m.entries.map EntP.key)).1.1))), (9, (i64 (base + ((l.length : Nat) : Int)))), (62, (ptr r)), (64, (i64 m.frm)), (67, (i64 (IntKind.i64.wrap (m.index - 1))))] 6 ?_
  have e52 : IntKind.i64.wrap (m.index - 1) = m.index - 1 := wrap_i64 (by omega) (by omega)
  rw [e52]
  refine og 1 [(0, (ptr r)), (3, (ptr b1)), (5, (ptr g15)), (6, (i64 ((matchK base old (l16.map EntP.key) m.index m.logTerm (m.entries.map EntP.key)).1.1))), (9, (i64 (base + ((l.length : Nat) : Int)))), (62, (ptr r)), (64, (i64 m.frm)), (68, (i64 (if (0 : Int) > (m.index - 1) then (0 : Int) else (m.index - 1))))] 7 ?_
  have e53 : (if (0 : Int) > (m.index - 1) then (0 : Int) else (m.index - 1)) = max (m.index - 1) 0 := by split <;> omega
  rw [e53]
  clear e53
  refine og 2 [(0, (ptr r)), (3, (ptr b1)), (5, (ptr g15)), (6, (i64 ((matchK base old (l16.map EntP.key) m.index m.logTerm (m.entries.map EntP.key)).1.1))), (62, (ptr r)), (64, (i64 m.frm)), (70, (i64 (if (base + ((l.length : Nat) : Int) : Int) < (max (m.index - 1) 0) then (base + ((l.length : Nat) : Int) : Int) else (max (m.index - 1) 0))))] 9 ?_
  have e54 : (if (base + ((l.length : Nat) : Int) : Int) < (max (m.index - 1) 0) then (base + ((l.length : Nat) : Int) : Int) else (max (m.index - 1) 0)) = min (max (m.index - 1) 0) (base + ((l.length : Nat) : Int)) := by split <;> omega
  rw [e54]
  clear e54
  refine og 1 [(0, (ptr r)), (3, (ptr b1)), (5, (ptr g15)), (6, (i64 ((matchK base old (l16.map EntP.key) m.index m.logTerm (m.entries.map EntP.key)).1.1))), (62, (ptr r)), (64, (i64 m.frm)), (71, (agg [(i64 4), (i64 0), (i64 0), (i64 0), (i64 0), (i64 (min (max (m.index - 1) 0) (base + ((l.length : Nat) : Int)))), (i64 0), (i64 0), (Value.bool false), (Value.slice none 0 0), (Value.slice none 0 0)]))] 10 ?_
  refine Ops.call (by kernel_rfl) (d := (some 72)) (by kernel_rfl) (Fput_calls _ r g term voted m.frm commit group me n 0 timeout kv cv came m.frm 4 (min (max (m.index - 1) 0) (base + ((l.length : Nat) : Int))) 0 false H11) ?_
  rintro _ w59 ⟨ob55, cap56, rest57, rfl, K58, H60, H61, hn62⟩
  have nob55 : w.heap.size ≤ ob55 := by have := K0.size; omega
  have lob55r : r < ob55 := by have := H11.lt; omega
  have lob55g : g < ob55 := by have := H0.lt; omega
  have lob55b1 : b1 < ob55 := by have := H4.lt; omega
  have lob55g15 : g15 < ob55 := by have := H38.lt; omega
  have ot63 : ∀ i, T i → i ≠ ob55 := fun i hi => by have := Ents.lt hE i hi; omega
  have ot64 : ∀ i, U i → i ≠ ob55 := fun i hi => by have := Ents.lt hY i hi; omega
  have ot65 : ∀ i, (fun i => (w14.heap.size ≤ i ∧ i < w19.heap.size) ∧ i ≠ g15) i → i ≠ ob55 := fun i hi => by have := Ents.lt hE22 i hi; omega
  have ot66 : ∀ i, T35 i → i ≠ ob55 := fun i hi => by have := Ents.lt hE39 i hi; omega
  refine ⟨_, _, rfl, rfl, ?_⟩
  replace K0 := K0.t1 K58 (fun _ => rfl)
  replace H0 := H0.k1 K58 (by omega)
  replace H4 := H4.k1 K58 (by omega)
  replace H38 := H38.k1 K58 (by omega)
  replace hE := Ents.keep hE K58 hrT
  replace hY := Ents.keep hY K58 hUr
  replace hE22 := Ents.keep hE22 K58 ot25
  replace hE39 := Ents.keep hE39 K58 ot42
  clear K58
  refine od ?_
  refine q_ret (by kernel_rfl) ?_
  refine ⟨(Value.tuple #[]), retv_none rfl, ?_⟩
  exact ⟨g, A, c, l, T, _, ob55, cap56, rest57, _, _, rfl, K0, H60, H0, hE, hL, hBig, fun i hi => ⟨hT i hi, hrT i hi, .inl hi⟩, .inl rfl, hrg, ⟨by omega, by omega⟩, H61, nob55⟩
 ·rw [h48]
  have p67 : t12 = false := h48
  refine og 4 [(0, (ptr r)), (3, (ptr b1)), (5, (ptr g15)), (6, (i64 ((matchK base old (l16.map EntP.key) m.index m.logTerm (m.entries.map EntP.key)).1.1))), (7, (i64 ((matchK base old (l16.map EntP.key) m.index m.logTerm (m.entries.map EntP.key)).1.2.1))), (41, (Value.bool (((matchK base old (l16.map EntP.key) m.index m.logTerm (m.entries.map EntP.key)).1.2.2) != 0)))] 6 ?_
  refine Ops.split (((matchK base old (l16.map EntP.key) m.index m.logTerm (m.entries.map EntP.key)).1.2.2) != 0) (fun h68 => ?_) (fun h68 => ?_)
  ·rw [h68]
   have p69 : ¬ ((matchK base old (l16.map EntP.key) m.index m.logTerm (m.entries.map EntP.key)).1.2.2 = 0) := of_bne_t h68
   refine og 12 [(0, (ptr r)), (3, (ptr b1)), (5, (ptr g15)), (6, (i64 ((matchK base old (l16.map EntP.key) m.index m.logTerm (m.entries.map EntP.key)).1.1))), (53, (Value.bool true))] 18 ?_
   refine od ?_
   refine q_then (o := .tmp 53) (by kernel_rfl) rfl ?_
   refine qs ?_
   refine qg ?_
   refine og 3 [(0, (ptr r)), (3, (ptr b1)), (5, (ptr g15)), (6, (i64 ((matchK base old (l16.map EntP.key) m.index m.logTerm (m.entries.map EntP.key)).1.1))), (57, (Value.pointer (some ⟨r, 8, none⟩)))] 3 ?_
   refine Ops.go (v := (ptr g)) (by kernel_rfl) (Runs.load (t := 24) (a := ⟨r, 8, none⟩) (by kernel_rfl) (H11.loads (by kernel_rfl))) (d := (some 58)) (by kernel_rfl) rfl ?_
   refine Ops.call (by kernel_rfl) (d := (some 59)) (by kernel_rfl) (Last_calls _ T g base old A c l H0 hE hT (by omega) (by omega)) ?_
   rintro _ w71 ⟨rfl, K70⟩
   refine ⟨_, _, rfl, rfl, ?_⟩
   replace K0 := K0.tn K70
   replace H11 := H11.keep K70 (fun h => h)
   replace H0 := H0.keep K70 (fun h => h)
   replace H4 := H4.keep K70 (fun h => h)
   replace H38 := H38.keep K70 (fun h => h)
   replace hE := Ents.keep0 hE K70
   replace hY := Ents.keep0 hY K70
   replace hE22 := Ents.keep0 hE22 K70
   replace hE39 := Ents.keep0 hE39 K70
   clear K70
   refine og 5 [(0, (ptr r)), (3, (ptr b1)), (5, (ptr g15)), (6, (i64 ((matchK base old (l16.map EntP.key) m.index m.logTerm (m.entries.map EntP.key)).1.1))), (9, (i64 (base + ((l.length : Nat) : Int))))] 10 ?_
   refine od ?_
   refine qs ?_
   refine qg ?_
   refine og 2 [(0, (ptr r)), (3, (ptr b1)), (5, (ptr g15)), (6, (i64 ((matchK base old (l16.map EntP.key) m.index m.logTerm (m.entries.map EntP.key)).1.1))), (9, (i64 (base + ((l.length : Nat) : Int)))), (62, (ptr r)), (63, (Value.pointer (some ⟨b1, 2, none⟩)))] 2 ?_
   refine Ops.go (v := (i64 m.frm)) (by kernel_rfl) (Runs.load (t := 3) (a := ⟨b1, 2, none⟩) (by kernel_rfl) (H4.loads (by kernel_rfl))) (d := (some 64)) (by kernel_rfl) rfl ?_
   refine og 1 [(0, (ptr r)), (3, (ptr b1)), (5, (ptr g15)), (6, (i64 ((matchK base old (l16.map EntP.key) m.index m.logTerm (m.entries.map EntP.key)).1.1))), (9, (i64 (base + ((l.length : Nat) : Int)))), (62, (ptr r)), (64, (i64 m.frm)), (65, (Value.pointer (some ⟨b1, 5, none⟩)))] 4 ?_
   refine Ops.go (v := (i64 m.index)) (by kernel_rfl) (Runs.load (t := 2) (a := ⟨b1, 5, none⟩) (by kernel_rfl) (H4.loads (by kernel_rfl))) (d := (some 66)) (by kernel_rfl) rfl ?_
   refine og 1 [(0, (ptr r)), (3, (ptr b1)), (5, (ptr g15)), (6, (i64 ((matchK base old (l16.map EntP.key) m.index m.logTerm (m.entries.map EntP.key)).1.1))), (9, (i64 (base + ((l.length : Nat) : Int)))), (62, (ptr r)), (64, (i64 m.frm)), (67, (i64 (IntKind.i64.wrap (m.index - 1))))] 6 ?_
   have e72 : IntKind.i64.wrap (m.index - 1) = m.index - 1 := wrap_i64 (by omega) (by omega)
   rw [e72]
   refine og 1 [(0, (ptr r)), (3, (ptr b1)), (5, (ptr g15)), (6, (i64 ((matchK base old (l16.map EntP.key) m.index m.logTerm (m.entries.map EntP.key)).1.1))), (9, (i64 (base + ((l.length : Nat) : Int)))), (62, (ptr r)), (64, (i64 m.frm)), (68, (i64 (if (0 : Int) > (m.index - 1) then (0 : Int) else (m.index - 1))))] 7 ?_
   have e73 : (if (0 : Int) > (m.index - 1) then (0 : Int) else (m.index - 1)) = max (m.index - 1) 0 := by split <;> omega
   rw [e73]
   clear e73
   refine og 2 [(0, (ptr r)), (3, (ptr b1)), (5, (ptr g15)), (6, (i64 ((matchK base old (l16.map EntP.key) m.index m.logTerm (m.entries.map EntP.key)).1.1))), (62, (ptr r)), (64, (i64 m.frm)), (70, (i64 (if (base + ((l.length : Nat) : Int) : Int) < (max (m.index - 1) 0) then (base + ((l.length : Nat) : Int) : Int) else (max (m.index - 1) 0))))] 9 ?_
   have e74 : (if (base + ((l.length : Nat) : Int) : Int) < (max (m.index - 1) 0) then (base + ((l.length : Nat) : Int) : Int) else (max (m.index - 1) 0)) = min (max (m.index - 1) 0) (base + ((l.length : Nat) : Int)) := by split <;> omega
   rw [e74]
   clear e74
   refine og 1 [(0, (ptr r)), (3, (ptr b1)), (5, (ptr g15)), (6, (i64 ((matchK base old (l16.map EntP.key) m.index m.logTerm (m.entries.map EntP.key)).1.1))), (62, (ptr r)), (64, (i64 m.frm)), (71, (agg [(i64 4), (i64 0), (i64 0), (i64 0), (i64 0), (i64 (min (max (m.index - 1) 0) (base + ((l.length : Nat) : Int)))), (i64 0), (i64 0), (Value.bool false), (Value.slice none 0 0), (Value.slice none 0 0)]))] 10 ?_
   refine Ops.call (by kernel_rfl) (d := (some 72)) (by kernel_rfl) (Fput_calls _ r g term voted m.frm commit group me n 0 timeout kv cv came m.frm 4 (min (max (m.index - 1) 0) (base + ((l.length : Nat) : Int))) 0 false H11) ?_
   rintro _ w79 ⟨ob75, cap76, rest77, rfl, K78, H80, H81, hn82⟩
   have nob75 : w.heap.size ≤ ob75 := by have := K0.size; omega
   have lob75r : r < ob75 := by have := H11.lt; omega
   have lob75g : g < ob75 := by have := H0.lt; omega
   have lob75b1 : b1 < ob75 := by have := H4.lt; omega
   have lob75g15 : g15 < ob75 := by have := H38.lt; omega
   have ot83 : ∀ i, T i → i ≠ ob75 := fun i hi => by have := Ents.lt hE i hi; omega
   have ot84 : ∀ i, U i → i ≠ ob75 := fun i hi => by have := Ents.lt hY i hi; omega
   have ot85 : ∀ i, (fun i => (w14.heap.size ≤ i ∧ i < w19.heap.size) ∧ i ≠ g15) i → i ≠ ob75 := fun i hi => by have := Ents.lt hE22 i hi; omega
   have ot86 : ∀ i, T35 i → i ≠ ob75 := fun i hi => by have := Ents.lt hE39 i hi; omega
   refine ⟨_, _, rfl, rfl, ?_⟩
   replace K0 := K0.t1 K78 (fun _ => rfl)
   replace H0 := H0.k1 K78 (by omega)
   replace H4 := H4.k1 K78 (by omega)
   replace H38 := H38.k1 K78 (by omega)
   replace hE := Ents.keep hE K78 hrT
   replace hY := Ents.keep hY K78 hUr
   replace hE22 := Ents.keep hE22 K78 ot25
   replace hE39 := Ents.keep hE39 K78 ot42
   clear K78
   refine od ?_
   refine q_ret (by kernel_rfl) ?_
   refine ⟨(Value.tuple #[]), retv_none rfl, ?_⟩
   exact ⟨g, A, c, l, T, _, ob75, cap76, rest77, _, _, rfl, K0, H80, H0, hE, hL, hBig, fun i hi => ⟨hT i hi, hrT i hi, .inl hi⟩, .inl rfl, hrg, ⟨by omega, by omega⟩, H81, nob75⟩
  ·rw [h68]
   have p87 : (matchK base old (l16.map EntP.key) m.index m.logTerm (m.entries.map EntP.key)).1.2.2 = 0 := of_bne_f h68
   refine og 3 [(0, (ptr r)), (3, (ptr b1)), (5, (ptr g15)), (6, (i64 ((matchK base old (l16.map EntP.key) m.index m.logTerm (m.entries.map EntP.key)).1.1))), (7, (i64 ((matchK base old (l16.map EntP.key) m.index m.logTerm (m.entries.map EntP.key)).1.2.1))), (41, (Value.bool false)), (44, (Value.bool (decide ((matchK base old (l16.map EntP.key) m.index m.logTerm (m.entries.map EntP.key)).1.2.1 > 0))))] 9 ?_
   refine Ops.split (decide ((matchK base old (l16.map EntP.key) m.index m.logTerm (m.entries.map EntP.key)).1.2.1 > 0)) (fun h88 => ?_) (fun h88 => ?_)
   ·rw [h88]
    have p89 : (matchK base old (l16.map EntP.key) m.index m.logTerm (m.entries.map EntP.key)).1.2.1 > 0 := of_decide_eq_true h88
    refine og 5 [(0, (ptr r)), (3, (ptr b1)), (5, (ptr g15)), (6, (i64 ((matchK base old (l16.map EntP.key) m.index m.logTerm (m.entries.map EntP.key)).1.1))), (41, (Value.bool false)), (44, (Value.bool true)), (45, (i64 ((matchK base old (l16.map EntP.key) m.index m.logTerm (m.entries.map EntP.key)).1.2.1))), (49, (Value.pointer (some ⟨r, 4, none⟩)))] 14 ?_
    refine Ops.go (v := (i64 commit)) (by kernel_rfl) (Runs.load (t := 2) (a := ⟨r, 4, none⟩) (by kernel_rfl) (H11.loads (by kernel_rfl))) (d := (some 50)) (by kernel_rfl) rfl ?_
    refine og 3 [(0, (ptr r)), (3, (ptr b1)), (5, (ptr g15)), (6, (i64 ((matchK base old (l16.map EntP.key) m.index m.logTerm (m.entries.map EntP.key)).1.1))), (53, (Value.bool (decide ((matchK base old (l16.map EntP.key) m.index m.logTerm (m.entries.map EntP.key)).1.2.1 ≤ commit))))] 18 ?_
    refine od ?_
    refine q_cond (o := .tmp 53) (b := (decide ((matchK base old (l16.map EntP.key) m.index m.logTerm (m.entries.map EntP.key)).1.2.1 ≤ commit))) (by kernel_rfl) rfl (fun h90 => ?_) (fun h90 => ?_)
    ·rw [h90]
     have p91 : (matchK base old (l16.map EntP.key) m.index m.logTerm (m.entries.map EntP.key)).1.2.1 ≤ commit := of_decide_eq_true h90
     refine qs ?_
     refine qg ?_
     refine og 3 [(0, (ptr r)), (3, (ptr b1)), (5, (ptr g15)), (6, (i64 ((matchK base old (l16.map EntP.key) m.index m.logTerm (m.entries.map EntP.key)).1.1))), (57, (Value.pointer (some ⟨r, 8, none⟩)))] 3 ?_
     refine Ops.go (v := (ptr g)) (by kernel_rfl) (Runs.load (t := 24) (a := ⟨r, 8, none⟩) (by kernel_rfl) (H11.loads (by kernel_rfl))) (d := (some 58)) (by kernel_rfl) rfl ?_
     refine Ops.call (by kernel_rfl) (d := (some 59)) (by kernel_rfl) (Last_calls _ T g base old A c l H0 hE hT (by omega) (by omega)) ?_
     rintro _ w93 ⟨rfl, K92⟩
     refine ⟨_, _, rfl, rfl, ?_⟩
     replace K0 := K0.tn K92
     replace H11 := H11.keep K92 (fun h => h)
     replace H0 := H0.keep K92 (fun h => h)
     replace H4 := H4.keep K92 (fun h => h)
     replace H38 := H38.keep K92 (fun h => h)
     replace hE := Ents.keep0 hE K92
     replace hY := Ents.keep0 hY K92
     replace hE22 := Ents.keep0 hE22 K92
     replace hE39 := Ents.keep0 hE39 K92
     clear K92
     refine og 5 [(0, (ptr r)), (3, (ptr b1)), (5, (ptr g15)), (6, (i64 ((matchK base old (l16.map EntP.key) m.index m.logTerm (m.entries.map EntP.key)).1.1))), (9, (i64 (base + ((l.length : Nat) : Int))))] 10 ?_
     refine od ?_
     refine qs ?_
     refine qg ?_
     refine og 2 [(0, (ptr r)), (3, (ptr b1)), (5, (ptr g15)), (6, (i64 ((matchK base old (l16.map EntP.key) m.index m.logTerm (m.entries.map EntP.key)).1.1))), (9, (i64 (base + ((l.length : Nat) : Int)))), (62, (ptr r)), (63, (Value.pointer (some ⟨b1, 2, none⟩)))] 2 ?_
     refine Ops.go (v := (i64 m.frm)) (by kernel_rfl) (Runs.load (t := 3) (a := ⟨b1, 2, none⟩) (by kernel_rfl) (H4.loads (by kernel_rfl))) (d := (some 64)) (by kernel_rfl) rfl ?_
     refine og 1 [(0, (ptr r)), (3, (ptr b1)), (5, (ptr g15)), (6, (i64 ((matchK base old (l16.map EntP.key) m.index m.logTerm (m.entries.map EntP.key)).1.1))), (9, (i64 (base + ((l.length : Nat) : Int)))), (62, (ptr r)), (64, (i64 m.frm)), (65, (Value.pointer (some ⟨b1, 5, none⟩)))] 4 ?_
     refine Ops.go (v := (i64 m.index)) (by kernel_rfl) (Runs.load (t := 2) (a := ⟨b1, 5, none⟩) (by kernel_rfl) (H4.loads (by kernel_rfl))) (d := (some 66)) (by kernel_rfl) rfl ?_
     refine og 1 [(0, (ptr r)), (3, (ptr b1)), (5, (ptr g15)), (6, (i64 ((matchK base old (l16.map EntP.key) m.index m.logTerm (m.entries.map EntP.key)).1.1))), (9, (i64 (base + ((l.length : Nat) : Int)))), (62, (ptr r)), (64, (i64 m.frm)), (67, (i64 (IntKind.i64.wrap (m.index - 1))))] 6 ?_
     have e94 : IntKind.i64.wrap (m.index - 1) = m.index - 1 := wrap_i64 (by omega) (by omega)
     rw [e94]
     refine og 1 [(0, (ptr r)), (3, (ptr b1)), (5, (ptr g15)), (6, (i64 ((matchK base old (l16.map EntP.key) m.index m.logTerm (m.entries.map EntP.key)).1.1))), (9, (i64 (base + ((l.length : Nat) : Int)))), (62, (ptr r)), (64, (i64 m.frm)), (68, (i64 (if (0 : Int) > (m.index - 1) then (0 : Int) else (m.index - 1))))] 7 ?_
     have e95 : (if (0 : Int) > (m.index - 1) then (0 : Int) else (m.index - 1)) = max (m.index - 1) 0 := by split <;> omega
     rw [e95]
     clear e95
     refine og 2 [(0, (ptr r)), (3, (ptr b1)), (5, (ptr g15)), (6, (i64 ((matchK base old (l16.map EntP.key) m.index m.logTerm (m.entries.map EntP.key)).1.1))), (62, (ptr r)), (64, (i64 m.frm)), (70, (i64 (if (base + ((l.length : Nat) : Int) : Int) < (max (m.index - 1) 0) then (base + ((l.length : Nat) : Int) : Int) else (max (m.index - 1) 0))))] 9 ?_
     have e96 : (if (base + ((l.length : Nat) : Int) : Int) < (max (m.index - 1) 0) then (base + ((l.length : Nat) : Int) : Int) else (max (m.index - 1) 0)) = min (max (m.index - 1) 0) (base + ((l.length : Nat) : Int)) := by split <;> omega
     rw [e96]
     clear e96
     refine og 1 [(0, (ptr r)), (3, (ptr b1)), (5, (ptr g15)), (6, (i64 ((matchK base old (l16.map EntP.key) m.index m.logTerm (m.entries.map EntP.key)).1.1))), (62, (ptr r)), (64, (i64 m.frm)), (71, (agg [(i64 4), (i64 0), (i64 0), (i64 0), (i64 0), (i64 (min (max (m.index - 1) 0) (base + ((l.length : Nat) : Int)))), (i64 0), (i64 0), (Value.bool false), (Value.slice none 0 0), (Value.slice none 0 0)]))] 10 ?_
     refine Ops.call (by kernel_rfl) (d := (some 72)) (by kernel_rfl) (Fput_calls _ r g term voted m.frm commit group me n 0 timeout kv cv came m.frm 4 (min (max (m.index - 1) 0) (base + ((l.length : Nat) : Int))) 0 false H11) ?_
     rintro _ w101 ⟨ob97, cap98, rest99, rfl, K100, H102, H103, hn104⟩
     have nob97 : w.heap.size ≤ ob97 := by have := K0.size; omega
     have lob97r : r < ob97 := by have := H11.lt; omega
     have lob97g : g < ob97 := by have := H0.lt; omega
     have lob97b1 : b1 < ob97 := by have := H4.lt; omega
     have lob97g15 : g15 < ob97 := by have := H38.lt; omega
     have ot105 : ∀ i, T i → i ≠ ob97 := fun i hi => by have := Ents.lt hE i hi; omega
     have ot106 : ∀ i, U i → i ≠ ob97 := fun i hi => by have := Ents.lt hY i hi; omega
     have ot107 : ∀ i, (fun i => (w14.heap.size ≤ i ∧ i < w19.heap.size) ∧ i ≠ g15) i → i ≠ ob97 := fun i hi => by have := Ents.lt hE22 i hi; omega
     have ot108 : ∀ i, T35 i → i ≠ ob97 := fun i hi => by have := Ents.lt hE39 i hi; omega
     refine ⟨_, _, rfl, rfl, ?_⟩
     replace K0 := K0.t1 K100 (fun _ => rfl)
     replace H0 := H0.k1 K100 (by omega)
     replace H4 := H4.k1 K100 (by omega)
     replace H38 := H38.k1 K100 (by omega)
     replace hE := Ents.keep hE K100 hrT
     replace hY := Ents.keep hY K100 hUr
     replace hE22 := Ents.keep hE22 K100 ot25
     replace hE39 := Ents.keep hE39 K100 ot42
     clear K100
     refine od ?_
     refine q_ret (by kernel_rfl) ?_
     refine ⟨(Value.tuple #[]), retv_none rfl, ?_⟩
     exact ⟨g, A, c, l, T, _, ob97, cap98, rest99, _, _, rfl, K0, H102, H0, hE, hL, hBig, fun i hi => ⟨hT i hi, hrT i hi, .inl hi⟩, .inl rfl, hrg, ⟨by omega, by omega⟩, H103, nob97⟩
    ·rw [h90]
     have p109 : ¬ ((matchK base old (l16.map EntP.key) m.index m.logTerm (m.entries.map EntP.key)).1.2.1 ≤ commit) := of_decide_eq_false h90
     refine q_skip (by kernel_rfl) ?_
     refine qs ?_
     refine qg ?_
     refine og 4 [(0, (ptr r)), (3, (ptr b1)), (6, (i64 ((matchK base old (l16.map EntP.key) m.index m.logTerm (m.entries.map EntP.key)).1.1))), (74, (ptr g15)), (76, (Value.pointer (some ⟨r, 8, none⟩)))] 4 ?_
     refine Ops.put (t := 24) (b := r) (off := 8) (v := (ptr g15)) (ys := [(i64 term), (i64 voted), (i64 0), (i64 m.frm), (i64 commit), (i64 group), (i64 me), (i64 n), (ptr g15), (i64 0), (i64 timeout), (Value.slice none 0 0), (Value.map none), (Value.slice none 0 0), kv, cv, (Value.bool came), (Value.slice none 0 0)]) (by kernel_rfl) (by kernel_rfl) H11 (by kernel_rfl) (d := none) (by kernel_rfl) rfl (fun w110 H111 K112 => ?_)
     clear H11
     replace K0 := K0.t1 K112 (fun _ => rfl)
     replace H0 := H0.k1 K112 (by omega)
     replace H4 := H4.k1 K112 (by omega)
     replace H38 := H38.k1 K112 (by omega)
     replace hE := Ents.keep hE K112 hrT
     replace hY := Ents.keep hY K112 hUr
     replace hE22 := Ents.keep hE22 K112 ot25
     replace hE39 := Ents.keep hE39 K112 ot42
     clear K112
     refine od ?_
     refine qs ?_
     refine q_draw (fun wz => Keeps (fun i => i = r) w110 wz) 15 (by kernel_rfl) (by kernel_rfl) (by kernel_rfl) (fun w113 K114 _ _ => ⟨(K114.mono (fun _ _ h => h.elim)), ?_⟩)
     replace K0 := K0.tn K114
     replace H111 := H111.keep K114 (fun h => h)
     replace H0 := H0.keep K114 (fun h => h)
     replace H4 := H4.keep K114 (fun h => h)
     replace H38 := H38.keep K114 (fun h => h)
     replace hE := Ents.keep0 hE K114
     replace hY := Ents.keep0 hY K114
     replace hE22 := Ents.keep0 hE22 K114
     replace hE39 := Ents.keep0 hE39 K114
     refine Dr.strong (S' := (fun wz => Keeps (fun i => i = r) w113 wz)) ((Keeps.refl w113).mono (fun _ _ h => h.elim)) (fun wz hx => K114.trans hx (fun i _ h => h.elim) (fun _ _ h => h)) ?_
     clear K114
     refine Dr.takes (fuel' := 9) (is' := _) [0, 1, 2, 3, 4, 6] [(0, (ptr r)), (3, (ptr b1)), (6, (i64 ((matchK base old (l16.map EntP.key) m.index m.logTerm (m.entries.map EntP.key)).1.1))), (77, (ptr r)), (81, (Value.pointer (some ⟨r, 4, none⟩))), (83, (Value.pointer (some ⟨b1, 7, none⟩)))] (by kernel_rfl) rfl (by kernel_rfl) ?_
     refine Dr.take (i := 7) (v := (i64 m.commit)) (by kernel_rfl) (by kernel_rfl) (fun wz hS => Runs.load (t := 2) (a := ⟨b1, 7, none⟩) (by kernel_rfl) ((H4.keep hS (by intro h; change b1 = r at h; omega)).loads (by kernel_rfl))) (d := (some 84)) (by kernel_rfl) rfl ?_
     refine Dr.takes (fuel' := 6) (is' := _) [8, 9] [(0, (ptr r)), (3, (ptr b1)), (6, (i64 ((matchK base old (l16.map EntP.key) m.index m.logTerm (m.entries.map EntP.key)).1.1))), (77, (ptr r)), (81, (Value.pointer (some ⟨r, 4, none⟩))), (86, (i64 (if ((matchK base old (l16.map EntP.key) m.index m.logTerm (m.entries.map EntP.key)).1.1 : Int) < m.commit then ((matchK base old (l16.map EntP.key) m.index m.logTerm (m.entries.map EntP.key)).1.1 : Int) else m.commit)))] (by kernel_rfl) rfl (by kernel_rfl) ?_
     have e115 : (if ((matchK base old (l16.map EntP.key) m.index m.logTerm (m.entries.map EntP.key)).1.1 : Int) < m.commit then ((matchK base old (l16.map EntP.key) m.index m.logTerm (m.entries.map EntP.key)).1.1 : Int) else m.commit) = min m.commit ((matchK base old (l16.map EntP.key) m.index m.logTerm (m.entries.map EntP.key)).1.1) := by split <;> omega
     rw [e115]
     clear e115
     refine Dr.go (i := 5) (v := (i64 commit)) (by kernel_rfl) (by kernel_rfl) (Runs.load (t := 2) (a := ⟨r, 4, none⟩) (by kernel_rfl) (H111.loads (by kernel_rfl))) (d := (some 82)) (by kernel_rfl) rfl ((Keeps.refl _).mono (fun _ _ h => h.elim)) ?_
     refine Dr.takes (fuel' := 4) (is' := _) [10] [(0, (ptr r)), (3, (ptr b1)), (6, (i64 ((matchK base old (l16.map EntP.key) m.index m.logTerm (m.entries.map EntP.key)).1.1))), (77, (ptr r)), (87, (i64 (if (min m.commit ((matchK base old (l16.map EntP.key) m.index m.logTerm (m.entries.map EntP.key)).1.1) : Int) > commit then (min m.commit ((matchK base old (l16.map EntP.key) m.index m.logTerm (m.entries.map EntP.key)).1.1) : Int) else commit)))] (by kernel_rfl) rfl (by kernel_rfl) ?_
     have e116 : (if (min m.commit ((matchK base old (l16.map EntP.key) m.index m.logTerm (m.entries.map EntP.key)).1.1) : Int) > commit then (min m.commit ((matchK base old (l16.map EntP.key) m.index m.logTerm (m.entries.map EntP.key)).1.1) : Int) else commit) = max commit (min m.commit ((matchK base old (l16.map EntP.key) m.index m.logTerm (m.entries.map EntP.key)).1.1)) := by split <;> omega
     rw [e116]
     clear e116
     refine Dr.takes (fuel' := 1) (is' := _) [11, 12, 13] [(0, (ptr r)), (3, (ptr b1)), (6, (i64 ((matchK base old (l16.map EntP.key) m.index m.logTerm (m.entries.map EntP.key)).1.1))), (87, (i64 (max commit (min m.commit ((matchK base old (l16.map EntP.key) m.index m.logTerm (m.entries.map EntP.key)).1.1))))), (90, (Value.pointer (some ⟨r, 4, none⟩)))] (by kernel_rfl) rfl (by kernel_rfl) ?_
     refine Dr.put (i := 14) (t := 2) (b := r) (off := 4) (v := (i64 (max commit (min m.commit ((matchK base old (l16.map EntP.key) m.index m.logTerm (m.entries.map EntP.key)).1.1))))) (ys := [(i64 term), (i64 voted), (i64 0), (i64 m.frm), (i64 (max commit (min m.commit ((matchK base old (l16.map EntP.key) m.index m.logTerm (m.entries.map EntP.key)).1.1)))), (i64 group), (i64 me), (i64 n), (ptr g15), (i64 0), (i64 timeout), (Value.slice none 0 0), (Value.map none), (Value.slice none 0 0), kv, cv, (Value.bool came), (Value.slice none 0 0)]) (by kernel_rfl) (by kernel_rfl) (by kernel_rfl) H111 (by kernel_rfl) (d := none) (by kernel_rfl) rfl (fun w117 H118 K119 => ?_)
     clear H111
     replace K0 := K0.t1 K119 (fun _ => rfl)
     replace H0 := H0.k1 K119 (by omega)
     replace H4 := H4.k1 K119 (by omega)
     replace H38 := H38.k1 K119 (by omega)
     replace hE := Ents.keep hE K119 hrT
     replace hY := Ents.keep hY K119 hUr
     replace hE22 := Ents.keep hE22 K119 ot25
     replace hE39 := Ents.keep hE39 K119 ot42
     refine ⟨K119, ?_⟩
     refine Dr.strong (S' := (fun wz => Keeps (fun i => i = r) w117 wz)) ((Keeps.refl w117).mono (fun _ _ h => h.elim)) (fun wz hx => K119.trans hx (fun i _ h => by have h : i = r := h; show i = r; omega) (fun _ _ h => h)) ?_
     clear K119
     refine Dr.done (by kernel_rfl) ?_
     refine qg ?_
     refine og 2 [(6, (i64 ((matchK base old (l16.map EntP.key) m.index m.logTerm (m.entries.map EntP.key)).1.1))), (91, (ptr r)), (92, (Value.pointer (some ⟨b1, 2, none⟩)))] 2 ?_
     refine Ops.go (v := (i64 m.frm)) (by kernel_rfl) (Runs.load (t := 3) (a := ⟨b1, 2, none⟩) (by kernel_rfl) (H4.loads (by kernel_rfl))) (d := (some 93)) (by kernel_rfl) rfl ?_
     refine og 2 [(91, (ptr r)), (93, (i64 m.frm)), (95, (agg [(i64 4), (i64 0), (i64 0), (i64 0), (i64 0), (i64 ((matchK base old (l16.map EntP.key) m.index m.logTerm (m.entries.map EntP.key)).1.1)), (i64 0), (i64 0), (Value.bool true), (Value.slice none 0 0), (Value.slice none 0 0)]))] 5 ?_
     refine Ops.call (by kernel_rfl) (d := (some 96)) (by kernel_rfl) (Fput_calls _ r g15 term voted m.frm (max commit (min m.commit ((matchK base old (l16.map EntP.key) m.index m.logTerm (m.entries.map EntP.key)).1.1))) group me n 0 timeout kv cv came m.frm 4 ((matchK base old (l16.map EntP.key) m.index m.logTerm (m.entries.map EntP.key)).1.1) 0 true H118) ?_
     rintro _ w124 ⟨ob120, cap121, rest122, rfl, K123, H125, H126, hn127⟩
     have nob120 : w.heap.size ≤ ob120 := by have := K0.size; omega
     have lob120r : r < ob120 := by have := H118.lt; omega
     have lob120g : g < ob120 := by have := H0.lt; omega
     have lob120b1 : b1 < ob120 := by have := H4.lt; omega
     have lob120g15 : g15 < ob120 := by have := H38.lt; omega
     have ot128 : ∀ i, T i → i ≠ ob120 := fun i hi => by have := Ents.lt hE i hi; omega
     have ot129 : ∀ i, U i → i ≠ ob120 := fun i hi => by have := Ents.lt hY i hi; omega
     have ot130 : ∀ i, (fun i => (w14.heap.size ≤ i ∧ i < w19.heap.size) ∧ i ≠ g15) i → i ≠ ob120 := fun i hi => by have := Ents.lt hE22 i hi; omega
     have ot131 : ∀ i, T35 i → i ≠ ob120 := fun i hi => by have := Ents.lt hE39 i hi; omega
     refine ⟨_, _, rfl, rfl, ?_⟩
     replace K0 := K0.t1 K123 (fun _ => rfl)
     replace H0 := H0.k1 K123 (by omega)
     replace H4 := H4.k1 K123 (by omega)
     replace H38 := H38.k1 K123 (by omega)
     replace hE := Ents.keep hE K123 hrT
     replace hY := Ents.keep hY K123 hUr
     replace hE22 := Ents.keep hE22 K123 ot25
     replace hE39 := Ents.keep hE39 K123 ot42
     clear K123
     refine od ?_
     refine ⟨(Value.tuple #[]), retv_none rfl, ?_⟩
     have hlen : l32.length ≤ 4096 := by have q := keys_len2 hK40; rw [q]; exact matchK_len (by first | (rw [List.length_map]; exact hL) | (rw [List.length_map]; omega))
     exact ⟨g15, A33, c34, l32, T35, _, ob120, cap121, rest122, _, _, rfl, K0, H125, H38, hE39, hlen, (BigK.keys hK40 (BigK.match_ (BigK.keys hK23 hBig) hBigY)), fun i hi => ⟨ot45 i hi, ot42 i hi, .inr (by rcases (hT41 i hi).2 with q | q; (have := q.1.1; omega); omega)⟩, .inr ng15, by omega, ⟨by omega, by omega⟩, H126, nob120⟩
   ·rw [h88]
    have p132 : ¬ ((matchK base old (l16.map EntP.key) m.index m.logTerm (m.entries.map EntP.key)).1.2.1 > 0) := of_decide_eq_false h88
    refine og 9 [(0, (ptr r)), (3, (ptr b1)), (5, (ptr g15)), (6, (i64 ((matchK base old (l16.map EntP.key) m.index m.logTerm (m.entries.map EntP.key)).1.1))), (53, (Value.bool false))] 18 ?_
    refine od ?_
    refine q_else (o := .tmp 53) (by kernel_rfl) rfl ?_
    refine q_skip (by kernel_rfl) ?_
    refine qs ?_
    refine qg ?_
    refine og 4 [(0, (ptr r)), (3, (ptr b1)), (6, (i64 ((matchK base old (l16.map EntP.key) m.index m.logTerm (m.entries.map EntP.key)).1.1))), (74, (ptr g15)), (76, (Value.pointer (some ⟨r, 8, none⟩)))] 4 ?_
    refine Ops.put (t := 24) (b := r) (off := 8) (v := (ptr g15)) (ys := [(i64 term), (i64 voted), (i64 0), (i64 m.frm), (i64 commit), (i64 group), (i64 me), (i64 n), (ptr g15), (i64 0), (i64 timeout), (Value.slice none 0 0), (Value.map none), (Value.slice none 0 0), kv, cv, (Value.bool came), (Value.slice none 0 0)]) (by kernel_rfl) (by kernel_rfl) H11 (by kernel_rfl) (d := none) (by kernel_rfl) rfl (fun w133 H134 K135 => ?_)
    clear H11
    replace K0 := K0.t1 K135 (fun _ => rfl)
    replace H0 := H0.k1 K135 (by omega)
    replace H4 := H4.k1 K135 (by omega)
    replace H38 := H38.k1 K135 (by omega)
    replace hE := Ents.keep hE K135 hrT
    replace hY := Ents.keep hY K135 hUr
    replace hE22 := Ents.keep hE22 K135 ot25
    replace hE39 := Ents.keep hE39 K135 ot42
    clear K135
    refine od ?_
    refine qs ?_
    refine q_draw (fun wz => Keeps (fun i => i = r) w133 wz) 15 (by kernel_rfl) (by kernel_rfl) (by kernel_rfl) (fun w136 K137 _ _ => ⟨(K137.mono (fun _ _ h => h.elim)), ?_⟩)
    replace K0 := K0.tn K137
    replace H134 := H134.keep K137 (fun h => h)
    replace H0 := H0.keep K137 (fun h => h)
    replace H4 := H4.keep K137 (fun h => h)
    replace H38 := H38.keep K137 (fun h => h)
    replace hE := Ents.keep0 hE K137
    replace hY := Ents.keep0 hY K137
    replace hE22 := Ents.keep0 hE22 K137
    replace hE39 := Ents.keep0 hE39 K137
    refine Dr.strong (S' := (fun wz => Keeps (fun i => i = r) w136 wz)) ((Keeps.refl w136).mono (fun _ _ h => h.elim)) (fun wz hx => K137.trans hx (fun i _ h => h.elim) (fun _ _ h => h)) ?_
    clear K137
    refine Dr.takes (fuel' := 9) (is' := _) [0, 1, 2, 3, 4, 6] [(0, (ptr r)), (3, (ptr b1)), (6, (i64 ((matchK base old (l16.map EntP.key) m.index m.logTerm (m.entries.map EntP.key)).1.1))), (77, (ptr r)), (81, (Value.pointer (some ⟨r, 4, none⟩))), (83, (Value.pointer (some ⟨b1, 7, none⟩)))] (by kernel_rfl) rfl (by kernel_rfl) ?_
    refine Dr.take (i := 7) (v := (i64 m.commit)) (by kernel_rfl) (by kernel_rfl) (fun wz hS => Runs.load (t := 2) (a := ⟨b1, 7, none⟩) (by kernel_rfl) ((H4.keep hS (by intro h; change b1 = r at h; omega)).loads (by kernel_rfl))) (d := (some 84)) (by kernel_rfl) rfl ?_
    refine Dr.takes (fuel' := 6) (is' := _) [8, 9] [(0, (ptr r)), (3, (ptr b1)), (6, (i64 ((matchK base old (l16.map EntP.key) m.index m.logTerm (m.entries.map EntP.key)).1.1))), (77, (ptr r)), (81, (Value.pointer (some ⟨r, 4, none⟩))), (86, (i64 (if ((matchK base old (l16.map EntP.key) m.index m.logTerm (m.entries.map EntP.key)).1.1 : Int) < m.commit then ((matchK base old (l16.map EntP.key) m.index m.logTerm (m.entries.map EntP.key)).1.1 : Int) else m.commit)))] (by kernel_rfl) rfl (by kernel_rfl) ?_
    have e138 : (if ((matchK base old (l16.map EntP.key) m.index m.logTerm (m.entries.map EntP.key)).1.1 : Int) < m.commit then ((matchK base old (l16.map EntP.key) m.index m.logTerm (m.entries.map EntP.key)).1.1 : Int) else m.commit) = min m.commit ((matchK base old (l16.map EntP.key) m.index m.logTerm (m.entries.map EntP.key)).1.1) := by split <;> omega
    rw [e138]
    clear e138
    refine Dr.go (i := 5) (v := (i64 commit)) (by kernel_rfl) (by kernel_rfl) (Runs.load (t := 2) (a := ⟨r, 4, none⟩) (by kernel_rfl) (H134.loads (by kernel_rfl))) (d := (some 82)) (by kernel_rfl) rfl ((Keeps.refl _).mono (fun _ _ h => h.elim)) ?_
    refine Dr.takes (fuel' := 4) (is' := _) [10] [(0, (ptr r)), (3, (ptr b1)), (6, (i64 ((matchK base old (l16.map EntP.key) m.index m.logTerm (m.entries.map EntP.key)).1.1))), (77, (ptr r)), (87, (i64 (if (min m.commit ((matchK base old (l16.map EntP.key) m.index m.logTerm (m.entries.map EntP.key)).1.1) : Int) > commit then (min m.commit ((matchK base old (l16.map EntP.key) m.index m.logTerm (m.entries.map EntP.key)).1.1) : Int) else commit)))] (by kernel_rfl) rfl (by kernel_rfl) ?_
    have e139 : (if (min m.commit ((matchK base old (l16.map EntP.key) m.index m.logTerm (m.entries.map EntP.key)).1.1) : Int) > commit then (min m.commit ((matchK base old (l16.map EntP.key) m.index m.logTerm (m.entries.map EntP.key)).1.1) : Int) else commit) = max commit (min m.commit ((matchK base old (l16.map EntP.key) m.index m.logTerm (m.entries.map EntP.key)).1.1)) := by split <;> omega
    rw [e139]
    clear e139
    refine Dr.takes (fuel' := 1) (is' := _) [11, 12, 13] [(0, (ptr r)), (3, (ptr b1)), (6, (i64 ((matchK base old (l16.map EntP.key) m.index m.logTerm (m.entries.map EntP.key)).1.1))), (87, (i64 (max commit (min m.commit ((matchK base old (l16.map EntP.key) m.index m.logTerm (m.entries.map EntP.key)).1.1))))), (90, (Value.pointer (some ⟨r, 4, none⟩)))] (by kernel_rfl) rfl (by kernel_rfl) ?_
    refine Dr.put (i := 14) (t := 2) (b := r) (off := 4) (v := (i64 (max commit (min m.commit ((matchK base old (l16.map EntP.key) m.index m.logTerm (m.entries.map EntP.key)).1.1))))) (ys := [(i64 term), (i64 voted), (i64 0), (i64 m.frm), (i64 (max commit (min m.commit ((matchK base old (l16.map EntP.key) m.index m.logTerm (m.entries.map EntP.key)).1.1)))), (i64 group), (i64 me), (i64 n), (ptr g15), (i64 0), (i64 timeout), (Value.slice none 0 0), (Value.map none), (Value.slice none 0 0), kv, cv, (Value.bool came), (Value.slice none 0 0)]) (by kernel_rfl) (by kernel_rfl) (by kernel_rfl) H134 (by kernel_rfl) (d := none) (by kernel_rfl) rfl (fun w140 H141 K142 => ?_)
    clear H134
    replace K0 := K0.t1 K142 (fun _ => rfl)
    replace H0 := H0.k1 K142 (by omega)
    replace H4 := H4.k1 K142 (by omega)
    replace H38 := H38.k1 K142 (by omega)
    replace hE := Ents.keep hE K142 hrT
    replace hY := Ents.keep hY K142 hUr
    replace hE22 := Ents.keep hE22 K142 ot25
    replace hE39 := Ents.keep hE39 K142 ot42
    refine ⟨K142, ?_⟩
    refine Dr.strong (S' := (fun wz => Keeps (fun i => i = r) w140 wz)) ((Keeps.refl w140).mono (fun _ _ h => h.elim)) (fun wz hx => K142.trans hx (fun i _ h => by have h : i = r := h; show i = r; omega) (fun _ _ h => h)) ?_
    clear K142
    refine Dr.done (by kernel_rfl) ?_
    refine qg ?_
    refine og 2 [(6, (i64 ((matchK base old (l16.map EntP.key) m.index m.logTerm (m.entries.map EntP.key)).1.1))), (91, (ptr r)), (92, (Value.pointer (some ⟨b1, 2, none⟩)))] 2 ?_
    refine Ops.go (v := (i64 m.frm)) (by kernel_rfl) (Runs.load (t := 3) (a := ⟨b1, 2, none⟩) (by kernel_rfl) (H4.loads (by kernel_rfl))) (d := (some 93)) (by kernel_rfl) rfl ?_
    refine og 2 [(91, (ptr r)), (93, (i64 m.frm)), (95, (agg [(i64 4), (i64 0), (i64 0), (i64 0), (i64 0), (i64 ((matchK base old (l16.map EntP.key) m.index m.logTerm (m.entries.map EntP.key)).1.1)), (i64 0), (i64 0), (Value.bool true), (Value.slice none 0 0), (Value.slice none 0 0)]))] 5 ?_
    refine Ops.call (by kernel_rfl) (d := (some 96)) (by kernel_rfl) (Fput_calls _ r g15 term voted m.frm (max commit (min m.commit ((matchK base old (l16.map EntP.key) m.index m.logTerm (m.entries.map EntP.key)).1.1))) group me n 0 timeout kv cv came m.frm 4 ((matchK base old (l16.map EntP.key) m.index m.logTerm (m.entries.map EntP.key)).1.1) 0 true H141) ?_
    rintro _ w147 ⟨ob143, cap144, rest145, rfl, K146, H148, H149, hn150⟩
    have nob143 : w.heap.size ≤ ob143 := by have := K0.size; omega
    have lob143r : r < ob143 := by have := H141.lt; omega
    have lob143g : g < ob143 := by have := H0.lt; omega
    have lob143b1 : b1 < ob143 := by have := H4.lt; omega
    have lob143g15 : g15 < ob143 := by have := H38.lt; omega
    have ot151 : ∀ i, T i → i ≠ ob143 := fun i hi => by have := Ents.lt hE i hi; omega
    have ot152 : ∀ i, U i → i ≠ ob143 := fun i hi => by have := Ents.lt hY i hi; omega
    have ot153 : ∀ i, (fun i => (w14.heap.size ≤ i ∧ i < w19.heap.size) ∧ i ≠ g15) i → i ≠ ob143 := fun i hi => by have := Ents.lt hE22 i hi; omega
    have ot154 : ∀ i, T35 i → i ≠ ob143 := fun i hi => by have := Ents.lt hE39 i hi; omega
    refine ⟨_, _, rfl, rfl, ?_⟩
    replace K0 := K0.t1 K146 (fun _ => rfl)
    replace H0 := H0.k1 K146 (by omega)
    replace H4 := H4.k1 K146 (by omega)
    replace H38 := H38.k1 K146 (by omega)
    replace hE := Ents.keep hE K146 hrT
    replace hY := Ents.keep hY K146 hUr
    replace hE22 := Ents.keep hE22 K146 ot25
    replace hE39 := Ents.keep hE39 K146 ot42
    clear K146
    refine od ?_
    refine ⟨(Value.tuple #[]), retv_none rfl, ?_⟩
    have hlen : l32.length ≤ 4096 := by have q := keys_len2 hK40; rw [q]; exact matchK_len (by first | (rw [List.length_map]; exact hL) | (rw [List.length_map]; omega))
    exact ⟨g15, A33, c34, l32, T35, _, ob143, cap144, rest145, _, _, rfl, K0, H148, H38, hE39, hlen, (BigK.keys hK40 (BigK.match_ (BigK.keys hK23 hBig) hBigY)), fun i hi => ⟨ot45 i hi, ot42 i hi, .inr (by rcases (hT41 i hi).2 with q | q; (have := q.1.1; omega); omega)⟩, .inr ng15, by omega, ⟨by omega, by omega⟩, H149, nob143⟩
end Go.Proofs.Ytnmpepjikfbpdaa
namespace Go.Proofs.Ytnmpepjikfbpdaa
open Go.Q Go.RowKit

theorem CloneE2_calls (w : World) (T : Nat → Prop) (v : Value) (l : List EntP) (h : Ents w T v l) (hl : l.length * 32 ≤ 140737488351232) : Calls Try.prog 55 ⟨[v]⟩ w (fun e w' => ∃ A' c', e = .returned (.slice A' l.length c') ∧ Keeps none_ w w' ∧ Ents w' (fun i => (T i ∨ w.heap.size ≤ i) ∧ i < w'.heap.size) (.slice A' l.length c') l) := by
 refine (CloneE_calls w v l h.rd hl).mono ?_
 rintro _ w' ⟨v', rfl, hk, (⟨rfl, rfl⟩ | ⟨G, cap, rest, rfl, hG, HG, q1, q2, q3⟩)⟩
 ·exact ⟨none, 0, rfl, hk, (Ents.nil _).mono (fun _ h => h.elim) (fun _ h => h.2)⟩
 ·have hO := own_casesE_mk hG HG q1 q2 q3
  refine ⟨_, _, rfl, hk, ⟨OwnT.rd hO, (h.keep0 hk).ins, fun _ i hi => ?_, fun x hx hc i hi => ⟨.inl (h.inn x hx hc i hi), Nat.lt_of_lt_of_le (h.lt i (h.inn x hx hc i hi)) hk.size⟩, fun i hi => hi.2⟩⟩
  have := World.ownsRow.lt hO i hi
  exact ⟨.inr this.1, this.2⟩

theorem Compact_ok (w : World) (T : Nat → Prop) (g : Nat) (base old : Int) (A : Option Addr) (c : Nat) (l : List EntP) (n : Int) (k : Nat) (H0 : Has w g (rowL [i64 base, i64 old, .slice A l.length c] 78)) (hE : Ents w T (.slice A l.length c) l) (hT : ∀ i, T i → i ≠ g) (hB : 0 ≤ base ∧ base ≤ 2305843009213693952) (hL : l.length ≤ 4096) (hn : -9223372036854775808 ≤ n ∧ n ≤ 9223372036854775807) (hq : n = base + (k : Int)) (hk : k ≤ l.length) : Calls Try.prog 53 ⟨[(ptr g), (i64 n)]⟩ w (fun e w' => ∃ l' A' c' T', e = .returned (i64 0) ∧ Keeps (fun i => i = g) w w' ∧ Has w' g (rowL [i64 n, i64 (termK base old (l.map EntP.key) n).1, .slice A' l'.length c'] 78) ∧ Ents w' T' (.slice A' l'.length c') l' ∧ l'.map EntP.key = (l.map EntP.key).drop k ∧ ∀ i, T' i → i ≠ g ∧ (T i ∨ w.heap.size ≤ i)) := by
 have hcap := Ents.len hE
 have Hg := H0.lt
 have hT0 := hT
 have hz : (termK base old (l.map EntP.key) n).2 = 0 := termK_ok (by rw [List.length_map]; omega)
 have K0 : Keeps (fun i => i = g) w w := (Keeps.refl w).mono (fun _ _ h => h.elim)
 refine q_calls Try.func53 (by kernel_rfl) (by kernel_rfl) ?_
 refine qs ?_
 refine qg ?_
 refine og 1 [(0, (ptr g)), (1, (i64 n)), (4, (i64 0))] 1 ?_
 refine od ?_
 refine qs ?_
 refine qg ?_
 refine og 2 [(0, (ptr g)), (1, (i64 n)), (4, (i64 0)), (8, (ptr g)), (9, (i64 n))] 2 ?_
 refine Ops.call (by kernel_rfl) (d := (some 10)) (by kernel_rfl) (Term_calls _ T g base old A c l n H0 hE hT (by omega) (by omega) (by omega)) ?_
 rintro _ w2 ⟨rfl, K1⟩
 refine ⟨_, _, rfl, rfl, ?_⟩
 replace K0 := K0.tn K1
 replace H0 := H0.keep K1 (fun h => h)
 replace hE := Ents.keep0 hE K1
 clear K1
 refine og 5 [(0, (ptr g)), (1, (i64 n)), (4, (i64 0)), (5, (i64 ((termK base old (l.map EntP.key) n).1))), (6, (i64 ((termK base old (l.map EntP.key) n).2)))] 8 ?_
 refine od ?_
 refine qs ?_
 refine qs ?_
 refine qg ?_
 refine og 2 [(0, (ptr g)), (1, (i64 n)), (4, (i64 0)), (5, (i64 ((termK base old (l.map EntP.key) n).1))), (6, (i64 ((termK base old (l.map EntP.key) n).2))), (14, (Value.bool (((termK base old (l.map EntP.key) n).2) != 0)))] 2 ?_
 refine od ?_
 have h3 : (((termK base old (l.map EntP.key) n).2) != 0) = false := bne_f hz
 rw [h3]
 refine q_else (o := .tmp 14) (by kernel_rfl) rfl ?_
 refine q_skip (by kernel_rfl) ?_
 refine qs ?_
 refine q_draw (fun wz => Keeps (fun i => i = g) w2 wz ∧ Loads Try.prog wz 2 ⟨g, 0, none⟩ (i64 base)) 16 (by kernel_rfl) (by kernel_rfl) (by kernel_rfl) (fun w4 K5 _ _ => ⟨⟨(K5.mono (fun _ _ h => h.elim)), ((H0.keep K5 (fun h => h)).loads (by kernel_rfl))⟩, ?_⟩)
 replace K0 := K0.tn K5
 replace H0 := H0.keep K5 (fun h => h)
 replace hE := Ents.keep0 hE K5
 refine Dr.strong (S' := (fun wz => Keeps (fun i => i = g) w4 wz ∧ Loads Try.prog wz 2 ⟨g, 0, none⟩ (i64 base))) ⟨((Keeps.refl w4).mono (fun _ _ h => h.elim)), (H0.loads (by kernel_rfl))⟩ (fun wz hx => ⟨K5.trans hx.1 (fun i _ h => h.elim) (fun _ _ h => h), hx.2⟩) ?_
 clear K5
 refine Dr.takes (fuel' := 8) (is' := _) [0, 1, 2, 3, 5, 6, 7, 8] [(0, (ptr g)), (1, (i64 n)), (4, (i64 0)), (5, (i64 ((termK base old (l.map EntP.key) n).1))), (16, (ptr g)), (19, (Value.pointer (some ⟨g, 2, none⟩))), (21, (i64 n)), (24, (ptr g))] (by kernel_rfl) rfl (by kernel_rfl) ?_
 refine Dr.take (i := 9) (v := (i64 base)) (by kernel_rfl) (by kernel_rfl) (fun wz hS => Runs.load (t := 2) (a := ⟨g, 0, none⟩) (by kernel_rfl) hS.2) (d := (some 25)) (by kernel_rfl) rfl ?_
 refine Dr.takes (fuel' := 6) (is' := _) [10] [(0, (ptr g)), (1, (i64 n)), (4, (i64 0)), (5, (i64 ((termK base old (l.map EntP.key) n).1))), (16, (ptr g)), (19, (Value.pointer (some ⟨g, 2, none⟩))), (26, (i64 (IntKind.i64.wrap (n - base))))] (by kernel_rfl) rfl (by kernel_rfl) ?_
 have e6 : IntKind.i64.wrap (n - base) = ((k : Nat) : Int) := by rw [wrap_i64 (by omega) (by omega)]; omega
 rw [e6]
 refine Dr.go (i := 4) (v := (Value.slice A l.length c)) (by kernel_rfl) (by kernel_rfl) (Runs.load (t := 22) (a := ⟨g, 2, none⟩) (by kernel_rfl) (H0.loads (by kernel_rfl))) (d := (some 20)) (by kernel_rfl) rfl ⟨((Keeps.refl _).mono (fun _ _ h => h.elim)), (H0.loads (by kernel_rfl))⟩ ?_
 obtain ⟨A12, c13, hr9, hE10⟩ := Ents.cutRun (P := Try.prog) (t := 22) (e := 43) (by kernel_rfl) (by kernel_rfl) hE k l.length (kl := .i64) (hi := none) (.inl ⟨rfl, rfl⟩) (by omega) (by omega)
 obtain ⟨l7, hl8⟩ : ∃ z, z = (l.drop k).take (l.length - k) := ⟨_, rfl⟩
 rw [← hl8] at hr9 hE10
 have hn11 : l7.length = l.length - k := by rw [hl8]; simp only [List.length_take, List.length_drop]; omega
 have hc14 := Ents.len hE10
 refine Dr.take (i := 11) (v := (Value.slice A12 l7.length c13)) (by kernel_rfl) (by kernel_rfl) (fun wz hS => Runs.slice (by kernel_rfl) (hr9 _)) (d := (some 27)) (by kernel_rfl) rfl ?_
 refine Dr.call (i := 12) (by kernel_rfl) (by kernel_rfl) (d := (some 28)) (by kernel_rfl) (fun _ => CloneE2_calls _ T (Value.slice A12 l7.length c13) l7 hE10 (by omega)) ?_
 rintro _ w17 ⟨A15, c16, rfl, K18, hE19⟩
 have hz20 := K0.size
 have ot21 : ∀ i, (fun i => (T i ∨ w4.heap.size ≤ i) ∧ i < w17.heap.size) i → i ≠ g := fun i hi => by rcases hi.1 with h | h; (exact hT i h); (have := H0.lt; omega)
 replace K0 := K0.tn K18
 replace H0 := H0.keep K18 (fun h => h)
 replace hE := Ents.keep0 hE K18
 replace hE10 := Ents.keep0 hE10 K18
 refine ⟨_, _, rfl, rfl, ⟨(K18.mono (fun _ _ h => h.elim)), (H0.loads (by kernel_rfl))⟩, ?_⟩
 refine Dr.strong (S' := (fun wz => Keeps (fun i => i = g) w17 wz ∧ Loads Try.prog wz 2 ⟨g, 0, none⟩ (i64 base))) ⟨((Keeps.refl w17).mono (fun _ _ h => h.elim)), (H0.loads (by kernel_rfl))⟩ (fun wz hx => ⟨K18.trans hx.1 (fun i _ h => h.elim) (fun _ _ h => h), hx.2⟩) ?_
 clear K18
 refine Dr.takes (fuel' := 1) (is' := _) [13, 14] [(0, (ptr g)), (1, (i64 n)), (4, (i64 0)), (5, (i64 ((termK base old (l.map EntP.key) n).1))), (28, (Value.slice A15 l7.length c16)), (30, (Value.pointer (some ⟨g, 2, none⟩)))] (by kernel_rfl) rfl (by kernel_rfl) ?_
 refine Dr.put (i := 15) (t := 22) (b := g) (off := 2) (v := (Value.slice A15 l7.length c16)) (ys := [(i64 base), (i64 old), (Value.slice A15 l7.length c16)]) (by kernel_rfl) (by kernel_rfl) (by kernel_rfl) H0 (by kernel_rfl) (d := none) (by kernel_rfl) rfl (fun w22 H23 K24 => ?_)
 clear H0
 replace K0 := K0.t1 K24 (fun _ => rfl)
 replace hE := Ents.keep hE K24 hT
 replace hE10 := Ents.keep hE10 K24 hT
 replace hE19 := Ents.keep hE19 K24 ot21
 refine ⟨⟨K24, (H23.loads (by kernel_rfl))⟩, ?_⟩
 refine Dr.strong (S' := (fun wz => Keeps (fun i => i = g) w22 wz ∧ Loads Try.prog wz 2 ⟨g, 0, none⟩ (i64 base))) ⟨((Keeps.refl w22).mono (fun _ _ h => h.elim)), (H23.loads (by kernel_rfl))⟩ (fun wz hx => ⟨K24.trans hx.1 (fun i _ h => by have h : i = g := h; show i = g; omega) (fun _ _ h => h), hx.2⟩) ?_
 clear K24
 refine Dr.done (by kernel_rfl) ?_
 refine qs ?_
 refine qg ?_
 refine og 6 [(4, (i64 0)), (32, (ptr g)), (33, (i64 n)), (34, (i64 ((termK base old (l.map EntP.key) n).1))), (36, (ptr g))] 6 ?_
 refine Ops.put (t := 2) (b := g) (off := 0) (v := (i64 n)) (ys := [(i64 n), (i64 old), (Value.slice A15 l7.length c16)]) (by kernel_rfl) (by kernel_rfl) H23 (by kernel_rfl) (d := none) (by kernel_rfl) rfl (fun w25 H26 K27 => ?_)
 clear H23
 replace K0 := K0.t1 K27 (fun _ => rfl)
 replace hE := Ents.keep hE K27 hT
 replace hE10 := Ents.keep hE10 K27 hT
 replace hE19 := Ents.keep hE19 K27 ot21
 clear K27
 refine og 2 [(4, (i64 0)), (34, (i64 ((termK base old (l.map EntP.key) n).1))), (38, (Value.pointer (some ⟨g, 1, none⟩)))] 9 ?_
 refine Ops.put (t := 2) (b := g) (off := 1) (v := (i64 ((termK base old (l.map EntP.key) n).1))) (ys := [(i64 n), (i64 ((termK base old (l.map EntP.key) n).1)), (Value.slice A15 l7.length c16)]) (by kernel_rfl) (by kernel_rfl) H26 (by kernel_rfl) (d := none) (by kernel_rfl) rfl (fun w28 H29 K30 => ?_)
 clear H26
 replace K0 := K0.t1 K30 (fun _ => rfl)
 replace hE := Ents.keep hE K30 hT
 replace hE10 := Ents.keep hE10 K30 hT
 replace hE19 := Ents.keep hE19 K30 ot21
 clear K30
 refine od ?_
 refine qs ?_
 refine qg ?_
 refine og 1 [(4, (i64 0))] 1 ?_
 refine od ?_
 refine q_ret (by kernel_rfl) ?_
 refine ⟨(i64 0), retv_tmp rfl rfl, ?_⟩
 exact ⟨l7, A15, c16, (fun i => (T i ∨ w4.heap.size ≤ i) ∧ i < w17.heap.size), rfl, K0, H29, hE19, by rw [hl8, List.take_of_length_le (by simp), List.map_drop], fun i hi => by rcases hi.1 with h | h; (exact ⟨hT0 i h, .inl h⟩); (exact ⟨by omega, .inr (by omega)⟩)⟩

end Go.Proofs.Ytnmpepjikfbpdaa
namespace Go.Q
open Go.RowKit
theorem termK_there {base old : Int} {ks : Ks} {n : Int} (h : (termK base old ks n).2 = 0) : base ≤ n ∧ n ≤ base + (ks.length : Int) := by
  by_cases q : n < base ∨ base + (ks.length : Int) < n
  · rw [termK_none q] at h; cases h
  · omega
theorem bv_ne {xs : List UInt8} (h : xs ≠ []) : bv xs ≠ [] := fun q => h (by cases xs with | nil => rfl | cons x l => cases q)

end Go.Q
