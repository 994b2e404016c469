/- entries are matched -/
import Derived.Test.YtncjidepplaocaaProg
import Derived.Test.YtncjidepplaocaaKF
import Derived.Test.YtncjidepplaocaaLX
set_option linter.unusedVariables false
namespace Go.Proofs.Ytncjidepplaocaa
open Go.Q Go.RowKit

set_option maxHeartbeats 4000000 in
theorem Match_calls (w : World) (T : Nat → Prop) (g : Nat) (base old : Int) (A : Option Addr) (c : Nat) (l : List EntP) (n t0 : Int) (U : Nat → Prop) (B : Option Addr) (d : Nat) (ys : List EntP) (H0 : Has w g (rowL [i64 base, i64 old, .slice A l.length c] 55)) (hE : Ents w T (.slice A l.length c) l) (hT : ∀ i, T i → i ≠ g) (hB : 0 ≤ base ∧ base ≤ 2305843009213693952) (hL : l.length ≤ 4096) (hn : -9223372036854775808 ≤ n ∧ n ≤ 9223372036854775807) (ht : -9223372036854775808 ≤ t0 ∧ t0 ≤ 9223372036854775807) (hY : Ents w U (.slice B ys.length d) ys) (hU : ∀ i, U i → i ≠ g) (hBig : BigK (l.map EntP.key)) (hBigY : BigK (ys.map EntP.key)) (hYl : ys.length * 32 ≤ 140737488351232) : Calls Try.prog 12 ⟨[(ptr g), (i64 n), (i64 t0), (Value.slice B ys.length d)]⟩ w (fun e w' => ∃ l' A' c' T', e = .returned (.tuple #[i64 (matchK base old (l.map EntP.key) n t0 (ys.map EntP.key)).1.1, i64 (matchK base old (l.map EntP.key) n t0 (ys.map EntP.key)).1.2.1, i64 (matchK base old (l.map EntP.key) n t0 (ys.map EntP.key)).1.2.2]) ∧ Keeps (fun i => i = g) w w' ∧ Has w' g (rowL [i64 base, i64 old, .slice A' l'.length c'] 55) ∧ Ents w' T' (.slice A' l'.length c') l' ∧ l'.map EntP.key = (matchK base old (l.map EntP.key) n t0 (ys.map EntP.key)).2 ∧ ∀ i, T' i → i ≠ g ∧ (T i ∨ w.heap.size ≤ i)) := by
 have hcap := Ents.len hE
 have Hg := H0.lt
 have hcm := hcap.2.2
 unfold maxLen at hcm
 have hcy := Ents.len hY
 have hT0 := hT
 have hTl := Ents.lt hE
 have hUl := Ents.lt hY
 have hyl : (ys.map EntP.key).length = ys.length := List.length_map ..
 have hll : (l.map EntP.key).length = l.length := List.length_map ..
 have K0 : Keeps (fun i => i = g) w w := (Keeps.refl w).mono (fun _ _ h => h.elim)
 refine q_calls Try.func12 (by kernel_rfl) (by kernel_rfl) ?_
 refine qs ?_
 refine qg ?_
 refine og 3 [(0, (ptr g)), (1, (i64 n)), (2, (i64 t0)), (3, (Value.slice B ys.length d)), (8, (i64 0)), (9, (i64 0)), (10, (i64 0))] 3 ?_
 refine od ?_
 refine qs ?_
 refine q_block (id := 0) (by kernel_rfl) ?_
 refine qs ?_
 refine qg ?_
 refine og 3 [(0, (ptr g)), (1, (i64 n)), (2, (i64 t0)), (3, (Value.slice B ys.length d)), (8, (i64 0)), (9, (i64 0)), (10, (i64 0)), (17, (Value.bool false))] 3 ?_
 refine od ?_
 refine q_else (o := .tmp 17) (by kernel_rfl) rfl ?_
 refine qs ?_
 refine qg ?_
 refine og 3 [(0, (ptr g)), (1, (i64 n)), (2, (i64 t0)), (3, (Value.slice B ys.length d)), (8, (i64 0)), (9, (i64 0)), (10, (i64 0)), (23, (Value.bool (decide (n < 0))))] 3 ?_
 refine Ops.split (decide (n < 0)) (fun h1 => ?_) (fun h1 => ?_)
 ·rw [h1]
  have p2 : n < 0 := of_decide_eq_true h1
  refine og 4 [(0, (ptr g)), (1, (i64 n)), (2, (i64 t0)), (3, (Value.slice B ys.length d)), (8, (i64 0)), (9, (i64 0)), (10, (i64 0)), (20, (Value.bool true))] 7 ?_
  refine od ?_
  refine q_then (o := .tmp 20) (by kernel_rfl) rfl ?_
  refine qs ?_
  refine qg ?_
  refine og 3 [(0, (ptr g)), (1, (i64 n)), (2, (i64 t0)), (3, (Value.slice B ys.length d)), (8, (i64 0)), (9, (i64 0)), (10, (i64 1))] 3 ?_
  refine od ?_
  refine q_ret (by kernel_rfl) ?_
  refine ⟨(Value.tuple #[(i64 0), (i64 0), (i64 1)]), retv_tmp3 rfl rfl rfl rfl, ?_⟩
  have e : matchK base old (l.map EntP.key) n t0 (ys.map EntP.key) = ((0, 0, 1), (l.map EntP.key)) := by unfold matchK; rw [if_pos (by omega)]
  exact ⟨l, A, c, T, by rw [e], K0, H0, hE, by rw [e], fun i hi => ⟨hT0 i hi, .inl hi⟩⟩
 ·rw [h1]
  have p3 : ¬ (n < 0) := of_decide_eq_false h1
  refine og 4 [(0, (ptr g)), (1, (i64 n)), (2, (i64 t0)), (3, (Value.slice B ys.length d)), (8, (i64 0)), (9, (i64 0)), (10, (i64 0)), (20, (Value.bool (decide (t0 < 0))))] 7 ?_
  refine od ?_
  refine q_cond (o := .tmp 20) (b := (decide (t0 < 0))) (by kernel_rfl) rfl (fun h4 => ?_) (fun h4 => ?_)
  ·rw [h4]
   have p5 : t0 < 0 := of_decide_eq_true h4
   refine qs ?_
   refine qg ?_
   refine og 3 [(0, (ptr g)), (1, (i64 n)), (2, (i64 t0)), (3, (Value.slice B ys.length d)), (8, (i64 0)), (9, (i64 0)), (10, (i64 1))] 3 ?_
   refine od ?_
   refine q_ret (by kernel_rfl) ?_
   refine ⟨(Value.tuple #[(i64 0), (i64 0), (i64 1)]), retv_tmp3 rfl rfl rfl rfl, ?_⟩
   have e : matchK base old (l.map EntP.key) n t0 (ys.map EntP.key) = ((0, 0, 1), (l.map EntP.key)) := by unfold matchK; rw [if_pos (by omega)]
   exact ⟨l, A, c, T, by rw [e], K0, H0, hE, by rw [e], fun i hi => ⟨hT0 i hi, .inl hi⟩⟩
  ·rw [h4]
   have p6 : ¬ (t0 < 0) := of_decide_eq_false h4
   refine q_skip (by kernel_rfl) ?_
   refine qs ?_
   refine qs ?_
   refine qg ?_
   refine og 3 [(0, (ptr g)), (1, (i64 n)), (2, (i64 t0)), (3, (Value.slice B ys.length d)), (8, (i64 0)), (9, (i64 0)), (10, (i64 0)), (29, (ptr g))] 3 ?_
   refine Ops.go (v := (i64 base)) (by kernel_rfl) (Runs.load (t := 2) (a := ⟨g, 0, none⟩) (by kernel_rfl) (H0.loads (by kernel_rfl))) (d := (some 30)) (by kernel_rfl) rfl ?_
   refine og 2 [(0, (ptr g)), (1, (i64 n)), (2, (i64 t0)), (3, (Value.slice B ys.length d)), (8, (i64 0)), (9, (i64 0)), (10, (i64 0)), (32, (i64 (IntKind.i64.wrap (base - n))))] 6 ?_
   have e7 : IntKind.i64.wrap (base - n) = base - n := wrap_i64 (by omega) (by omega)
   rw [e7]
   refine og 1 [(0, (ptr g)), (1, (i64 n)), (2, (i64 t0)), (3, (Value.slice B ys.length d)), (8, (i64 0)), (9, (i64 0)), (10, (i64 0)), (11, (i64 (base - n)))] 7 ?_
   refine od ?_
   refine qs ?_
   refine qg ?_
   refine og 2 [(0, (ptr g)), (1, (i64 n)), (2, (i64 t0)), (3, (Value.slice B ys.length d)), (8, (i64 0)), (9, (i64 0)), (10, (i64 0)), (11, (i64 (base - n))), (34, (Value.bool (decide (base - n > 0))))] 2 ?_
   refine od ?_
   refine q_cond (o := .tmp 34) (b := (decide (base - n > 0))) (by kernel_rfl) rfl (fun h8 => ?_) (fun h8 => ?_)
   ·rw [h8]
    have p9 : base - n > 0 := of_decide_eq_true h8
    obtain ⟨ks0, hks0⟩ : ∃ m : Nat, base - n = (m : Int) := Int.eq_ofNat_of_zero_le (by omega)
    rw [hks0]
    refine qs ?_
    refine qs ?_
    refine qg ?_
    refine og 4 [(0, (ptr g)), (1, (i64 n)), (2, (i64 t0)), (3, (Value.slice B ys.length d)), (8, (i64 0)), (9, (i64 0)), (10, (i64 0)), (11, (i64 ((ks0 : Nat) : Int))), (38, (Value.bool (decide (((ks0 : Nat) : Int) > ((ys.length : Nat) : Int)))))] 4 ?_
    refine od ?_
    refine q_cond (o := .tmp 38) (b := (decide (((ks0 : Nat) : Int) > ((ys.length : Nat) : Int)))) (by kernel_rfl) rfl (fun h10 => ?_) (fun h10 => ?_)
    ·rw [h10]
     have p11 : ((ks0 : Nat) : Int) > ((ys.length : Nat) : Int) := of_decide_eq_true h10
     refine qs ?_
     refine qg ?_
     refine og 3 [(0, (ptr g)), (1, (i64 n)), (2, (i64 t0)), (3, (Value.slice B ys.length d)), (8, (i64 0)), (9, (i64 0)), (10, (i64 5)), (11, (i64 ((ks0 : Nat) : Int)))] 3 ?_
     refine od ?_
     refine q_ret (by kernel_rfl) ?_
     refine ⟨(Value.tuple #[(i64 0), (i64 0), (i64 5)]), retv_tmp3 rfl rfl rfl rfl, ?_⟩
     have e : matchK base old (l.map EntP.key) n t0 (ys.map EntP.key) = ((0, 0, 5), (l.map EntP.key)) := by unfold matchK; rw [if_neg (by omega), if_pos (by omega), if_pos (by omega)]
     exact ⟨l, A, c, T, by rw [e], K0, H0, hE, by rw [e], fun i hi => ⟨hT0 i hi, .inl hi⟩⟩
    ·rw [h10]
     have p12 : ¬ (((ks0 : Nat) : Int) > ((ys.length : Nat) : Int)) := of_decide_eq_false h10
     refine q_skip (by kernel_rfl) ?_
     refine q_draw (fun wz => Keeps none_ w wz) 9 (by kernel_rfl) (by kernel_rfl) (by kernel_rfl) (fun w13 K14 _ _ => ⟨K14, ?_⟩)
     replace K0 := K0.trans K14 (U := (fun i => i = g)) (fun i h1 h2 => h2) (fun i h1 h2 => by exact h2.elim)
     replace H0 := H0.keep K14 (fun h => h)
     replace hE := Ents.keep0 hE K14
     replace hY := Ents.keep0 hY K14
     refine Dr.strong (S' := (fun wz => Keeps none_ w13 wz)) (Keeps.refl w13) (fun wz hx => K14.trans hx (fun i _ h => h) (fun _ _ h => h)) ?_
     clear K14
     refine Dr.takes (fuel' := 6) (is' := [2, 1, 0]) [0, 1, 2] [(0, (ptr g)), (1, (i64 n)), (2, (i64 t0)), (3, (Value.slice B ys.length d)), (8, (i64 0)), (9, (i64 0)), (10, (i64 0)), (11, (i64 ((ks0 : Nat) : Int))), (41, (ptr g))] (by kernel_rfl) rfl (by kernel_rfl) ?_
     refine Dr.take (i := 3) (v := (i64 base)) (by kernel_rfl) (by kernel_rfl) (fun wz hS => Runs.load (t := 2) (a := ⟨g, 0, none⟩) (by kernel_rfl) ((H0.keep hS (fun h => h)).loads (by kernel_rfl))) (d := (some 42)) (by kernel_rfl) rfl ?_
     obtain ⟨A20, c21, hr17, hE18⟩ := Ents.cutRun (P := Try.prog) (t := 22) (e := 43) (by kernel_rfl) (by kernel_rfl) hY ks0 ys.length (kl := .i64) (hi := none) (.inl ⟨rfl, rfl⟩) (by omega) (by omega)
     obtain ⟨l15, hl16⟩ : ∃ z, z = (ys.drop ks0).take (ys.length - ks0) := ⟨_, rfl⟩
     rw [← hl16] at hr17 hE18
     have hn19 : l15.length = ys.length - ks0 := by rw [hl16]; simp only [List.length_take, List.length_drop]; omega
     have hc22 := Ents.len hE18
     refine Dr.takes (fuel' := 3) (is' := [5, 4, 3, 2, 1, 0]) [4, 5] [(0, (ptr g)), (1, (i64 n)), (2, (i64 t0)), (3, (Value.slice B ys.length d)), (8, (i64 0)), (9, (i64 0)), (10, (i64 0)), (42, (i64 base)), (43, (Value.slice B ys.length d)), (44, (i64 ((ks0 : Nat) : Int)))] (by kernel_rfl) rfl (by kernel_rfl) ?_
     refine Dr.take (i := 6) (v := (Value.slice A20 l15.length c21)) (by kernel_rfl) (by kernel_rfl) (fun wz hS => Runs.slice (by kernel_rfl) (hr17 _)) (d := (some 45)) (by kernel_rfl) rfl ?_
     refine Dr.takes (fuel' := 0) (is' := [8, 7, 6, 5, 4, 3, 2, 1, 0]) [7, 8] [(0, (ptr g)), (1, (i64 base)), (2, (i64 t0)), (3, (Value.slice A20 l15.length c21)), (8, (i64 0)), (9, (i64 0)), (10, (i64 0))] (by kernel_rfl) rfl (by kernel_rfl) ?_
     refine Dr.done (by kernel_rfl) ?_
     refine qs ?_
     refine qg ?_
     refine og 4 [(0, (ptr g)), (1, (i64 base)), (3, (Value.slice A20 l15.length c21)), (8, (i64 0)), (9, (i64 0)), (10, (i64 0)), (60, (i64 (IntKind.i64.wrap (base + ((l15.length : Nat) : Int)))))] 4 ?_
     have e23 : IntKind.i64.wrap (base + ((l15.length : Nat) : Int)) = base + ((l15.length : Nat) : Int) := wrap_i64 (by omega) (by omega)
     rw [e23]
     refine og 1 [(0, (ptr g)), (1, (i64 base)), (3, (Value.slice A20 l15.length c21)), (8, (i64 0)), (9, (i64 0)), (10, (i64 0)), (13, (i64 (base + ((l15.length : Nat) : Int))))] 5 ?_
     refine od ?_
     refine qs ?_
     refine q_block (id := 1) (by kernel_rfl) ?_
     refine q_keep (R := [(0, (ptr g)), (1, (i64 base)), (3, (Value.slice A20 l15.length c21)), (8, (i64 0)), (9, (i64 0)), (10, (i64 0)), (13, (i64 (base + ((l15.length : Nat) : Int))))]) (by kernel_rfl) ?_
     refine q_loop (fun (gs : Int × Nat × (Option Addr) × Nat) L (wx : World) => match gs with | (a, i, B1, d1) => L = [(0, (ptr g)), (1, (i64 a)), (3, (Value.slice B1 ((l15.drop i).length) d1)), (8, (i64 0)), (9, (i64 0)), (10, (i64 0)), (13, (i64 (base + ((l15.length : Nat) : Int))))] ∧ a = base + (i : Int) ∧ runK base old (l.map EntP.key) base (l15.map EntP.key) = i + runK base old (l.map EntP.key) a ((l15.map EntP.key).drop i) ∧ a ≤ base + (l.length : Int) ∧ i ≤ l15.length ∧ Ents wx U (.slice B1 (l15.drop i).length d1) (l15.drop i) ∧ Ents wx T (.slice A l.length c) l ∧ Keeps (fun i => i = g) w wx ∧ Has wx g (rowL [(i64 base), (i64 old), (Value.slice A l.length c)] 55)) (fun (gs : Int × Nat × (Option Addr) × Nat) => match gs with | (a, i, B1, d1) => l15.length - i) (base, 0, A20, c21) (by kernel_rfl) ⟨rfl, (by simp), (by simp), (by omega), Nat.zero_le _, hE18, hE, K0, H0⟩ ?_
     clear H0 hE hY hE18 K0
     rintro ⟨a, i, B1, d1⟩ _ w24 ⟨rfl, ha, hrun, hpos, hi, hY1, hE, K25, H26⟩
     have hc1 := Ents.len hY1
     have hdl : (l15.drop i).length = l15.length - i := List.length_drop
     refine qs ?_
     refine qs ?_
     refine qg ?_
     refine og 3 [(0, (ptr g)), (1, (i64 a)), (3, (Value.slice B1 ((l15.drop i).length) d1)), (8, (i64 0)), (9, (i64 0)), (10, (i64 0)), (13, (i64 (base + ((l15.length : Nat) : Int)))), (63, (Value.bool (decide ((((l15.drop i).length : Nat) : Int) > 0))))] 3 ?_
     refine od ?_
     refine q_cond (o := .tmp 63) (b := (decide ((((l15.drop i).length : Nat) : Int) > 0))) (by kernel_rfl) rfl (fun h27 => ?_) (fun h27 => ?_)
     ·rw [h27]
      have p28 : (((l15.drop i).length : Nat) : Int) > 0 := of_decide_eq_true h27
      obtain ⟨y, hy⟩ : ∃ z, (l15.drop i)[0]? = some z := ⟨_, List.getElem?_eq_getElem (by omega)⟩
      have hyk : ((l15.map EntP.key).drop i)[0]? = some (y.term, y.cmd) := by rw [← List.map_drop]; exact ekey_at hy
      refine q_skip (by kernel_rfl) ?_
      refine q_block (id := 2) (by kernel_rfl) ?_
      refine qs ?_
      refine qg ?_
      refine og 3 [(0, (ptr g)), (1, (i64 a)), (3, (Value.slice B1 ((l15.drop i).length) d1)), (8, (i64 0)), (9, (i64 0)), (10, (i64 0)), (13, (i64 (base + ((l15.length : Nat) : Int)))), (63, (Value.bool true)), (64, (ptr g)), (66, (i64 (IntKind.i64.wrap (a + 1))))] 3 ?_
      have e29 : IntKind.i64.wrap (a + 1) = a + 1 := wrap_i64 (by omega) (by omega)
      rw [e29]
      rcases at_or base l.length (a + 1) with q30 | q31 | q32 | ⟨k35, q33, q34⟩
      ·exfalso; omega
      ·skip
       refine Ops.call (by kernel_rfl) (d := (some 67)) (by kernel_rfl) (at_high _ T g base old A c l (a + 1) H26 hE hT (by omega) (by omega) (by omega) q31) ?_
       rintro _ w39 ⟨rfl, K38⟩
       refine ⟨_, _, rfl, rfl, ?_⟩
       replace K25 := K25.trans K38 (U := (fun i => i = g)) (fun i h1 h2 => h2) (fun i h1 h2 => by exact h2.elim)
       replace H26 := H26.keep K38 (fun h => h)
       replace hE := Ents.keep0 hE K38
       replace hY1 := Ents.keep0 hY1 K38
       clear K38
       refine og 1 [(0, (ptr g)), (1, (i64 a)), (3, (Value.slice B1 ((l15.drop i).length) d1)), (8, (i64 0)), (9, (i64 0)), (10, (i64 0)), (13, (i64 (base + ((l15.length : Nat) : Int)))), (14, Value.nilIface), (63, (Value.bool true))] 5 ?_
       refine od ?_
       refine qs ?_
       refine qs ?_
       refine q_draw (fun wz => Keeps none_ w39 wz) 11 (by kernel_rfl) (by kernel_rfl) (by kernel_rfl) (fun w40 K41 _ _ => ⟨K41, ?_⟩)
       replace K25 := K25.trans K41 (U := (fun i => i = g)) (fun i h1 h2 => h2) (fun i h1 h2 => by exact h2.elim)
       replace H26 := H26.keep K41 (fun h => h)
       replace hE := Ents.keep0 hE K41
       replace hY1 := Ents.keep0 hY1 K41
       refine Dr.strong (S' := (fun wz => Keeps none_ w40 wz)) (Keeps.refl w40) (fun wz hx => K41.trans hx (fun i _ h => h) (fun _ _ h => h)) ?_
       clear K41
       refine Dr.takes (fuel' := 0) (is' := [10, 9, 8, 7, 6, 5, 4, 3, 2, 1, 0]) [0, 1, 2, 3, 4, 5, 6, 7, 8, 9, 10] [(0, (ptr g)), (1, (i64 a)), (3, (Value.slice B1 ((l15.drop i).length) d1)), (8, (i64 0)), (9, (i64 0)), (10, (i64 0)), (13, (i64 (base + ((l15.length : Nat) : Int)))), (14, Value.nilIface), (63, (Value.bool true)), (78, (Value.bool true))] (by kernel_rfl) rfl (by kernel_rfl) ?_
       refine Dr.done (by kernel_rfl) ?_
       refine q_then (o := .tmp 78) (by kernel_rfl) rfl ?_
       refine q_exit (id := 1) (by kernel_rfl) ?_
       refine qs ?_
       refine qs ?_
       refine qg ?_
       refine og 3 [(0, (ptr g)), (1, (i64 a)), (3, (Value.slice B1 ((l15.drop i).length) d1)), (8, (i64 0)), (9, (i64 0)), (10, (i64 0)), (13, (i64 (base + ((l15.length : Nat) : Int)))), (85, (Value.bool ((((l15.drop i).length : Nat) : Int) == 0)))] 3 ?_
       refine od ?_
       obtain ⟨j, hj⟩ : ∃ m : Nat, a - base = (m : Int) := Int.eq_ofNat_of_zero_le (by omega)
       have h42 : ((((l15.drop i).length : Nat) : Int) == 0) = false := beq_f (by omega)
       rw [h42]
       refine q_else (o := .tmp 85) (by kernel_rfl) rfl ?_
       refine q_skip (by kernel_rfl) ?_
       refine qs ?_
       refine q_draw (fun wz => Keeps none_ w40 wz) 28 (by kernel_rfl) (by kernel_rfl) (by kernel_rfl) (fun w43 K44 _ _ => ⟨K44, ?_⟩)
       replace K25 := K25.trans K44 (U := (fun i => i = g)) (fun i h1 h2 => h2) (fun i h1 h2 => by exact h2.elim)
       replace H26 := H26.keep K44 (fun h => h)
       replace hE := Ents.keep0 hE K44
       replace hY1 := Ents.keep0 hY1 K44
       refine Dr.strong (S' := (fun wz => Keeps none_ w43 wz)) (Keeps.refl w43) (fun wz hx => K44.trans hx (fun i _ h => h) (fun _ _ h => h)) ?_
       clear K44
       refine Dr.takes (fuel' := 25) (is' := [2, 1, 0]) [0, 1, 2] [(0, (ptr g)), (1, (i64 a)), (3, (Value.slice B1 ((l15.drop i).length) d1)), (8, (i64 0)), (9, (i64 0)), (10, (i64 0)), (13, (i64 (base + ((l15.length : Nat) : Int)))), (89, (ptr g))] (by kernel_rfl) rfl (by kernel_rfl) ?_
       refine Dr.take (i := 3) (v := (i64 base)) (by kernel_rfl) (by kernel_rfl) (fun wz hS => Runs.load (t := 2) (a := ⟨g, 0, none⟩) (by kernel_rfl) ((H26.keep hS (fun h => h)).loads (by kernel_rfl))) (d := (some 90)) (by kernel_rfl) rfl ?_
       refine Dr.takes (fuel' := 21) (is' := [6, 5, 4, 3, 2, 1, 0]) [4, 5, 6] [(0, (ptr g)), (1, (i64 a)), (3, (Value.slice B1 ((l15.drop i).length) d1)), (8, (i64 0)), (9, (i64 0)), (10, (i64 0)), (13, (i64 (base + ((l15.length : Nat) : Int)))), (90, (i64 base)), (93, (Value.pointer (some ⟨g, 1, none⟩)))] (by kernel_rfl) rfl (by kernel_rfl) ?_
       refine Dr.take (i := 7) (v := (i64 old)) (by kernel_rfl) (by kernel_rfl) (fun wz hS => Runs.load (t := 2) (a := ⟨g, 1, none⟩) (by kernel_rfl) ((H26.keep hS (fun h => h)).loads (by kernel_rfl))) (d := (some 94)) (by kernel_rfl) rfl ?_
       refine Dr.takes (fuel' := 17) (is' := [10, 9, 8, 7, 6, 5, 4, 3, 2, 1, 0]) [8, 9, 10] [(0, (ptr g)), (1, (i64 a)), (3, (Value.slice B1 ((l15.drop i).length) d1)), (8, (i64 0)), (9, (i64 0)), (10, (i64 0)), (13, (i64 (base + ((l15.length : Nat) : Int)))), (90, (i64 base)), (94, (i64 old)), (97, (Value.pointer (some ⟨g, 2, none⟩)))] (by kernel_rfl) rfl (by kernel_rfl) ?_
       refine Dr.take (i := 11) (v := (Value.slice A l.length c)) (by kernel_rfl) (by kernel_rfl) (fun wz hS => Runs.load (t := 22) (a := ⟨g, 2, none⟩) (by kernel_rfl) ((H26.keep hS (fun h => h)).loads (by kernel_rfl))) (d := (some 98)) (by kernel_rfl) rfl ?_
       refine Dr.takes (fuel' := 12) (is' := [15, 14, 13, 12, 11, 10, 9, 8, 7, 6, 5, 4, 3, 2, 1, 0]) [12, 13, 14, 15] [(0, (ptr g)), (1, (i64 a)), (3, (Value.slice B1 ((l15.drop i).length) d1)), (8, (i64 0)), (9, (i64 0)), (10, (i64 0)), (13, (i64 (base + ((l15.length : Nat) : Int)))), (90, (i64 base)), (94, (i64 old)), (98, (Value.slice A l.length c)), (99, (i64 a)), (102, (ptr g))] (by kernel_rfl) rfl (by kernel_rfl) ?_
       refine Dr.take (i := 16) (v := (i64 base)) (by kernel_rfl) (by kernel_rfl) (fun wz hS => Runs.load (t := 2) (a := ⟨g, 0, none⟩) (by kernel_rfl) ((H26.keep hS (fun h => h)).loads (by kernel_rfl))) (d := (some 103)) (by kernel_rfl) rfl ?_
       refine Dr.takes (fuel' := 10) (is' := [17, 16, 15, 14, 13, 12, 11, 10, 9, 8, 7, 6, 5, 4, 3, 2, 1, 0]) [17] [(0, (ptr g)), (1, (i64 a)), (3, (Value.slice B1 ((l15.drop i).length) d1)), (8, (i64 0)), (9, (i64 0)), (10, (i64 0)), (13, (i64 (base + ((l15.length : Nat) : Int)))), (90, (i64 base)), (94, (i64 old)), (98, (Value.slice A l.length c)), (104, (i64 (IntKind.i64.wrap (a - base))))] (by kernel_rfl) rfl (by kernel_rfl) ?_
       have e45 : IntKind.i64.wrap (a - base) = ((j : Nat) : Int) := by rw [wrap_i64 (by omega) (by omega)]; omega
       rw [e45]
       refine Dr.takes (fuel' := 6) (is' := [21, 20, 19, 18, 17, 16, 15, 14, 13, 12, 11, 10, 9, 8, 7, 6, 5, 4, 3, 2, 1, 0]) [18, 19, 20, 21] [(0, (ptr g)), (1, (i64 a)), (3, (Value.slice B1 ((l15.drop i).length) d1)), (8, (i64 0)), (9, (i64 0)), (10, (i64 0)), (13, (i64 (base + ((l15.length : Nat) : Int)))), (90, (i64 base)), (94, (i64 old)), (98, (Value.slice A l.length c)), (104, (i64 ((j : Nat) : Int))), (105, (i64 a)), (108, (ptr g))] (by kernel_rfl) rfl (by kernel_rfl) ?_
       refine Dr.take (i := 22) (v := (i64 base)) (by kernel_rfl) (by kernel_rfl) (fun wz hS => Runs.load (t := 2) (a := ⟨g, 0, none⟩) (by kernel_rfl) ((H26.keep hS (fun h => h)).loads (by kernel_rfl))) (d := (some 109)) (by kernel_rfl) rfl ?_
       refine Dr.takes (fuel' := 4) (is' := [23, 22, 21, 20, 19, 18, 17, 16, 15, 14, 13, 12, 11, 10, 9, 8, 7, 6, 5, 4, 3, 2, 1, 0]) [23] [(0, (ptr g)), (1, (i64 a)), (3, (Value.slice B1 ((l15.drop i).length) d1)), (8, (i64 0)), (9, (i64 0)), (10, (i64 0)), (13, (i64 (base + ((l15.length : Nat) : Int)))), (90, (i64 base)), (94, (i64 old)), (98, (Value.slice A l.length c)), (104, (i64 ((j : Nat) : Int))), (110, (i64 (IntKind.i64.wrap (a - base))))] (by kernel_rfl) rfl (by kernel_rfl) ?_
       have e46 : IntKind.i64.wrap (a - base) = ((j : Nat) : Int) := by rw [wrap_i64 (by omega) (by omega)]; omega
       rw [e46]
       obtain ⟨hr49, hE50⟩ := Ents.headRun (P := Try.prog) (t := 22) (e := 43) (by kernel_rfl) (by kernel_rfl) hE j j (kh := .i64) (mx := (some (i64 ((j : Nat) : Int)))) (.inr ⟨_, rfl⟩) (by omega) (by omega) (by omega)
       obtain ⟨l47, hl48⟩ : ∃ z, z = l.take j := ⟨_, rfl⟩
       rw [← hl48] at hr49 hE50
       have hn51 : l47.length = j := by rw [hl48]; simp only [List.length_take]; omega
       have hc52 := Ents.len hE50
       refine Dr.take (i := 24) (v := (Value.slice A l47.length j)) (by kernel_rfl) (by kernel_rfl) (fun wz hS => Runs.slice (by kernel_rfl) (hr49 _)) (d := (some 111)) (by kernel_rfl) rfl ?_
       refine Dr.takes (fuel' := 2) (is' := [25, 24, 23, 22, 21, 20, 19, 18, 17, 16, 15, 14, 13, 12, 11, 10, 9, 8, 7, 6, 5, 4, 3, 2, 1, 0]) [25] [(0, (ptr g)), (1, (i64 a)), (3, (Value.slice B1 ((l15.drop i).length) d1)), (8, (i64 0)), (9, (i64 0)), (10, (i64 0)), (13, (i64 (base + ((l15.length : Nat) : Int)))), (112, (agg [(i64 base), (i64 old), (Value.slice A l47.length j)]))] (by kernel_rfl) rfl (by kernel_rfl) ?_
       refine Dr.new (i := 26) (o := rowL [(i64 base), (i64 old), (Value.slice A l47.length j)] 55) (V := fun b => (ptr b)) (by kernel_rfl) (by kernel_rfl) (d := (some 113)) (by kernel_rfl) (fun b => rfl) (fun b53 w54 hb55 H56 K57 hs58 => ?_)
       have lb53g : g < b53 := by have := H26.lt; omega
       have nb53 : w.heap.size ≤ b53 := by have := K25.size; omega
       have ot59 : ∀ i, T i → i ≠ b53 := fun i hi => by have := Ents.lt hE i hi; omega
       have ot60 : ∀ i, U i → i ≠ b53 := fun i hi => by have := Ents.lt hY1 i hi; omega
       have ot61 : ∀ i, T i → i ≠ b53 := fun i hi => by have := Ents.lt hE50 i hi; omega
       replace K25 := K25.trans K57 (U := (fun i => i = g)) (fun i h1 h2 => h2) (fun i h1 h2 => by exact h2.elim)
       replace H26 := H26.keep K57 (fun h => h)
       replace hE := Ents.keep0 hE K57
       replace hY1 := Ents.keep0 hY1 K57
       replace hE50 := Ents.keep0 hE50 K57
       refine ⟨K57, ?_⟩
       refine Dr.strong (S' := (fun wz => Keeps none_ w54 wz)) (Keeps.refl w54) (fun wz hx => K57.trans hx (fun i _ h => h) (fun _ _ h => h)) ?_
       clear K57 hs58
       refine Dr.takes (fuel' := 0) (is' := [27, 26, 25, 24, 23, 22, 21, 20, 19, 18, 17, 16, 15, 14, 13, 12, 11, 10, 9, 8, 7, 6, 5, 4, 3, 2, 1, 0]) [27] [(0, (ptr g)), (1, (i64 a)), (3, (Value.slice B1 ((l15.drop i).length) d1)), (8, (i64 0)), (9, (i64 0)), (10, (i64 0)), (13, (i64 (base + ((l15.length : Nat) : Int)))), (15, (ptr b53))] (by kernel_rfl) rfl (by kernel_rfl) ?_
       refine Dr.done (by kernel_rfl) ?_
       refine qs ?_
       refine qs ?_
       refine qg ?_
       refine og 2 [(0, (ptr g)), (1, (i64 a)), (8, (i64 0)), (9, (i64 0)), (10, (i64 0)), (13, (i64 (base + ((l15.length : Nat) : Int)))), (15, (ptr b53)), (114, (ptr b53)), (115, (Value.slice B1 ((l15.drop i).length) d1))] 2 ?_
       by_cases hq62 : appE base old (l47.map EntP.key) ((l15.drop i).map EntP.key) = 0
       ·skip
        refine Ops.call (by kernel_rfl) (d := (some 116)) (by kernel_rfl) (Append_ok _ T b53 base old A l47 U B1 d1 (l15.drop i) (by have q := H56; rw [← hn51] at q; exact q) (by have q := hE50; rw [← hn51] at q; exact q) ot61 (by omega) (by omega) hY1 ot60 (BigK.take hl48 hBig) (BigK.cut (k := i) (j := l15.length) (by rw [List.take_of_length_le (by simp)]) (BigK.cut hl16 hBigY)) (by omega) hq62) ?_
        rintro _ w67 ⟨l63, A64, c65, T66, rfl, K68, H69, hE70, hK71, hT72⟩
        have ot73 : ∀ i, T66 i → i ≠ g := fun i hi => by rcases (hT72 i hi).2 with h | h; (exact hT i h); (have := H26.lt; omega)
        have ot74 : ∀ i, T66 i → i ≠ b53 := fun i hi => (hT72 i hi).1
        have hn75 := keys_len2 hK71
        try rw [List.length_drop] at hn75
        try rw [List.length_append] at hn75
        try rw [List.length_map] at hn75
        try rw [List.length_map] at hn75
        have hz76 := K25.size
        refine ⟨_, _, rfl, rfl, ?_⟩
        replace K25 := K25.trans K68 (U := (fun i => i = g)) (fun i h1 h2 => h2) (fun i h1 h2 => by have h2 : i = b53 := h2; show i = g; omega)
        replace H26 := H26.keep K68 (by intro h; change g = b53 at h; omega)
        replace hE := Ents.keep hE K68 (fun i hi hs => by have hs : i = b53 := hs; have := ot59 i hi; omega)
        replace hY1 := Ents.keep hY1 K68 (fun i hi hs => by have hs : i = b53 := hs; have := ot60 i hi; omega)
        replace hE50 := Ents.keep hE50 K68 (fun i hi hs => by have hs : i = b53 := hs; have := ot61 i hi; omega)
        clear K68
        refine og 1 [(0, (ptr g)), (1, (i64 a)), (8, (i64 0)), (9, (i64 0)), (10, (i64 0)), (13, (i64 (base + ((l15.length : Nat) : Int)))), (15, (ptr b53)), (16, (i64 0))] 4 ?_
        refine od ?_
        refine qs ?_
        refine qg ?_
        refine og 2 [(0, (ptr g)), (1, (i64 a)), (8, (i64 0)), (9, (i64 0)), (10, (i64 0)), (13, (i64 (base + ((l15.length : Nat) : Int)))), (15, (ptr b53)), (16, (i64 0)), (118, (Value.bool false))] 2 ?_
        refine od ?_
        refine q_else (o := .tmp 118) (by kernel_rfl) rfl ?_
        refine q_skip (by kernel_rfl) ?_
        refine qs ?_
        refine qg ?_
        refine og 4 [(1, (i64 a)), (8, (i64 0)), (9, (i64 0)), (10, (i64 0)), (13, (i64 (base + ((l15.length : Nat) : Int)))), (120, (ptr g)), (123, (Value.pointer (some ⟨b53, 2, none⟩)))] 4 ?_
        refine Ops.go (v := (Value.slice A64 l63.length c65)) (by kernel_rfl) (Runs.load (t := 22) (a := ⟨b53, 2, none⟩) (by kernel_rfl) (H69.loads (by kernel_rfl))) (d := (some 124)) (by kernel_rfl) rfl ?_
        refine og 2 [(1, (i64 a)), (8, (i64 0)), (9, (i64 0)), (10, (i64 0)), (13, (i64 (base + ((l15.length : Nat) : Int)))), (124, (Value.slice A64 l63.length c65)), (126, (Value.pointer (some ⟨g, 2, none⟩)))] 7 ?_
        refine Ops.put (t := 22) (b := g) (off := 2) (v := (Value.slice A64 l63.length c65)) (ys := [(i64 base), (i64 old), (Value.slice A64 l63.length c65)]) (by kernel_rfl) (by kernel_rfl) H26 (by kernel_rfl) (d := none) (by kernel_rfl) rfl (fun w77 H78 K79 => ?_)
        clear H26
        replace K25 := K25.trans K79 (U := (fun i => i = g)) (fun i h1 h2 => h2) (fun i h1 h2 => by have h2 : i = g := h2; show i = g; omega)
        replace H69 := H69.keep K79 (by intro h; change b53 = g at h; omega)
        replace hE := Ents.keep hE K79 (fun i hi hs => by have hs : i = g := hs; have := hT i hi; omega)
        replace hY1 := Ents.keep hY1 K79 (fun i hi hs => by have hs : i = g := hs; have := hU i hi; omega)
        replace hE50 := Ents.keep hE50 K79 (fun i hi hs => by have hs : i = g := hs; have := hT i hi; omega)
        replace hE70 := Ents.keep hE70 K79 (fun i hi hs => by have hs : i = g := hs; have := ot73 i hi; omega)
        clear K79
        refine od ?_
        refine qs ?_
        refine qg ?_
        refine og 3 [(8, (i64 0)), (9, (i64 0)), (10, (i64 0)), (127, (i64 (base + ((l15.length : Nat) : Int)))), (129, (i64 (IntKind.i64.wrap (a + 1))))] 3 ?_
        have e80 : IntKind.i64.wrap (a + 1) = a + 1 := wrap_i64 (by omega) (by omega)
        rw [e80]
        refine og 3 [(8, (i64 (base + ((l15.length : Nat) : Int)))), (9, (i64 (a + 1))), (10, (i64 0))] 6 ?_
        refine od ?_
        refine q_ret (by kernel_rfl) ?_
        refine ⟨(Value.tuple #[(i64 (base + ((l15.length : Nat) : Int))), (i64 (a + 1)), (i64 0)]), retv_tmp3 rfl rfl rfl rfl, ?_⟩
        have em : matchK base old (l.map EntP.key) n t0 (ys.map EntP.key) = matchT base old (l.map EntP.key) base (l15.map EntP.key) := by unfold matchK; rw [if_neg (by omega), if_pos (by omega), if_neg (by omega), show (base - n).toNat = ks0 by omega, hl16, List.take_of_length_le (by simp), List.map_drop]
        have hyz : (l15.map EntP.key).length = l15.length := List.length_map ..
        have hr0 : runK base old (l.map EntP.key) a ((l15.map EntP.key).drop i) = 0 := (runK_high (by omega) _)
        rw [hr0, Nat.add_zero] at hrun
        have hkp : (l47.map EntP.key) = (l.map EntP.key).take j := by rw [hl48, List.map_take]
        have hkd : (l15.drop i).map EntP.key = (l15.map EntP.key).drop i := List.map_drop ..
        rw [hkp, hkd] at hq62
        have e := em.trans (matchT_ok hrun (by omega) (by omega) hq62)
        exact ⟨l63, A64, c65, T66, by rw [e, hyz] <;> first | rfl | (rw [ha]; done) | (rw [ha]; rfl), K25, H78, hE70, by rw [e, hK71, hkp, hkd], fun i hi => ⟨ot73 i hi, ((hT72 i hi).2).imp id (fun h => by omega)⟩⟩
       ·skip
        refine Ops.call (by kernel_rfl) (d := (some 116)) (by kernel_rfl) (Append_bad _ T b53 base old A l47 U B1 d1 (l15.drop i) (by have q := H56; rw [← hn51] at q; exact q) (by have q := hE50; rw [← hn51] at q; exact q) ot61 (by omega) (by omega) hY1 ot60 (BigK.take hl48 hBig) (BigK.cut (k := i) (j := l15.length) (by rw [List.take_of_length_le (by simp)]) (BigK.cut hl16 hBigY)) (by omega) hq62) ?_
        rintro _ w82 ⟨rfl, K81⟩
        refine ⟨_, _, rfl, rfl, ?_⟩
        replace K25 := K25.trans K81 (U := (fun i => i = g)) (fun i h1 h2 => h2) (fun i h1 h2 => by exact h2.elim)
        replace H26 := H26.keep K81 (fun h => h)
        replace H56 := H56.keep K81 (fun h => h)
        replace hE := Ents.keep0 hE K81
        replace hY1 := Ents.keep0 hY1 K81
        replace hE50 := Ents.keep0 hE50 K81
        clear K81
        refine og 1 [(0, (ptr g)), (1, (i64 a)), (8, (i64 0)), (9, (i64 0)), (10, (i64 0)), (13, (i64 (base + ((l15.length : Nat) : Int)))), (15, (ptr b53)), (16, (i64 (appE base old (l47.map EntP.key) ((l15.drop i).map EntP.key))))] 4 ?_
        refine od ?_
        refine qs ?_
        refine qg ?_
        refine og 2 [(0, (ptr g)), (1, (i64 a)), (8, (i64 0)), (9, (i64 0)), (10, (i64 0)), (13, (i64 (base + ((l15.length : Nat) : Int)))), (15, (ptr b53)), (16, (i64 (appE base old (l47.map EntP.key) ((l15.drop i).map EntP.key)))), (118, (Value.bool ((appE base old (l47.map EntP.key) ((l15.drop i).map EntP.key)) != 0)))] 2 ?_
        refine od ?_
        have h84 : ((appE base old (l47.map EntP.key) ((l15.drop i).map EntP.key)) != 0) = true := bne_t hq62
        rw [h84]
        refine q_then (o := .tmp 118) (by kernel_rfl) rfl ?_
        refine qs ?_
        refine qg ?_
        refine og 4 [(0, (ptr g)), (1, (i64 a)), (8, (i64 0)), (9, (i64 0)), (10, (i64 (appE base old (l47.map EntP.key) ((l15.drop i).map EntP.key)))), (13, (i64 (base + ((l15.length : Nat) : Int)))), (15, (ptr b53))] 4 ?_
        refine od ?_
        refine q_ret (by kernel_rfl) ?_
        refine ⟨(Value.tuple #[(i64 0), (i64 0), (i64 (appE base old (l47.map EntP.key) ((l15.drop i).map EntP.key)))]), retv_tmp3 rfl rfl rfl rfl, ?_⟩
        have em : matchK base old (l.map EntP.key) n t0 (ys.map EntP.key) = matchT base old (l.map EntP.key) base (l15.map EntP.key) := by unfold matchK; rw [if_neg (by omega), if_pos (by omega), if_neg (by omega), show (base - n).toNat = ks0 by omega, hl16, List.take_of_length_le (by simp), List.map_drop]
        have hyz : (l15.map EntP.key).length = l15.length := List.length_map ..
        have hr0 : runK base old (l.map EntP.key) a ((l15.map EntP.key).drop i) = 0 := (runK_high (by omega) _)
        rw [hr0, Nat.add_zero] at hrun
        have hkp : (l47.map EntP.key) = (l.map EntP.key).take j := by rw [hl48, List.map_take]
        have hkd : (l15.drop i).map EntP.key = (l15.map EntP.key).drop i := List.map_drop ..
        rw [hkp, hkd] at hq62
        have e := em.trans (matchT_bad hrun (by omega) (by omega) hq62)
        exact ⟨l, A, c, T, by rw [e, hkp, hkd], K25, H26, hE, by rw [e], fun i hi => ⟨hT0 i hi, .inl hi⟩⟩
      ·exfalso; omega
      ·skip
       obtain ⟨x36, hx37⟩ : ∃ y, l[k35]? = some y := ⟨_, List.getElem?_eq_getElem q34⟩
       refine Ops.call (by kernel_rfl) (d := (some 67)) (by kernel_rfl) (at_here _ T g base old A c l (a + 1) k35 x36 H26 hE hT (by omega) (by omega) q33 q34 hx37) ?_
       rintro _ w86 ⟨rfl, K85⟩
       refine ⟨_, _, rfl, rfl, ?_⟩
       replace K25 := K25.trans K85 (U := (fun i => i = g)) (fun i h1 h2 => h2) (fun i h1 h2 => by exact h2.elim)
       replace H26 := H26.keep K85 (fun h => h)
       replace hE := Ents.keep0 hE K85
       replace hY1 := Ents.keep0 hY1 K85
       clear K85
       refine og 1 [(0, (ptr g)), (1, (i64 a)), (3, (Value.slice B1 ((l15.drop i).length) d1)), (8, (i64 0)), (9, (i64 0)), (10, (i64 0)), (13, (i64 (base + ((l15.length : Nat) : Int)))), (14, (Value.iface 64 (agg [(i64 x36.term), (Value.slice x36.A x36.cmd.length x36.c)]))), (63, (Value.bool true))] 5 ?_
       refine od ?_
       refine qs ?_
       refine qs ?_
       refine q_draw (fun wz => Keeps none_ w86 wz) 11 (by kernel_rfl) (by kernel_rfl) (by kernel_rfl) (fun w87 K88 _ _ => ⟨K88, ?_⟩)
       replace K25 := K25.trans K88 (U := (fun i => i = g)) (fun i h1 h2 => h2) (fun i h1 h2 => by exact h2.elim)
       replace H26 := H26.keep K88 (fun h => h)
       replace hE := Ents.keep0 hE K88
       replace hY1 := Ents.keep0 hY1 K88
       refine Dr.strong (S' := (fun wz => Keeps none_ w87 wz)) (Keeps.refl w87) (fun wz hx => K88.trans hx (fun i _ h => h) (fun _ _ h => h)) ?_
       clear K88
       obtain ⟨rb89, ro90, hA91⟩ := Rd.addr (Ents.rd hY1) (by omega)
       refine Dr.takes (fuel' := 6) (is' := [5, 3, 2, 1, 0]) [0, 1, 2, 3, 5] [(0, (ptr g)), (1, (i64 a)), (3, (Value.slice B1 ((l15.drop i).length) d1)), (8, (i64 0)), (9, (i64 0)), (10, (i64 0)), (13, (i64 (base + ((l15.length : Nat) : Int)))), (14, (Value.iface 64 (agg [(i64 x36.term), (Value.slice x36.A x36.cmd.length x36.c)]))), (63, (Value.bool true)), (70, (Value.bool false)), (71, (Value.iface 64 (agg [(i64 x36.term), (Value.slice x36.A x36.cmd.length x36.c)]))), (73, (Value.slice B1 ((l15.drop i).length) d1))] (by kernel_rfl) rfl (by kernel_rfl) ?_
       refine Dr.take (i := 6) (v := (Value.pointer (some ⟨rb89, ro90 + 0 * 2, none⟩))) (by kernel_rfl) (by kernel_rfl) (fun wz hS => Runs.ixSliceE (k := IntKind.i64) (t := 22) (len := ((l15.drop i).length)) (cap := d1) (s := 2) (off' := ro90 + 0 * 2) (i := 0) hA91 (by kernel_rfl) (by kernel_rfl) (by omega) (by omega) (by omega)) (d := (some 74)) (by kernel_rfl) rfl ?_
       refine Dr.takes (fuel' := 4) (is' := [7, 6, 5, 3, 2, 1, 0]) [7] [(0, (ptr g)), (1, (i64 a)), (3, (Value.slice B1 ((l15.drop i).length) d1)), (8, (i64 0)), (9, (i64 0)), (10, (i64 0)), (13, (i64 (base + ((l15.length : Nat) : Int)))), (14, (Value.iface 64 (agg [(i64 x36.term), (Value.slice x36.A x36.cmd.length x36.c)]))), (63, (Value.bool true)), (70, (Value.bool false)), (71, (Value.iface 64 (agg [(i64 x36.term), (Value.slice x36.A x36.cmd.length x36.c)]))), (75, (Value.pointer (some ⟨rb89, ro90 + 0 * 2, none⟩)))] (by kernel_rfl) rfl (by kernel_rfl) ?_
       refine Dr.take (i := 8) (v := (i64 y.term)) (by kernel_rfl) (by kernel_rfl) (fun wz hS => Runs.load (t := 2) (a := ⟨rb89, ro90 + 0 * 2, none⟩) (by kernel_rfl) (RdT.ldf (f := EntP.cells) (x := y) (o := 0) EntP.two (Ents.rd (Ents.keep0 hY1 hS)) (by kernel_rfl) hA91 hy rfl)) (d := (some 76)) (by kernel_rfl) rfl ?_
       refine Dr.call (i := 4) (by kernel_rfl) (by kernel_rfl) (d := (some 72)) (by kernel_rfl) (fun _ => here_calls _ x36) ?_
       rintro _ w93 ⟨rfl, K92⟩
       replace K25 := K25.trans K92 (U := (fun i => i = g)) (fun i h1 h2 => h2) (fun i h1 h2 => by exact h2.elim)
       replace H26 := H26.keep K92 (fun h => h)
       replace hE := Ents.keep0 hE K92
       replace hY1 := Ents.keep0 hY1 K92
       refine ⟨_, _, rfl, rfl, K92, ?_⟩
       refine Dr.strong (S' := (fun wz => Keeps none_ w93 wz)) (Keeps.refl w93) (fun wz hx => K92.trans hx (fun i _ h => h) (fun _ _ h => h)) ?_
       clear K92
       refine Dr.takes (fuel' := 0) (is' := [10, 9, 4, 8, 7, 6, 5, 3, 2, 1, 0]) [9, 10] [(0, (ptr g)), (1, (i64 a)), (3, (Value.slice B1 ((l15.drop i).length) d1)), (8, (i64 0)), (9, (i64 0)), (10, (i64 0)), (13, (i64 (base + ((l15.length : Nat) : Int)))), (14, (Value.iface 64 (agg [(i64 x36.term), (Value.slice x36.A x36.cmd.length x36.c)]))), (63, (Value.bool true)), (78, (Value.bool (x36.term != y.term)))] (by kernel_rfl) rfl (by kernel_rfl) ?_
       refine Dr.done (by kernel_rfl) ?_
       refine q_cond (o := .tmp 78) (b := (x36.term != y.term)) (by kernel_rfl) rfl (fun h94 => ?_) (fun h94 => ?_)
       ·rw [h94]
        have p95 : ¬ (x36.term = y.term) := of_bne_t h94
        refine q_exit (id := 1) (by kernel_rfl) ?_
        refine qs ?_
        refine qs ?_
        refine qg ?_
        refine og 3 [(0, (ptr g)), (1, (i64 a)), (3, (Value.slice B1 ((l15.drop i).length) d1)), (8, (i64 0)), (9, (i64 0)), (10, (i64 0)), (13, (i64 (base + ((l15.length : Nat) : Int)))), (85, (Value.bool ((((l15.drop i).length : Nat) : Int) == 0)))] 3 ?_
        refine od ?_
        obtain ⟨j, hj⟩ : ∃ m : Nat, a - base = (m : Int) := Int.eq_ofNat_of_zero_le (by omega)
        have h96 : ((((l15.drop i).length : Nat) : Int) == 0) = false := beq_f (by omega)
        rw [h96]
        refine q_else (o := .tmp 85) (by kernel_rfl) rfl ?_
        refine q_skip (by kernel_rfl) ?_
        refine qs ?_
        refine q_draw (fun wz => Keeps none_ w93 wz) 28 (by kernel_rfl) (by kernel_rfl) (by kernel_rfl) (fun w97 K98 _ _ => ⟨K98, ?_⟩)
        replace K25 := K25.trans K98 (U := (fun i => i = g)) (fun i h1 h2 => h2) (fun i h1 h2 => by exact h2.elim)
        replace H26 := H26.keep K98 (fun h => h)
        replace hE := Ents.keep0 hE K98
        replace hY1 := Ents.keep0 hY1 K98
        refine Dr.strong (S' := (fun wz => Keeps none_ w97 wz)) (Keeps.refl w97) (fun wz hx => K98.trans hx (fun i _ h => h) (fun _ _ h => h)) ?_
        clear K98
        refine Dr.takes (fuel' := 25) (is' := [2, 1, 0]) [0, 1, 2] [(0, (ptr g)), (1, (i64 a)), (3, (Value.slice B1 ((l15.drop i).length) d1)), (8, (i64 0)), (9, (i64 0)), (10, (i64 0)), (13, (i64 (base + ((l15.length : Nat) : Int)))), (89, (ptr g))] (by kernel_rfl) rfl (by kernel_rfl) ?_
        refine Dr.take (i := 3) (v := (i64 base)) (by kernel_rfl) (by kernel_rfl) (fun wz hS => Runs.load (t := 2) (a := ⟨g, 0, none⟩) (by kernel_rfl) ((H26.keep hS (fun h => h)).loads (by kernel_rfl))) (d := (some 90)) (by kernel_rfl) rfl ?_
        refine Dr.takes (fuel' := 21) (is' := [6, 5, 4, 3, 2, 1, 0]) [4, 5, 6] [(0, (ptr g)), (1, (i64 a)), (3, (Value.slice B1 ((l15.drop i).length) d1)), (8, (i64 0)), (9, (i64 0)), (10, (i64 0)), (13, (i64 (base + ((l15.length : Nat) : Int)))), (90, (i64 base)), (93, (Value.pointer (some ⟨g, 1, none⟩)))] (by kernel_rfl) rfl (by kernel_rfl) ?_
        refine Dr.take (i := 7) (v := (i64 old)) (by kernel_rfl) (by kernel_rfl) (fun wz hS => Runs.load (t := 2) (a := ⟨g, 1, none⟩) (by kernel_rfl) ((H26.keep hS (fun h => h)).loads (by kernel_rfl))) (d := (some 94)) (by kernel_rfl) rfl ?_
        refine Dr.takes (fuel' := 17) (is' := [10, 9, 8, 7, 6, 5, 4, 3, 2, 1, 0]) [8, 9, 10] [(0, (ptr g)), (1, (i64 a)), (3, (Value.slice B1 ((l15.drop i).length) d1)), (8, (i64 0)), (9, (i64 0)), (10, (i64 0)), (13, (i64 (base + ((l15.length : Nat) : Int)))), (90, (i64 base)), (94, (i64 old)), (97, (Value.pointer (some ⟨g, 2, none⟩)))] (by kernel_rfl) rfl (by kernel_rfl) ?_
        refine Dr.take (i := 11) (v := (Value.slice A l.length c)) (by kernel_rfl) (by kernel_rfl) (fun wz hS => Runs.load (t := 22) (a := ⟨g, 2, none⟩) (by kernel_rfl) ((H26.keep hS (fun h => h)).loads (by kernel_rfl))) (d := (some 98)) (by kernel_rfl) rfl ?_
        refine Dr.takes (fuel' := 12) (is' := [15, 14, 13, 12, 11, 10, 9, 8, 7, 6, 5, 4, 3, 2, 1, 0]) [12, 13, 14, 15] [(0, (ptr g)), (1, (i64 a)), (3, (Value.slice B1 ((l15.drop i).length) d1)), (8, (i64 0)), (9, (i64 0)), (10, (i64 0)), (13, (i64 (base + ((l15.length : Nat) : Int)))), (90, (i64 base)), (94, (i64 old)), (98, (Value.slice A l.length c)), (99, (i64 a)), (102, (ptr g))] (by kernel_rfl) rfl (by kernel_rfl) ?_
        refine Dr.take (i := 16) (v := (i64 base)) (by kernel_rfl) (by kernel_rfl) (fun wz hS => Runs.load (t := 2) (a := ⟨g, 0, none⟩) (by kernel_rfl) ((H26.keep hS (fun h => h)).loads (by kernel_rfl))) (d := (some 103)) (by kernel_rfl) rfl ?_
        refine Dr.takes (fuel' := 10) (is' := [17, 16, 15, 14, 13, 12, 11, 10, 9, 8, 7, 6, 5, 4, 3, 2, 1, 0]) [17] [(0, (ptr g)), (1, (i64 a)), (3, (Value.slice B1 ((l15.drop i).length) d1)), (8, (i64 0)), (9, (i64 0)), (10, (i64 0)), (13, (i64 (base + ((l15.length : Nat) : Int)))), (90, (i64 base)), (94, (i64 old)), (98, (Value.slice A l.length c)), (104, (i64 (IntKind.i64.wrap (a - base))))] (by kernel_rfl) rfl (by kernel_rfl) ?_
        have e99 : IntKind.i64.wrap (a - base) = ((j : Nat) : Int) := by rw [wrap_i64 (by omega) (by omega)]; omega
        rw [e99]
        refine Dr.takes (fuel' := 6) (is' := [21, 20, 19, 18, 17, 16, 15, 14, 13, 12, 11, 10, 9, 8, 7, 6, 5, 4, 3, 2, 1, 0]) [18, 19, 20, 21] [(0, (ptr g)), (1, (i64 a)), (3, (Value.slice B1 ((l15.drop i).length) d1)), (8, (i64 0)), (9, (i64 0)), (10, (i64 0)), (13, (i64 (base + ((l15.length : Nat) : Int)))), (90, (i64 base)), (94, (i64 old)), (98, (Value.slice A l.length c)), (104, (i64 ((j : Nat) : Int))), (105, (i64 a)), (108, (ptr g))] (by kernel_rfl) rfl (by kernel_rfl) ?_
        refine Dr.take (i := 22) (v := (i64 base)) (by kernel_rfl) (by kernel_rfl) (fun wz hS => Runs.load (t := 2) (a := ⟨g, 0, none⟩) (by kernel_rfl) ((H26.keep hS (fun h => h)).loads (by kernel_rfl))) (d := (some 109)) (by kernel_rfl) rfl ?_
        refine Dr.takes (fuel' := 4) (is' := [23, 22, 21, 20, 19, 18, 17, 16, 15, 14, 13, 12, 11, 10, 9, 8, 7, 6, 5, 4, 3, 2, 1, 0]) [23] [(0, (ptr g)), (1, (i64 a)), (3, (Value.slice B1 ((l15.drop i).length) d1)), (8, (i64 0)), (9, (i64 0)), (10, (i64 0)), (13, (i64 (base + ((l15.length : Nat) : Int)))), (90, (i64 base)), (94, (i64 old)), (98, (Value.slice A l.length c)), (104, (i64 ((j : Nat) : Int))), (110, (i64 (IntKind.i64.wrap (a - base))))] (by kernel_rfl) rfl (by kernel_rfl) ?_
        have e100 : IntKind.i64.wrap (a - base) = ((j : Nat) : Int) := by rw [wrap_i64 (by omega) (by omega)]; omega
        rw [e100]
        obtain ⟨hr103, hE104⟩ := Ents.headRun (P := Try.prog) (t := 22) (e := 43) (by kernel_rfl) (by kernel_rfl) hE j j (kh := .i64) (mx := (some (i64 ((j : Nat) : Int)))) (.inr ⟨_, rfl⟩) (by omega) (by omega) (by omega)
        obtain ⟨l101, hl102⟩ : ∃ z, z = l.take j := ⟨_, rfl⟩
        rw [← hl102] at hr103 hE104
        have hn105 : l101.length = j := by rw [hl102]; simp only [List.length_take]; omega
        have hc106 := Ents.len hE104
        refine Dr.take (i := 24) (v := (Value.slice A l101.length j)) (by kernel_rfl) (by kernel_rfl) (fun wz hS => Runs.slice (by kernel_rfl) (hr103 _)) (d := (some 111)) (by kernel_rfl) rfl ?_
        refine Dr.takes (fuel' := 2) (is' := [25, 24, 23, 22, 21, 20, 19, 18, 17, 16, 15, 14, 13, 12, 11, 10, 9, 8, 7, 6, 5, 4, 3, 2, 1, 0]) [25] [(0, (ptr g)), (1, (i64 a)), (3, (Value.slice B1 ((l15.drop i).length) d1)), (8, (i64 0)), (9, (i64 0)), (10, (i64 0)), (13, (i64 (base + ((l15.length : Nat) : Int)))), (112, (agg [(i64 base), (i64 old), (Value.slice A l101.length j)]))] (by kernel_rfl) rfl (by kernel_rfl) ?_
        refine Dr.new (i := 26) (o := rowL [(i64 base), (i64 old), (Value.slice A l101.length j)] 55) (V := fun b => (ptr b)) (by kernel_rfl) (by kernel_rfl) (d := (some 113)) (by kernel_rfl) (fun b => rfl) (fun b107 w108 hb109 H110 K111 hs112 => ?_)
        have lb107g : g < b107 := by have := H26.lt; omega
        have nb107 : w.heap.size ≤ b107 := by have := K25.size; omega
        have ot113 : ∀ i, T i → i ≠ b107 := fun i hi => by have := Ents.lt hE i hi; omega
        have ot114 : ∀ i, U i → i ≠ b107 := fun i hi => by have := Ents.lt hY1 i hi; omega
        have ot115 : ∀ i, T i → i ≠ b107 := fun i hi => by have := Ents.lt hE104 i hi; omega
        replace K25 := K25.trans K111 (U := (fun i => i = g)) (fun i h1 h2 => h2) (fun i h1 h2 => by exact h2.elim)
        replace H26 := H26.keep K111 (fun h => h)
        replace hE := Ents.keep0 hE K111
        replace hY1 := Ents.keep0 hY1 K111
        replace hE104 := Ents.keep0 hE104 K111
        refine ⟨K111, ?_⟩
        refine Dr.strong (S' := (fun wz => Keeps none_ w108 wz)) (Keeps.refl w108) (fun wz hx => K111.trans hx (fun i _ h => h) (fun _ _ h => h)) ?_
        clear K111 hs112
        refine Dr.takes (fuel' := 0) (is' := [27, 26, 25, 24, 23, 22, 21, 20, 19, 18, 17, 16, 15, 14, 13, 12, 11, 10, 9, 8, 7, 6, 5, 4, 3, 2, 1, 0]) [27] [(0, (ptr g)), (1, (i64 a)), (3, (Value.slice B1 ((l15.drop i).length) d1)), (8, (i64 0)), (9, (i64 0)), (10, (i64 0)), (13, (i64 (base + ((l15.length : Nat) : Int)))), (15, (ptr b107))] (by kernel_rfl) rfl (by kernel_rfl) ?_
        refine Dr.done (by kernel_rfl) ?_
        refine qs ?_
        refine qs ?_
        refine qg ?_
        refine og 2 [(0, (ptr g)), (1, (i64 a)), (8, (i64 0)), (9, (i64 0)), (10, (i64 0)), (13, (i64 (base + ((l15.length : Nat) : Int)))), (15, (ptr b107)), (114, (ptr b107)), (115, (Value.slice B1 ((l15.drop i).length) d1))] 2 ?_
        by_cases hq116 : appE base old (l101.map EntP.key) ((l15.drop i).map EntP.key) = 0
        ·skip
         refine Ops.call (by kernel_rfl) (d := (some 116)) (by kernel_rfl) (Append_ok _ T b107 base old A l101 U B1 d1 (l15.drop i) (by have q := H110; rw [← hn105] at q; exact q) (by have q := hE104; rw [← hn105] at q; exact q) ot115 (by omega) (by omega) hY1 ot114 (BigK.take hl102 hBig) (BigK.cut (k := i) (j := l15.length) (by rw [List.take_of_length_le (by simp)]) (BigK.cut hl16 hBigY)) (by omega) hq116) ?_
         rintro _ w121 ⟨l117, A118, c119, T120, rfl, K122, H123, hE124, hK125, hT126⟩
         have ot127 : ∀ i, T120 i → i ≠ g := fun i hi => by rcases (hT126 i hi).2 with h | h; (exact hT i h); (have := H26.lt; omega)
         have ot128 : ∀ i, T120 i → i ≠ b107 := fun i hi => (hT126 i hi).1
         have hn129 := keys_len2 hK125
         try rw [List.length_drop] at hn129
         try rw [List.length_append] at hn129
         try rw [List.length_map] at hn129
         try rw [List.length_map] at hn129
         have hz130 := K25.size
         refine ⟨_, _, rfl, rfl, ?_⟩
         replace K25 := K25.trans K122 (U := (fun i => i = g)) (fun i h1 h2 => h2) (fun i h1 h2 => by have h2 : i = b107 := h2; show i = g; omega)
         replace H26 := H26.keep K122 (by intro h; change g = b107 at h; omega)
         replace hE := Ents.keep hE K122 (fun i hi hs => by have hs : i = b107 := hs; have := ot113 i hi; omega)
         replace hY1 := Ents.keep hY1 K122 (fun i hi hs => by have hs : i = b107 := hs; have := ot114 i hi; omega)
         replace hE104 := Ents.keep hE104 K122 (fun i hi hs => by have hs : i = b107 := hs; have := ot115 i hi; omega)
         clear K122
         refine og 1 [(0, (ptr g)), (1, (i64 a)), (8, (i64 0)), (9, (i64 0)), (10, (i64 0)), (13, (i64 (base + ((l15.length : Nat) : Int)))), (15, (ptr b107)), (16, (i64 0))] 4 ?_
         refine od ?_
         refine qs ?_
         refine qg ?_
         refine og 2 [(0, (ptr g)), (1, (i64 a)), (8, (i64 0)), (9, (i64 0)), (10, (i64 0)), (13, (i64 (base + ((l15.length : Nat) : Int)))), (15, (ptr b107)), (16, (i64 0)), (118, (Value.bool false))] 2 ?_
         refine od ?_
         refine q_else (o := .tmp 118) (by kernel_rfl) rfl ?_
         refine q_skip (by kernel_rfl) ?_
         refine qs ?_
         refine qg ?_
         refine og 4 [(1, (i64 a)), (8, (i64 0)), (9, (i64 0)), (10, (i64 0)), (13, (i64 (base + ((l15.length : Nat) : Int)))), (120, (ptr g)), (123, (Value.pointer (some ⟨b107, 2, none⟩)))] 4 ?_
         refine Ops.go (v := (Value.slice A118 l117.length c119)) (by kernel_rfl) (Runs.load (t := 22) (a := ⟨b107, 2, none⟩) (by kernel_rfl) (H123.loads (by kernel_rfl))) (d := (some 124)) (by kernel_rfl) rfl ?_
         refine og 2 [(1, (i64 a)), (8, (i64 0)), (9, (i64 0)), (10, (i64 0)), (13, (i64 (base + ((l15.length : Nat) : Int)))), (124, (Value.slice A118 l117.length c119)), (126, (Value.pointer (some ⟨g, 2, none⟩)))] 7 ?_
         refine Ops.put (t := 22) (b := g) (off := 2) (v := (Value.slice A118 l117.length c119)) (ys := [(i64 base), (i64 old), (Value.slice A118 l117.length c119)]) (by kernel_rfl) (by kernel_rfl) H26 (by kernel_rfl) (d := none) (by kernel_rfl) rfl (fun w131 H132 K133 => ?_)
         clear H26
         replace K25 := K25.trans K133 (U := (fun i => i = g)) (fun i h1 h2 => h2) (fun i h1 h2 => by have h2 : i = g := h2; show i = g; omega)
         replace H123 := H123.keep K133 (by intro h; change b107 = g at h; omega)
         replace hE := Ents.keep hE K133 (fun i hi hs => by have hs : i = g := hs; have := hT i hi; omega)
         replace hY1 := Ents.keep hY1 K133 (fun i hi hs => by have hs : i = g := hs; have := hU i hi; omega)
         replace hE104 := Ents.keep hE104 K133 (fun i hi hs => by have hs : i = g := hs; have := hT i hi; omega)
         replace hE124 := Ents.keep hE124 K133 (fun i hi hs => by have hs : i = g := hs; have := ot127 i hi; omega)
         clear K133
         refine od ?_
         refine qs ?_
         refine qg ?_
         refine og 3 [(8, (i64 0)), (9, (i64 0)), (10, (i64 0)), (127, (i64 (base + ((l15.length : Nat) : Int)))), (129, (i64 (IntKind.i64.wrap (a + 1))))] 3 ?_
         have e134 : IntKind.i64.wrap (a + 1) = a + 1 := wrap_i64 (by omega) (by omega)
         rw [e134]
         refine og 3 [(8, (i64 (base + ((l15.length : Nat) : Int)))), (9, (i64 (a + 1))), (10, (i64 0))] 6 ?_
         refine od ?_
         refine q_ret (by kernel_rfl) ?_
         refine ⟨(Value.tuple #[(i64 (base + ((l15.length : Nat) : Int))), (i64 (a + 1)), (i64 0)]), retv_tmp3 rfl rfl rfl rfl, ?_⟩
         have em : matchK base old (l.map EntP.key) n t0 (ys.map EntP.key) = matchT base old (l.map EntP.key) base (l15.map EntP.key) := by unfold matchK; rw [if_neg (by omega), if_pos (by omega), if_neg (by omega), show (base - n).toNat = ks0 by omega, hl16, List.take_of_length_le (by simp), List.map_drop]
         have hyz : (l15.map EntP.key).length = l15.length := List.length_map ..
         have hr0 : runK base old (l.map EntP.key) a ((l15.map EntP.key).drop i) = 0 := (runK_ne (k := k35) (by omega) (ekey_at hx37) hyk (by omega))
         rw [hr0, Nat.add_zero] at hrun
         have hkp : (l101.map EntP.key) = (l.map EntP.key).take j := by rw [hl102, List.map_take]
         have hkd : (l15.drop i).map EntP.key = (l15.map EntP.key).drop i := List.map_drop ..
         rw [hkp, hkd] at hq116
         have e := em.trans (matchT_ok hrun (by omega) (by omega) hq116)
         exact ⟨l117, A118, c119, T120, by rw [e, hyz] <;> first | rfl | (rw [ha]; done) | (rw [ha]; rfl), K25, H132, hE124, by rw [e, hK125, hkp, hkd], fun i hi => ⟨ot127 i hi, ((hT126 i hi).2).imp id (fun h => by omega)⟩⟩
        ·skip
         refine Ops.call (by kernel_rfl) (d := (some 116)) (by kernel_rfl) (Append_bad _ T b107 base old A l101 U B1 d1 (l15.drop i) (by have q := H110; rw [← hn105] at q; exact q) (by have q := hE104; rw [← hn105] at q; exact q) ot115 (by omega) (by omega) hY1 ot114 (BigK.take hl102 hBig) (BigK.cut (k := i) (j := l15.length) (by rw [List.take_of_length_le (by simp)]) (BigK.cut hl16 hBigY)) (by omega) hq116) ?_
         rintro _ w136 ⟨rfl, K135⟩
         refine ⟨_, _, rfl, rfl, ?_⟩
         replace K25 := K25.trans K135 (U := (fun i => i = g)) (fun i h1 h2 => h2) (fun i h1 h2 => by exact h2.elim)
         replace H26 := H26.keep K135 (fun h => h)
         replace H110 := H110.keep K135 (fun h => h)
         replace hE := Ents.keep0 hE K135
         replace hY1 := Ents.keep0 hY1 K135
         replace hE104 := Ents.keep0 hE104 K135
         clear K135
         refine og 1 [(0, (ptr g)), (1, (i64 a)), (8, (i64 0)), (9, (i64 0)), (10, (i64 0)), (13, (i64 (base + ((l15.length : Nat) : Int)))), (15, (ptr b107)), (16, (i64 (appE base old (l101.map EntP.key) ((l15.drop i).map EntP.key))))] 4 ?_
         refine od ?_
         refine qs ?_
         refine qg ?_
         refine og 2 [(0, (ptr g)), (1, (i64 a)), (8, (i64 0)), (9, (i64 0)), (10, (i64 0)), (13, (i64 (base + ((l15.length : Nat) : Int)))), (15, (ptr b107)), (16, (i64 (appE base old (l101.map EntP.key) ((l15.drop i).map EntP.key)))), (118, (Value.bool ((appE base old (l101.map EntP.key) ((l15.drop i).map EntP.key)) != 0)))] 2 ?_
         refine od ?_
         have h138 : ((appE base old (l101.map EntP.key) ((l15.drop i).map EntP.key)) != 0) = true := bne_t hq116
         rw [h138]
         refine q_then (o := .tmp 118) (by kernel_rfl) rfl ?_
         refine qs ?_
         refine qg ?_
         refine og 4 [(0, (ptr g)), (1, (i64 a)), (8, (i64 0)), (9, (i64 0)), (10, (i64 (appE base old (l101.map EntP.key) ((l15.drop i).map EntP.key)))), (13, (i64 (base + ((l15.length : Nat) : Int)))), (15, (ptr b107))] 4 ?_
         refine od ?_
         refine q_ret (by kernel_rfl) ?_
         refine ⟨(Value.tuple #[(i64 0), (i64 0), (i64 (appE base old (l101.map EntP.key) ((l15.drop i).map EntP.key)))]), retv_tmp3 rfl rfl rfl rfl, ?_⟩
         have em : matchK base old (l.map EntP.key) n t0 (ys.map EntP.key) = matchT base old (l.map EntP.key) base (l15.map EntP.key) := by unfold matchK; rw [if_neg (by omega), if_pos (by omega), if_neg (by omega), show (base - n).toNat = ks0 by omega, hl16, List.take_of_length_le (by simp), List.map_drop]
         have hyz : (l15.map EntP.key).length = l15.length := List.length_map ..
         have hr0 : runK base old (l.map EntP.key) a ((l15.map EntP.key).drop i) = 0 := (runK_ne (k := k35) (by omega) (ekey_at hx37) hyk (by omega))
         rw [hr0, Nat.add_zero] at hrun
         have hkp : (l101.map EntP.key) = (l.map EntP.key).take j := by rw [hl102, List.map_take]
         have hkd : (l15.drop i).map EntP.key = (l15.map EntP.key).drop i := List.map_drop ..
         rw [hkp, hkd] at hq116
         have e := em.trans (matchT_bad hrun (by omega) (by omega) hq116)
         exact ⟨l, A, c, T, by rw [e, hkp, hkd], K25, H26, hE, by rw [e], fun i hi => ⟨hT0 i hi, .inl hi⟩⟩
       ·rw [h94]
        have p139 : x36.term = y.term := of_bne_f h94
        have hre := runK_eq (old := old) (k := k35) (by omega) (ekey_at hx37) hyk (by omega)
        refine q_skip (by kernel_rfl) ?_
        refine q_draw (fun wz => Keeps none_ w93 wz) 6 (by kernel_rfl) (by kernel_rfl) (by kernel_rfl) (fun w140 K141 _ _ => ⟨K141, ?_⟩)
        replace K25 := K25.trans K141 (U := (fun i => i = g)) (fun i h1 h2 => h2) (fun i h1 h2 => by exact h2.elim)
        replace H26 := H26.keep K141 (fun h => h)
        replace hE := Ents.keep0 hE K141
        replace hY1 := Ents.keep0 hY1 K141
        refine Dr.strong (S' := (fun wz => Keeps none_ w140 wz)) (Keeps.refl w140) (fun wz hx => K141.trans hx (fun i _ h => h) (fun _ _ h => h)) ?_
        clear K141
        refine Dr.takes (fuel' := 4) (is' := [1, 0]) [0, 1] [(0, (ptr g)), (1, (i64 a)), (3, (Value.slice B1 ((l15.drop i).length) d1)), (8, (i64 0)), (9, (i64 0)), (10, (i64 0)), (13, (i64 (base + ((l15.length : Nat) : Int)))), (14, (Value.iface 64 (agg [(i64 x36.term), (Value.slice x36.A x36.cmd.length x36.c)]))), (63, (Value.bool true)), (78, (Value.bool false)), (80, (i64 (IntKind.i64.wrap (a + 1))))] (by kernel_rfl) rfl (by kernel_rfl) ?_
        have e142 : IntKind.i64.wrap (a + 1) = a + 1 := wrap_i64 (by omega) (by omega)
        rw [e142]
        obtain ⟨A148, c149, hr145, hE146⟩ := Ents.cutRun (P := Try.prog) (t := 22) (e := 43) (by kernel_rfl) (by kernel_rfl) hY1 1 ((l15.drop i).length) (kl := .i64) (hi := none) (.inl ⟨rfl, rfl⟩) (by omega) (by omega)
        have he150 : ((l15.drop i).drop 1).take ((l15.drop i).length - 1) = l15.drop (i + 1) := by rw [List.drop_drop]; exact List.take_of_length_le (by rw [List.length_drop, List.length_drop]; omega)
        rw [he150] at hr145 hE146
        refine Dr.takes (fuel' := 3) (is' := [2, 1, 0]) [2] [(0, (ptr g)), (1, (i64 a)), (3, (Value.slice B1 ((l15.drop i).length) d1)), (8, (i64 0)), (9, (i64 0)), (10, (i64 0)), (13, (i64 (base + ((l15.length : Nat) : Int)))), (14, (Value.iface 64 (agg [(i64 x36.term), (Value.slice x36.A x36.cmd.length x36.c)]))), (63, (Value.bool true)), (78, (Value.bool false)), (80, (i64 (a + 1))), (81, (Value.slice B1 ((l15.drop i).length) d1))] (by kernel_rfl) rfl (by kernel_rfl) ?_
        refine Dr.take (i := 3) (v := (Value.slice A148 ((l15.drop (i + 1)).length) c149)) (by kernel_rfl) (by kernel_rfl) (fun wz hS => Runs.slice (by kernel_rfl) (hr145 _)) (d := (some 82)) (by kernel_rfl) rfl ?_
        refine Dr.takes (fuel' := 0) (is' := [5, 4, 3, 2, 1, 0]) [4, 5] [(0, (ptr g)), (1, (i64 (a + 1))), (3, (Value.slice A148 ((l15.drop (i + 1)).length) c149)), (8, (i64 0)), (9, (i64 0)), (10, (i64 0)), (13, (i64 (base + ((l15.length : Nat) : Int)))), (14, (Value.iface 64 (agg [(i64 x36.term), (Value.slice x36.A x36.cmd.length x36.c)]))), (63, (Value.bool true)), (78, (Value.bool false))] (by kernel_rfl) rfl (by kernel_rfl) ?_
        refine Dr.keep (R := [(0, (ptr g)), (1, (i64 (a + 1))), (3, (Value.slice A148 ((l15.drop (i + 1)).length) c149)), (8, (i64 0)), (9, (i64 0)), (10, (i64 0)), (13, (i64 (base + ((l15.length : Nat) : Int))))]) (by kernel_rfl) ?_
        refine Dr.done (by kernel_rfl) ?_
        exact ⟨(a + 1, i + 1, A148, c149), ⟨rfl, (by omega), (by rw [hrun, hre, List.drop_drop]; omega), (by omega), (by omega), hE146, hE, K25, H26⟩, (show l15.length - (i + 1) < l15.length - i from by omega)⟩
     ·rw [h27]
      have p151 : ¬ ((((l15.drop i).length : Nat) : Int) > 0) := of_decide_eq_false h27
      refine q_exit (id := 1) (by kernel_rfl) ?_
      refine qs ?_
      refine qs ?_
      refine qg ?_
      refine og 3 [(0, (ptr g)), (1, (i64 a)), (3, (Value.slice B1 ((l15.drop i).length) d1)), (8, (i64 0)), (9, (i64 0)), (10, (i64 0)), (13, (i64 (base + ((l15.length : Nat) : Int)))), (85, (Value.bool ((((l15.drop i).length : Nat) : Int) == 0)))] 3 ?_
      refine od ?_
      have h152 : ((((l15.drop i).length : Nat) : Int) == 0) = true := beq_t (by omega)
      rw [h152]
      refine q_then (o := .tmp 85) (by kernel_rfl) rfl ?_
      refine qs ?_
      refine qg ?_
      refine og 4 [(0, (ptr g)), (1, (i64 a)), (3, (Value.slice B1 ((l15.drop i).length) d1)), (8, (i64 (base + ((l15.length : Nat) : Int)))), (9, (i64 0)), (10, (i64 0)), (13, (i64 (base + ((l15.length : Nat) : Int))))] 4 ?_
      refine od ?_
      refine q_ret (by kernel_rfl) ?_
      refine ⟨(Value.tuple #[(i64 (base + ((l15.length : Nat) : Int))), (i64 0), (i64 0)]), retv_tmp3 rfl rfl rfl rfl, ?_⟩
      have em : matchK base old (l.map EntP.key) n t0 (ys.map EntP.key) = matchT base old (l.map EntP.key) base (l15.map EntP.key) := by unfold matchK; rw [if_neg (by omega), if_pos (by omega), if_neg (by omega), show (base - n).toNat = ks0 by omega, hl16, List.take_of_length_le (by simp), List.map_drop]
      have hyz : (l15.map EntP.key).length = l15.length := List.length_map ..
      have hr0 : runK base old (l.map EntP.key) a ((l15.map EntP.key).drop i) = 0 := by rw [List.drop_of_length_le (by omega)]; rfl
      have e := em.trans (matchT_end (by rw [hrun, hr0]; omega))
      exact ⟨l, A, c, T, by rw [e, hyz], K25, H26, hE, by rw [e], fun i hi => ⟨hT0 i hi, .inl hi⟩⟩
   ·rw [h8]
    have p153 : ¬ (base - n > 0) := of_decide_eq_false h8
    refine qs ?_
    refine qg ?_
    refine og 2 [(0, (ptr g)), (1, (i64 n)), (2, (i64 t0)), (3, (Value.slice B ys.length d)), (8, (i64 0)), (9, (i64 0)), (10, (i64 0)), (46, (ptr g)), (47, (i64 n))] 2 ?_
    rcases at_or base l.length n with q154 | q155 | q156 | ⟨k159, q157, q158⟩
    ·skip
     refine Ops.call (by kernel_rfl) (d := (some 48)) (by kernel_rfl) (at_low _ T g base old A c l n H0 hE hT (by omega) (by omega) q154) ?_
     rintro _ w163 ⟨rfl, K162⟩
     refine ⟨_, _, rfl, rfl, ?_⟩
     replace K0 := K0.trans K162 (U := (fun i => i = g)) (fun i h1 h2 => h2) (fun i h1 h2 => by exact h2.elim)
     replace H0 := H0.keep K162 (fun h => h)
     replace hE := Ents.keep0 hE K162
     replace hY := Ents.keep0 hY K162
     clear K162
     refine og 1 [(0, (ptr g)), (1, (i64 n)), (2, (i64 t0)), (3, (Value.slice B ys.length d)), (8, (i64 0)), (9, (i64 0)), (10, (i64 0)), (12, Value.nilIface)] 4 ?_
     refine od ?_
     refine qs ?_
     refine qg ?_
     refine og 8 [(0, (ptr g)), (1, (i64 n)), (3, (Value.slice B ys.length d)), (8, (i64 0)), (9, (i64 0)), (10, (i64 0)), (56, (Value.bool true))] 8 ?_
     refine od ?_
     refine q_then (o := .tmp 56) (by kernel_rfl) rfl ?_
     refine qs ?_
     refine qg ?_
     refine og 3 [(0, (ptr g)), (1, (i64 n)), (3, (Value.slice B ys.length d)), (8, (i64 0)), (9, (i64 0)), (10, (i64 5))] 3 ?_
     refine od ?_
     refine q_ret (by kernel_rfl) ?_
     refine ⟨(Value.tuple #[(i64 0), (i64 0), (i64 5)]), retv_tmp3 rfl rfl rfl rfl, ?_⟩
     have e : matchK base old (l.map EntP.key) n t0 (ys.map EntP.key) = ((0, 0, 5), (l.map EntP.key)) := by unfold matchK; rw [if_neg (by omega), if_neg (by omega), termK_none (by rw [hll]; omega), if_neg (by simp <;> omega)]
     exact ⟨l, A, c, T, by rw [e], K0, H0, hE, by rw [e], fun i hi => ⟨hT0 i hi, .inl hi⟩⟩
    ·skip
     refine Ops.call (by kernel_rfl) (d := (some 48)) (by kernel_rfl) (at_high _ T g base old A c l n H0 hE hT (by omega) (by omega) (by omega) q155) ?_
     rintro _ w165 ⟨rfl, K164⟩
     refine ⟨_, _, rfl, rfl, ?_⟩
     replace K0 := K0.trans K164 (U := (fun i => i = g)) (fun i h1 h2 => h2) (fun i h1 h2 => by exact h2.elim)
     replace H0 := H0.keep K164 (fun h => h)
     replace hE := Ents.keep0 hE K164
     replace hY := Ents.keep0 hY K164
     clear K164
     refine og 1 [(0, (ptr g)), (1, (i64 n)), (2, (i64 t0)), (3, (Value.slice B ys.length d)), (8, (i64 0)), (9, (i64 0)), (10, (i64 0)), (12, Value.nilIface)] 4 ?_
     refine od ?_
     refine qs ?_
     refine qg ?_
     refine og 8 [(0, (ptr g)), (1, (i64 n)), (3, (Value.slice B ys.length d)), (8, (i64 0)), (9, (i64 0)), (10, (i64 0)), (56, (Value.bool true))] 8 ?_
     refine od ?_
     refine q_then (o := .tmp 56) (by kernel_rfl) rfl ?_
     refine qs ?_
     refine qg ?_
     refine og 3 [(0, (ptr g)), (1, (i64 n)), (3, (Value.slice B ys.length d)), (8, (i64 0)), (9, (i64 0)), (10, (i64 5))] 3 ?_
     refine od ?_
     refine q_ret (by kernel_rfl) ?_
     refine ⟨(Value.tuple #[(i64 0), (i64 0), (i64 5)]), retv_tmp3 rfl rfl rfl rfl, ?_⟩
     have e : matchK base old (l.map EntP.key) n t0 (ys.map EntP.key) = ((0, 0, 5), (l.map EntP.key)) := by unfold matchK; rw [if_neg (by omega), if_neg (by omega), termK_none (by rw [hll]; omega), if_neg (by simp <;> omega)]
     exact ⟨l, A, c, T, by rw [e], K0, H0, hE, by rw [e], fun i hi => ⟨hT0 i hi, .inl hi⟩⟩
    ·skip
     refine Ops.call (by kernel_rfl) (d := (some 48)) (by kernel_rfl) (at_gone _ T g base old A c l n H0 hE hT (by omega) (by omega) q156) ?_
     rintro _ w167 ⟨rfl, K166⟩
     refine ⟨_, _, rfl, rfl, ?_⟩
     replace K0 := K0.trans K166 (U := (fun i => i = g)) (fun i h1 h2 => h2) (fun i h1 h2 => by exact h2.elim)
     replace H0 := H0.keep K166 (fun h => h)
     replace hE := Ents.keep0 hE K166
     replace hY := Ents.keep0 hY K166
     clear K166
     refine og 1 [(0, (ptr g)), (1, (i64 n)), (2, (i64 t0)), (3, (Value.slice B ys.length d)), (8, (i64 0)), (9, (i64 0)), (10, (i64 0)), (12, (Value.iface 62 (agg [(i64 old)])))] 4 ?_
     refine od ?_
     refine qs ?_
     refine qg ?_
     refine og 4 [(0, (ptr g)), (1, (i64 n)), (2, (i64 t0)), (3, (Value.slice B ys.length d)), (8, (i64 0)), (9, (i64 0)), (10, (i64 0)), (51, (Value.bool false)), (52, (Value.iface 62 (agg [(i64 old)])))] 4 ?_
     refine Ops.call (by kernel_rfl) (d := (some 53)) (by kernel_rfl) (gone_calls _ old) ?_
     rintro _ w169 ⟨rfl, K168⟩
     refine ⟨_, _, rfl, rfl, ?_⟩
     replace K0 := K0.trans K168 (U := (fun i => i = g)) (fun i h1 h2 => h2) (fun i h1 h2 => by exact h2.elim)
     replace H0 := H0.keep K168 (fun h => h)
     replace hE := Ents.keep0 hE K168
     replace hY := Ents.keep0 hY K168
     clear K168
     refine og 3 [(0, (ptr g)), (1, (i64 n)), (3, (Value.slice B ys.length d)), (8, (i64 0)), (9, (i64 0)), (10, (i64 0)), (56, (Value.bool (old != t0)))] 8 ?_
     refine od ?_
     refine q_cond (o := .tmp 56) (b := (old != t0)) (by kernel_rfl) rfl (fun h170 => ?_) (fun h170 => ?_)
     ·rw [h170]
      have p171 : ¬ (old = t0) := of_bne_t h170
      refine qs ?_
      refine qg ?_
      refine og 3 [(0, (ptr g)), (1, (i64 n)), (3, (Value.slice B ys.length d)), (8, (i64 0)), (9, (i64 0)), (10, (i64 5))] 3 ?_
      refine od ?_
      refine q_ret (by kernel_rfl) ?_
      refine ⟨(Value.tuple #[(i64 0), (i64 0), (i64 5)]), retv_tmp3 rfl rfl rfl rfl, ?_⟩
      have e : matchK base old (l.map EntP.key) n t0 (ys.map EntP.key) = ((0, 0, 5), (l.map EntP.key)) := by unfold matchK; rw [if_neg (by omega), if_neg (by omega), q156, termK_base, if_neg (by simp <;> omega)]
      exact ⟨l, A, c, T, by rw [e], K0, H0, hE, by rw [e], fun i hi => ⟨hT0 i hi, .inl hi⟩⟩
     ·rw [h170]
      have p172 : old = t0 := of_bne_f h170
      refine q_skip (by kernel_rfl) ?_
      refine qs ?_
      refine qg ?_
      refine og 4 [(0, (ptr g)), (1, (i64 n)), (3, (Value.slice B ys.length d)), (8, (i64 0)), (9, (i64 0)), (10, (i64 0)), (60, (i64 (IntKind.i64.wrap (n + ((ys.length : Nat) : Int)))))] 4 ?_
      have e173 : IntKind.i64.wrap (n + ((ys.length : Nat) : Int)) = n + ((ys.length : Nat) : Int) := wrap_i64 (by omega) (by omega)
      rw [e173]
      refine og 1 [(0, (ptr g)), (1, (i64 n)), (3, (Value.slice B ys.length d)), (8, (i64 0)), (9, (i64 0)), (10, (i64 0)), (13, (i64 (n + ((ys.length : Nat) : Int))))] 5 ?_
      refine od ?_
      refine qs ?_
      refine q_block (id := 1) (by kernel_rfl) ?_
      refine q_keep (R := [(0, (ptr g)), (1, (i64 n)), (3, (Value.slice B ys.length d)), (8, (i64 0)), (9, (i64 0)), (10, (i64 0)), (13, (i64 (n + ((ys.length : Nat) : Int))))]) (by kernel_rfl) ?_
      refine q_loop (fun (gs : Int × Nat × (Option Addr) × Nat) L (wx : World) => match gs with | (a, i, B1, d1) => L = [(0, (ptr g)), (1, (i64 a)), (3, (Value.slice B1 ((ys.drop i).length) d1)), (8, (i64 0)), (9, (i64 0)), (10, (i64 0)), (13, (i64 (n + ((ys.length : Nat) : Int))))] ∧ a = n + (i : Int) ∧ runK base old (l.map EntP.key) n (ys.map EntP.key) = i + runK base old (l.map EntP.key) a ((ys.map EntP.key).drop i) ∧ a ≤ base + (l.length : Int) ∧ i ≤ ys.length ∧ Ents wx U (.slice B1 (ys.drop i).length d1) (ys.drop i) ∧ Ents wx T (.slice A l.length c) l ∧ Keeps (fun i => i = g) w wx ∧ Has wx g (rowL [(i64 base), (i64 old), (Value.slice A l.length c)] 55)) (fun (gs : Int × Nat × (Option Addr) × Nat) => match gs with | (a, i, B1, d1) => ys.length - i) (n, 0, B, d) (by kernel_rfl) ⟨rfl, (by simp), (by simp), (by omega), Nat.zero_le _, hY, hE, K0, H0⟩ ?_
      clear H0 hE hY K0
      rintro ⟨a, i, B1, d1⟩ _ w174 ⟨rfl, ha, hrun, hpos, hi, hY1, hE, K175, H176⟩
      have hc1 := Ents.len hY1
      have hdl : (ys.drop i).length = ys.length - i := List.length_drop
      refine qs ?_
      refine qs ?_
      refine qg ?_
      refine og 3 [(0, (ptr g)), (1, (i64 a)), (3, (Value.slice B1 ((ys.drop i).length) d1)), (8, (i64 0)), (9, (i64 0)), (10, (i64 0)), (13, (i64 (n + ((ys.length : Nat) : Int)))), (63, (Value.bool (decide ((((ys.drop i).length : Nat) : Int) > 0))))] 3 ?_
      refine od ?_
      refine q_cond (o := .tmp 63) (b := (decide ((((ys.drop i).length : Nat) : Int) > 0))) (by kernel_rfl) rfl (fun h177 => ?_) (fun h177 => ?_)
      ·rw [h177]
       have p178 : (((ys.drop i).length : Nat) : Int) > 0 := of_decide_eq_true h177
       obtain ⟨y, hy⟩ : ∃ z, (ys.drop i)[0]? = some z := ⟨_, List.getElem?_eq_getElem (by omega)⟩
       have hyk : ((ys.map EntP.key).drop i)[0]? = some (y.term, y.cmd) := by rw [← List.map_drop]; exact ekey_at hy
       refine q_skip (by kernel_rfl) ?_
       refine q_block (id := 2) (by kernel_rfl) ?_
       refine qs ?_
       refine qg ?_
       refine og 3 [(0, (ptr g)), (1, (i64 a)), (3, (Value.slice B1 ((ys.drop i).length) d1)), (8, (i64 0)), (9, (i64 0)), (10, (i64 0)), (13, (i64 (n + ((ys.length : Nat) : Int)))), (63, (Value.bool true)), (64, (ptr g)), (66, (i64 (IntKind.i64.wrap (a + 1))))] 3 ?_
       have e179 : IntKind.i64.wrap (a + 1) = a + 1 := wrap_i64 (by omega) (by omega)
       rw [e179]
       rcases at_or base l.length (a + 1) with q180 | q181 | q182 | ⟨k185, q183, q184⟩
       ·exfalso; omega
       ·skip
        refine Ops.call (by kernel_rfl) (d := (some 67)) (by kernel_rfl) (at_high _ T g base old A c l (a + 1) H176 hE hT (by omega) (by omega) (by omega) q181) ?_
        rintro _ w189 ⟨rfl, K188⟩
        refine ⟨_, _, rfl, rfl, ?_⟩
        replace K175 := K175.trans K188 (U := (fun i => i = g)) (fun i h1 h2 => h2) (fun i h1 h2 => by exact h2.elim)
        replace H176 := H176.keep K188 (fun h => h)
        replace hE := Ents.keep0 hE K188
        replace hY1 := Ents.keep0 hY1 K188
        clear K188
        refine og 1 [(0, (ptr g)), (1, (i64 a)), (3, (Value.slice B1 ((ys.drop i).length) d1)), (8, (i64 0)), (9, (i64 0)), (10, (i64 0)), (13, (i64 (n + ((ys.length : Nat) : Int)))), (14, Value.nilIface), (63, (Value.bool true))] 5 ?_
        refine od ?_
        refine qs ?_
        refine qs ?_
        refine q_draw (fun wz => Keeps none_ w189 wz) 11 (by kernel_rfl) (by kernel_rfl) (by kernel_rfl) (fun w190 K191 _ _ => ⟨K191, ?_⟩)
        replace K175 := K175.trans K191 (U := (fun i => i = g)) (fun i h1 h2 => h2) (fun i h1 h2 => by exact h2.elim)
        replace H176 := H176.keep K191 (fun h => h)
        replace hE := Ents.keep0 hE K191
        replace hY1 := Ents.keep0 hY1 K191
        refine Dr.strong (S' := (fun wz => Keeps none_ w190 wz)) (Keeps.refl w190) (fun wz hx => K191.trans hx (fun i _ h => h) (fun _ _ h => h)) ?_
        clear K191
        refine Dr.takes (fuel' := 0) (is' := [10, 9, 8, 7, 6, 5, 4, 3, 2, 1, 0]) [0, 1, 2, 3, 4, 5, 6, 7, 8, 9, 10] [(0, (ptr g)), (1, (i64 a)), (3, (Value.slice B1 ((ys.drop i).length) d1)), (8, (i64 0)), (9, (i64 0)), (10, (i64 0)), (13, (i64 (n + ((ys.length : Nat) : Int)))), (14, Value.nilIface), (63, (Value.bool true)), (78, (Value.bool true))] (by kernel_rfl) rfl (by kernel_rfl) ?_
        refine Dr.done (by kernel_rfl) ?_
        refine q_then (o := .tmp 78) (by kernel_rfl) rfl ?_
        refine q_exit (id := 1) (by kernel_rfl) ?_
        refine qs ?_
        refine qs ?_
        refine qg ?_
        refine og 3 [(0, (ptr g)), (1, (i64 a)), (3, (Value.slice B1 ((ys.drop i).length) d1)), (8, (i64 0)), (9, (i64 0)), (10, (i64 0)), (13, (i64 (n + ((ys.length : Nat) : Int)))), (85, (Value.bool ((((ys.drop i).length : Nat) : Int) == 0)))] 3 ?_
        refine od ?_
        obtain ⟨j, hj⟩ : ∃ m : Nat, a - base = (m : Int) := Int.eq_ofNat_of_zero_le (by omega)
        have h192 : ((((ys.drop i).length : Nat) : Int) == 0) = false := beq_f (by omega)
        rw [h192]
        refine q_else (o := .tmp 85) (by kernel_rfl) rfl ?_
        refine q_skip (by kernel_rfl) ?_
        refine qs ?_
        refine q_draw (fun wz => Keeps none_ w190 wz) 28 (by kernel_rfl) (by kernel_rfl) (by kernel_rfl) (fun w193 K194 _ _ => ⟨K194, ?_⟩)
        replace K175 := K175.trans K194 (U := (fun i => i = g)) (fun i h1 h2 => h2) (fun i h1 h2 => by exact h2.elim)
        replace H176 := H176.keep K194 (fun h => h)
        replace hE := Ents.keep0 hE K194
        replace hY1 := Ents.keep0 hY1 K194
        refine Dr.strong (S' := (fun wz => Keeps none_ w193 wz)) (Keeps.refl w193) (fun wz hx => K194.trans hx (fun i _ h => h) (fun _ _ h => h)) ?_
        clear K194
        refine Dr.takes (fuel' := 25) (is' := [2, 1, 0]) [0, 1, 2] [(0, (ptr g)), (1, (i64 a)), (3, (Value.slice B1 ((ys.drop i).length) d1)), (8, (i64 0)), (9, (i64 0)), (10, (i64 0)), (13, (i64 (n + ((ys.length : Nat) : Int)))), (89, (ptr g))] (by kernel_rfl) rfl (by kernel_rfl) ?_
        refine Dr.take (i := 3) (v := (i64 base)) (by kernel_rfl) (by kernel_rfl) (fun wz hS => Runs.load (t := 2) (a := ⟨g, 0, none⟩) (by kernel_rfl) ((H176.keep hS (fun h => h)).loads (by kernel_rfl))) (d := (some 90)) (by kernel_rfl) rfl ?_
        refine Dr.takes (fuel' := 21) (is' := [6, 5, 4, 3, 2, 1, 0]) [4, 5, 6] [(0, (ptr g)), (1, (i64 a)), (3, (Value.slice B1 ((ys.drop i).length) d1)), (8, (i64 0)), (9, (i64 0)), (10, (i64 0)), (13, (i64 (n + ((ys.length : Nat) : Int)))), (90, (i64 base)), (93, (Value.pointer (some ⟨g, 1, none⟩)))] (by kernel_rfl) rfl (by kernel_rfl) ?_
        refine Dr.take (i := 7) (v := (i64 old)) (by kernel_rfl) (by kernel_rfl) (fun wz hS => Runs.load (t := 2) (a := ⟨g, 1, none⟩) (by kernel_rfl) ((H176.keep hS (fun h => h)).loads (by kernel_rfl))) (d := (some 94)) (by kernel_rfl) rfl ?_
        refine Dr.takes (fuel' := 17) (is' := [10, 9, 8, 7, 6, 5, 4, 3, 2, 1, 0]) [8, 9, 10] [(0, (ptr g)), (1, (i64 a)), (3, (Value.slice B1 ((ys.drop i).length) d1)), (8, (i64 0)), (9, (i64 0)), (10, (i64 0)), (13, (i64 (n + ((ys.length : Nat) : Int)))), (90, (i64 base)), (94, (i64 old)), (97, (Value.pointer (some ⟨g, 2, none⟩)))] (by kernel_rfl) rfl (by kernel_rfl) ?_
        refine Dr.take (i := 11) (v := (Value.slice A l.length c)) (by kernel_rfl) (by kernel_rfl) (fun wz hS => Runs.load (t := 22) (a := ⟨g, 2, none⟩) (by kernel_rfl) ((H176.keep hS (fun h => h)).loads (by kernel_rfl))) (d := (some 98)) (by kernel_rfl) rfl ?_
        refine Dr.takes (fuel' := 12) (is' := [15, 14, 13, 12, 11, 10, 9, 8, 7, 6, 5, 4, 3, 2, 1, 0]) [12, 13, 14, 15] [(0, (ptr g)), (1, (i64 a)), (3, (Value.slice B1 ((ys.drop i).length) d1)), (8, (i64 0)), (9, (i64 0)), (10, (i64 0)), (13, (i64 (n + ((ys.length : Nat) : Int)))), (90, (i64 base)), (94, (i64 old)), (98, (Value.slice A l.length c)), (99, (i64 a)), (102, (ptr g))] (by kernel_rfl) rfl (by kernel_rfl) ?_
        refine Dr.take (i := 16) (v := (i64 base)) (by kernel_rfl) (by kernel_rfl) (fun wz hS => Runs.load (t := 2) (a := ⟨g, 0, none⟩) (by kernel_rfl) ((H176.keep hS (fun h => h)).loads (by kernel_rfl))) (d := (some 103)) (by kernel_rfl) rfl ?_
        refine Dr.takes (fuel' := 10) (is' := [17, 16, 15, 14, 13, 12, 11, 10, 9, 8, 7, 6, 5, 4, 3, 2, 1, 0]) [17] [(0, (ptr g)), (1, (i64 a)), (3, (Value.slice B1 ((ys.drop i).length) d1)), (8, (i64 0)), (9, (i64 0)), (10, (i64 0)), (13, (i64 (n + ((ys.length : Nat) : Int)))), (90, (i64 base)), (94, (i64 old)), (98, (Value.slice A l.length c)), (104, (i64 (IntKind.i64.wrap (a - base))))] (by kernel_rfl) rfl (by kernel_rfl) ?_
        have e195 : IntKind.i64.wrap (a - base) = ((j : Nat) : Int) := by rw [wrap_i64 (by omega) (by omega)]; omega
        rw [e195]
        refine Dr.takes (fuel' := 6) (is' := [21, 20, 19, 18, 17, 16, 15, 14, 13, 12, 11, 10, 9, 8, 7, 6, 5, 4, 3, 2, 1, 0]) [18, 19, 20, 21] [(0, (ptr g)), (1, (i64 a)), (3, (Value.slice B1 ((ys.drop i).length) d1)), (8, (i64 0)), (9, (i64 0)), (10, (i64 0)), (13, (i64 (n + ((ys.length : Nat) : Int)))), (90, (i64 base)), (94, (i64 old)), (98, (Value.slice A l.length c)), (104, (i64 ((j : Nat) : Int))), (105, (i64 a)), (108, (ptr g))] (by kernel_rfl) rfl (by kernel_rfl) ?_
        refine Dr.take (i := 22) (v := (i64 base)) (by kernel_rfl) (by kernel_rfl) (fun wz hS => Runs.load (t := 2) (a := ⟨g, 0, none⟩) (by kernel_rfl) ((H176.keep hS (fun h => h)).loads (by kernel_rfl))) (d := (some 109)) (by kernel_rfl) rfl ?_
        refine Dr.takes (fuel' := 4) (is' := [23, 22, 21, 20, 19, 18, 17, 16, 15, 14, 13, 12, 11, 10, 9, 8, 7, 6, 5, 4, 3, 2, 1, 0]) [23] [(0, (ptr g)), (1, (i64 a)), (3, (Value.slice B1 ((ys.drop i).length) d1)), (8, (i64 0)), (9, (i64 0)), (10, (i64 0)), (13, (i64 (n + ((ys.length : Nat) : Int)))), (90, (i64 base)), (94, (i64 old)), (98, (Value.slice A l.length c)), (104, (i64 ((j : Nat) : Int))), (110, (i64 (IntKind.i64.wrap (a - base))))] (by kernel_rfl) rfl (by kernel_rfl) ?_
        have e196 : IntKind.i64.wrap (a - base) = ((j : Nat) : Int) := by rw [wrap_i64 (by omega) (by omega)]; omega
        rw [e196]
        obtain ⟨hr199, hE200⟩ := Ents.headRun (P := Try.prog) (t := 22) (e := 43) (by kernel_rfl) (by kernel_rfl) hE j j (kh := .i64) (mx := (some (i64 ((j : Nat) : Int)))) (.inr ⟨_, rfl⟩) (by omega) (by omega) (by omega)
        obtain ⟨l197, hl198⟩ : ∃ z, z = l.take j := ⟨_, rfl⟩
        rw [← hl198] at hr199 hE200
        have hn201 : l197.length = j := by rw [hl198]; simp only [List.length_take]; omega
        have hc202 := Ents.len hE200
        refine Dr.take (i := 24) (v := (Value.slice A l197.length j)) (by kernel_rfl) (by kernel_rfl) (fun wz hS => Runs.slice (by kernel_rfl) (hr199 _)) (d := (some 111)) (by kernel_rfl) rfl ?_
        refine Dr.takes (fuel' := 2) (is' := [25, 24, 23, 22, 21, 20, 19, 18, 17, 16, 15, 14, 13, 12, 11, 10, 9, 8, 7, 6, 5, 4, 3, 2, 1, 0]) [25] [(0, (ptr g)), (1, (i64 a)), (3, (Value.slice B1 ((ys.drop i).length) d1)), (8, (i64 0)), (9, (i64 0)), (10, (i64 0)), (13, (i64 (n + ((ys.length : Nat) : Int)))), (112, (agg [(i64 base), (i64 old), (Value.slice A l197.length j)]))] (by kernel_rfl) rfl (by kernel_rfl) ?_
        refine Dr.new (i := 26) (o := rowL [(i64 base), (i64 old), (Value.slice A l197.length j)] 55) (V := fun b => (ptr b)) (by kernel_rfl) (by kernel_rfl) (d := (some 113)) (by kernel_rfl) (fun b => rfl) (fun b203 w204 hb205 H206 K207 hs208 => ?_)
        have lb203g : g < b203 := by have := H176.lt; omega
        have nb203 : w.heap.size ≤ b203 := by have := K175.size; omega
        have ot209 : ∀ i, T i → i ≠ b203 := fun i hi => by have := Ents.lt hE i hi; omega
        have ot210 : ∀ i, U i → i ≠ b203 := fun i hi => by have := Ents.lt hY1 i hi; omega
        have ot211 : ∀ i, T i → i ≠ b203 := fun i hi => by have := Ents.lt hE200 i hi; omega
        replace K175 := K175.trans K207 (U := (fun i => i = g)) (fun i h1 h2 => h2) (fun i h1 h2 => by exact h2.elim)
        replace H176 := H176.keep K207 (fun h => h)
        replace hE := Ents.keep0 hE K207
        replace hY1 := Ents.keep0 hY1 K207
        replace hE200 := Ents.keep0 hE200 K207
        refine ⟨K207, ?_⟩
        refine Dr.strong (S' := (fun wz => Keeps none_ w204 wz)) (Keeps.refl w204) (fun wz hx => K207.trans hx (fun i _ h => h) (fun _ _ h => h)) ?_
        clear K207 hs208
        refine Dr.takes (fuel' := 0) (is' := [27, 26, 25, 24, 23, 22, 21, 20, 19, 18, 17, 16, 15, 14, 13, 12, 11, 10, 9, 8, 7, 6, 5, 4, 3, 2, 1, 0]) [27] [(0, (ptr g)), (1, (i64 a)), (3, (Value.slice B1 ((ys.drop i).length) d1)), (8, (i64 0)), (9, (i64 0)), (10, (i64 0)), (13, (i64 (n + ((ys.length : Nat) : Int)))), (15, (ptr b203))] (by kernel_rfl) rfl (by kernel_rfl) ?_
        refine Dr.done (by kernel_rfl) ?_
        refine qs ?_
        refine qs ?_
        refine qg ?_
        refine og 2 [(0, (ptr g)), (1, (i64 a)), (8, (i64 0)), (9, (i64 0)), (10, (i64 0)), (13, (i64 (n + ((ys.length : Nat) : Int)))), (15, (ptr b203)), (114, (ptr b203)), (115, (Value.slice B1 ((ys.drop i).length) d1))] 2 ?_
        by_cases hq212 : appE base old (l197.map EntP.key) ((ys.drop i).map EntP.key) = 0
        ·skip
         refine Ops.call (by kernel_rfl) (d := (some 116)) (by kernel_rfl) (Append_ok _ T b203 base old A l197 U B1 d1 (ys.drop i) (by have q := H206; rw [← hn201] at q; exact q) (by have q := hE200; rw [← hn201] at q; exact q) ot211 (by omega) (by omega) hY1 ot210 (BigK.take hl198 hBig) (BigK.cut (k := i) (j := ys.length) (by rw [List.take_of_length_le (by simp)]) hBigY) (by omega) hq212) ?_
         rintro _ w217 ⟨l213, A214, c215, T216, rfl, K218, H219, hE220, hK221, hT222⟩
         have ot223 : ∀ i, T216 i → i ≠ g := fun i hi => by rcases (hT222 i hi).2 with h | h; (exact hT i h); (have := H176.lt; omega)
         have ot224 : ∀ i, T216 i → i ≠ b203 := fun i hi => (hT222 i hi).1
         have hn225 := keys_len2 hK221
         try rw [List.length_drop] at hn225
         try rw [List.length_append] at hn225
         try rw [List.length_map] at hn225
         try rw [List.length_map] at hn225
         have hz226 := K175.size
         refine ⟨_, _, rfl, rfl, ?_⟩
         replace K175 := K175.trans K218 (U := (fun i => i = g)) (fun i h1 h2 => h2) (fun i h1 h2 => by have h2 : i = b203 := h2; show i = g; omega)
         replace H176 := H176.keep K218 (by intro h; change g = b203 at h; omega)
         replace hE := Ents.keep hE K218 (fun i hi hs => by have hs : i = b203 := hs; have := ot209 i hi; omega)
         replace hY1 := Ents.keep hY1 K218 (fun i hi hs => by have hs : i = b203 := hs; have := ot210 i hi; omega)
         replace hE200 := Ents.keep hE200 K218 (fun i hi hs => by have hs : i = b203 := hs; have := ot211 i hi; omega)
         clear K218
         refine og 1 [(0, (ptr g)), (1, (i64 a)), (8, (i64 0)), (9, (i64 0)), (10, (i64 0)), (13, (i64 (n + ((ys.length : Nat) : Int)))), (15, (ptr b203)), (16, (i64 0))] 4 ?_
         refine od ?_
         refine qs ?_
         refine qg ?_
         refine og 2 [(0, (ptr g)), (1, (i64 a)), (8, (i64 0)), (9, (i64 0)), (10, (i64 0)), (13, (i64 (n + ((ys.length : Nat) : Int)))), (15, (ptr b203)), (16, (i64 0)), (118, (Value.bool false))] 2 ?_
         refine od ?_
         refine q_else (o := .tmp 118) (by kernel_rfl) rfl ?_
         refine q_skip (by kernel_rfl) ?_
         refine qs ?_
         refine qg ?_
         refine og 4 [(1, (i64 a)), (8, (i64 0)), (9, (i64 0)), (10, (i64 0)), (13, (i64 (n + ((ys.length : Nat) : Int)))), (120, (ptr g)), (123, (Value.pointer (some ⟨b203, 2, none⟩)))] 4 ?_
         refine Ops.go (v := (Value.slice A214 l213.length c215)) (by kernel_rfl) (Runs.load (t := 22) (a := ⟨b203, 2, none⟩) (by kernel_rfl) (H219.loads (by kernel_rfl))) (d := (some 124)) (by kernel_rfl) rfl ?_
         refine og 2 [(1, (i64 a)), (8, (i64 0)), (9, (i64 0)), (10, (i64 0)), (13, (i64 (n + ((ys.length : Nat) : Int)))), (124, (Value.slice A214 l213.length c215)), (126, (Value.pointer (some ⟨g, 2, none⟩)))] 7 ?_
         refine Ops.put (t := 22) (b := g) (off := 2) (v := (Value.slice A214 l213.length c215)) (ys := [(i64 base), (i64 old), (Value.slice A214 l213.length c215)]) (by kernel_rfl) (by kernel_rfl) H176 (by kernel_rfl) (d := none) (by kernel_rfl) rfl (fun w227 H228 K229 => ?_)
         clear H176
         replace K175 := K175.trans K229 (U := (fun i => i = g)) (fun i h1 h2 => h2) (fun i h1 h2 => by have h2 : i = g := h2; show i = g; omega)
         replace H219 := H219.keep K229 (by intro h; change b203 = g at h; omega)
         replace hE := Ents.keep hE K229 (fun i hi hs => by have hs : i = g := hs; have := hT i hi; omega)
         replace hY1 := Ents.keep hY1 K229 (fun i hi hs => by have hs : i = g := hs; have := hU i hi; omega)
         replace hE200 := Ents.keep hE200 K229 (fun i hi hs => by have hs : i = g := hs; have := hT i hi; omega)
         replace hE220 := Ents.keep hE220 K229 (fun i hi hs => by have hs : i = g := hs; have := ot223 i hi; omega)
         clear K229
         refine od ?_
         refine qs ?_
         refine qg ?_
         refine og 3 [(8, (i64 0)), (9, (i64 0)), (10, (i64 0)), (127, (i64 (n + ((ys.length : Nat) : Int)))), (129, (i64 (IntKind.i64.wrap (a + 1))))] 3 ?_
         have e230 : IntKind.i64.wrap (a + 1) = a + 1 := wrap_i64 (by omega) (by omega)
         rw [e230]
         refine og 3 [(8, (i64 (n + ((ys.length : Nat) : Int)))), (9, (i64 (a + 1))), (10, (i64 0))] 6 ?_
         refine od ?_
         refine q_ret (by kernel_rfl) ?_
         refine ⟨(Value.tuple #[(i64 (n + ((ys.length : Nat) : Int))), (i64 (a + 1)), (i64 0)]), retv_tmp3 rfl rfl rfl rfl, ?_⟩
         have em : matchK base old (l.map EntP.key) n t0 (ys.map EntP.key) = matchT base old (l.map EntP.key) n (ys.map EntP.key) := by unfold matchK; rw [if_neg (by omega), if_neg (by omega), if_pos (by rw [q156, termK_base]; exact Prod.ext (by simp only; omega) rfl)]
         have hyz : (ys.map EntP.key).length = ys.length := List.length_map ..
         have hr0 : runK base old (l.map EntP.key) a ((ys.map EntP.key).drop i) = 0 := (runK_high (by omega) _)
         rw [hr0, Nat.add_zero] at hrun
         have hkp : (l197.map EntP.key) = (l.map EntP.key).take j := by rw [hl198, List.map_take]
         have hkd : (ys.drop i).map EntP.key = (ys.map EntP.key).drop i := List.map_drop ..
         rw [hkp, hkd] at hq212
         have e := em.trans (matchT_ok hrun (by omega) (by omega) hq212)
         exact ⟨l213, A214, c215, T216, by rw [e, hyz] <;> first | rfl | (rw [ha]; done) | (rw [ha]; rfl), K175, H228, hE220, by rw [e, hK221, hkp, hkd], fun i hi => ⟨ot223 i hi, ((hT222 i hi).2).imp id (fun h => by omega)⟩⟩
        ·skip
         refine Ops.call (by kernel_rfl) (d := (some 116)) (by kernel_rfl) (Append_bad _ T b203 base old A l197 U B1 d1 (ys.drop i) (by have q := H206; rw [← hn201] at q; exact q) (by have q := hE200; rw [← hn201] at q; exact q) ot211 (by omega) (by omega) hY1 ot210 (BigK.take hl198 hBig) (BigK.cut (k := i) (j := ys.length) (by rw [List.take_of_length_le (by simp)]) hBigY) (by omega) hq212) ?_
         rintro _ w232 ⟨rfl, K231⟩
         refine ⟨_, _, rfl, rfl, ?_⟩
         replace K175 := K175.trans K231 (U := (fun i => i = g)) (fun i h1 h2 => h2) (fun i h1 h2 => by exact h2.elim)
         replace H176 := H176.keep K231 (fun h => h)
         replace H206 := H206.keep K231 (fun h => h)
         replace hE := Ents.keep0 hE K231
         replace hY1 := Ents.keep0 hY1 K231
         replace hE200 := Ents.keep0 hE200 K231
         clear K231
         refine og 1 [(0, (ptr g)), (1, (i64 a)), (8, (i64 0)), (9, (i64 0)), (10, (i64 0)), (13, (i64 (n + ((ys.length : Nat) : Int)))), (15, (ptr b203)), (16, (i64 (appE base old (l197.map EntP.key) ((ys.drop i).map EntP.key))))] 4 ?_
         refine od ?_
         refine qs ?_
         refine qg ?_
         refine og 2 [(0, (ptr g)), (1, (i64 a)), (8, (i64 0)), (9, (i64 0)), (10, (i64 0)), (13, (i64 (n + ((ys.length : Nat) : Int)))), (15, (ptr b203)), (16, (i64 (appE base old (l197.map EntP.key) ((ys.drop i).map EntP.key)))), (118, (Value.bool ((appE base old (l197.map EntP.key) ((ys.drop i).map EntP.key)) != 0)))] 2 ?_
         refine od ?_
         have h234 : ((appE base old (l197.map EntP.key) ((ys.drop i).map EntP.key)) != 0) = true := bne_t hq212
         rw [h234]
         refine q_then (o := .tmp 118) (by kernel_rfl) rfl ?_
         refine qs ?_
         refine qg ?_
         refine og 4 [(0, (ptr g)), (1, (i64 a)), (8, (i64 0)), (9, (i64 0)), (10, (i64 (appE base old (l197.map EntP.key) ((ys.drop i).map EntP.key)))), (13, (i64 (n + ((ys.length : Nat) : Int)))), (15, (ptr b203))] 4 ?_
         refine od ?_
         refine q_ret (by kernel_rfl) ?_
         refine ⟨(Value.tuple #[(i64 0), (i64 0), (i64 (appE base old (l197.map EntP.key) ((ys.drop i).map EntP.key)))]), retv_tmp3 rfl rfl rfl rfl, ?_⟩
         have em : matchK base old (l.map EntP.key) n t0 (ys.map EntP.key) = matchT base old (l.map EntP.key) n (ys.map EntP.key) := by unfold matchK; rw [if_neg (by omega), if_neg (by omega), if_pos (by rw [q156, termK_base]; exact Prod.ext (by simp only; omega) rfl)]
         have hyz : (ys.map EntP.key).length = ys.length := List.length_map ..
         have hr0 : runK base old (l.map EntP.key) a ((ys.map EntP.key).drop i) = 0 := (runK_high (by omega) _)
         rw [hr0, Nat.add_zero] at hrun
         have hkp : (l197.map EntP.key) = (l.map EntP.key).take j := by rw [hl198, List.map_take]
         have hkd : (ys.drop i).map EntP.key = (ys.map EntP.key).drop i := List.map_drop ..
         rw [hkp, hkd] at hq212
         have e := em.trans (matchT_bad hrun (by omega) (by omega) hq212)
         exact ⟨l, A, c, T, by rw [e, hkp, hkd], K175, H176, hE, by rw [e], fun i hi => ⟨hT0 i hi, .inl hi⟩⟩
       ·exfalso; omega
       ·skip
        obtain ⟨x186, hx187⟩ : ∃ y, l[k185]? = some y := ⟨_, List.getElem?_eq_getElem q184⟩
        refine Ops.call (by kernel_rfl) (d := (some 67)) (by kernel_rfl) (at_here _ T g base old A c l (a + 1) k185 x186 H176 hE hT (by omega) (by omega) q183 q184 hx187) ?_
        rintro _ w236 ⟨rfl, K235⟩
        refine ⟨_, _, rfl, rfl, ?_⟩
        replace K175 := K175.trans K235 (U := (fun i => i = g)) (fun i h1 h2 => h2) (fun i h1 h2 => by exact h2.elim)
        replace H176 := H176.keep K235 (fun h => h)
        replace hE := Ents.keep0 hE K235
        replace hY1 := Ents.keep0 hY1 K235
        clear K235
        refine og 1 [(0, (ptr g)), (1, (i64 a)), (3, (Value.slice B1 ((ys.drop i).length) d1)), (8, (i64 0)), (9, (i64 0)), (10, (i64 0)), (13, (i64 (n + ((ys.length : Nat) : Int)))), (14, (Value.iface 64 (agg [(i64 x186.term), (Value.slice x186.A x186.cmd.length x186.c)]))), (63, (Value.bool true))] 5 ?_
        refine od ?_
        refine qs ?_
        refine qs ?_
        refine q_draw (fun wz => Keeps none_ w236 wz) 11 (by kernel_rfl) (by kernel_rfl) (by kernel_rfl) (fun w237 K238 _ _ => ⟨K238, ?_⟩)
        replace K175 := K175.trans K238 (U := (fun i => i = g)) (fun i h1 h2 => h2) (fun i h1 h2 => by exact h2.elim)
        replace H176 := H176.keep K238 (fun h => h)
        replace hE := Ents.keep0 hE K238
        replace hY1 := Ents.keep0 hY1 K238
        refine Dr.strong (S' := (fun wz => Keeps none_ w237 wz)) (Keeps.refl w237) (fun wz hx => K238.trans hx (fun i _ h => h) (fun _ _ h => h)) ?_
        clear K238
        obtain ⟨rb239, ro240, hA241⟩ := Rd.addr (Ents.rd hY1) (by omega)
        refine Dr.takes (fuel' := 6) (is' := [5, 3, 2, 1, 0]) [0, 1, 2, 3, 5] [(0, (ptr g)), (1, (i64 a)), (3, (Value.slice B1 ((ys.drop i).length) d1)), (8, (i64 0)), (9, (i64 0)), (10, (i64 0)), (13, (i64 (n + ((ys.length : Nat) : Int)))), (14, (Value.iface 64 (agg [(i64 x186.term), (Value.slice x186.A x186.cmd.length x186.c)]))), (63, (Value.bool true)), (70, (Value.bool false)), (71, (Value.iface 64 (agg [(i64 x186.term), (Value.slice x186.A x186.cmd.length x186.c)]))), (73, (Value.slice B1 ((ys.drop i).length) d1))] (by kernel_rfl) rfl (by kernel_rfl) ?_
        refine Dr.take (i := 6) (v := (Value.pointer (some ⟨rb239, ro240 + 0 * 2, none⟩))) (by kernel_rfl) (by kernel_rfl) (fun wz hS => Runs.ixSliceE (k := IntKind.i64) (t := 22) (len := ((ys.drop i).length)) (cap := d1) (s := 2) (off' := ro240 + 0 * 2) (i := 0) hA241 (by kernel_rfl) (by kernel_rfl) (by omega) (by omega) (by omega)) (d := (some 74)) (by kernel_rfl) rfl ?_
        refine Dr.takes (fuel' := 4) (is' := [7, 6, 5, 3, 2, 1, 0]) [7] [(0, (ptr g)), (1, (i64 a)), (3, (Value.slice B1 ((ys.drop i).length) d1)), (8, (i64 0)), (9, (i64 0)), (10, (i64 0)), (13, (i64 (n + ((ys.length : Nat) : Int)))), (14, (Value.iface 64 (agg [(i64 x186.term), (Value.slice x186.A x186.cmd.length x186.c)]))), (63, (Value.bool true)), (70, (Value.bool false)), (71, (Value.iface 64 (agg [(i64 x186.term), (Value.slice x186.A x186.cmd.length x186.c)]))), (75, (Value.pointer (some ⟨rb239, ro240 + 0 * 2, none⟩)))] (by kernel_rfl) rfl (by kernel_rfl) ?_
        refine Dr.take (i := 8) (v := (i64 y.term)) (by kernel_rfl) (by kernel_rfl) (fun wz hS => Runs.load (t := 2) (a := ⟨rb239, ro240 + 0 * 2, none⟩) (by kernel_rfl) (RdT.ldf (f := EntP.cells) (x := y) (o := 0) EntP.two (Ents.rd (Ents.keep0 hY1 hS)) (by kernel_rfl) hA241 hy rfl)) (d := (some 76)) (by kernel_rfl) rfl ?_
        refine Dr.call (i := 4) (by kernel_rfl) (by kernel_rfl) (d := (some 72)) (by kernel_rfl) (fun _ => here_calls _ x186) ?_
        rintro _ w243 ⟨rfl, K242⟩
        replace K175 := K175.trans K242 (U := (fun i => i = g)) (fun i h1 h2 => h2) (fun i h1 h2 => by exact h2.elim)
        replace H176 := H176.keep K242 (fun h => h)
        replace hE := Ents.keep0 hE K242
        replace hY1 := Ents.keep0 hY1 K242
        refine ⟨_, _, rfl, rfl, K242, ?_⟩
        refine Dr.strong (S' := (fun wz => Keeps none_ w243 wz)) (Keeps.refl w243) (fun wz hx => K242.trans hx (fun i _ h => h) (fun _ _ h => h)) ?_
        clear K242
        refine Dr.takes (fuel' := 0) (is' := [10, 9, 4, 8, 7, 6, 5, 3, 2, 1, 0]) [9, 10] [(0, (ptr g)), (1, (i64 a)), (3, (Value.slice B1 ((ys.drop i).length) d1)), (8, (i64 0)), (9, (i64 0)), (10, (i64 0)), (13, (i64 (n + ((ys.length : Nat) : Int)))), (14, (Value.iface 64 (agg [(i64 x186.term), (Value.slice x186.A x186.cmd.length x186.c)]))), (63, (Value.bool true)), (78, (Value.bool (x186.term != y.term)))] (by kernel_rfl) rfl (by kernel_rfl) ?_
        refine Dr.done (by kernel_rfl) ?_
        refine q_cond (o := .tmp 78) (b := (x186.term != y.term)) (by kernel_rfl) rfl (fun h244 => ?_) (fun h244 => ?_)
        ·rw [h244]
         have p245 : ¬ (x186.term = y.term) := of_bne_t h244
         refine q_exit (id := 1) (by kernel_rfl) ?_
         refine qs ?_
         refine qs ?_
         refine qg ?_
         refine og 3 [(0, (ptr g)), (1, (i64 a)), (3, (Value.slice B1 ((ys.drop i).length) d1)), (8, (i64 0)), (9, (i64 0)), (10, (i64 0)), (13, (i64 (n + ((ys.length : Nat) : Int)))), (85, (Value.bool ((((ys.drop i).length : Nat) : Int) == 0)))] 3 ?_
         refine od ?_
         obtain ⟨j, hj⟩ : ∃ m : Nat, a - base = (m : Int) := Int.eq_ofNat_of_zero_le (by omega)
         have h246 : ((((ys.drop i).length : Nat) : Int) == 0) = false := beq_f (by omega)
         rw [h246]
         refine q_else (o := .tmp 85) (by kernel_rfl) rfl ?_
         refine q_skip (by kernel_rfl) ?_
         refine qs ?_
         refine q_draw (fun wz => Keeps none_ w243 wz) 28 (by kernel_rfl) (by kernel_rfl) (by kernel_rfl) (fun w247 K248 _ _ => ⟨K248, ?_⟩)
         replace K175 := K175.trans K248 (U := (fun i => i = g)) (fun i h1 h2 => h2) (fun i h1 h2 => by exact h2.elim)
         replace H176 := H176.keep K248 (fun h => h)
         replace hE := Ents.keep0 hE K248
         replace hY1 := Ents.keep0 hY1 K248
         refine Dr.strong (S' := (fun wz => Keeps none_ w247 wz)) (Keeps.refl w247) (fun wz hx => K248.trans hx (fun i _ h => h) (fun _ _ h => h)) ?_
         clear K248
         refine Dr.takes (fuel' := 25) (is' := [2, 1, 0]) [0, 1, 2] [(0, (ptr g)), (1, (i64 a)), (3, (Value.slice B1 ((ys.drop i).length) d1)), (8, (i64 0)), (9, (i64 0)), (10, (i64 0)), (13, (i64 (n + ((ys.length : Nat) : Int)))), (89, (ptr g))] (by kernel_rfl) rfl (by kernel_rfl) ?_
         refine Dr.take (i := 3) (v := (i64 base)) (by kernel_rfl) (by kernel_rfl) (fun wz hS => Runs.load (t := 2) (a := ⟨g, 0, none⟩) (by kernel_rfl) ((H176.keep hS (fun h => h)).loads (by kernel_rfl))) (d := (some 90)) (by kernel_rfl) rfl ?_
         refine Dr.takes (fuel' := 21) (is' := [6, 5, 4, 3, 2, 1, 0]) [4, 5, 6] [(0, (ptr g)), (1, (i64 a)), (3, (Value.slice B1 ((ys.drop i).length) d1)), (8, (i64 0)), (9, (i64 0)), (10, (i64 0)), (13, (i64 (n + ((ys.length : Nat) : Int)))), (90, (i64 base)), (93, (Value.pointer (some ⟨g, 1, none⟩)))] (by kernel_rfl) rfl (by kernel_rfl) ?_
         refine Dr.take (i := 7) (v := (i64 old)) (by kernel_rfl) (by kernel_rfl) (fun wz hS => Runs.load (t := 2) (a := ⟨g, 1, none⟩) (by kernel_rfl) ((H176.keep hS (fun h => h)).loads (by kernel_rfl))) (d := (some 94)) (by kernel_rfl) rfl ?_
         refine Dr.takes (fuel' := 17) (is' := [10, 9, 8, 7, 6, 5, 4, 3, 2, 1, 0]) [8, 9, 10] [(0, (ptr g)), (1, (i64 a)), (3, (Value.slice B1 ((ys.drop i).length) d1)), (8, (i64 0)), (9, (i64 0)), (10, (i64 0)), (13, (i64 (n + ((ys.length : Nat) : Int)))), (90, (i64 base)), (94, (i64 old)), (97, (Value.pointer (some ⟨g, 2, none⟩)))] (by kernel_rfl) rfl (by kernel_rfl) ?_
         refine Dr.take (i := 11) (v := (Value.slice A l.length c)) (by kernel_rfl) (by kernel_rfl) (fun wz hS => Runs.load (t := 22) (a := ⟨g, 2, none⟩) (by kernel_rfl) ((H176.keep hS (fun h => h)).loads (by kernel_rfl))) (d := (some 98)) (by kernel_rfl) rfl ?_
         refine Dr.takes (fuel' := 12) (is' := [15, 14, 13, 12, 11, 10, 9, 8, 7, 6, 5, 4, 3, 2, 1, 0]) [12, 13, 14, 15] [(0, (ptr g)), (1, (i64 a)), (3, (Value.slice B1 ((ys.drop i).length) d1)), (8, (i64 0)), (9, (i64 0)), (10, (i64 0)), (13, (i64 (n + ((ys.length : Nat) : Int)))), (90, (i64 base)), (94, (i64 old)), (98, (Value.slice A l.length c)), (99, (i64 a)), (102, (ptr g))] (by kernel_rfl) rfl (by kernel_rfl) ?_
         refine Dr.take (i := 16) (v := (i64 base)) (by kernel_rfl) (by kernel_rfl) (fun wz hS => Runs.load (t := 2) (a := ⟨g, 0, none⟩) (by kernel_rfl) ((H176.keep hS (fun h => h)).loads (by kernel_rfl))) (d := (some 103)) (by kernel_rfl) rfl ?_
         refine Dr.takes (fuel' := 10) (is' := [17, 16, 15, 14, 13, 12, 11, 10, 9, 8, 7, 6, 5, 4, 3, 2, 1, 0]) [17] [(0, (ptr g)), (1, (i64 a)), (3, (Value.slice B1 ((ys.drop i).length) d1)), (8, (i64 0)), (9, (i64 0)), (10, (i64 0)), (13, (i64 (n + ((ys.length : Nat) : Int)))), (90, (i64 base)), (94, (i64 old)), (98, (Value.slice A l.length c)), (104, (i64 (IntKind.i64.wrap (a - base))))] (by kernel_rfl) rfl (by kernel_rfl) ?_
         have e249 : IntKind.i64.wrap (a - base) = ((j : Nat) : Int) := by rw [wrap_i64 (by omega) (by omega)]; omega
         rw [e249]
         refine Dr.takes (fuel' := 6) (is' := [21, 20, 19, 18, 17, 16, 15, 14, 13, 12, 11, 10, 9, 8, 7, 6, 5, 4, 3, 2, 1, 0]) [18, 19, 20, 21] [(0, (ptr g)), (1, (i64 a)), (3, (Value.slice B1 ((ys.drop i).length) d1)), (8, (i64 0)), (9, (i64 0)), (10, (i64 0)), (13, (i64 (n + ((ys.length : Nat) : Int)))), (90, (i64 base)), (94, (i64 old)), (98, (Value.slice A l.length c)), (104, (i64 ((j : Nat) : Int))), (105, (i64 a)), (108, (ptr g))] (by kernel_rfl) rfl (by kernel_rfl) ?_
         refine Dr.take (i := 22) (v := (i64 base)) (by kernel_rfl) (by kernel_rfl) (fun wz hS => Runs.load (t := 2) (a := ⟨g, 0, none⟩) (by kernel_rfl) ((H176.keep hS (fun h => h)).loads (by kernel_rfl))) (d := (some 109)) (by kernel_rfl) rfl ?_
         refine Dr.takes (fuel' := 4) (is' := [23, 22, 21, 20, 19, 18, 17, 16, 15, 14, 13, 12, 11, 10, 9, 8, 7, 6, 5, 4, 3, 2, 1, 0]) [23] [(0, (ptr g)), (1, (i64 a)), (3, (Value.slice B1 ((ys.drop i).length) d1)), (8, (i64 0)), (9, (i64 0)), (10, (i64 0)), (13, (i64 (n + ((ys.length : Nat) : Int)))), (90, (i64 base)), (94, (i64 old)), (98, (Value.slice A l.length c)), (104, (i64 ((j : Nat) : Int))), (110, (i64 (IntKind.i64.wrap (a - base))))] (by kernel_rfl) rfl (by kernel_rfl) ?_
         have e250 : IntKind.i64.wrap (a - base) = ((j : Nat) : Int) := by rw [wrap_i64 (by omega) (by omega)]; omega
         rw [e250]
         obtain ⟨hr253, hE254⟩ := Ents.headRun (P := Try.prog) (t := 22) (e := 43) (by kernel_rfl) (by kernel_rfl) hE j j (kh := .i64) (mx := (some (i64 ((j : Nat) : Int)))) (.inr ⟨_, rfl⟩) (by omega) (by omega) (by omega)
         obtain ⟨l251, hl252⟩ : ∃ z, z = l.take j := ⟨_, rfl⟩
         rw [← hl252] at hr253 hE254
         have hn255 : l251.length = j := by rw [hl252]; simp only [List.length_take]; omega
         have hc256 := Ents.len hE254
         refine Dr.take (i := 24) (v := (Value.slice A l251.length j)) (by kernel_rfl) (by kernel_rfl) (fun wz hS => Runs.slice (by kernel_rfl) (hr253 _)) (d := (some 111)) (by kernel_rfl) rfl ?_
         refine Dr.takes (fuel' := 2) (is' := [25, 24, 23, 22, 21, 20, 19, 18, 17, 16, 15, 14, 13, 12, 11, 10, 9, 8, 7, 6, 5, 4, 3, 2, 1, 0]) [25] [(0, (ptr g)), (1, (i64 a)), (3, (Value.slice B1 ((ys.drop i).length) d1)), (8, (i64 0)), (9, (i64 0)), (10, (i64 0)), (13, (i64 (n + ((ys.length : Nat) : Int)))), (112, (agg [(i64 base), (i64 old), (Value.slice A l251.length j)]))] (by kernel_rfl) rfl (by kernel_rfl) ?_
         refine Dr.new (i := 26) (o := rowL [(i64 base), (i64 old), (Value.slice A l251.length j)] 55) (V := fun b => (ptr b)) (by kernel_rfl) (by kernel_rfl) (d := (some 113)) (by kernel_rfl) (fun b => rfl) (fun b257 w258 hb259 H260 K261 hs262 => ?_)
         have lb257g : g < b257 := by have := H176.lt; omega
         have nb257 : w.heap.size ≤ b257 := by have := K175.size; omega
         have ot263 : ∀ i, T i → i ≠ b257 := fun i hi => by have := Ents.lt hE i hi; omega
         have ot264 : ∀ i, U i → i ≠ b257 := fun i hi => by have := Ents.lt hY1 i hi; omega
         have ot265 : ∀ i, T i → i ≠ b257 := fun i hi => by have := Ents.lt hE254 i hi; omega
         replace K175 := K175.trans K261 (U := (fun i => i = g)) (fun i h1 h2 => h2) (fun i h1 h2 => by exact h2.elim)
         replace H176 := H176.keep K261 (fun h => h)
         replace hE := Ents.keep0 hE K261
         replace hY1 := Ents.keep0 hY1 K261
         replace hE254 := Ents.keep0 hE254 K261
         refine ⟨K261, ?_⟩
         refine Dr.strong (S' := (fun wz => Keeps none_ w258 wz)) (Keeps.refl w258) (fun wz hx => K261.trans hx (fun i _ h => h) (fun _ _ h => h)) ?_
         clear K261 hs262
         refine Dr.takes (fuel' := 0) (is' := [27, 26, 25, 24, 23, 22, 21, 20, 19, 18, 17, 16, 15, 14, 13, 12, 11, 10, 9, 8, 7, 6, 5, 4, 3, 2, 1, 0]) [27] [(0, (ptr g)), (1, (i64 a)), (3, (Value.slice B1 ((ys.drop i).length) d1)), (8, (i64 0)), (9, (i64 0)), (10, (i64 0)), (13, (i64 (n + ((ys.length : Nat) : Int)))), (15, (ptr b257))] (by kernel_rfl) rfl (by kernel_rfl) ?_
         refine Dr.done (by kernel_rfl) ?_
         refine qs ?_
         refine qs ?_
         refine qg ?_
         refine og 2 [(0, (ptr g)), (1, (i64 a)), (8, (i64 0)), (9, (i64 0)), (10, (i64 0)), (13, (i64 (n + ((ys.length : Nat) : Int)))), (15, (ptr b257)), (114, (ptr b257)), (115, (Value.slice B1 ((ys.drop i).length) d1))] 2 ?_
         by_cases hq266 : appE base old (l251.map EntP.key) ((ys.drop i).map EntP.key) = 0
         ·skip
          refine Ops.call (by kernel_rfl) (d := (some 116)) (by kernel_rfl) (Append_ok _ T b257 base old A l251 U B1 d1 (ys.drop i) (by have q := H260; rw [← hn255] at q; exact q) (by have q := hE254; rw [← hn255] at q; exact q) ot265 (by omega) (by omega) hY1 ot264 (BigK.take hl252 hBig) (BigK.cut (k := i) (j := ys.length) (by rw [List.take_of_length_le (by simp)]) hBigY) (by omega) hq266) ?_
          rintro _ w271 ⟨l267, A268, c269, T270, rfl, K272, H273, hE274, hK275, hT276⟩
          have ot277 : ∀ i, T270 i → i ≠ g := fun i hi => by rcases (hT276 i hi).2 with h | h; (exact hT i h); (have := H176.lt; omega)
          have ot278 : ∀ i, T270 i → i ≠ b257 := fun i hi => (hT276 i hi).1
          have hn279 := keys_len2 hK275
          try rw [List.length_drop] at hn279
          try rw [List.length_append] at hn279
          try rw [List.length_map] at hn279
          try rw [List.length_map] at hn279
          have hz280 := K175.size
          refine ⟨_, _, rfl, rfl, ?_⟩
          replace K175 := K175.trans K272 (U := (fun i => i = g)) (fun i h1 h2 => h2) (fun i h1 h2 => by have h2 : i = b257 := h2; show i = g; omega)
          replace H176 := H176.keep K272 (by intro h; change g = b257 at h; omega)
          replace hE := Ents.keep hE K272 (fun i hi hs => by have hs : i = b257 := hs; have := ot263 i hi; omega)
          replace hY1 := Ents.keep hY1 K272 (fun i hi hs => by have hs : i = b257 := hs; have := ot264 i hi; omega)
          replace hE254 := Ents.keep hE254 K272 (fun i hi hs => by have hs : i = b257 := hs; have := ot265 i hi; omega)
          clear K272
          refine og 1 [(0, (ptr g)), (1, (i64 a)), (8, (i64 0)), (9, (i64 0)), (10, (i64 0)), (13, (i64 (n + ((ys.length : Nat) : Int)))), (15, (ptr b257)), (16, (i64 0))] 4 ?_
          refine od ?_
          refine qs ?_
          refine qg ?_
          refine og 2 [(0, (ptr g)), (1, (i64 a)), (8, (i64 0)), (9, (i64 0)), (10, (i64 0)), (13, (i64 (n + ((ys.length : Nat) : Int)))), (15, (ptr b257)), (16, (i64 0)), (118, (Value.bool false))] 2 ?_
          refine od ?_
          refine q_else (o := .tmp 118) (by kernel_rfl) rfl ?_
          refine q_skip (by kernel_rfl) ?_
          refine qs ?_
          refine qg ?_
          refine og 4 [(1, (i64 a)), (8, (i64 0)), (9, (i64 0)), (10, (i64 0)), (13, (i64 (n + ((ys.length : Nat) : Int)))), (120, (ptr g)), (123, (Value.pointer (some ⟨b257, 2, none⟩)))] 4 ?_
          refine Ops.go (v := (Value.slice A268 l267.length c269)) (by kernel_rfl) (Runs.load (t := 22) (a := ⟨b257, 2, none⟩) (by kernel_rfl) (H273.loads (by kernel_rfl))) (d := (some 124)) (by kernel_rfl) rfl ?_
          refine og 2 [(1, (i64 a)), (8, (i64 0)), (9, (i64 0)), (10, (i64 0)), (13, (i64 (n + ((ys.length : Nat) : Int)))), (124, (Value.slice A268 l267.length c269)), (126, (Value.pointer (some ⟨g, 2, none⟩)))] 7 ?_
          refine Ops.put (t := 22) (b := g) (off := 2) (v := (Value.slice A268 l267.length c269)) (ys := [(i64 base), (i64 old), (Value.slice A268 l267.length c269)]) (by kernel_rfl) (by kernel_rfl) H176 (by kernel_rfl) (d := none) (by kernel_rfl) rfl (fun w281 H282 K283 => ?_)
          clear H176
          replace K175 := K175.trans K283 (U := (fun i => i = g)) (fun i h1 h2 => h2) (fun i h1 h2 => by have h2 : i = g := h2; show i = g; omega)
          replace H273 := H273.keep K283 (by intro h; change b257 = g at h; omega)
          replace hE := Ents.keep hE K283 (fun i hi hs => by have hs : i = g := hs; have := hT i hi; omega)
          replace hY1 := Ents.keep hY1 K283 (fun i hi hs => by have hs : i = g := hs; have := hU i hi; omega)
          replace hE254 := Ents.keep hE254 K283 (fun i hi hs => by have hs : i = g := hs; have := hT i hi; omega)
          replace hE274 := Ents.keep hE274 K283 (fun i hi hs => by have hs : i = g := hs; have := ot277 i hi; omega)
          clear K283
          refine od ?_
          refine qs ?_
          refine qg ?_
          refine og 3 [(8, (i64 0)), (9, (i64 0)), (10, (i64 0)), (127, (i64 (n + ((ys.length : Nat) : Int)))), (129, (i64 (IntKind.i64.wrap (a + 1))))] 3 ?_
          have e284 : IntKind.i64.wrap (a + 1) = a + 1 := wrap_i64 (by omega) (by omega)
          rw [e284]
          refine og 3 [(8, (i64 (n + ((ys.length : Nat) : Int)))), (9, (i64 (a + 1))), (10, (i64 0))] 6 ?_
          refine od ?_
          refine q_ret (by kernel_rfl) ?_
          refine ⟨(Value.tuple #[(i64 (n + ((ys.length : Nat) : Int))), (i64 (a + 1)), (i64 0)]), retv_tmp3 rfl rfl rfl rfl, ?_⟩
          have em : matchK base old (l.map EntP.key) n t0 (ys.map EntP.key) = matchT base old (l.map EntP.key) n (ys.map EntP.key) := by unfold matchK; rw [if_neg (by omega), if_neg (by omega), if_pos (by rw [q156, termK_base]; exact Prod.ext (by simp only; omega) rfl)]
          have hyz : (ys.map EntP.key).length = ys.length := List.length_map ..
          have hr0 : runK base old (l.map EntP.key) a ((ys.map EntP.key).drop i) = 0 := (runK_ne (k := k185) (by omega) (ekey_at hx187) hyk (by omega))
          rw [hr0, Nat.add_zero] at hrun
          have hkp : (l251.map EntP.key) = (l.map EntP.key).take j := by rw [hl252, List.map_take]
          have hkd : (ys.drop i).map EntP.key = (ys.map EntP.key).drop i := List.map_drop ..
          rw [hkp, hkd] at hq266
          have e := em.trans (matchT_ok hrun (by omega) (by omega) hq266)
          exact ⟨l267, A268, c269, T270, by rw [e, hyz] <;> first | rfl | (rw [ha]; done) | (rw [ha]; rfl), K175, H282, hE274, by rw [e, hK275, hkp, hkd], fun i hi => ⟨ot277 i hi, ((hT276 i hi).2).imp id (fun h => by omega)⟩⟩
         ·skip
          refine Ops.call (by kernel_rfl) (d := (some 116)) (by kernel_rfl) (Append_bad _ T b257 base old A l251 U B1 d1 (ys.drop i) (by have q := H260; rw [← hn255] at q; exact q) (by have q := hE254; rw [← hn255] at q; exact q) ot265 (by omega) (by omega) hY1 ot264 (BigK.take hl252 hBig) (BigK.cut (k := i) (j := ys.length) (by rw [List.take_of_length_le (by simp)]) hBigY) (by omega) hq266) ?_
          rintro _ w286 ⟨rfl, K285⟩
          refine ⟨_, _, rfl, rfl, ?_⟩
          replace K175 := K175.trans K285 (U := (fun i => i = g)) (fun i h1 h2 => h2) (fun i h1 h2 => by exact h2.elim)
          replace H176 := H176.keep K285 (fun h => h)
          replace H260 := H260.keep K285 (fun h => h)
          replace hE := Ents.keep0 hE K285
          replace hY1 := Ents.keep0 hY1 K285
          replace hE254 := Ents.keep0 hE254 K285
          clear K285
          refine og 1 [(0, (ptr g)), (1, (i64 a)), (8, (i64 0)), (9, (i64 0)), (10, (i64 0)), (13, (i64 (n + ((ys.length : Nat) : Int)))), (15, (ptr b257)), (16, (i64 (appE base old (l251.map EntP.key) ((ys.drop i).map EntP.key))))] 4 ?_
          refine od ?_
          refine qs ?_
          refine qg ?_
          refine og 2 [(0, (ptr g)), (1, (i64 a)), (8, (i64 0)), (9, (i64 0)), (10, (i64 0)), (13, (i64 (n + ((ys.length : Nat) : Int)))), (15, (ptr b257)), (16, (i64 (appE base old (l251.map EntP.key) ((ys.drop i).map EntP.key)))), (118, (Value.bool ((appE base old (l251.map EntP.key) ((ys.drop i).map EntP.key)) != 0)))] 2 ?_
          refine od ?_
          have h288 : ((appE base old (l251.map EntP.key) ((ys.drop i).map EntP.key)) != 0) = true := bne_t hq266
          rw [h288]
          refine q_then (o := .tmp 118) (by kernel_rfl) rfl ?_
          refine qs ?_
          refine qg ?_
          refine og 4 [(0, (ptr g)), (1, (i64 a)), (8, (i64 0)), (9, (i64 0)), (10, (i64 (appE base old (l251.map EntP.key) ((ys.drop i).map EntP.key)))), (13, (i64 (n + ((ys.length : Nat) : Int)))), (15, (ptr b257))] 4 ?_
          refine od ?_
          refine q_ret (by kernel_rfl) ?_
          refine ⟨(Value.tuple #[(i64 0), (i64 0), (i64 (appE base old (l251.map EntP.key) ((ys.drop i).map EntP.key)))]), retv_tmp3 rfl rfl rfl rfl, ?_⟩
          have em : matchK base old (l.map EntP.key) n t0 (ys.map EntP.key) = matchT base old (l.map EntP.key) n (ys.map EntP.key) := by unfold matchK; rw [if_neg (by omega), if_neg (by omega), if_pos (by rw [q156, termK_base]; exact Prod.ext (by simp only; omega) rfl)]
          have hyz : (ys.map EntP.key).length = ys.length := List.length_map ..
          have hr0 : runK base old (l.map EntP.key) a ((ys.map EntP.key).drop i) = 0 := (runK_ne (k := k185) (by omega) (ekey_at hx187) hyk (by omega))
          rw [hr0, Nat.add_zero] at hrun
          have hkp : (l251.map EntP.key) = (l.map EntP.key).take j := by rw [hl252, List.map_take]
          have hkd : (ys.drop i).map EntP.key = (ys.map EntP.key).drop i := List.map_drop ..
          rw [hkp, hkd] at hq266
          have e := em.trans (matchT_bad hrun (by omega) (by omega) hq266)
          exact ⟨l, A, c, T, by rw [e, hkp, hkd], K175, H176, hE, by rw [e], fun i hi => ⟨hT0 i hi, .inl hi⟩⟩
        ·rw [h244]
         have p289 : x186.term = y.term := of_bne_f h244
         have hre := runK_eq (old := old) (k := k185) (by omega) (ekey_at hx187) hyk (by omega)
         refine q_skip (by kernel_rfl) ?_
         refine q_draw (fun wz => Keeps none_ w243 wz) 6 (by kernel_rfl) (by kernel_rfl) (by kernel_rfl) (fun w290 K291 _ _ => ⟨K291, ?_⟩)
         replace K175 := K175.trans K291 (U := (fun i => i = g)) (fun i h1 h2 => h2) (fun i h1 h2 => by exact h2.elim)
         replace H176 := H176.keep K291 (fun h => h)
         replace hE := Ents.keep0 hE K291
         replace hY1 := Ents.keep0 hY1 K291
         refine Dr.strong (S' := (fun wz => Keeps none_ w290 wz)) (Keeps.refl w290) (fun wz hx => K291.trans hx (fun i _ h => h) (fun _ _ h => h)) ?_
         clear K291
         refine Dr.takes (fuel' := 4) (is' := [1, 0]) [0, 1] [(0, (ptr g)), (1, (i64 a)), (3, (Value.slice B1 ((ys.drop i).length) d1)), (8, (i64 0)), (9, (i64 0)), (10, (i64 0)), (13, (i64 (n + ((ys.length : Nat) : Int)))), (14, (Value.iface 64 (agg [(i64 x186.term), (Value.slice x186.A x186.cmd.length x186.c)]))), (63, (Value.bool true)), (78, (Value.bool false)), (80, (i64 (IntKind.i64.wrap (a + 1))))] (by kernel_rfl) rfl (by kernel_rfl) ?_
         have e292 : IntKind.i64.wrap (a + 1) = a + 1 := wrap_i64 (by omega) (by omega)
         rw [e292]
         obtain ⟨A298, c299, hr295, hE296⟩ := Ents.cutRun (P := Try.prog) (t := 22) (e := 43) (by kernel_rfl) (by kernel_rfl) hY1 1 ((ys.drop i).length) (kl := .i64) (hi := none) (.inl ⟨rfl, rfl⟩) (by omega) (by omega)
         have he300 : ((ys.drop i).drop 1).take ((ys.drop i).length - 1) = ys.drop (i + 1) := by rw [List.drop_drop]; exact List.take_of_length_le (by rw [List.length_drop, List.length_drop]; omega)
         rw [he300] at hr295 hE296
         refine Dr.takes (fuel' := 3) (is' := [2, 1, 0]) [2] [(0, (ptr g)), (1, (i64 a)), (3, (Value.slice B1 ((ys.drop i).length) d1)), (8, (i64 0)), (9, (i64 0)), (10, (i64 0)), (13, (i64 (n + ((ys.length : Nat) : Int)))), (14, (Value.iface 64 (agg [(i64 x186.term), (Value.slice x186.A x186.cmd.length x186.c)]))), (63, (Value.bool true)), (78, (Value.bool false)), (80, (i64 (a + 1))), (81, (Value.slice B1 ((ys.drop i).length) d1))] (by kernel_rfl) rfl (by kernel_rfl) ?_
         refine Dr.take (i := 3) (v := (Value.slice A298 ((ys.drop (i + 1)).length) c299)) (by kernel_rfl) (by kernel_rfl) (fun wz hS => Runs.slice (by kernel_rfl) (hr295 _)) (d := (some 82)) (by kernel_rfl) rfl ?_
         refine Dr.takes (fuel' := 0) (is' := [5, 4, 3, 2, 1, 0]) [4, 5] [(0, (ptr g)), (1, (i64 (a + 1))), (3, (Value.slice A298 ((ys.drop (i + 1)).length) c299)), (8, (i64 0)), (9, (i64 0)), (10, (i64 0)), (13, (i64 (n + ((ys.length : Nat) : Int)))), (14, (Value.iface 64 (agg [(i64 x186.term), (Value.slice x186.A x186.cmd.length x186.c)]))), (63, (Value.bool true)), (78, (Value.bool false))] (by kernel_rfl) rfl (by kernel_rfl) ?_
         refine Dr.keep (R := [(0, (ptr g)), (1, (i64 (a + 1))), (3, (Value.slice A298 ((ys.drop (i + 1)).length) c299)), (8, (i64 0)), (9, (i64 0)), (10, (i64 0)), (13, (i64 (n + ((ys.length : Nat) : Int))))]) (by kernel_rfl) ?_
         refine Dr.done (by kernel_rfl) ?_
         exact ⟨(a + 1, i + 1, A298, c299), ⟨rfl, (by omega), (by rw [hrun, hre, List.drop_drop]; omega), (by omega), (by omega), hE296, hE, K175, H176⟩, (show ys.length - (i + 1) < ys.length - i from by omega)⟩
      ·rw [h177]
       have p301 : ¬ ((((ys.drop i).length : Nat) : Int) > 0) := of_decide_eq_false h177
       refine q_exit (id := 1) (by kernel_rfl) ?_
       refine qs ?_
       refine qs ?_
       refine qg ?_
       refine og 3 [(0, (ptr g)), (1, (i64 a)), (3, (Value.slice B1 ((ys.drop i).length) d1)), (8, (i64 0)), (9, (i64 0)), (10, (i64 0)), (13, (i64 (n + ((ys.length : Nat) : Int)))), (85, (Value.bool ((((ys.drop i).length : Nat) : Int) == 0)))] 3 ?_
       refine od ?_
       have h302 : ((((ys.drop i).length : Nat) : Int) == 0) = true := beq_t (by omega)
       rw [h302]
       refine q_then (o := .tmp 85) (by kernel_rfl) rfl ?_
       refine qs ?_
       refine qg ?_
       refine og 4 [(0, (ptr g)), (1, (i64 a)), (3, (Value.slice B1 ((ys.drop i).length) d1)), (8, (i64 (n + ((ys.length : Nat) : Int)))), (9, (i64 0)), (10, (i64 0)), (13, (i64 (n + ((ys.length : Nat) : Int))))] 4 ?_
       refine od ?_
       refine q_ret (by kernel_rfl) ?_
       refine ⟨(Value.tuple #[(i64 (n + ((ys.length : Nat) : Int))), (i64 0), (i64 0)]), retv_tmp3 rfl rfl rfl rfl, ?_⟩
       have em : matchK base old (l.map EntP.key) n t0 (ys.map EntP.key) = matchT base old (l.map EntP.key) n (ys.map EntP.key) := by unfold matchK; rw [if_neg (by omega), if_neg (by omega), if_pos (by rw [q156, termK_base]; exact Prod.ext (by simp only; omega) rfl)]
       have hyz : (ys.map EntP.key).length = ys.length := List.length_map ..
       have hr0 : runK base old (l.map EntP.key) a ((ys.map EntP.key).drop i) = 0 := by rw [List.drop_of_length_le (by omega)]; rfl
       have e := em.trans (matchT_end (by rw [hrun, hr0]; omega))
       exact ⟨l, A, c, T, by rw [e, hyz], K175, H176, hE, by rw [e], fun i hi => ⟨hT0 i hi, .inl hi⟩⟩
    ·skip
     obtain ⟨x160, hx161⟩ : ∃ y, l[k159]? = some y := ⟨_, List.getElem?_eq_getElem q158⟩
     refine Ops.call (by kernel_rfl) (d := (some 48)) (by kernel_rfl) (at_here _ T g base old A c l n k159 x160 H0 hE hT (by omega) (by omega) q157 q158 hx161) ?_
     rintro _ w304 ⟨rfl, K303⟩
     refine ⟨_, _, rfl, rfl, ?_⟩
     replace K0 := K0.trans K303 (U := (fun i => i = g)) (fun i h1 h2 => h2) (fun i h1 h2 => by exact h2.elim)
     replace H0 := H0.keep K303 (fun h => h)
     replace hE := Ents.keep0 hE K303
     replace hY := Ents.keep0 hY K303
     clear K303
     refine og 1 [(0, (ptr g)), (1, (i64 n)), (2, (i64 t0)), (3, (Value.slice B ys.length d)), (8, (i64 0)), (9, (i64 0)), (10, (i64 0)), (12, (Value.iface 64 (agg [(i64 x160.term), (Value.slice x160.A x160.cmd.length x160.c)])))] 4 ?_
     refine od ?_
     refine qs ?_
     refine qg ?_
     refine og 4 [(0, (ptr g)), (1, (i64 n)), (2, (i64 t0)), (3, (Value.slice B ys.length d)), (8, (i64 0)), (9, (i64 0)), (10, (i64 0)), (51, (Value.bool false)), (52, (Value.iface 64 (agg [(i64 x160.term), (Value.slice x160.A x160.cmd.length x160.c)])))] 4 ?_
     refine Ops.call (by kernel_rfl) (d := (some 53)) (by kernel_rfl) (here_calls _ x160) ?_
     rintro _ w306 ⟨rfl, K305⟩
     refine ⟨_, _, rfl, rfl, ?_⟩
     replace K0 := K0.trans K305 (U := (fun i => i = g)) (fun i h1 h2 => h2) (fun i h1 h2 => by exact h2.elim)
     replace H0 := H0.keep K305 (fun h => h)
     replace hE := Ents.keep0 hE K305
     replace hY := Ents.keep0 hY K305
     clear K305
     refine og 3 [(0, (ptr g)), (1, (i64 n)), (3, (Value.slice B ys.length d)), (8, (i64 0)), (9, (i64 0)), (10, (i64 0)), (56, (Value.bool (x160.term != t0)))] 8 ?_
     refine od ?_
     refine q_cond (o := .tmp 56) (b := (x160.term != t0)) (by kernel_rfl) rfl (fun h307 => ?_) (fun h307 => ?_)
     ·rw [h307]
      have p308 : ¬ (x160.term = t0) := of_bne_t h307
      refine qs ?_
      refine qg ?_
      refine og 3 [(0, (ptr g)), (1, (i64 n)), (3, (Value.slice B ys.length d)), (8, (i64 0)), (9, (i64 0)), (10, (i64 5))] 3 ?_
      refine od ?_
      refine q_ret (by kernel_rfl) ?_
      refine ⟨(Value.tuple #[(i64 0), (i64 0), (i64 5)]), retv_tmp3 rfl rfl rfl rfl, ?_⟩
      have e : matchK base old (l.map EntP.key) n t0 (ys.map EntP.key) = ((0, 0, 5), (l.map EntP.key)) := by unfold matchK; rw [if_neg (by omega), if_neg (by omega), q157, termK_at (ekey_at hx161), if_neg (by simp <;> omega)]
      exact ⟨l, A, c, T, by rw [e], K0, H0, hE, by rw [e], fun i hi => ⟨hT0 i hi, .inl hi⟩⟩
     ·rw [h307]
      have p309 : x160.term = t0 := of_bne_f h307
      refine q_skip (by kernel_rfl) ?_
      refine qs ?_
      refine qg ?_
      refine og 4 [(0, (ptr g)), (1, (i64 n)), (3, (Value.slice B ys.length d)), (8, (i64 0)), (9, (i64 0)), (10, (i64 0)), (60, (i64 (IntKind.i64.wrap (n + ((ys.length : Nat) : Int)))))] 4 ?_
      have e310 : IntKind.i64.wrap (n + ((ys.length : Nat) : Int)) = n + ((ys.length : Nat) : Int) := wrap_i64 (by omega) (by omega)
      rw [e310]
      refine og 1 [(0, (ptr g)), (1, (i64 n)), (3, (Value.slice B ys.length d)), (8, (i64 0)), (9, (i64 0)), (10, (i64 0)), (13, (i64 (n + ((ys.length : Nat) : Int))))] 5 ?_
      refine od ?_
      refine qs ?_
      refine q_block (id := 1) (by kernel_rfl) ?_
      refine q_keep (R := [(0, (ptr g)), (1, (i64 n)), (3, (Value.slice B ys.length d)), (8, (i64 0)), (9, (i64 0)), (10, (i64 0)), (13, (i64 (n + ((ys.length : Nat) : Int))))]) (by kernel_rfl) ?_
      refine q_loop (fun (gs : Int × Nat × (Option Addr) × Nat) L (wx : World) => match gs with | (a, i, B1, d1) => L = [(0, (ptr g)), (1, (i64 a)), (3, (Value.slice B1 ((ys.drop i).length) d1)), (8, (i64 0)), (9, (i64 0)), (10, (i64 0)), (13, (i64 (n + ((ys.length : Nat) : Int))))] ∧ a = n + (i : Int) ∧ runK base old (l.map EntP.key) n (ys.map EntP.key) = i + runK base old (l.map EntP.key) a ((ys.map EntP.key).drop i) ∧ a ≤ base + (l.length : Int) ∧ i ≤ ys.length ∧ Ents wx U (.slice B1 (ys.drop i).length d1) (ys.drop i) ∧ Ents wx T (.slice A l.length c) l ∧ Keeps (fun i => i = g) w wx ∧ Has wx g (rowL [(i64 base), (i64 old), (Value.slice A l.length c)] 55)) (fun (gs : Int × Nat × (Option Addr) × Nat) => match gs with | (a, i, B1, d1) => ys.length - i) (n, 0, B, d) (by kernel_rfl) ⟨rfl, (by simp), (by simp), (by omega), Nat.zero_le _, hY, hE, K0, H0⟩ ?_
      clear H0 hE hY K0
      rintro ⟨a, i, B1, d1⟩ _ w311 ⟨rfl, ha, hrun, hpos, hi, hY1, hE, K312, H313⟩
      have hc1 := Ents.len hY1
      have hdl : (ys.drop i).length = ys.length - i := List.length_drop
      refine qs ?_
      refine qs ?_
      refine qg ?_
      refine og 3 [(0, (ptr g)), (1, (i64 a)), (3, (Value.slice B1 ((ys.drop i).length) d1)), (8, (i64 0)), (9, (i64 0)), (10, (i64 0)), (13, (i64 (n + ((ys.length : Nat) : Int)))), (63, (Value.bool (decide ((((ys.drop i).length : Nat) : Int) > 0))))] 3 ?_
      refine od ?_
      refine q_cond (o := .tmp 63) (b := (decide ((((ys.drop i).length : Nat) : Int) > 0))) (by kernel_rfl) rfl (fun h314 => ?_) (fun h314 => ?_)
      ·rw [h314]
       have p315 : (((ys.drop i).length : Nat) : Int) > 0 := of_decide_eq_true h314
       obtain ⟨y, hy⟩ : ∃ z, (ys.drop i)[0]? = some z := ⟨_, List.getElem?_eq_getElem (by omega)⟩
       have hyk : ((ys.map EntP.key).drop i)[0]? = some (y.term, y.cmd) := by rw [← List.map_drop]; exact ekey_at hy
       refine q_skip (by kernel_rfl) ?_
       refine q_block (id := 2) (by kernel_rfl) ?_
       refine qs ?_
       refine qg ?_
       refine og 3 [(0, (ptr g)), (1, (i64 a)), (3, (Value.slice B1 ((ys.drop i).length) d1)), (8, (i64 0)), (9, (i64 0)), (10, (i64 0)), (13, (i64 (n + ((ys.length : Nat) : Int)))), (63, (Value.bool true)), (64, (ptr g)), (66, (i64 (IntKind.i64.wrap (a + 1))))] 3 ?_
       have e316 : IntKind.i64.wrap (a + 1) = a + 1 := wrap_i64 (by omega) (by omega)
       rw [e316]
       rcases at_or base l.length (a + 1) with q317 | q318 | q319 | ⟨k322, q320, q321⟩
       ·exfalso; omega
       ·skip
        refine Ops.call (by kernel_rfl) (d := (some 67)) (by kernel_rfl) (at_high _ T g base old A c l (a + 1) H313 hE hT (by omega) (by omega) (by omega) q318) ?_
        rintro _ w326 ⟨rfl, K325⟩
        refine ⟨_, _, rfl, rfl, ?_⟩
        replace K312 := K312.trans K325 (U := (fun i => i = g)) (fun i h1 h2 => h2) (fun i h1 h2 => by exact h2.elim)
        replace H313 := H313.keep K325 (fun h => h)
        replace hE := Ents.keep0 hE K325
        replace hY1 := Ents.keep0 hY1 K325
        clear K325
        refine og 1 [(0, (ptr g)), (1, (i64 a)), (3, (Value.slice B1 ((ys.drop i).length) d1)), (8, (i64 0)), (9, (i64 0)), (10, (i64 0)), (13, (i64 (n + ((ys.length : Nat) : Int)))), (14, Value.nilIface), (63, (Value.bool true))] 5 ?_
        refine od ?_
        refine qs ?_
        refine qs ?_
        refine q_draw (fun wz => Keeps none_ w326 wz) 11 (by kernel_rfl) (by kernel_rfl) (by kernel_rfl) (fun w327 K328 _ _ => ⟨K328, ?_⟩)
        replace K312 := K312.trans K328 (U := (fun i => i = g)) (fun i h1 h2 => h2) (fun i h1 h2 => by exact h2.elim)
        replace H313 := H313.keep K328 (fun h => h)
        replace hE := Ents.keep0 hE K328
        replace hY1 := Ents.keep0 hY1 K328
        refine Dr.strong (S' := (fun wz => Keeps none_ w327 wz)) (Keeps.refl w327) (fun wz hx => K328.trans hx (fun i _ h => h) (fun _ _ h => h)) ?_
        clear K328
        refine Dr.takes (fuel' := 0) (is' := [10, 9, 8, 7, 6, 5, 4, 3, 2, 1, 0]) [0, 1, 2, 3, 4, 5, 6, 7, 8, 9, 10] [(0, (ptr g)), (1, (i64 a)), (3, (Value.slice B1 ((ys.drop i).length) d1)), (8, (i64 0)), (9, (i64 0)), (10, (i64 0)), (13, (i64 (n + ((ys.length : Nat) : Int)))), (14, Value.nilIface), (63, (Value.bool true)), (78, (Value.bool true))] (by kernel_rfl) rfl (by kernel_rfl) ?_
        refine Dr.done (by kernel_rfl) ?_
        refine q_then (o := .tmp 78) (by kernel_rfl) rfl ?_
        refine q_exit (id := 1) (by kernel_rfl) ?_
        refine qs ?_
        refine qs ?_
        refine qg ?_
        refine og 3 [(0, (ptr g)), (1, (i64 a)), (3, (Value.slice B1 ((ys.drop i).length) d1)), (8, (i64 0)), (9, (i64 0)), (10, (i64 0)), (13, (i64 (n + ((ys.length : Nat) : Int)))), (85, (Value.bool ((((ys.drop i).length : Nat) : Int) == 0)))] 3 ?_
        refine od ?_
        obtain ⟨j, hj⟩ : ∃ m : Nat, a - base = (m : Int) := Int.eq_ofNat_of_zero_le (by omega)
        have h329 : ((((ys.drop i).length : Nat) : Int) == 0) = false := beq_f (by omega)
        rw [h329]
        refine q_else (o := .tmp 85) (by kernel_rfl) rfl ?_
        refine q_skip (by kernel_rfl) ?_
        refine qs ?_
        refine q_draw (fun wz => Keeps none_ w327 wz) 28 (by kernel_rfl) (by kernel_rfl) (by kernel_rfl) (fun w330 K331 _ _ => ⟨K331, ?_⟩)
        replace K312 := K312.trans K331 (U := (fun i => i = g)) (fun i h1 h2 => h2) (fun i h1 h2 => by exact h2.elim)
        replace H313 := H313.keep K331 (fun h => h)
        replace hE := Ents.keep0 hE K331
        replace hY1 := Ents.keep0 hY1 K331
        refine Dr.strong (S' := (fun wz => Keeps none_ w330 wz)) (Keeps.refl w330) (fun wz hx => K331.trans hx (fun i _ h => h) (fun _ _ h => h)) ?_
        clear K331
        refine Dr.takes (fuel' := 25) (is' := [2, 1, 0]) [0, 1, 2] [(0, (ptr g)), (1, (i64 a)), (3, (Value.slice B1 ((ys.drop i).length) d1)), (8, (i64 0)), (9, (i64 0)), (10, (i64 0)), (13, (i64 (n + ((ys.length : Nat) : Int)))), (89, (ptr g))] (by kernel_rfl) rfl (by kernel_rfl) ?_
        refine Dr.take (i := 3) (v := (i64 base)) (by kernel_rfl) (by kernel_rfl) (fun wz hS => Runs.load (t := 2) (a := ⟨g, 0, none⟩) (by kernel_rfl) ((H313.keep hS (fun h => h)).loads (by kernel_rfl))) (d := (some 90)) (by kernel_rfl) rfl ?_
        refine Dr.takes (fuel' := 21) (is' := [6, 5, 4, 3, 2, 1, 0]) [4, 5, 6] [(0, (ptr g)), (1, (i64 a)), (3, (Value.slice B1 ((ys.drop i).length) d1)), (8, (i64 0)), (9, (i64 0)), (10, (i64 0)), (13, (i64 (n + ((ys.length : Nat) : Int)))), (90, (i64 base)), (93, (Value.pointer (some ⟨g, 1, none⟩)))] (by kernel_rfl) rfl (by kernel_rfl) ?_
        refine Dr.take (i := 7) (v := (i64 old)) (by kernel_rfl) (by kernel_rfl) (fun wz hS => Runs.load (t := 2) (a := ⟨g, 1, none⟩) (by kernel_rfl) ((H313.keep hS (fun h => h)).loads (by kernel_rfl))) (d := (some 94)) (by kernel_rfl) rfl ?_
        refine Dr.takes (fuel' := 17) (is' := [10, 9, 8, 7, 6, 5, 4, 3, 2, 1, 0]) [8, 9, 10] [(0, (ptr g)), (1, (i64 a)), (3, (Value.slice B1 ((ys.drop i).length) d1)), (8, (i64 0)), (9, (i64 0)), (10, (i64 0)), (13, (i64 (n + ((ys.length : Nat) : Int)))), (90, (i64 base)), (94, (i64 old)), (97, (Value.pointer (some ⟨g, 2, none⟩)))] (by kernel_rfl) rfl (by kernel_rfl) ?_
        refine Dr.take (i := 11) (v := (Value.slice A l.length c)) (by kernel_rfl) (by kernel_rfl) (fun wz hS => Runs.load (t := 22) (a := ⟨g, 2, none⟩) (by kernel_rfl) ((H313.keep hS (fun h => h)).loads (by kernel_rfl))) (d := (some 98)) (by kernel_rfl) rfl ?_
        refine Dr.takes (fuel' := 12) (is' := [15, 14, 13, 12, 11, 10, 9, 8, 7, 6, 5, 4, 3, 2, 1, 0]) [12, 13, 14, 15] [(0, (ptr g)), (1, (i64 a)), (3, (Value.slice B1 ((ys.drop i).length) d1)), (8, (i64 0)), (9, (i64 0)), (10, (i64 0)), (13, (i64 (n + ((ys.length : Nat) : Int)))), (90, (i64 base)), (94, (i64 old)), (98, (Value.slice A l.length c)), (99, (i64 a)), (102, (ptr g))] (by kernel_rfl) rfl (by kernel_rfl) ?_
        refine Dr.take (i := 16) (v := (i64 base)) (by kernel_rfl) (by kernel_rfl) (fun wz hS => Runs.load (t := 2) (a := ⟨g, 0, none⟩) (by kernel_rfl) ((H313.keep hS (fun h => h)).loads (by kernel_rfl))) (d := (some 103)) (by kernel_rfl) rfl ?_
        refine Dr.takes (fuel' := 10) (is' := [17, 16, 15, 14, 13, 12, 11, 10, 9, 8, 7, 6, 5, 4, 3, 2, 1, 0]) [17] [(0, (ptr g)), (1, (i64 a)), (3, (Value.slice B1 ((ys.drop i).length) d1)), (8, (i64 0)), (9, (i64 0)), (10, (i64 0)), (13, (i64 (n + ((ys.length : Nat) : Int)))), (90, (i64 base)), (94, (i64 old)), (98, (Value.slice A l.length c)), (104, (i64 (IntKind.i64.wrap (a - base))))] (by kernel_rfl) rfl (by kernel_rfl) ?_
        have e332 : IntKind.i64.wrap (a - base) = ((j : Nat) : Int) := by rw [wrap_i64 (by omega) (by omega)]; omega
        rw [e332]
        refine Dr.takes (fuel' := 6) (is' := [21, 20, 19, 18, 17, 16, 15, 14, 13, 12, 11, 10, 9, 8, 7, 6, 5, 4, 3, 2, 1, 0]) [18, 19, 20, 21] [(0, (ptr g)), (1, (i64 a)), (3, (Value.slice B1 ((ys.drop i).length) d1)), (8, (i64 0)), (9, (i64 0)), (10, (i64 0)), (13, (i64 (n + ((ys.length : Nat) : Int)))), (90, (i64 base)), (94, (i64 old)), (98, (Value.slice A l.length c)), (104, (i64 ((j : Nat) : Int))), (105, (i64 a)), (108, (ptr g))] (by kernel_rfl) rfl (by kernel_rfl) ?_
        refine Dr.take (i := 22) (v := (i64 base)) (by kernel_rfl) (by kernel_rfl) (fun wz hS => Runs.load (t := 2) (a := ⟨g, 0, none⟩) (by kernel_rfl) ((H313.keep hS (fun h => h)).loads (by kernel_rfl))) (d := (some 109)) (by kernel_rfl) rfl ?_
        refine Dr.takes (fuel' := 4) (is' := [23, 22, 21, 20, 19, 18, 17, 16, 15, 14, 13, 12, 11, 10, 9, 8, 7, 6, 5, 4, 3, 2, 1, 0]) [23] [(0, (ptr g)), (1, (i64 a)), (3, (Value.slice B1 ((ys.drop i).length) d1)), (8, (i64 0)), (9, (i64 0)), (10, (i64 0)), (13, (i64 (n + ((ys.length : Nat) : Int)))), (90, (i64 base)), (94, (i64 old)), (98, (Value.slice A l.length c)), (104, (i64 ((j : Nat) : Int))), (110, (i64 (IntKind.i64.wrap (a - base))))] (by kernel_rfl) rfl (by kernel_rfl) ?_
        have e333 : IntKind.i64.wrap (a - base) = ((j : Nat) : Int) := by rw [wrap_i64 (by omega) (by omega)]; omega
        rw [e333]
        obtain ⟨hr336, hE337⟩ := Ents.headRun (P := Try.prog) (t := 22) (e := 43) (by kernel_rfl) (by kernel_rfl) hE j j (kh := .i64) (mx := (some (i64 ((j : Nat) : Int)))) (.inr ⟨_, rfl⟩) (by omega) (by omega) (by omega)
        obtain ⟨l334, hl335⟩ : ∃ z, z = l.take j := ⟨_, rfl⟩
        rw [← hl335] at hr336 hE337
        have hn338 : l334.length = j := by rw [hl335]; simp only [List.length_take]; omega
        have hc339 := Ents.len hE337
        refine Dr.take (i := 24) (v := (Value.slice A l334.length j)) (by kernel_rfl) (by kernel_rfl) (fun wz hS => Runs.slice (by kernel_rfl) (hr336 _)) (d := (some 111)) (by kernel_rfl) rfl ?_
        refine Dr.takes (fuel' := 2) (is' := [25, 24, 23, 22, 21, 20, 19, 18, 17, 16, 15, 14, 13, 12, 11, 10, 9, 8, 7, 6, 5, 4, 3, 2, 1, 0]) [25] [(0, (ptr g)), (1, (i64 a)), (3, (Value.slice B1 ((ys.drop i).length) d1)), (8, (i64 0)), (9, (i64 0)), (10, (i64 0)), (13, (i64 (n + ((ys.length : Nat) : Int)))), (112, (agg [(i64 base), (i64 old), (Value.slice A l334.length j)]))] (by kernel_rfl) rfl (by kernel_rfl) ?_
        refine Dr.new (i := 26) (o := rowL [(i64 base), (i64 old), (Value.slice A l334.length j)] 55) (V := fun b => (ptr b)) (by kernel_rfl) (by kernel_rfl) (d := (some 113)) (by kernel_rfl) (fun b => rfl) (fun b340 w341 hb342 H343 K344 hs345 => ?_)
        have lb340g : g < b340 := by have := H313.lt; omega
        have nb340 : w.heap.size ≤ b340 := by have := K312.size; omega
        have ot346 : ∀ i, T i → i ≠ b340 := fun i hi => by have := Ents.lt hE i hi; omega
        have ot347 : ∀ i, U i → i ≠ b340 := fun i hi => by have := Ents.lt hY1 i hi; omega
        have ot348 : ∀ i, T i → i ≠ b340 := fun i hi => by have := Ents.lt hE337 i hi; omega
        replace K312 := K312.trans K344 (U := (fun i => i = g)) (fun i h1 h2 => h2) (fun i h1 h2 => by exact h2.elim)
        replace H313 := H313.keep K344 (fun h => h)
        replace hE := Ents.keep0 hE K344
        replace hY1 := Ents.keep0 hY1 K344
        replace hE337 := Ents.keep0 hE337 K344
        refine ⟨K344, ?_⟩
        refine Dr.strong (S' := (fun wz => Keeps none_ w341 wz)) (Keeps.refl w341) (fun wz hx => K344.trans hx (fun i _ h => h) (fun _ _ h => h)) ?_
        clear K344 hs345
        refine Dr.takes (fuel' := 0) (is' := [27, 26, 25, 24, 23, 22, 21, 20, 19, 18, 17, 16, 15, 14, 13, 12, 11, 10, 9, 8, 7, 6, 5, 4, 3, 2, 1, 0]) [27] [(0, (ptr g)), (1, (i64 a)), (3, (Value.slice B1 ((ys.drop i).length) d1)), (8, (i64 0)), (9, (i64 0)), (10, (i64 0)), (13, (i64 (n + ((ys.length : Nat) : Int)))), (15, (ptr b340))] (by kernel_rfl) rfl (by kernel_rfl) ?_
        refine Dr.done (by kernel_rfl) ?_
        refine qs ?_
        refine qs ?_
        refine qg ?_
        refine og 2 [(0, (ptr g)), (1, (i64 a)), (8, (i64 0)), (9, (i64 0)), (10, (i64 0)), (13, (i64 (n + ((ys.length : Nat) : Int)))), (15, (ptr b340)), (114, (ptr b340)), (115, (Value.slice B1 ((ys.drop i).length) d1))] 2 ?_
        by_cases hq349 : appE base old (l334.map EntP.key) ((ys.drop i).map EntP.key) = 0
        ·skip
         refine Ops.call (by kernel_rfl) (d := (some 116)) (by kernel_rfl) (Append_ok _ T b340 base old A l334 U B1 d1 (ys.drop i) (by have q := H343; rw [← hn338] at q; exact q) (by have q := hE337; rw [← hn338] at q; exact q) ot348 (by omega) (by omega) hY1 ot347 (BigK.take hl335 hBig) (BigK.cut (k := i) (j := ys.length) (by rw [List.take_of_length_le (by simp)]) hBigY) (by omega) hq349) ?_
         rintro _ w354 ⟨l350, A351, c352, T353, rfl, K355, H356, hE357, hK358, hT359⟩
         have ot360 : ∀ i, T353 i → i ≠ g := fun i hi => by rcases (hT359 i hi).2 with h | h; (exact hT i h); (have := H313.lt; omega)
         have ot361 : ∀ i, T353 i → i ≠ b340 := fun i hi => (hT359 i hi).1
         have hn362 := keys_len2 hK358
         try rw [List.length_drop] at hn362
         try rw [List.length_append] at hn362
         try rw [List.length_map] at hn362
         try rw [List.length_map] at hn362
         have hz363 := K312.size
         refine ⟨_, _, rfl, rfl, ?_⟩
         replace K312 := K312.trans K355 (U := (fun i => i = g)) (fun i h1 h2 => h2) (fun i h1 h2 => by have h2 : i = b340 := h2; show i = g; omega)
         replace H313 := H313.keep K355 (by intro h; change g = b340 at h; omega)
         replace hE := Ents.keep hE K355 (fun i hi hs => by have hs : i = b340 := hs; have := ot346 i hi; omega)
         replace hY1 := Ents.keep hY1 K355 (fun i hi hs => by have hs : i = b340 := hs; have := ot347 i hi; omega)
         replace hE337 := Ents.keep hE337 K355 (fun i hi hs => by have hs : i = b340 := hs; have := ot348 i hi; omega)
         clear K355
         refine og 1 [(0, (ptr g)), (1, (i64 a)), (8, (i64 0)), (9, (i64 0)), (10, (i64 0)), (13, (i64 (n + ((ys.length : Nat) : Int)))), (15, (ptr b340)), (16, (i64 0))] 4 ?_
         refine od ?_
         refine qs ?_
         refine qg ?_
         refine og 2 [(0, (ptr g)), (1, (i64 a)), (8, (i64 0)), (9, (i64 0)), (10, (i64 0)), (13, (i64 (n + ((ys.length : Nat) : Int)))), (15, (ptr b340)), (16, (i64 0)), (118, (Value.bool false))] 2 ?_
         refine od ?_
         refine q_else (o := .tmp 118) (by kernel_rfl) rfl ?_
         refine q_skip (by kernel_rfl) ?_
         refine qs ?_
         refine qg ?_
         refine og 4 [(1, (i64 a)), (8, (i64 0)), (9, (i64 0)), (10, (i64 0)), (13, (i64 (n + ((ys.length : Nat) : Int)))), (120, (ptr g)), (123, (Value.pointer (some ⟨b340, 2, none⟩)))] 4 ?_
         refine Ops.go (v := (Value.slice A351 l350.length c352)) (by kernel_rfl) (Runs.load (t := 22) (a := ⟨b340, 2, none⟩) (by kernel_rfl) (H356.loads (by kernel_rfl))) (d := (some 124)) (by kernel_rfl) rfl ?_
         refine og 2 [(1, (i64 a)), (8, (i64 0)), (9, (i64 0)), (10, (i64 0)), (13, (i64 (n + ((ys.length : Nat) : Int)))), (124, (Value.slice A351 l350.length c352)), (126, (Value.pointer (some ⟨g, 2, none⟩)))] 7 ?_
         refine Ops.put (t := 22) (b := g) (off := 2) (v := (Value.slice A351 l350.length c352)) (ys := [(i64 base), (i64 old), (Value.slice A351 l350.length c352)]) (by kernel_rfl) (by kernel_rfl) H313 (by kernel_rfl) (d := none) (by kernel_rfl) rfl (fun w364 H365 K366 => ?_)
         clear H313
         replace K312 := K312.trans K366 (U := (fun i => i = g)) (fun i h1 h2 => h2) (fun i h1 h2 => by have h2 : i = g := h2; show i = g; omega)
         replace H356 := H356.keep K366 (by intro h; change b340 = g at h; omega)
         replace hE := Ents.keep hE K366 (fun i hi hs => by have hs : i = g := hs; have := hT i hi; omega)
         replace hY1 := Ents.keep hY1 K366 (fun i hi hs => by have hs : i = g := hs; have := hU i hi; omega)
         replace hE337 := Ents.keep hE337 K366 (fun i hi hs => by have hs : i = g := hs; have := hT i hi; omega)
         replace hE357 := Ents.keep hE357 K366 (fun i hi hs => by have hs : i = g := hs; have := ot360 i hi; omega)
         clear K366
         refine od ?_
         refine qs ?_
         refine qg ?_
         refine og 3 [(8, (i64 0)), (9, (i64 0)), (10, (i64 0)), (127, (i64 (n + ((ys.length : Nat) : Int)))), (129, (i64 (IntKind.i64.wrap (a + 1))))] 3 ?_
         have e367 : IntKind.i64.wrap (a + 1) = a + 1 := wrap_i64 (by omega) (by omega)
         rw [e367]
         refine og 3 [(8, (i64 (n + ((ys.length : Nat) : Int)))), (9, (i64 (a + 1))), (10, (i64 0))] 6 ?_
         refine od ?_
         refine q_ret (by kernel_rfl) ?_
         refine ⟨(Value.tuple #[(i64 (n + ((ys.length : Nat) : Int))), (i64 (a + 1)), (i64 0)]), retv_tmp3 rfl rfl rfl rfl, ?_⟩
         have em : matchK base old (l.map EntP.key) n t0 (ys.map EntP.key) = matchT base old (l.map EntP.key) n (ys.map EntP.key) := by unfold matchK; rw [if_neg (by omega), if_neg (by omega), if_pos (by rw [q157, termK_at (ekey_at hx161)]; exact Prod.ext (by simp only; omega) rfl)]
         have hyz : (ys.map EntP.key).length = ys.length := List.length_map ..
         have hr0 : runK base old (l.map EntP.key) a ((ys.map EntP.key).drop i) = 0 := (runK_high (by omega) _)
         rw [hr0, Nat.add_zero] at hrun
         have hkp : (l334.map EntP.key) = (l.map EntP.key).take j := by rw [hl335, List.map_take]
         have hkd : (ys.drop i).map EntP.key = (ys.map EntP.key).drop i := List.map_drop ..
         rw [hkp, hkd] at hq349
         have e := em.trans (matchT_ok hrun (by omega) (by omega) hq349)
         exact ⟨l350, A351, c352, T353, by rw [e, hyz] <;> first | rfl | (rw [ha]; done) | (rw [ha]; rfl), K312, H365, hE357, by rw [e, hK358, hkp, hkd], fun i hi => ⟨ot360 i hi, ((hT359 i hi).2).imp id (fun h => by omega)⟩⟩
        ·skip
         refine Ops.call (by kernel_rfl) (d := (some 116)) (by kernel_rfl) (Append_bad _ T b340 base old A l334 U B1 d1 (ys.drop i) (by have q := H343; rw [← hn338] at q; exact q) (by have q := hE337; rw [← hn338] at q; exact q) ot348 (by omega) (by omega) hY1 ot347 (BigK.take hl335 hBig) (BigK.cut (k := i) (j := ys.length) (by rw [List.take_of_length_le (by simp)]) hBigY) (by omega) hq349) ?_
         rintro _ w369 ⟨rfl, K368⟩
         refine ⟨_, _, rfl, rfl, ?_⟩
         replace K312 := K312.trans K368 (U := (fun i => i = g)) (fun i h1 h2 => h2) (fun i h1 h2 => by exact h2.elim)
         replace H313 := H313.keep K368 (fun h => h)
         replace H343 := H343.keep K368 (fun h => h)
         replace hE := Ents.keep0 hE K368
         replace hY1 := Ents.keep0 hY1 K368
         replace hE337 := Ents.keep0 hE337 K368
         clear K368
         refine og 1 [(0, (ptr g)), (1, (i64 a)), (8, (i64 0)), (9, (i64 0)), (10, (i64 0)), (13, (i64 (n + ((ys.length : Nat) : Int)))), (15, (ptr b340)), (16, (i64 (appE base old (l334.map EntP.key) ((ys.drop i).map EntP.key))))] 4 ?_
         refine od ?_
         refine qs ?_
         refine qg ?_
         refine og 2 [(0, (ptr g)), (1, (i64 a)), (8, (i64 0)), (9, (i64 0)), (10, (i64 0)), (13, (i64 (n + ((ys.length : Nat) : Int)))), (15, (ptr b340)), (16, (i64 (appE base old (l334.map EntP.key) ((ys.drop i).map EntP.key)))), (118, (Value.bool ((appE base old (l334.map EntP.key) ((ys.drop i).map EntP.key)) != 0)))] 2 ?_
         refine od ?_
         have h371 : ((appE base old (l334.map EntP.key) ((ys.drop i).map EntP.key)) != 0) = true := bne_t hq349
         rw [h371]
         refine q_then (o := .tmp 118) (by kernel_rfl) rfl ?_
         refine qs ?_
         refine qg ?_
         refine og 4 [(0, (ptr g)), (1, (i64 a)), (8, (i64 0)), (9, (i64 0)), (10, (i64 (appE base old (l334.map EntP.key) ((ys.drop i).map EntP.key)))), (13, (i64 (n + ((ys.length : Nat) : Int)))), (15, (ptr b340))] 4 ?_
         refine od ?_
         refine q_ret (by kernel_rfl) ?_
         refine ⟨(Value.tuple #[(i64 0), (i64 0), (i64 (appE base old (l334.map EntP.key) ((ys.drop i).map EntP.key)))]), retv_tmp3 rfl rfl rfl rfl, ?_⟩
         have em : matchK base old (l.map EntP.key) n t0 (ys.map EntP.key) = matchT base old (l.map EntP.key) n (ys.map EntP.key) := by unfold matchK; rw [if_neg (by omega), if_neg (by omega), if_pos (by rw [q157, termK_at (ekey_at hx161)]; exact Prod.ext (by simp only; omega) rfl)]
         have hyz : (ys.map EntP.key).length = ys.length := List.length_map ..
         have hr0 : runK base old (l.map EntP.key) a ((ys.map EntP.key).drop i) = 0 := (runK_high (by omega) _)
         rw [hr0, Nat.add_zero] at hrun
         have hkp : (l334.map EntP.key) = (l.map EntP.key).take j := by rw [hl335, List.map_take]
         have hkd : (ys.drop i).map EntP.key = (ys.map EntP.key).drop i := List.map_drop ..
         rw [hkp, hkd] at hq349
         have e := em.trans (matchT_bad hrun (by omega) (by omega) hq349)
         exact ⟨l, A, c, T, by rw [e, hkp, hkd], K312, H313, hE, by rw [e], fun i hi => ⟨hT0 i hi, .inl hi⟩⟩
       ·exfalso; omega
       ·skip
        obtain ⟨x323, hx324⟩ : ∃ y, l[k322]? = some y := ⟨_, List.getElem?_eq_getElem q321⟩
        refine Ops.call (by kernel_rfl) (d := (some 67)) (by kernel_rfl) (at_here _ T g base old A c l (a + 1) k322 x323 H313 hE hT (by omega) (by omega) q320 q321 hx324) ?_
        rintro _ w373 ⟨rfl, K372⟩
        refine ⟨_, _, rfl, rfl, ?_⟩
        replace K312 := K312.trans K372 (U := (fun i => i = g)) (fun i h1 h2 => h2) (fun i h1 h2 => by exact h2.elim)
        replace H313 := H313.keep K372 (fun h => h)
        replace hE := Ents.keep0 hE K372
        replace hY1 := Ents.keep0 hY1 K372
        clear K372
        refine og 1 [(0, (ptr g)), (1, (i64 a)), (3, (Value.slice B1 ((ys.drop i).length) d1)), (8, (i64 0)), (9, (i64 0)), (10, (i64 0)), (13, (i64 (n + ((ys.length : Nat) : Int)))), (14, (Value.iface 64 (agg [(i64 x323.term), (Value.slice x323.A x323.cmd.length x323.c)]))), (63, (Value.bool true))] 5 ?_
        refine od ?_
        refine qs ?_
        refine qs ?_
        refine q_draw (fun wz => Keeps none_ w373 wz) 11 (by kernel_rfl) (by kernel_rfl) (by kernel_rfl) (fun w374 K375 _ _ => ⟨K375, ?_⟩)
        replace K312 := K312.trans K375 (U := (fun i => i = g)) (fun i h1 h2 => h2) (fun i h1 h2 => by exact h2.elim)
        replace H313 := H313.keep K375 (fun h => h)
        replace hE := Ents.keep0 hE K375
        replace hY1 := Ents.keep0 hY1 K375
        refine Dr.strong (S' := (fun wz => Keeps none_ w374 wz)) (Keeps.refl w374) (fun wz hx => K375.trans hx (fun i _ h => h) (fun _ _ h => h)) ?_
        clear K375
        obtain ⟨rb376, ro377, hA378⟩ := Rd.addr (Ents.rd hY1) (by omega)
        refine Dr.takes (fuel' := 6) (is' := [5, 3, 2, 1, 0]) [0, 1, 2, 3, 5] [(0, (ptr g)), (1, (i64 a)), (3, (Value.slice B1 ((ys.drop i).length) d1)), (8, (i64 0)), (9, (i64 0)), (10, (i64 0)), (13, (i64 (n + ((ys.length : Nat) : Int)))), (14, (Value.iface 64 (agg [(i64 x323.term), (Value.slice x323.A x323.cmd.length x323.c)]))), (63, (Value.bool true)), (70, (Value.bool false)), (71, (Value.iface 64 (agg [(i64 x323.term), (Value.slice x323.A x323.cmd.length x323.c)]))), (73, (Value.slice B1 ((ys.drop i).length) d1))] (by kernel_rfl) rfl (by kernel_rfl) ?_
        refine Dr.take (i := 6) (v := (Value.pointer (some ⟨rb376, ro377 + 0 * 2, none⟩))) (by kernel_rfl) (by kernel_rfl) (fun wz hS => Runs.ixSliceE (k := IntKind.i64) (t := 22) (len := ((ys.drop i).length)) (cap := d1) (s := 2) (off' := ro377 + 0 * 2) (i := 0) hA378 (by kernel_rfl) (by kernel_rfl) (by omega) (by omega) (by omega)) (d := (some 74)) (by kernel_rfl) rfl ?_
        refine Dr.takes (fuel' := 4) (is' := [7, 6, 5, 3, 2, 1, 0]) [7] [(0, (ptr g)), (1, (i64 a)), (3, (Value.slice B1 ((ys.drop i).length) d1)), (8, (i64 0)), (9, (i64 0)), (10, (i64 0)), (13, (i64 (n + ((ys.length : Nat) : Int)))), (14, (Value.iface 64 (agg [(i64 x323.term), (Value.slice x323.A x323.cmd.length x323.c)]))), (63, (Value.bool true)), (70, (Value.bool false)), (71, (Value.iface 64 (agg [(i64 x323.term), (Value.slice x323.A x323.cmd.length x323.c)]))), (75, (Value.pointer (some ⟨rb376, ro377 + 0 * 2, none⟩)))] (by kernel_rfl) rfl (by kernel_rfl) ?_
        refine Dr.take (i := 8) (v := (i64 y.term)) (by kernel_rfl) (by kernel_rfl) (fun wz hS => Runs.load (t := 2) (a := ⟨rb376, ro377 + 0 * 2, none⟩) (by kernel_rfl) (RdT.ldf (f := EntP.cells) (x := y) (o := 0) EntP.two (Ents.rd (Ents.keep0 hY1 hS)) (by kernel_rfl) hA378 hy rfl)) (d := (some 76)) (by kernel_rfl) rfl ?_
        refine Dr.call (i := 4) (by kernel_rfl) (by kernel_rfl) (d := (some 72)) (by kernel_rfl) (fun _ => here_calls _ x323) ?_
        rintro _ w380 ⟨rfl, K379⟩
        replace K312 := K312.trans K379 (U := (fun i => i = g)) (fun i h1 h2 => h2) (fun i h1 h2 => by exact h2.elim)
        replace H313 := H313.keep K379 (fun h => h)
        replace hE := Ents.keep0 hE K379
        replace hY1 := Ents.keep0 hY1 K379
        refine ⟨_, _, rfl, rfl, K379, ?_⟩
        refine Dr.strong (S' := (fun wz => Keeps none_ w380 wz)) (Keeps.refl w380) (fun wz hx => K379.trans hx (fun i _ h => h) (fun _ _ h => h)) ?_
        clear K379
        refine Dr.takes (fuel' := 0) (is' := [10, 9, 4, 8, 7, 6, 5, 3, 2, 1, 0]) [9, 10] [(0, (ptr g)), (1, (i64 a)), (3, (Value.slice B1 ((ys.drop i).length) d1)), (8, (i64 0)), (9, (i64 0)), (10, (i64 0)), (13, (i64 (n + ((ys.length : Nat) : Int)))), (14, (Value.iface 64 (agg [(i64 x323.term), (Value.slice x323.A x323.cmd.length x323.c)]))), (63, (Value.bool true)), (78, (Value.bool (x323.term != y.term)))] (by kernel_rfl) rfl (by kernel_rfl) ?_
        refine Dr.done (by kernel_rfl) ?_
        refine q_cond (o := .tmp 78) (b := (x323.term != y.term)) (by kernel_rfl) rfl (fun h381 => ?_) (fun h381 => ?_)
        ·rw [h381]
         have p382 : ¬ (x323.term = y.term) := of_bne_t h381
         refine q_exit (id := 1) (by kernel_rfl) ?_
         refine qs ?_
         refine qs ?_
         refine qg ?_
         refine og 3 [(0, (ptr g)), (1, (i64 a)), (3, (Value.slice B1 ((ys.drop i).length) d1)), (8, (i64 0)), (9, (i64 0)), (10, (i64 0)), (13, (i64 (n + ((ys.length : Nat) : Int)))), (85, (Value.bool ((((ys.drop i).length : Nat) : Int) == 0)))] 3 ?_
         refine od ?_
         obtain ⟨j, hj⟩ : ∃ m : Nat, a - base = (m : Int) := Int.eq_ofNat_of_zero_le (by omega)
         have h383 : ((((ys.drop i).length : Nat) : Int) == 0) = false := beq_f (by omega)
         rw [h383]
         refine q_else (o := .tmp 85) (by kernel_rfl) rfl ?_
         refine q_skip (by kernel_rfl) ?_
         refine qs ?_
         refine q_draw (fun wz => Keeps none_ w380 wz) 28 (by kernel_rfl) (by kernel_rfl) (by kernel_rfl) (fun w384 K385 _ _ => ⟨K385, ?_⟩)
         replace K312 := K312.trans K385 (U := (fun i => i = g)) (fun i h1 h2 => h2) (fun i h1 h2 => by exact h2.elim)
         replace H313 := H313.keep K385 (fun h => h)
         replace hE := Ents.keep0 hE K385
         replace hY1 := Ents.keep0 hY1 K385
         refine Dr.strong (S' := (fun wz => Keeps none_ w384 wz)) (Keeps.refl w384) (fun wz hx => K385.trans hx (fun i _ h => h) (fun _ _ h => h)) ?_
         clear K385
         refine Dr.takes (fuel' := 25) (is' := [2, 1, 0]) [0, 1, 2] [(0, (ptr g)), (1, (i64 a)), (3, (Value.slice B1 ((ys.drop i).length) d1)), (8, (i64 0)), (9, (i64 0)), (10, (i64 0)), (13, (i64 (n + ((ys.length : Nat) : Int)))), (89, (ptr g))] (by kernel_rfl) rfl (by kernel_rfl) ?_
         refine Dr.take (i := 3) (v := (i64 base)) (by kernel_rfl) (by kernel_rfl) (fun wz hS => Runs.load (t := 2) (a := ⟨g, 0, none⟩) (by kernel_rfl) ((H313.keep hS (fun h => h)).loads (by kernel_rfl))) (d := (some 90)) (by kernel_rfl) rfl ?_
         refine Dr.takes (fuel' := 21) (is' := [6, 5, 4, 3, 2, 1, 0]) [4, 5, 6] [(0, (ptr g)), (1, (i64 a)), (3, (Value.slice B1 ((ys.drop i).length) d1)), (8, (i64 0)), (9, (i64 0)), (10, (i64 0)), (13, (i64 (n + ((ys.length : Nat) : Int)))), (90, (i64 base)), (93, (Value.pointer (some ⟨g, 1, none⟩)))] (by kernel_rfl) rfl (by kernel_rfl) ?_
         refine Dr.take (i := 7) (v := (i64 old)) (by kernel_rfl) (by kernel_rfl) (fun wz hS => Runs.load (t := 2) (a := ⟨g, 1, none⟩) (by kernel_rfl) ((H313.keep hS (fun h => h)).loads (by kernel_rfl))) (d := (some 94)) (by kernel_rfl) rfl ?_
         refine Dr.takes (fuel' := 17) (is' := [10, 9, 8, 7, 6, 5, 4, 3, 2, 1, 0]) [8, 9, 10] [(0, (ptr g)), (1, (i64 a)), (3, (Value.slice B1 ((ys.drop i).length) d1)), (8, (i64 0)), (9, (i64 0)), (10, (i64 0)), (13, (i64 (n + ((ys.length : Nat) : Int)))), (90, (i64 base)), (94, (i64 old)), (97, (Value.pointer (some ⟨g, 2, none⟩)))] (by kernel_rfl) rfl (by kernel_rfl) ?_
         refine Dr.take (i := 11) (v := (Value.slice A l.length c)) (by kernel_rfl) (by kernel_rfl) (fun wz hS => Runs.load (t := 22) (a := ⟨g, 2, none⟩) (by kernel_rfl) ((H313.keep hS (fun h => h)).loads (by kernel_rfl))) (d := (some 98)) (by kernel_rfl) rfl ?_
         refine Dr.takes (fuel' := 12) (is' := [15, 14, 13, 12, 11, 10, 9, 8, 7, 6, 5, 4, 3, 2, 1, 0]) [12, 13, 14, 15] [(0, (ptr g)), (1, (i64 a)), (3, (Value.slice B1 ((ys.drop i).length) d1)), (8, (i64 0)), (9, (i64 0)), (10, (i64 0)), (13, (i64 (n + ((ys.length : Nat) : Int)))), (90, (i64 base)), (94, (i64 old)), (98, (Value.slice A l.length c)), (99, (i64 a)), (102, (ptr g))] (by kernel_rfl) rfl (by kernel_rfl) ?_
         refine Dr.take (i := 16) (v := (i64 base)) (by kernel_rfl) (by kernel_rfl) (fun wz hS => Runs.load (t := 2) (a := ⟨g, 0, none⟩) (by kernel_rfl) ((H313.keep hS (fun h => h)).loads (by kernel_rfl))) (d := (some 103)) (by kernel_rfl) rfl ?_
         refine Dr.takes (fuel' := 10) (is' := [17, 16, 15, 14, 13, 12, 11, 10, 9, 8, 7, 6, 5, 4, 3, 2, 1, 0]) [17] [(0, (ptr g)), (1, (i64 a)), (3, (Value.slice B1 ((ys.drop i).length) d1)), (8, (i64 0)), (9, (i64 0)), (10, (i64 0)), (13, (i64 (n + ((ys.length : Nat) : Int)))), (90, (i64 base)), (94, (i64 old)), (98, (Value.slice A l.length c)), (104, (i64 (IntKind.i64.wrap (a - base))))] (by kernel_rfl) rfl (by kernel_rfl) ?_
         have e386 : IntKind.i64.wrap (a - base) = ((j : Nat) : Int) := by rw [wrap_i64 (by omega) (by omega)]; omega
         rw [e386]
         refine Dr.takes (fuel' := 6) (is' := [21, 20, 19, 18, 17, 16, 15, 14, 13, 12, 11, 10, 9, 8, 7, 6, 5, 4, 3, 2, 1, 0]) [18, 19, 20, 21] [(0, (ptr g)), (1, (i64 a)), (3, (Value.slice B1 ((ys.drop i).length) d1)), (8, (i64 0)), (9, (i64 0)), (10, (i64 0)), (13, (i64 (n + ((ys.length : Nat) : Int)))), (90, (i64 base)), (94, (i64 old)), (98, (Value.slice A l.length c)), (104, (i64 ((j : Nat) : Int))), (105, (i64 a)), (108, (ptr g))] (by kernel_rfl) rfl (by kernel_rfl) ?_
         refine Dr.take (i := 22) (v := (i64 base)) (by kernel_rfl) (by kernel_rfl) (fun wz hS => Runs.load (t := 2) (a := ⟨g, 0, none⟩) (by kernel_rfl) ((H313.keep hS (fun h => h)).loads (by kernel_rfl))) (d := (some 109)) (by kernel_rfl) rfl ?_
         refine Dr.takes (fuel' := 4) (is' := [23, 22, 21, 20, 19, 18, 17, 16, 15, 14, 13, 12, 11, 10, 9, 8, 7, 6, 5, 4, 3, 2, 1, 0]) [23] [(0, (ptr g)), (1, (i64 a)), (3, (Value.slice B1 ((ys.drop i).length) d1)), (8, (i64 0)), (9, (i64 0)), (10, (i64 0)), (13, (i64 (n + ((ys.length : Nat) : Int)))), (90, (i64 base)), (94, (i64 old)), (98, (Value.slice A l.length c)), (104, (i64 ((j : Nat) : Int))), (110, (i64 (IntKind.i64.wrap (a - base))))] (by kernel_rfl) rfl (by kernel_rfl) ?_
         have e387 : IntKind.i64.wrap (a - base) = ((j : Nat) : Int) := by rw [wrap_i64 (by omega) (by omega)]; omega
         rw [e387]
         obtain ⟨hr390, hE391⟩ := Ents.headRun (P := Try.prog) (t := 22) (e := 43) (by kernel_rfl) (by kernel_rfl) hE j j (kh := .i64) (mx := (some (i64 ((j : Nat) : Int)))) (.inr ⟨_, rfl⟩) (by omega) (by omega) (by omega)
         obtain ⟨l388, hl389⟩ : ∃ z, z = l.take j := ⟨_, rfl⟩
         rw [← hl389] at hr390 hE391
         have hn392 : l388.length = j := by rw [hl389]; simp only [List.length_take]; omega
         have hc393 := Ents.len hE391
         refine Dr.take (i := 24) (v := (Value.slice A l388.length j)) (by kernel_rfl) (by kernel_rfl) (fun wz hS => Runs.slice (by kernel_rfl) (hr390 _)) (d := (some 111)) (by kernel_rfl) rfl ?_
         refine Dr.takes (fuel' := 2) (is' := [25, 24, 23, 22, 21, 20, 19, 18, 17, 16, 15, 14, 13, 12, 11, 10, 9, 8, 7, 6, 5, 4, 3, 2, 1, 0]) [25] [(0, (ptr g)), (1, (i64 a)), (3, (Value.slice B1 ((ys.drop i).length) d1)), (8, (i64 0)), (9, (i64 0)), (10, (i64 0)), (13, (i64 (n + ((ys.length : Nat) : Int)))), (112, (agg [(i64 base), (i64 old), (Value.slice A l388.length j)]))] (by kernel_rfl) rfl (by kernel_rfl) ?_
         refine Dr.new (i := 26) (o := rowL [(i64 base), (i64 old), (Value.slice A l388.length j)] 55) (V := fun b => (ptr b)) (by kernel_rfl) (by kernel_rfl) (d := (some 113)) (by kernel_rfl) (fun b => rfl) (fun b394 w395 hb396 H397 K398 hs399 => ?_)
         have lb394g : g < b394 := by have := H313.lt; omega
         have nb394 : w.heap.size ≤ b394 := by have := K312.size; omega
         have ot400 : ∀ i, T i → i ≠ b394 := fun i hi => by have := Ents.lt hE i hi; omega
         have ot401 : ∀ i, U i → i ≠ b394 := fun i hi => by have := Ents.lt hY1 i hi; omega
         have ot402 : ∀ i, T i → i ≠ b394 := fun i hi => by have := Ents.lt hE391 i hi; omega
         replace K312 := K312.trans K398 (U := (fun i => i = g)) (fun i h1 h2 => h2) (fun i h1 h2 => by exact h2.elim)
         replace H313 := H313.keep K398 (fun h => h)
         replace hE := Ents.keep0 hE K398
         replace hY1 := Ents.keep0 hY1 K398
         replace hE391 := Ents.keep0 hE391 K398
         refine ⟨K398, ?_⟩
         refine Dr.strong (S' := (fun wz => Keeps none_ w395 wz)) (Keeps.refl w395) (fun wz hx => K398.trans hx (fun i _ h => h) (fun _ _ h => h)) ?_
         clear K398 hs399
         refine Dr.takes (fuel' := 0) (is' := [27, 26, 25, 24, 23, 22, 21, 20, 19, 18, 17, 16, 15, 14, 13, 12, 11, 10, 9, 8, 7, 6, 5, 4, 3, 2, 1, 0]) [27] [(0, (ptr g)), (1, (i64 a)), (3, (Value.slice B1 ((ys.drop i).length) d1)), (8, (i64 0)), (9, (i64 0)), (10, (i64 0)), (13, (i64 (n + ((ys.length : Nat) : Int)))), (15, (ptr b394))] (by kernel_rfl) rfl (by kernel_rfl) ?_
         refine Dr.done (by kernel_rfl) ?_
         refine qs ?_
         refine qs ?_
         refine qg ?_
         refine og 2 [(0, (ptr g)), (1, (i64 a)), (8, (i64 0)), (9, (i64 0)), (10, (i64 0)), (13, (i64 (n + ((ys.length : Nat) : Int)))), (15, (ptr b394)), (114, (ptr b394)), (115, (Value.slice B1 ((ys.drop i).length) d1))] 2 ?_
         by_cases hq403 : appE base old (l388.map EntP.key) ((ys.drop i).map EntP.key) = 0
         ·skip
          refine Ops.call (by kernel_rfl) (d := (some 116)) (by kernel_rfl) (Append_ok _ T b394 base old A l388 U B1 d1 (ys.drop i) (by have q := H397; rw [← hn392] at q; exact q) (by have q := hE391; rw [← hn392] at q; exact q) ot402 (by omega) (by omega) hY1 ot401 (BigK.take hl389 hBig) (BigK.cut (k := i) (j := ys.length) (by rw [List.take_of_length_le (by simp)]) hBigY) (by omega) hq403) ?_
          rintro _ w408 ⟨l404, A405, c406, T407, rfl, K409, H410, hE411, hK412, hT413⟩
          have ot414 : ∀ i, T407 i → i ≠ g := fun i hi => by rcases (hT413 i hi).2 with h | h; (exact hT i h); (have := H313.lt; omega)
          have ot415 : ∀ i, T407 i → i ≠ b394 := fun i hi => (hT413 i hi).1
          have hn416 := keys_len2 hK412
          try rw [List.length_drop] at hn416
          try rw [List.length_append] at hn416
          try rw [List.length_map] at hn416
          try rw [List.length_map] at hn416
          have hz417 := K312.size
          refine ⟨_, _, rfl, rfl, ?_⟩
          replace K312 := K312.trans K409 (U := (fun i => i = g)) (fun i h1 h2 => h2) (fun i h1 h2 => by have h2 : i = b394 := h2; show i = g; omega)
          replace H313 := H313.keep K409 (by intro h; change g = b394 at h; omega)
          replace hE := Ents.keep hE K409 (fun i hi hs => by have hs : i = b394 := hs; have := ot400 i hi; omega)
          replace hY1 := Ents.keep hY1 K409 (fun i hi hs => by have hs : i = b394 := hs; have := ot401 i hi; omega)
          replace hE391 := Ents.keep hE391 K409 (fun i hi hs => by have hs : i = b394 := hs; have := ot402 i hi; omega)
          clear K409
          refine og 1 [(0, (ptr g)), (1, (i64 a)), (8, (i64 0)), (9, (i64 0)), (10, (i64 0)), (13, (i64 (n + ((ys.length : Nat) : Int)))), (15, (ptr b394)), (16, (i64 0))] 4 ?_
          refine od ?_
          refine qs ?_
          refine qg ?_
          refine og 2 [(0, (ptr g)), (1, (i64 a)), (8, (i64 0)), (9, (i64 0)), (10, (i64 0)), (13, (i64 (n + ((ys.length : Nat) : Int)))), (15, (ptr b394)), (16, (i64 0)), (118, (Value.bool false))] 2 ?_
          refine od ?_
          refine q_else (o := .tmp 118) (by kernel_rfl) rfl ?_
          refine q_skip (by kernel_rfl) ?_
          refine qs ?_
          refine qg ?_
          refine og 4 [(1, (i64 a)), (8, (i64 0)), (9, (i64 0)), (10, (i64 0)), (13, (i64 (n + ((ys.length : Nat) : Int)))), (120, (ptr g)), (123, (Value.pointer (some ⟨b394, 2, none⟩)))] 4 ?_
          refine Ops.go (v := (Value.slice A405 l404.length c406)) (by kernel_rfl) (Runs.load (t := 22) (a := ⟨b394, 2, none⟩) (by kernel_rfl) (H410.loads (by kernel_rfl))) (d := (some 124)) (by kernel_rfl) rfl ?_
          refine og 2 [(1, (i64 a)), (8, (i64 0)), (9, (i64 0)), (10, (i64 0)), (13, (i64 (n + ((ys.length : Nat) : Int)))), (124, (Value.slice A405 l404.length c406)), (126, (Value.pointer (some ⟨g, 2, none⟩)))] 7 ?_
          refine Ops.put (t := 22) (b := g) (off := 2) (v := (Value.slice A405 l404.length c406)) (ys := [(i64 base), (i64 old), (Value.slice A405 l404.length c406)]) (by kernel_rfl) (by kernel_rfl) H313 (by kernel_rfl) (d := none) (by kernel_rfl) rfl (fun w418 H419 K420 => ?_)
          clear H313
          replace K312 := K312.trans K420 (U := (fun i => i = g)) (fun i h1 h2 => h2) (fun i h1 h2 => by have h2 : i = g := h2; show i = g; omega)
          replace H410 := H410.keep K420 (by intro h; change b394 = g at h; omega)
          replace hE := Ents.keep hE K420 (fun i hi hs => by have hs : i = g := hs; have := hT i hi; omega)
          replace hY1 := Ents.keep hY1 K420 (fun i hi hs => by have hs : i = g := hs; have := hU i hi; omega)
          replace hE391 := Ents.keep hE391 K420 (fun i hi hs => by have hs : i = g := hs; have := hT i hi; omega)
          replace hE411 := Ents.keep hE411 K420 (fun i hi hs => by have hs : i = g := hs; have := ot414 i hi; omega)
          clear K420
          refine od ?_
          refine qs ?_
          refine qg ?_
          refine og 3 [(8, (i64 0)), (9, (i64 0)), (10, (i64 0)), (127, (i64 (n + ((ys.length : Nat) : Int)))), (129, (i64 (IntKind.i64.wrap (a + 1))))] 3 ?_
          have e421 : IntKind.i64.wrap (a + 1) = a + 1 := wrap_i64 (by omega) (by omega)
          rw [e421]
          refine og 3 [(8, (i64 (n + ((ys.length : Nat) : Int)))), (9, (i64 (a + 1))), (10, (i64 0))] 6 ?_
          refine od ?_
          refine q_ret (by kernel_rfl) ?_
          refine ⟨(Value.tuple #[(i64 (n + ((ys.length : Nat) : Int))), (i64 (a + 1)), (i64 0)]), retv_tmp3 rfl rfl rfl rfl, ?_⟩
          have em : matchK base old (l.map EntP.key) n t0 (ys.map EntP.key) = matchT base old (l.map EntP.key) n (ys.map EntP.key) := by unfold matchK; rw [if_neg (by omega), if_neg (by omega), if_pos (by rw [q157, termK_at (ekey_at hx161)]; exact Prod.ext (by simp only; omega) rfl)]
          have hyz : (ys.map EntP.key).length = ys.length := List.length_map ..
          have hr0 : runK base old (l.map EntP.key) a ((ys.map EntP.key).drop i) = 0 := (runK_ne (k := k322) (by omega) (ekey_at hx324) hyk (by omega))
          rw [hr0, Nat.add_zero] at hrun
          have hkp : (l388.map EntP.key) = (l.map EntP.key).take j := by rw [hl389, List.map_take]
          have hkd : (ys.drop i).map EntP.key = (ys.map EntP.key).drop i := List.map_drop ..
          rw [hkp, hkd] at hq403
          have e := em.trans (matchT_ok hrun (by omega) (by omega) hq403)
          exact ⟨l404, A405, c406, T407, by rw [e, hyz] <;> first | rfl | (rw [ha]; done) | (rw [ha]; rfl), K312, H419, hE411, by rw [e, hK412, hkp, hkd], fun i hi => ⟨ot414 i hi, ((hT413 i hi).2).imp id (fun h => by omega)⟩⟩
         ·skip
          refine Ops.call (by kernel_rfl) (d := (some 116)) (by kernel_rfl) (Append_bad _ T b394 base old A l388 U B1 d1 (ys.drop i) (by have q := H397; rw [← hn392] at q; exact q) (by have q := hE391; rw [← hn392] at q; exact q) ot402 (by omega) (by omega) hY1 ot401 (BigK.take hl389 hBig) (BigK.cut (k := i) (j := ys.length) (by rw [List.take_of_length_le (by simp)]) hBigY) (by omega) hq403) ?_
          rintro _ w423 ⟨rfl, K422⟩
          refine ⟨_, _, rfl, rfl, ?_⟩
          replace K312 := K312.trans K422 (U := (fun i => i = g)) (fun i h1 h2 => h2) (fun i h1 h2 => by exact h2.elim)
          replace H313 := H313.keep K422 (fun h => h)
          replace H397 := H397.keep K422 (fun h => h)
          replace hE := Ents.keep0 hE K422
          replace hY1 := Ents.keep0 hY1 K422
          replace hE391 := Ents.keep0 hE391 K422
          clear K422
          refine og 1 [(0, (ptr g)), (1, (i64 a)), (8, (i64 0)), (9, (i64 0)), (10, (i64 0)), (13, (i64 (n + ((ys.length : Nat) : Int)))), (15, (ptr b394)), (16, (i64 (appE base old (l388.map EntP.key) ((ys.drop i).map EntP.key))))] 4 ?_
          refine od ?_
          refine qs ?_
          refine qg ?_
          refine og 2 [(0, (ptr g)), (1, (i64 a)), (8, (i64 0)), (9, (i64 0)), (10, (i64 0)), (13, (i64 (n + ((ys.length : Nat) : Int)))), (15, (ptr b394)), (16, (i64 (appE base old (l388.map EntP.key) ((ys.drop i).map EntP.key)))), (118, (Value.bool ((appE base old (l388.map EntP.key) ((ys.drop i).map EntP.key)) != 0)))] 2 ?_
          refine od ?_
          have h425 : ((appE base old (l388.map EntP.key) ((ys.drop i).map EntP.key)) != 0) = true := bne_t hq403
          rw [h425]
          refine q_then (o := .tmp 118) (by kernel_rfl) rfl ?_
          refine qs ?_
          refine qg ?_
          refine og 4 [(0, (ptr g)), (1, (i64 a)), (8, (i64 0)), (9, (i64 0)), (10, (i64 (appE base old (l388.map EntP.key) ((ys.drop i).map EntP.key)))), (13, (i64 (n + ((ys.length : Nat) : Int)))), (15, (ptr b394))] 4 ?_
          refine od ?_
          refine q_ret (by kernel_rfl) ?_
          refine ⟨(Value.tuple #[(i64 0), (i64 0), (i64 (appE base old (l388.map EntP.key) ((ys.drop i).map EntP.key)))]), retv_tmp3 rfl rfl rfl rfl, ?_⟩
          have em : matchK base old (l.map EntP.key) n t0 (ys.map EntP.key) = matchT base old (l.map EntP.key) n (ys.map EntP.key) := by unfold matchK; rw [if_neg (by omega), if_neg (by omega), if_pos (by rw [q157, termK_at (ekey_at hx161)]; exact Prod.ext (by simp only; omega) rfl)]
          have hyz : (ys.map EntP.key).length = ys.length := List.length_map ..
          have hr0 : runK base old (l.map EntP.key) a ((ys.map EntP.key).drop i) = 0 := (runK_ne (k := k322) (by omega) (ekey_at hx324) hyk (by omega))
          rw [hr0, Nat.add_zero] at hrun
          have hkp : (l388.map EntP.key) = (l.map EntP.key).take j := by rw [hl389, List.map_take]
          have hkd : (ys.drop i).map EntP.key = (ys.map EntP.key).drop i := List.map_drop ..
          rw [hkp, hkd] at hq403
          have e := em.trans (matchT_bad hrun (by omega) (by omega) hq403)
          exact ⟨l, A, c, T, by rw [e, hkp, hkd], K312, H313, hE, by rw [e], fun i hi => ⟨hT0 i hi, .inl hi⟩⟩
        ·rw [h381]
         have p426 : x323.term = y.term := of_bne_f h381
         have hre := runK_eq (old := old) (k := k322) (by omega) (ekey_at hx324) hyk (by omega)
         refine q_skip (by kernel_rfl) ?_
         refine q_draw (fun wz => Keeps none_ w380 wz) 6 (by kernel_rfl) (by kernel_rfl) (by kernel_rfl) (fun w427 K428 _ _ => ⟨K428, ?_⟩)
         replace K312 := K312.trans K428 (U := (fun i => i = g)) (fun i h1 h2 => h2) (fun i h1 h2 => by exact h2.elim)
         replace H313 := H313.keep K428 (fun h => h)
         replace hE := Ents.keep0 hE K428
         replace hY1 := Ents.keep0 hY1 K428
         refine Dr.strong (S' := (fun wz => Keeps none_ w427 wz)) (Keeps.refl w427) (fun wz hx => K428.trans hx (fun i _ h => h) (fun _ _ h => h)) ?_
         clear K428
         refine Dr.takes (fuel' := 4) (is' := [1, 0]) [0, 1] [(0, (ptr g)), (1, (i64 a)), (3, (Value.slice B1 ((ys.drop i).length) d1)), (8, (i64 0)), (9, (i64 0)), (10, (i64 0)), (13, (i64 (n + ((ys.length : Nat) : Int)))), (14, (Value.iface 64 (agg [(i64 x323.term), (Value.slice x323.A x323.cmd.length x323.c)]))), (63, (Value.bool true)), (78, (Value.bool false)), (80, (i64 (IntKind.i64.wrap (a + 1))))] (by kernel_rfl) rfl (by kernel_rfl) ?_
         have e429 : IntKind.i64.wrap (a + 1) = a + 1 := wrap_i64 (by omega) (by omega)
         rw [e429]
         obtain ⟨A435, c436, hr432, hE433⟩ := Ents.cutRun (P := Try.prog) (t := 22) (e := 43) (by kernel_rfl) (by kernel_rfl) hY1 1 ((ys.drop i).length) (kl := .i64) (hi := none) (.inl ⟨rfl, rfl⟩) (by omega) (by omega)
         have he437 : ((ys.drop i).drop 1).take ((ys.drop i).length - 1) = ys.drop (i + 1) := by rw [List.drop_drop]; exact List.take_of_length_le (by rw [List.length_drop, List.length_drop]; omega)
         rw [he437] at hr432 hE433
         refine Dr.takes (fuel' := 3) (is' := [2, 1, 0]) [2] [(0, (ptr g)), (1, (i64 a)), (3, (Value.slice B1 ((ys.drop i).length) d1)), (8, (i64 0)), (9, (i64 0)), (10, (i64 0)), (13, (i64 (n + ((ys.length : Nat) : Int)))), (14, (Value.iface 64 (agg [(i64 x323.term), (Value.slice x323.A x323.cmd.length x323.c)]))), (63, (Value.bool true)), (78, (Value.bool false)), (80, (i64 (a + 1))), (81, (Value.slice B1 ((ys.drop i).length) d1))] (by kernel_rfl) rfl (by kernel_rfl) ?_
         refine Dr.take (i := 3) (v := (Value.slice A435 ((ys.drop (i + 1)).length) c436)) (by kernel_rfl) (by kernel_rfl) (fun wz hS => Runs.slice (by kernel_rfl) (hr432 _)) (d := (some 82)) (by kernel_rfl) rfl ?_
         refine Dr.takes (fuel' := 0) (is' := [5, 4, 3, 2, 1, 0]) [4, 5] [(0, (ptr g)), (1, (i64 (a + 1))), (3, (Value.slice A435 ((ys.drop (i + 1)).length) c436)), (8, (i64 0)), (9, (i64 0)), (10, (i64 0)), (13, (i64 (n + ((ys.length : Nat) : Int)))), (14, (Value.iface 64 (agg [(i64 x323.term), (Value.slice x323.A x323.cmd.length x323.c)]))), (63, (Value.bool true)), (78, (Value.bool false))] (by kernel_rfl) rfl (by kernel_rfl) ?_
         refine Dr.keep (R := [(0, (ptr g)), (1, (i64 (a + 1))), (3, (Value.slice A435 ((ys.drop (i + 1)).length) c436)), (8, (i64 0)), (9, (i64 0)), (10, (i64 0)), (13, (i64 (n + ((ys.length : Nat) : Int))))]) (by kernel_rfl) ?_
         refine Dr.done (by kernel_rfl) ?_
         exact ⟨(a + 1, i + 1, A435, c436), ⟨rfl, (by omega), (by rw [hrun, hre, List.drop_drop]; omega), (by omega), (by omega), hE433, hE, K312, H313⟩, (show ys.length - (i + 1) < ys.length - i from by omega)⟩
      ·rw [h314]
       have p438 : ¬ ((((ys.drop i).length : Nat) : Int) > 0) := of_decide_eq_false h314
       refine q_exit (id := 1) (by kernel_rfl) ?_
       refine qs ?_
       refine qs ?_
       refine qg ?_
       refine og 3 [(0, (ptr g)), (1, (i64 a)), (3, (Value.slice B1 ((ys.drop i).length) d1)), (8, (i64 0)), (9, (i64 0)), (10, (i64 0)), (13, (i64 (n + ((ys.length : Nat) : Int)))), (85, (Value.bool ((((ys.drop i).length : Nat) : Int) == 0)))] 3 ?_
       refine od ?_
       have h439 : ((((ys.drop i).length : Nat) : Int) == 0) = true := beq_t (by omega)
       rw [h439]
       refine q_then (o := .tmp 85) (by kernel_rfl) rfl ?_
       refine qs ?_
       refine qg ?_
       refine og 4 [(0, (ptr g)), (1, (i64 a)), (3, (Value.slice B1 ((ys.drop i).length) d1)), (8, (i64 (n + ((ys.length : Nat) : Int)))), (9, (i64 0)), (10, (i64 0)), (13, (i64 (n + ((ys.length : Nat) : Int))))] 4 ?_
       refine od ?_
       refine q_ret (by kernel_rfl) ?_
       refine ⟨(Value.tuple #[(i64 (n + ((ys.length : Nat) : Int))), (i64 0), (i64 0)]), retv_tmp3 rfl rfl rfl rfl, ?_⟩
       have em : matchK base old (l.map EntP.key) n t0 (ys.map EntP.key) = matchT base old (l.map EntP.key) n (ys.map EntP.key) := by unfold matchK; rw [if_neg (by omega), if_neg (by omega), if_pos (by rw [q157, termK_at (ekey_at hx161)]; exact Prod.ext (by simp only; omega) rfl)]
       have hyz : (ys.map EntP.key).length = ys.length := List.length_map ..
       have hr0 : runK base old (l.map EntP.key) a ((ys.map EntP.key).drop i) = 0 := by rw [List.drop_of_length_le (by omega)]; rfl
       have e := em.trans (matchT_end (by rw [hrun, hr0]; omega))
       exact ⟨l, A, c, T, by rw [e, hyz], K312, H313, hE, by rw [e], fun i hi => ⟨hT0 i hi, .inl hi⟩⟩
end Go.Proofs.Ytncjidepplaocaa
