/- new logs -/
import Derived.Test.YtncjidepplaocaaProg
import Derived.Test.YtncjidepplaocaaKB
import Derived.Test.YtncjidepplaocaaLX
set_option linter.unusedVariables false
namespace Go.Proofs.Ytncjidepplaocaa
open Go.Q Go.RowKit

theorem Copy_calls (w : World) (T : Nat → Prop) (g0 : Nat) (base old : Int) (A : Option Addr) (c : Nat) (l : List EntP) (H0 : Has w g0 (rowL [i64 base, i64 old, .slice A l.length c] 55)) (hE : Ents w T (.slice A l.length c) l) (hT : ∀ i, T i → i ≠ g0) (hB : 0 ≤ base ∧ base ≤ 2305843009213693952) (hL : l.length ≤ 4096) (hBig : BigK (l.map EntP.key)) : Calls Try.prog 13 ⟨[(ptr g0)]⟩ w (fun e w' => ∃ g l' A' c', e = .returned (ptr g) ∧ w.heap.size ≤ g ∧ Keeps none_ w w' ∧ Has w' g (rowL [i64 base, i64 old, .slice A' l'.length c'] 55) ∧ Ents w' (fun i => (w.heap.size ≤ i ∧ i < w'.heap.size) ∧ i ≠ g) (.slice A' l'.length c') l' ∧ l'.map EntP.key = (l.map EntP.key)) := by
 have hcap := Ents.len hE
 have Hg := H0.lt
 have hcm := hcap.2.2
 unfold maxLen at hcm
 have K0 : Keeps none_ w w := Keeps.refl w
 refine q_calls Try.func13 (by kernel_rfl) (by kernel_rfl) ?_
 refine qs ?_
 refine qg ?_
 refine og 1 [(0, (ptr g0)), (2, (Value.pointer none))] 1 ?_
 refine od ?_
 refine qs ?_
 refine qs ?_
 refine qg ?_
 refine og 2 [(0, (ptr g0)), (2, (Value.pointer none)), (4, (Value.bool false))] 2 ?_
 refine od ?_
 refine q_else (o := .tmp 4) (by kernel_rfl) rfl ?_
 refine q_skip (by kernel_rfl) ?_
 refine qs ?_
 refine q_draw (fun wz => Keeps none_ w wz) 16 (by kernel_rfl) (by kernel_rfl) (by kernel_rfl) (fun w1 K2 _ _ => ⟨K2, ?_⟩)
 replace K0 := K0.t0 K2
 replace H0 := H0.keep K2 (fun h => h)
 replace hE := Ents.keep0 hE K2
 refine Dr.strong (S' := (fun wz => Keeps none_ w1 wz)) (Keeps.refl w1) (fun wz hx => K2.trans hx (fun i _ h => h) (fun _ _ h => h)) ?_
 clear K2
 refine Dr.takes (fuel' := 13) (is' := [2, 1, 0]) [0, 1, 2] [(0, (ptr g0)), (2, (Value.pointer none)), (7, (ptr g0))] (by kernel_rfl) rfl (by kernel_rfl) ?_
 refine Dr.take (i := 3) (v := (i64 base)) (by kernel_rfl) (by kernel_rfl) (fun wz hS => Runs.load (t := 2) (a := ⟨g0, 0, none⟩) (by kernel_rfl) ((H0.keep hS (fun h => h)).loads (by kernel_rfl))) (d := (some 8)) (by kernel_rfl) rfl ?_
 refine Dr.takes (fuel' := 9) (is' := [6, 5, 4, 3, 2, 1, 0]) [4, 5, 6] [(0, (ptr g0)), (2, (Value.pointer none)), (8, (i64 base)), (11, (Value.pointer (some ⟨g0, 1, none⟩)))] (by kernel_rfl) rfl (by kernel_rfl) ?_
 refine Dr.take (i := 7) (v := (i64 old)) (by kernel_rfl) (by kernel_rfl) (fun wz hS => Runs.load (t := 2) (a := ⟨g0, 1, none⟩) (by kernel_rfl) ((H0.keep hS (fun h => h)).loads (by kernel_rfl))) (d := (some 12)) (by kernel_rfl) rfl ?_
 refine Dr.takes (fuel' := 5) (is' := [10, 9, 8, 7, 6, 5, 4, 3, 2, 1, 0]) [8, 9, 10] [(2, (Value.pointer none)), (8, (i64 base)), (12, (i64 old)), (15, (Value.pointer (some ⟨g0, 2, none⟩)))] (by kernel_rfl) rfl (by kernel_rfl) ?_
 refine Dr.take (i := 11) (v := (Value.slice A l.length c)) (by kernel_rfl) (by kernel_rfl) (fun wz hS => Runs.load (t := 22) (a := ⟨g0, 2, none⟩) (by kernel_rfl) ((H0.keep hS (fun h => h)).loads (by kernel_rfl))) (d := (some 16)) (by kernel_rfl) rfl ?_
 refine Dr.call (i := 12) (by kernel_rfl) (by kernel_rfl) (d := (some 17)) (by kernel_rfl) (fun _ => own_calls _ T A c l hE (BigK.l hBig) (by omega)) ?_
 rintro _ w6 ⟨l3, A4, c5, rfl, K7, hE8, hK9⟩
 have ot10 : ∀ i, (fun i => w1.heap.size ≤ i ∧ i < w6.heap.size) i → i ≠ g0 := fun i hi => by have := hi.1; have := H0.lt; omega
 have hz11 := K0.size
 have hn12 := keys_len2 hK9
 try rw [List.length_drop] at hn12
 try rw [List.length_append] at hn12
 try rw [List.length_map] at hn12
 try rw [List.length_map] at hn12
 replace K0 := K0.t0 K7
 replace H0 := H0.keep K7 (fun h => h)
 replace hE := Ents.keep0 hE K7
 refine ⟨_, _, rfl, rfl, K7, ?_⟩
 refine Dr.strong (S' := (fun wz => Keeps none_ w6 wz)) (Keeps.refl w6) (fun wz hx => K7.trans hx (fun i _ h => h) (fun _ _ h => h)) ?_
 clear K7
 refine Dr.takes (fuel' := 2) (is' := [13, 12, 11, 10, 9, 8, 7, 6, 5, 4, 3, 2, 1, 0]) [13] [(2, (Value.pointer none)), (18, (agg [(i64 base), (i64 old), (Value.slice A4 l3.length c5)]))] (by kernel_rfl) rfl (by kernel_rfl) ?_
 refine Dr.new (i := 14) (o := rowL [(i64 base), (i64 old), (Value.slice A4 l3.length c5)] 55) (V := fun b => (ptr b)) (by kernel_rfl) (by kernel_rfl) (d := (some 19)) (by kernel_rfl) (fun b => rfl) (fun b13 w14 hb15 H16 K17 hs18 => ?_)
 have lb13g0 : g0 < b13 := by have := H0.lt; omega
 have nb13 : w.heap.size ≤ b13 := by have := K0.size; omega
 have ot19 : ∀ i, T i → i ≠ b13 := fun i hi => by have := Ents.lt hE i hi; omega
 have ot20 : ∀ i, (fun i => w1.heap.size ≤ i ∧ i < w6.heap.size) i → i ≠ b13 := fun i hi => by have := Ents.lt hE8 i hi; omega
 replace K0 := K0.t0 K17
 replace H0 := H0.keep K17 (fun h => h)
 replace hE := Ents.keep0 hE K17
 replace hE8 := Ents.keep0 hE8 K17
 refine ⟨K17, ?_⟩
 refine Dr.strong (S' := (fun wz => Keeps none_ w14 wz)) (Keeps.refl w14) (fun wz hx => K17.trans hx (fun i _ h => h) (fun _ _ h => h)) ?_
 clear K17 hs18
 refine Dr.takes (fuel' := 0) (is' := [15, 14, 13, 12, 11, 10, 9, 8, 7, 6, 5, 4, 3, 2, 1, 0]) [15] [(2, (ptr b13))] (by kernel_rfl) rfl (by kernel_rfl) ?_
 refine Dr.done (by kernel_rfl) ?_
 refine q_ret (by kernel_rfl) ?_
 refine ⟨(ptr b13), retv_tmp rfl rfl, ?_⟩
 exact ⟨b13, l3, A4, c5, rfl, nb13, K0, H16, (hE8).mono (fun i hi => ⟨⟨by have := hi.1; omega, Ents.lt hE8 i hi⟩, ot20 i hi⟩) (fun i hi => hi.1.2), hK9⟩

theorem New_ok (w : World) (T : Nat → Prop) (base t0 : Int) (A : Option Addr) (c : Nat) (l : List EntP) (hE : Ents w T (.slice A l.length c) l) (hBig : BigK (l.map EntP.key)) (hq : newE base t0 (l.map EntP.key) = 0) : Calls Try.prog 8 ⟨[(i64 base), (i64 t0), (Value.slice A l.length c)]⟩ w (fun e w' => ∃ g l' A' c', e = .returned (.tuple #[ptr g, i64 0]) ∧ w.heap.size ≤ g ∧ Keeps none_ w w' ∧ Has w' g (rowL [i64 base, i64 t0, .slice A' l'.length c'] 55) ∧ Ents w' (fun i => (w.heap.size ≤ i ∧ i < w'.heap.size) ∧ i ≠ g) (.slice A' l'.length c') l' ∧ l'.map EntP.key = (l.map EntP.key)) := by
 have hcap := Ents.len hE
 have K0 : Keeps none_ w w := Keeps.refl w
 refine q_calls Try.func8 (by kernel_rfl) (by kernel_rfl) ?_
 refine qs ?_
 refine qg ?_
 refine og 2 [(0, (i64 base)), (1, (i64 t0)), (2, (Value.slice A l.length c)), (6, (Value.pointer none)), (7, (i64 0))] 2 ?_
 refine od ?_
 refine qs ?_
 refine qs ?_
 refine qg ?_
 refine og 3 [(0, (i64 base)), (1, (i64 t0)), (2, (Value.slice A l.length c)), (6, (Value.pointer none)), (7, (i64 0)), (10, (Value.bool (decide (((l.length : Nat) : Int) > 4096))))] 3 ?_
 refine od ?_
 refine q_cond (o := .tmp 10) (b := (decide (((l.length : Nat) : Int) > 4096))) (by kernel_rfl) rfl (fun h1 => ?_) (fun h1 => ?_)
 ·rw [h1]
  have p2 : ((l.length : Nat) : Int) > 4096 := of_decide_eq_true h1
  refine qs ?_
  refine qg ?_
  refine og 2 [(0, (i64 base)), (1, (i64 t0)), (2, (Value.slice A l.length c)), (6, (Value.pointer none)), (7, (i64 4))] 2 ?_
  refine od ?_
  refine q_ret (by kernel_rfl) ?_
  refine ⟨(Value.tuple #[(Value.pointer none), (i64 4)]), retv_tmp2 rfl rfl rfl, ?_⟩
  exfalso; have hq := newE_ok hq; rw [List.length_map] at hq; omega
 ·rw [h1]
  have p3 : ¬ (((l.length : Nat) : Int) > 4096) := of_decide_eq_false h1
  refine q_skip (by kernel_rfl) ?_
  refine qs ?_
  refine qs ?_
  refine qg ?_
  refine og 3 [(0, (i64 base)), (1, (i64 t0)), (2, (Value.slice A l.length c)), (6, (Value.pointer none)), (7, (i64 0)), (13, (Value.bool (decide (base < 0))))] 3 ?_
  refine Ops.split (decide (base < 0)) (fun h4 => ?_) (fun h4 => ?_)
  ·rw [h4]
   have p5 : base < 0 := of_decide_eq_true h4
   refine og 25 [(0, (i64 base)), (1, (i64 t0)), (2, (Value.slice A l.length c)), (6, (Value.pointer none)), (7, (i64 0)), (38, (Value.bool true))] 28 ?_
   refine od ?_
   refine q_then (o := .tmp 38) (by kernel_rfl) rfl ?_
   refine qs ?_
   refine qg ?_
   refine og 2 [(0, (i64 base)), (1, (i64 t0)), (2, (Value.slice A l.length c)), (6, (Value.pointer none)), (7, (i64 1))] 2 ?_
   refine od ?_
   refine q_ret (by kernel_rfl) ?_
   refine ⟨(Value.tuple #[(Value.pointer none), (i64 1)]), retv_tmp2 rfl rfl rfl, ?_⟩
   exfalso; have hq := newE_ok hq; rw [List.length_map] at hq; omega
  ·rw [h4]
   have p6 : ¬ (base < 0) := of_decide_eq_false h4
   refine og 4 [(0, (i64 base)), (1, (i64 t0)), (2, (Value.slice A l.length c)), (6, (Value.pointer none)), (7, (i64 0)), (17, (Value.bool (decide (base > 1152921504606846976))))] 7 ?_
   refine Ops.split (decide (base > 1152921504606846976)) (fun h7 => ?_) (fun h7 => ?_)
   ·rw [h7]
    have p8 : base > 1152921504606846976 := of_decide_eq_true h7
    refine og 21 [(0, (i64 base)), (1, (i64 t0)), (2, (Value.slice A l.length c)), (6, (Value.pointer none)), (7, (i64 0)), (38, (Value.bool true))] 28 ?_
    refine od ?_
    refine q_then (o := .tmp 38) (by kernel_rfl) rfl ?_
    refine qs ?_
    refine qg ?_
    refine og 2 [(0, (i64 base)), (1, (i64 t0)), (2, (Value.slice A l.length c)), (6, (Value.pointer none)), (7, (i64 1))] 2 ?_
    refine od ?_
    refine q_ret (by kernel_rfl) ?_
    refine ⟨(Value.tuple #[(Value.pointer none), (i64 1)]), retv_tmp2 rfl rfl rfl, ?_⟩
    exfalso; have hq := newE_ok hq; rw [List.length_map] at hq; omega
   ·rw [h7]
    have p9 : ¬ (base > 1152921504606846976) := of_decide_eq_false h7
    refine og 4 [(0, (i64 base)), (1, (i64 t0)), (2, (Value.slice A l.length c)), (6, (Value.pointer none)), (7, (i64 0)), (21, (Value.bool (decide (t0 < 0))))] 11 ?_
    refine Ops.split (decide (t0 < 0)) (fun h10 => ?_) (fun h10 => ?_)
    ·rw [h10]
     have p11 : t0 < 0 := of_decide_eq_true h10
     refine og 17 [(0, (i64 base)), (1, (i64 t0)), (2, (Value.slice A l.length c)), (6, (Value.pointer none)), (7, (i64 0)), (38, (Value.bool true))] 28 ?_
     refine od ?_
     refine q_then (o := .tmp 38) (by kernel_rfl) rfl ?_
     refine qs ?_
     refine qg ?_
     refine og 2 [(0, (i64 base)), (1, (i64 t0)), (2, (Value.slice A l.length c)), (6, (Value.pointer none)), (7, (i64 1))] 2 ?_
     refine od ?_
     refine q_ret (by kernel_rfl) ?_
     refine ⟨(Value.tuple #[(Value.pointer none), (i64 1)]), retv_tmp2 rfl rfl rfl, ?_⟩
     exfalso; have hq := newE_ok hq; rw [List.length_map] at hq; omega
    ·rw [h10]
     have p12 : ¬ (t0 < 0) := of_decide_eq_false h10
     refine og 4 [(0, (i64 base)), (1, (i64 t0)), (2, (Value.slice A l.length c)), (6, (Value.pointer none)), (7, (i64 0)), (25, (Value.bool (decide (t0 > 1152921504606846976))))] 15 ?_
     refine Ops.split (decide (t0 > 1152921504606846976)) (fun h13 => ?_) (fun h13 => ?_)
     ·rw [h13]
      have p14 : t0 > 1152921504606846976 := of_decide_eq_true h13
      refine og 13 [(0, (i64 base)), (1, (i64 t0)), (2, (Value.slice A l.length c)), (6, (Value.pointer none)), (7, (i64 0)), (38, (Value.bool true))] 28 ?_
      refine od ?_
      refine q_then (o := .tmp 38) (by kernel_rfl) rfl ?_
      refine qs ?_
      refine qg ?_
      refine og 2 [(0, (i64 base)), (1, (i64 t0)), (2, (Value.slice A l.length c)), (6, (Value.pointer none)), (7, (i64 1))] 2 ?_
      refine od ?_
      refine q_ret (by kernel_rfl) ?_
      refine ⟨(Value.tuple #[(Value.pointer none), (i64 1)]), retv_tmp2 rfl rfl rfl, ?_⟩
      exfalso; have hq := newE_ok hq; rw [List.length_map] at hq; omega
     ·rw [h13]
      have p15 : ¬ (t0 > 1152921504606846976) := of_decide_eq_false h13
      refine og 3 [(0, (i64 base)), (1, (i64 t0)), (2, (Value.slice A l.length c)), (6, (Value.pointer none)), (7, (i64 0)), (25, (Value.bool false)), (28, (Value.bool (base == 0)))] 18 ?_
      refine Ops.split (base == 0) (fun h16 => ?_) (fun h16 => ?_)
      ·rw [h16]
       have p17 : base = 0 := of_beq_t h16
       refine og 5 [(0, (i64 base)), (1, (i64 t0)), (2, (Value.slice A l.length c)), (6, (Value.pointer none)), (7, (i64 0)), (33, (Value.bool (decide (t0 > 0))))] 23 ?_
       refine Ops.split (decide (t0 > 0)) (fun h18 => ?_) (fun h18 => ?_)
       ·rw [h18]
        have p19 : t0 > 0 := of_decide_eq_true h18
        refine og 5 [(0, (i64 base)), (1, (i64 t0)), (2, (Value.slice A l.length c)), (6, (Value.pointer none)), (7, (i64 0)), (38, (Value.bool true))] 28 ?_
        refine od ?_
        refine q_then (o := .tmp 38) (by kernel_rfl) rfl ?_
        refine qs ?_
        refine qg ?_
        refine og 2 [(0, (i64 base)), (1, (i64 t0)), (2, (Value.slice A l.length c)), (6, (Value.pointer none)), (7, (i64 1))] 2 ?_
        refine od ?_
        refine q_ret (by kernel_rfl) ?_
        refine ⟨(Value.tuple #[(Value.pointer none), (i64 1)]), retv_tmp2 rfl rfl rfl, ?_⟩
        exfalso; have hq := newE_ok hq; rw [List.length_map] at hq; omega
       ·rw [h18]
        have p20 : ¬ (t0 > 0) := of_decide_eq_false h18
        refine og 2 [(0, (i64 base)), (1, (i64 t0)), (2, (Value.slice A l.length c)), (6, (Value.pointer none)), (7, (i64 0)), (33, (Value.bool false)), (34, (i64 t0)), (35, (Value.slice A l.length c))] 25 ?_
        refine Ops.call (by kernel_rfl) (d := (some 36)) (by kernel_rfl) (rising_calls _ T t0 A c l hE) ?_
        rintro _ w22 ⟨rfl, K21⟩
        refine ⟨_, _, rfl, rfl, ?_⟩
        replace K0 := K0.t0 K21
        replace hE := Ents.keep0 hE K21
        clear K21
        refine og 2 [(0, (i64 base)), (1, (i64 t0)), (2, (Value.slice A l.length c)), (6, (Value.pointer none)), (7, (i64 0)), (38, (Value.bool (!(risingK t0 (l.map EntP.key)))))] 28 ?_
        refine od ?_
        refine q_cond (o := .tmp 38) (b := (!(risingK t0 (l.map EntP.key)))) (by kernel_rfl) rfl (fun h23 => ?_) (fun h23 => ?_)
        ·rw [h23]
         have p24 : (risingK t0 (l.map EntP.key)) = false := (bnot_true h23)
         refine qs ?_
         refine qg ?_
         refine og 2 [(0, (i64 base)), (1, (i64 t0)), (2, (Value.slice A l.length c)), (6, (Value.pointer none)), (7, (i64 1))] 2 ?_
         refine od ?_
         refine q_ret (by kernel_rfl) ?_
         refine ⟨(Value.tuple #[(Value.pointer none), (i64 1)]), retv_tmp2 rfl rfl rfl, ?_⟩
         exfalso; have hq := newE_ok hq; rw [List.length_map] at hq; have hq2 := hq.2.2; rw [(bnot_true h23)] at hq2; cases hq2
        ·rw [h23]
         have p25 : (risingK t0 (l.map EntP.key)) = true := (bnot_false h23)
         refine q_skip (by kernel_rfl) ?_
         refine qs ?_
         refine qg ?_
         refine og 3 [(6, (Value.pointer none)), (7, (i64 0)), (39, (i64 base)), (40, (i64 t0)), (41, (Value.slice A l.length c))] 3 ?_
         refine Ops.call (by kernel_rfl) (d := (some 42)) (by kernel_rfl) (own_calls _ T A c l hE (BigK.l hBig) (by omega)) ?_
         rintro _ w29 ⟨l26, A27, c28, rfl, K30, hE31, hK32⟩
         have hz33 := K0.size
         have hn34 := keys_len2 hK32
         try rw [List.length_drop] at hn34
         try rw [List.length_append] at hn34
         try rw [List.length_map] at hn34
         try rw [List.length_map] at hn34
         refine ⟨_, _, rfl, rfl, ?_⟩
         replace K0 := K0.t0 K30
         replace hE := Ents.keep0 hE K30
         clear K30
         refine og 1 [(6, (Value.pointer none)), (7, (i64 0)), (43, (agg [(i64 base), (i64 t0), (Value.slice A27 l26.length c28)]))] 5 ?_
         refine Ops.new (o := rowL [(i64 base), (i64 t0), (Value.slice A27 l26.length c28)] 55) (V := fun b => (ptr b)) (by kernel_rfl) (d := (some 44)) (by kernel_rfl) (fun b => rfl) (fun b35 w36 hb37 H38 K39 hs40 => ?_)
         have nb35 : w.heap.size ≤ b35 := by have := K0.size; omega
         have ot41 : ∀ i, T i → i ≠ b35 := fun i hi => by have := Ents.lt hE i hi; omega
         have ot42 : ∀ i, (fun i => w22.heap.size ≤ i ∧ i < w29.heap.size) i → i ≠ b35 := fun i hi => by have := Ents.lt hE31 i hi; omega
         replace K0 := K0.t0 K39
         replace hE := Ents.keep0 hE K39
         replace hE31 := Ents.keep0 hE31 K39
         clear K39 hs40
         refine og 2 [(6, (ptr b35)), (7, (i64 0))] 8 ?_
         refine od ?_
         refine q_ret (by kernel_rfl) ?_
         refine ⟨(Value.tuple #[(ptr b35), (i64 0)]), retv_tmp2 rfl rfl rfl, ?_⟩
         exact ⟨b35, l26, A27, c28, rfl, nb35, K0, H38, (hE31).mono (fun i hi => ⟨⟨by have := hi.1; omega, Ents.lt hE31 i hi⟩, ot42 i hi⟩) (fun i hi => hi.1.2), hK32⟩
      ·rw [h16]
       have p43 : ¬ (base = 0) := of_beq_f h16
       refine og 7 [(0, (i64 base)), (1, (i64 t0)), (2, (Value.slice A l.length c)), (6, (Value.pointer none)), (7, (i64 0)), (33, (Value.bool false)), (34, (i64 t0)), (35, (Value.slice A l.length c))] 25 ?_
       refine Ops.call (by kernel_rfl) (d := (some 36)) (by kernel_rfl) (rising_calls _ T t0 A c l hE) ?_
       rintro _ w45 ⟨rfl, K44⟩
       refine ⟨_, _, rfl, rfl, ?_⟩
       replace K0 := K0.t0 K44
       replace hE := Ents.keep0 hE K44
       clear K44
       refine og 2 [(0, (i64 base)), (1, (i64 t0)), (2, (Value.slice A l.length c)), (6, (Value.pointer none)), (7, (i64 0)), (38, (Value.bool (!(risingK t0 (l.map EntP.key)))))] 28 ?_
       refine od ?_
       refine q_cond (o := .tmp 38) (b := (!(risingK t0 (l.map EntP.key)))) (by kernel_rfl) rfl (fun h46 => ?_) (fun h46 => ?_)
       ·rw [h46]
        have p47 : (risingK t0 (l.map EntP.key)) = false := (bnot_true h46)
        refine qs ?_
        refine qg ?_
        refine og 2 [(0, (i64 base)), (1, (i64 t0)), (2, (Value.slice A l.length c)), (6, (Value.pointer none)), (7, (i64 1))] 2 ?_
        refine od ?_
        refine q_ret (by kernel_rfl) ?_
        refine ⟨(Value.tuple #[(Value.pointer none), (i64 1)]), retv_tmp2 rfl rfl rfl, ?_⟩
        exfalso; have hq := newE_ok hq; rw [List.length_map] at hq; have hq2 := hq.2.2; rw [(bnot_true h46)] at hq2; cases hq2
       ·rw [h46]
        have p48 : (risingK t0 (l.map EntP.key)) = true := (bnot_false h46)
        refine q_skip (by kernel_rfl) ?_
        refine qs ?_
        refine qg ?_
        refine og 3 [(6, (Value.pointer none)), (7, (i64 0)), (39, (i64 base)), (40, (i64 t0)), (41, (Value.slice A l.length c))] 3 ?_
        refine Ops.call (by kernel_rfl) (d := (some 42)) (by kernel_rfl) (own_calls _ T A c l hE (BigK.l hBig) (by omega)) ?_
        rintro _ w52 ⟨l49, A50, c51, rfl, K53, hE54, hK55⟩
        have hz56 := K0.size
        have hn57 := keys_len2 hK55
        try rw [List.length_drop] at hn57
        try rw [List.length_append] at hn57
        try rw [List.length_map] at hn57
        try rw [List.length_map] at hn57
        refine ⟨_, _, rfl, rfl, ?_⟩
        replace K0 := K0.t0 K53
        replace hE := Ents.keep0 hE K53
        clear K53
        refine og 1 [(6, (Value.pointer none)), (7, (i64 0)), (43, (agg [(i64 base), (i64 t0), (Value.slice A50 l49.length c51)]))] 5 ?_
        refine Ops.new (o := rowL [(i64 base), (i64 t0), (Value.slice A50 l49.length c51)] 55) (V := fun b => (ptr b)) (by kernel_rfl) (d := (some 44)) (by kernel_rfl) (fun b => rfl) (fun b58 w59 hb60 H61 K62 hs63 => ?_)
        have nb58 : w.heap.size ≤ b58 := by have := K0.size; omega
        have ot64 : ∀ i, T i → i ≠ b58 := fun i hi => by have := Ents.lt hE i hi; omega
        have ot65 : ∀ i, (fun i => w45.heap.size ≤ i ∧ i < w52.heap.size) i → i ≠ b58 := fun i hi => by have := Ents.lt hE54 i hi; omega
        replace K0 := K0.t0 K62
        replace hE := Ents.keep0 hE K62
        replace hE54 := Ents.keep0 hE54 K62
        clear K62 hs63
        refine og 2 [(6, (ptr b58)), (7, (i64 0))] 8 ?_
        refine od ?_
        refine q_ret (by kernel_rfl) ?_
        refine ⟨(Value.tuple #[(ptr b58), (i64 0)]), retv_tmp2 rfl rfl rfl, ?_⟩
        exact ⟨b58, l49, A50, c51, rfl, nb58, K0, H61, (hE54).mono (fun i hi => ⟨⟨by have := hi.1; omega, Ents.lt hE54 i hi⟩, ot65 i hi⟩) (fun i hi => hi.1.2), hK55⟩

theorem New_bad (w : World) (T : Nat → Prop) (base t0 : Int) (A : Option Addr) (c : Nat) (l : List EntP) (hE : Ents w T (.slice A l.length c) l) (hBig : BigK (l.map EntP.key)) (hq : newE base t0 (l.map EntP.key) ≠ 0) : Calls Try.prog 8 ⟨[(i64 base), (i64 t0), (Value.slice A l.length c)]⟩ w (fun e w' => e = .returned (.tuple #[.pointer none, i64 (newE base t0 (l.map EntP.key))]) ∧ Keeps none_ w w') := by
 have hcap := Ents.len hE
 have K0 : Keeps none_ w w := Keeps.refl w
 refine q_calls Try.func8 (by kernel_rfl) (by kernel_rfl) ?_
 refine qs ?_
 refine qg ?_
 refine og 2 [(0, (i64 base)), (1, (i64 t0)), (2, (Value.slice A l.length c)), (6, (Value.pointer none)), (7, (i64 0))] 2 ?_
 refine od ?_
 refine qs ?_
 refine qs ?_
 refine qg ?_
 refine og 3 [(0, (i64 base)), (1, (i64 t0)), (2, (Value.slice A l.length c)), (6, (Value.pointer none)), (7, (i64 0)), (10, (Value.bool (decide (((l.length : Nat) : Int) > 4096))))] 3 ?_
 refine od ?_
 refine q_cond (o := .tmp 10) (b := (decide (((l.length : Nat) : Int) > 4096))) (by kernel_rfl) rfl (fun h1 => ?_) (fun h1 => ?_)
 ·rw [h1]
  have p2 : ((l.length : Nat) : Int) > 4096 := of_decide_eq_true h1
  refine qs ?_
  refine qg ?_
  refine og 2 [(0, (i64 base)), (1, (i64 t0)), (2, (Value.slice A l.length c)), (6, (Value.pointer none)), (7, (i64 4))] 2 ?_
  refine od ?_
  refine q_ret (by kernel_rfl) ?_
  refine ⟨(Value.tuple #[(Value.pointer none), (i64 4)]), retv_tmp2 rfl rfl rfl, ?_⟩
  have e : newE base t0 (l.map EntP.key) = 4 := by unfold newE; rw [List.length_map]; rw [if_pos (by omega)]
  exact ⟨by rw [e], K0⟩
 ·rw [h1]
  have p3 : ¬ (((l.length : Nat) : Int) > 4096) := of_decide_eq_false h1
  refine q_skip (by kernel_rfl) ?_
  refine qs ?_
  refine qs ?_
  refine qg ?_
  refine og 3 [(0, (i64 base)), (1, (i64 t0)), (2, (Value.slice A l.length c)), (6, (Value.pointer none)), (7, (i64 0)), (13, (Value.bool (decide (base < 0))))] 3 ?_
  refine Ops.split (decide (base < 0)) (fun h4 => ?_) (fun h4 => ?_)
  ·rw [h4]
   have p5 : base < 0 := of_decide_eq_true h4
   refine og 25 [(0, (i64 base)), (1, (i64 t0)), (2, (Value.slice A l.length c)), (6, (Value.pointer none)), (7, (i64 0)), (38, (Value.bool true))] 28 ?_
   refine od ?_
   refine q_then (o := .tmp 38) (by kernel_rfl) rfl ?_
   refine qs ?_
   refine qg ?_
   refine og 2 [(0, (i64 base)), (1, (i64 t0)), (2, (Value.slice A l.length c)), (6, (Value.pointer none)), (7, (i64 1))] 2 ?_
   refine od ?_
   refine q_ret (by kernel_rfl) ?_
   refine ⟨(Value.tuple #[(Value.pointer none), (i64 1)]), retv_tmp2 rfl rfl rfl, ?_⟩
   have e : newE base t0 (l.map EntP.key) = 1 := by unfold newE; rw [List.length_map]; rw [if_neg (by omega), if_pos (by omega)]
   exact ⟨by rw [e], K0⟩
  ·rw [h4]
   have p6 : ¬ (base < 0) := of_decide_eq_false h4
   refine og 4 [(0, (i64 base)), (1, (i64 t0)), (2, (Value.slice A l.length c)), (6, (Value.pointer none)), (7, (i64 0)), (17, (Value.bool (decide (base > 1152921504606846976))))] 7 ?_
   refine Ops.split (decide (base > 1152921504606846976)) (fun h7 => ?_) (fun h7 => ?_)
   ·rw [h7]
    have p8 : base > 1152921504606846976 := of_decide_eq_true h7
    refine og 21 [(0, (i64 base)), (1, (i64 t0)), (2, (Value.slice A l.length c)), (6, (Value.pointer none)), (7, (i64 0)), (38, (Value.bool true))] 28 ?_
    refine od ?_
    refine q_then (o := .tmp 38) (by kernel_rfl) rfl ?_
    refine qs ?_
    refine qg ?_
    refine og 2 [(0, (i64 base)), (1, (i64 t0)), (2, (Value.slice A l.length c)), (6, (Value.pointer none)), (7, (i64 1))] 2 ?_
    refine od ?_
    refine q_ret (by kernel_rfl) ?_
    refine ⟨(Value.tuple #[(Value.pointer none), (i64 1)]), retv_tmp2 rfl rfl rfl, ?_⟩
    have e : newE base t0 (l.map EntP.key) = 1 := by unfold newE; rw [List.length_map]; rw [if_neg (by omega), if_pos (by omega)]
    exact ⟨by rw [e], K0⟩
   ·rw [h7]
    have p9 : ¬ (base > 1152921504606846976) := of_decide_eq_false h7
    refine og 4 [(0, (i64 base)), (1, (i64 t0)), (2, (Value.slice A l.length c)), (6, (Value.pointer none)), (7, (i64 0)), (21, (Value.bool (decide (t0 < 0))))] 11 ?_
    refine Ops.split (decide (t0 < 0)) (fun h10 => ?_) (fun h10 => ?_)
    ·rw [h10]
     have p11 : t0 < 0 := of_decide_eq_true h10
     refine og 17 [(0, (i64 base)), (1, (i64 t0)), (2, (Value.slice A l.length c)), (6, (Value.pointer none)), (7, (i64 0)), (38, (Value.bool true))] 28 ?_
     refine od ?_
     refine q_then (o := .tmp 38) (by kernel_rfl) rfl ?_
     refine qs ?_
     refine qg ?_
     refine og 2 [(0, (i64 base)), (1, (i64 t0)), (2, (Value.slice A l.length c)), (6, (Value.pointer none)), (7, (i64 1))] 2 ?_
     refine od ?_
     refine q_ret (by kernel_rfl) ?_
     refine ⟨(Value.tuple #[(Value.pointer none), (i64 1)]), retv_tmp2 rfl rfl rfl, ?_⟩
     have e : newE base t0 (l.map EntP.key) = 1 := by unfold newE; rw [List.length_map]; rw [if_neg (by omega), if_pos (by omega)]
     exact ⟨by rw [e], K0⟩
    ·rw [h10]
     have p12 : ¬ (t0 < 0) := of_decide_eq_false h10
     refine og 4 [(0, (i64 base)), (1, (i64 t0)), (2, (Value.slice A l.length c)), (6, (Value.pointer none)), (7, (i64 0)), (25, (Value.bool (decide (t0 > 1152921504606846976))))] 15 ?_
     refine Ops.split (decide (t0 > 1152921504606846976)) (fun h13 => ?_) (fun h13 => ?_)
     ·rw [h13]
      have p14 : t0 > 1152921504606846976 := of_decide_eq_true h13
      refine og 13 [(0, (i64 base)), (1, (i64 t0)), (2, (Value.slice A l.length c)), (6, (Value.pointer none)), (7, (i64 0)), (38, (Value.bool true))] 28 ?_
      refine od ?_
      refine q_then (o := .tmp 38) (by kernel_rfl) rfl ?_
      refine qs ?_
      refine qg ?_
      refine og 2 [(0, (i64 base)), (1, (i64 t0)), (2, (Value.slice A l.length c)), (6, (Value.pointer none)), (7, (i64 1))] 2 ?_
      refine od ?_
      refine q_ret (by kernel_rfl) ?_
      refine ⟨(Value.tuple #[(Value.pointer none), (i64 1)]), retv_tmp2 rfl rfl rfl, ?_⟩
      have e : newE base t0 (l.map EntP.key) = 1 := by unfold newE; rw [List.length_map]; rw [if_neg (by omega), if_pos (by omega)]
      exact ⟨by rw [e], K0⟩
     ·rw [h13]
      have p15 : ¬ (t0 > 1152921504606846976) := of_decide_eq_false h13
      refine og 3 [(0, (i64 base)), (1, (i64 t0)), (2, (Value.slice A l.length c)), (6, (Value.pointer none)), (7, (i64 0)), (25, (Value.bool false)), (28, (Value.bool (base == 0)))] 18 ?_
      refine Ops.split (base == 0) (fun h16 => ?_) (fun h16 => ?_)
      ·rw [h16]
       have p17 : base = 0 := of_beq_t h16
       refine og 5 [(0, (i64 base)), (1, (i64 t0)), (2, (Value.slice A l.length c)), (6, (Value.pointer none)), (7, (i64 0)), (33, (Value.bool (decide (t0 > 0))))] 23 ?_
       refine Ops.split (decide (t0 > 0)) (fun h18 => ?_) (fun h18 => ?_)
       ·rw [h18]
        have p19 : t0 > 0 := of_decide_eq_true h18
        refine og 5 [(0, (i64 base)), (1, (i64 t0)), (2, (Value.slice A l.length c)), (6, (Value.pointer none)), (7, (i64 0)), (38, (Value.bool true))] 28 ?_
        refine od ?_
        refine q_then (o := .tmp 38) (by kernel_rfl) rfl ?_
        refine qs ?_
        refine qg ?_
        refine og 2 [(0, (i64 base)), (1, (i64 t0)), (2, (Value.slice A l.length c)), (6, (Value.pointer none)), (7, (i64 1))] 2 ?_
        refine od ?_
        refine q_ret (by kernel_rfl) ?_
        refine ⟨(Value.tuple #[(Value.pointer none), (i64 1)]), retv_tmp2 rfl rfl rfl, ?_⟩
        have e : newE base t0 (l.map EntP.key) = 1 := by unfold newE; rw [List.length_map]; rw [if_neg (by omega), if_pos (by omega)]
        exact ⟨by rw [e], K0⟩
       ·rw [h18]
        have p20 : ¬ (t0 > 0) := of_decide_eq_false h18
        refine og 2 [(0, (i64 base)), (1, (i64 t0)), (2, (Value.slice A l.length c)), (6, (Value.pointer none)), (7, (i64 0)), (33, (Value.bool false)), (34, (i64 t0)), (35, (Value.slice A l.length c))] 25 ?_
        refine Ops.call (by kernel_rfl) (d := (some 36)) (by kernel_rfl) (rising_calls _ T t0 A c l hE) ?_
        rintro _ w22 ⟨rfl, K21⟩
        refine ⟨_, _, rfl, rfl, ?_⟩
        replace K0 := K0.t0 K21
        replace hE := Ents.keep0 hE K21
        clear K21
        refine og 2 [(0, (i64 base)), (1, (i64 t0)), (2, (Value.slice A l.length c)), (6, (Value.pointer none)), (7, (i64 0)), (38, (Value.bool (!(risingK t0 (l.map EntP.key)))))] 28 ?_
        refine od ?_
        refine q_cond (o := .tmp 38) (b := (!(risingK t0 (l.map EntP.key)))) (by kernel_rfl) rfl (fun h23 => ?_) (fun h23 => ?_)
        ·rw [h23]
         have p24 : (risingK t0 (l.map EntP.key)) = false := (bnot_true h23)
         refine qs ?_
         refine qg ?_
         refine og 2 [(0, (i64 base)), (1, (i64 t0)), (2, (Value.slice A l.length c)), (6, (Value.pointer none)), (7, (i64 1))] 2 ?_
         refine od ?_
         refine q_ret (by kernel_rfl) ?_
         refine ⟨(Value.tuple #[(Value.pointer none), (i64 1)]), retv_tmp2 rfl rfl rfl, ?_⟩
         have e : newE base t0 (l.map EntP.key) = 1 := by unfold newE; rw [List.length_map]; rw [if_neg (by omega), if_neg (by omega), if_neg (by rw [(bnot_true h23)]; decide)]
         exact ⟨by rw [e], K0⟩
        ·rw [h23]
         have p25 : (risingK t0 (l.map EntP.key)) = true := (bnot_false h23)
         refine q_skip (by kernel_rfl) ?_
         refine qs ?_
         refine qg ?_
         refine og 3 [(6, (Value.pointer none)), (7, (i64 0)), (39, (i64 base)), (40, (i64 t0)), (41, (Value.slice A l.length c))] 3 ?_
         refine Ops.call (by kernel_rfl) (d := (some 42)) (by kernel_rfl) (own_calls _ T A c l hE (BigK.l hBig) (by omega)) ?_
         rintro _ w29 ⟨l26, A27, c28, rfl, K30, hE31, hK32⟩
         have hz33 := K0.size
         have hn34 := keys_len2 hK32
         try rw [List.length_drop] at hn34
         try rw [List.length_append] at hn34
         try rw [List.length_map] at hn34
         try rw [List.length_map] at hn34
         refine ⟨_, _, rfl, rfl, ?_⟩
         replace K0 := K0.t0 K30
         replace hE := Ents.keep0 hE K30
         clear K30
         refine og 1 [(6, (Value.pointer none)), (7, (i64 0)), (43, (agg [(i64 base), (i64 t0), (Value.slice A27 l26.length c28)]))] 5 ?_
         refine Ops.new (o := rowL [(i64 base), (i64 t0), (Value.slice A27 l26.length c28)] 55) (V := fun b => (ptr b)) (by kernel_rfl) (d := (some 44)) (by kernel_rfl) (fun b => rfl) (fun b35 w36 hb37 H38 K39 hs40 => ?_)
         have nb35 : w.heap.size ≤ b35 := by have := K0.size; omega
         have ot41 : ∀ i, T i → i ≠ b35 := fun i hi => by have := Ents.lt hE i hi; omega
         have ot42 : ∀ i, (fun i => w22.heap.size ≤ i ∧ i < w29.heap.size) i → i ≠ b35 := fun i hi => by have := Ents.lt hE31 i hi; omega
         replace K0 := K0.t0 K39
         replace hE := Ents.keep0 hE K39
         replace hE31 := Ents.keep0 hE31 K39
         clear K39 hs40
         refine og 2 [(6, (ptr b35)), (7, (i64 0))] 8 ?_
         refine od ?_
         refine q_ret (by kernel_rfl) ?_
         refine ⟨(Value.tuple #[(ptr b35), (i64 0)]), retv_tmp2 rfl rfl rfl, ?_⟩
         exact absurd (by unfold newE; rw [List.length_map, if_neg (by omega), if_neg (by omega), if_pos (bnot_false h23)]) hq
      ·rw [h16]
       have p43 : ¬ (base = 0) := of_beq_f h16
       refine og 7 [(0, (i64 base)), (1, (i64 t0)), (2, (Value.slice A l.length c)), (6, (Value.pointer none)), (7, (i64 0)), (33, (Value.bool false)), (34, (i64 t0)), (35, (Value.slice A l.length c))] 25 ?_
       refine Ops.call (by kernel_rfl) (d := (some 36)) (by kernel_rfl) (rising_calls _ T t0 A c l hE) ?_
       rintro _ w45 ⟨rfl, K44⟩
       refine ⟨_, _, rfl, rfl, ?_⟩
       replace K0 := K0.t0 K44
       replace hE := Ents.keep0 hE K44
       clear K44
       refine og 2 [(0, (i64 base)), (1, (i64 t0)), (2, (Value.slice A l.length c)), (6, (Value.pointer none)), (7, (i64 0)), (38, (Value.bool (!(risingK t0 (l.map EntP.key)))))] 28 ?_
       refine od ?_
       refine q_cond (o := .tmp 38) (b := (!(risingK t0 (l.map EntP.key)))) (by kernel_rfl) rfl (fun h46 => ?_) (fun h46 => ?_)
       ·rw [h46]
        have p47 : (risingK t0 (l.map EntP.key)) = false := (bnot_true h46)
        refine qs ?_
        refine qg ?_
        refine og 2 [(0, (i64 base)), (1, (i64 t0)), (2, (Value.slice A l.length c)), (6, (Value.pointer none)), (7, (i64 1))] 2 ?_
        refine od ?_
        refine q_ret (by kernel_rfl) ?_
        refine ⟨(Value.tuple #[(Value.pointer none), (i64 1)]), retv_tmp2 rfl rfl rfl, ?_⟩
        have e : newE base t0 (l.map EntP.key) = 1 := by unfold newE; rw [List.length_map]; rw [if_neg (by omega), if_neg (by omega), if_neg (by rw [(bnot_true h46)]; decide)]
        exact ⟨by rw [e], K0⟩
       ·rw [h46]
        have p48 : (risingK t0 (l.map EntP.key)) = true := (bnot_false h46)
        refine q_skip (by kernel_rfl) ?_
        refine qs ?_
        refine qg ?_
        refine og 3 [(6, (Value.pointer none)), (7, (i64 0)), (39, (i64 base)), (40, (i64 t0)), (41, (Value.slice A l.length c))] 3 ?_
        refine Ops.call (by kernel_rfl) (d := (some 42)) (by kernel_rfl) (own_calls _ T A c l hE (BigK.l hBig) (by omega)) ?_
        rintro _ w52 ⟨l49, A50, c51, rfl, K53, hE54, hK55⟩
        have hz56 := K0.size
        have hn57 := keys_len2 hK55
        try rw [List.length_drop] at hn57
        try rw [List.length_append] at hn57
        try rw [List.length_map] at hn57
        try rw [List.length_map] at hn57
        refine ⟨_, _, rfl, rfl, ?_⟩
        replace K0 := K0.t0 K53
        replace hE := Ents.keep0 hE K53
        clear K53
        refine og 1 [(6, (Value.pointer none)), (7, (i64 0)), (43, (agg [(i64 base), (i64 t0), (Value.slice A50 l49.length c51)]))] 5 ?_
        refine Ops.new (o := rowL [(i64 base), (i64 t0), (Value.slice A50 l49.length c51)] 55) (V := fun b => (ptr b)) (by kernel_rfl) (d := (some 44)) (by kernel_rfl) (fun b => rfl) (fun b58 w59 hb60 H61 K62 hs63 => ?_)
        have nb58 : w.heap.size ≤ b58 := by have := K0.size; omega
        have ot64 : ∀ i, T i → i ≠ b58 := fun i hi => by have := Ents.lt hE i hi; omega
        have ot65 : ∀ i, (fun i => w45.heap.size ≤ i ∧ i < w52.heap.size) i → i ≠ b58 := fun i hi => by have := Ents.lt hE54 i hi; omega
        replace K0 := K0.t0 K62
        replace hE := Ents.keep0 hE K62
        replace hE54 := Ents.keep0 hE54 K62
        clear K62 hs63
        refine og 2 [(6, (ptr b58)), (7, (i64 0))] 8 ?_
        refine od ?_
        refine q_ret (by kernel_rfl) ?_
        refine ⟨(Value.tuple #[(ptr b58), (i64 0)]), retv_tmp2 rfl rfl rfl, ?_⟩
        exact absurd (by unfold newE; rw [List.length_map, if_neg (by omega), if_neg (by omega), if_pos (bnot_false h46)]) hq
end Go.Proofs.Ytncjidepplaocaa
