/- What the claim stands on, part 9: rules of the walk, contracts of the functions, plain laws. -/
import Derived.Test.YtnmpepjikfbpdaaProg
import Derived.Test.YtnmpepjikfbpdaaKRAlone5
import Derived.Test.YtnmpepjikfbpdaaKRAlone8
import Derived.SizedLaws
set_option linter.unusedVariables false
namespace Go.Proofs.Ytnmpepjikfbpdaa
open Go.Q Go.RowKit

theorem Part_calls (w : World) (T : Nat → Prop) (g : Nat) (base old : Int) (A : Option Addr) (c : Nat) (l : List EntP) (n most : Int) (H0 : Has w g (rowL [i64 base, i64 old, .slice A l.length c] 78)) (hE : Ents w T (.slice A l.length c) l) (hT : ∀ i, T i → i ≠ g) (hB : 0 ≤ base ∧ base ≤ 2305843009213693952) (hL : l.length ≤ 4096) (hn : -9223372036854775808 ≤ n ∧ n ≤ 9223372036854775807) (hmo : -9223372036854775808 ≤ most ∧ most ≤ 9223372036854775807) (hBig : BigK (l.map EntP.key)) : Calls Try.prog 17 ⟨[(ptr g), (i64 n), (i64 most)]⟩ w (fun e w' => ∃ l' A' c', e = .returned (.slice A' l'.length c') ∧ Keeps none_ w w' ∧ Ents w' (fun i => w.heap.size ≤ i ∧ i < w'.heap.size) (.slice A' l'.length c') l' ∧ l'.map EntP.key = partK base (l.map EntP.key) n most) := by
 have hcap := Ents.len hE
 have Hg := H0.lt
 have hcm := hcap.2.2
 unfold maxLen at hcm
 have K0 : Keeps none_ w w := Keeps.refl w
 refine q_calls Try.func17 (by kernel_rfl) (by kernel_rfl) ?_
 refine qs ?_
 refine qg ?_
 refine og 1 [(0, (ptr g)), (1, (i64 n)), (2, (i64 most)), (6, (Value.slice none 0 0))] 1 ?_
 refine od ?_
 refine qs ?_
 refine qs ?_
 refine qg ?_
 refine og 7 [(0, (ptr g)), (1, (i64 n)), (2, (i64 most)), (6, (Value.slice none 0 0)), (16, (Value.bool (decide (most < 1))))] 7 ?_
 refine Ops.split (decide (most < 1)) (fun h1 => ?_) (fun h1 => ?_)
 ·rw [h1]
  have p2 : most < 1 := of_decide_eq_true h1
  refine og 7 [(0, (ptr g)), (1, (i64 n)), (2, (i64 most)), (6, (Value.slice none 0 0)), (23, (Value.bool true))] 14 ?_
  refine od ?_
  refine q_then (o := .tmp 23) (by kernel_rfl) rfl ?_
  refine qs ?_
  refine qg ?_
  refine og 1 [(0, (ptr g)), (1, (i64 n)), (2, (i64 most)), (6, (Value.slice none 0 0))] 1 ?_
  refine od ?_
  refine q_ret (by kernel_rfl) ?_
  refine ⟨(Value.slice none 0 0), retv_tmp rfl rfl, ?_⟩
  have e : partK base (l.map EntP.key) n most = [] := partK_none (by omega)
  exact ⟨[], none, 0, rfl, K0, (Ents.nil _).mono (fun _ h => h.elim) (fun _ h => h.2), by rw [e]; rfl⟩
 ·rw [h1]
  have p3 : ¬ (most < 1) := of_decide_eq_false h1
  obtain ⟨m, hm⟩ : ∃ m : Nat, most = (m : Int) := Int.eq_ofNat_of_zero_le (by omega)
  subst hm
  refine og 4 [(0, (ptr g)), (1, (i64 n)), (2, (i64 ((m : Nat) : Int))), (6, (Value.slice none 0 0)), (16, (Value.bool false)), (17, (i64 n)), (20, (ptr g))] 11 ?_
  refine Ops.go (v := (i64 base)) (by kernel_rfl) (Runs.load (t := 2) (a := ⟨g, 0, none⟩) (by kernel_rfl) (H0.loads (by kernel_rfl))) (d := (some 21)) (by kernel_rfl) rfl ?_
  refine og 2 [(0, (ptr g)), (1, (i64 n)), (2, (i64 ((m : Nat) : Int))), (6, (Value.slice none 0 0)), (23, (Value.bool (decide (n ≤ base))))] 14 ?_
  refine od ?_
  refine q_cond (o := .tmp 23) (b := (decide (n ≤ base))) (by kernel_rfl) rfl (fun h4 => ?_) (fun h4 => ?_)
  ·rw [h4]
   have p5 : n ≤ base := of_decide_eq_true h4
   refine qs ?_
   refine qg ?_
   refine og 1 [(0, (ptr g)), (1, (i64 n)), (2, (i64 ((m : Nat) : Int))), (6, (Value.slice none 0 0))] 1 ?_
   refine od ?_
   refine q_ret (by kernel_rfl) ?_
   refine ⟨(Value.slice none 0 0), retv_tmp rfl rfl, ?_⟩
   have e : partK base (l.map EntP.key) n (m : Int) = [] := partK_none (by omega)
   exact ⟨[], none, 0, rfl, K0, (Ents.nil _).mono (fun _ h => h.elim) (fun _ h => h.2), by rw [e]; rfl⟩
  ·rw [h4]
   have p6 : ¬ (n ≤ base) := of_decide_eq_false h4
   refine q_skip (by kernel_rfl) ?_
   refine qs ?_
   refine qs ?_
   refine qg ?_
   refine og 2 [(0, (ptr g)), (1, (i64 n)), (2, (i64 ((m : Nat) : Int))), (6, (Value.slice none 0 0)), (25, (ptr g)), (26, (i64 n))] 2 ?_
   rcases at_or base l.length n with q7 | q8 | q9 | ⟨k12, q10, q11⟩
   ·skip
    refine Ops.call (by kernel_rfl) (d := (some 27)) (by kernel_rfl) (at_low _ T g base old A c l n H0 hE hT (by omega) (by omega) q7) ?_
    rintro _ w16 ⟨rfl, K15⟩
    refine ⟨_, _, rfl, rfl, ?_⟩
    replace K0 := K0.t0 K15
    replace H0 := H0.keep K15 (fun h => h)
    replace hE := Ents.keep0 hE K15
    clear K15
    refine og 4 [(0, (ptr g)), (1, (i64 n)), (2, (i64 ((m : Nat) : Int))), (6, (Value.slice none 0 0)), (29, (agg [(i64 0), (Value.slice none 0 0)])), (30, (Value.bool false))] 7 ?_
    refine Ops.new (o := rowL [(i64 0), (Value.slice none 0 0)] 88) (V := fun b => (ptr b)) (by kernel_rfl) (d := (some 7)) (by kernel_rfl) (fun b => rfl) (fun b17 w18 hb19 H20 K21 hs22 => ?_)
    have lb17g : g < b17 := by have := H0.lt; omega
    have nb17 : w.heap.size ≤ b17 := by have := K0.size; omega
    have ot23 : ∀ i, T i → i ≠ b17 := fun i hi => by have := Ents.lt hE i hi; omega
    replace K0 := K0.t0 K21
    replace H0 := H0.keep K21 (fun h => h)
    replace hE := Ents.keep0 hE K21
    clear K21 hs22
    refine Ops.put (t := 88) (b := b17) (off := 0) (v := (agg [(i64 0), (Value.slice none 0 0)])) (ys := [(i64 0), (Value.slice none 0 0)]) (by kernel_rfl) (by kernel_rfl) H20 (by kernel_rfl) (d := none) (by kernel_rfl) rfl (fun w24 H25 K26 => ?_)
    clear H20
    replace K0 := K0.trans K26 (U := none_) (fun i h1 h2 => h2) (fun i h1 h2 => by have h2 : i = b17 := h2; exfalso; omega)
    replace H0 := H0.keep K26 (by intro h; change g = b17 at h; omega)
    replace hE := Ents.keep hE K26 (fun i hi hs => by have hs : i = b17 := hs; have := ot23 i hi; omega)
    clear K26
    refine og 1 [(0, (ptr g)), (1, (i64 n)), (2, (i64 ((m : Nat) : Int))), (6, (Value.slice none 0 0)), (8, (Value.bool false))] 10 ?_
    refine od ?_
    refine qs ?_
    refine qg ?_
    refine og 2 [(0, (ptr g)), (1, (i64 n)), (2, (i64 ((m : Nat) : Int))), (6, (Value.slice none 0 0)), (32, (Value.bool true))] 2 ?_
    refine od ?_
    refine q_then (o := .tmp 32) (by kernel_rfl) rfl ?_
    refine qs ?_
    refine qg ?_
    refine og 1 [(0, (ptr g)), (1, (i64 n)), (2, (i64 ((m : Nat) : Int))), (6, (Value.slice none 0 0))] 1 ?_
    refine od ?_
    refine q_ret (by kernel_rfl) ?_
    refine ⟨(Value.slice none 0 0), retv_tmp rfl rfl, ?_⟩
    have e : partK base (l.map EntP.key) n (m : Int) = [] := partK_none (by omega)
    exact ⟨[], none, 0, rfl, K0, (Ents.nil _).mono (fun _ h => h.elim) (fun _ h => h.2), by rw [e]; rfl⟩
   ·skip
    refine Ops.call (by kernel_rfl) (d := (some 27)) (by kernel_rfl) (at_high _ T g base old A c l n H0 hE hT (by omega) (by omega) (by omega) q8) ?_
    rintro _ w28 ⟨rfl, K27⟩
    refine ⟨_, _, rfl, rfl, ?_⟩
    replace K0 := K0.t0 K27
    replace H0 := H0.keep K27 (fun h => h)
    replace hE := Ents.keep0 hE K27
    clear K27
    refine og 4 [(0, (ptr g)), (1, (i64 n)), (2, (i64 ((m : Nat) : Int))), (6, (Value.slice none 0 0)), (29, (agg [(i64 0), (Value.slice none 0 0)])), (30, (Value.bool false))] 7 ?_
    refine Ops.new (o := rowL [(i64 0), (Value.slice none 0 0)] 88) (V := fun b => (ptr b)) (by kernel_rfl) (d := (some 7)) (by kernel_rfl) (fun b => rfl) (fun b29 w30 hb31 H32 K33 hs34 => ?_)
    have lb29g : g < b29 := by have := H0.lt; omega
    have nb29 : w.heap.size ≤ b29 := by have := K0.size; omega
    have ot35 : ∀ i, T i → i ≠ b29 := fun i hi => by have := Ents.lt hE i hi; omega
    replace K0 := K0.t0 K33
    replace H0 := H0.keep K33 (fun h => h)
    replace hE := Ents.keep0 hE K33
    clear K33 hs34
    refine Ops.put (t := 88) (b := b29) (off := 0) (v := (agg [(i64 0), (Value.slice none 0 0)])) (ys := [(i64 0), (Value.slice none 0 0)]) (by kernel_rfl) (by kernel_rfl) H32 (by kernel_rfl) (d := none) (by kernel_rfl) rfl (fun w36 H37 K38 => ?_)
    clear H32
    replace K0 := K0.trans K38 (U := none_) (fun i h1 h2 => h2) (fun i h1 h2 => by have h2 : i = b29 := h2; exfalso; omega)
    replace H0 := H0.keep K38 (by intro h; change g = b29 at h; omega)
    replace hE := Ents.keep hE K38 (fun i hi hs => by have hs : i = b29 := hs; have := ot35 i hi; omega)
    clear K38
    refine og 1 [(0, (ptr g)), (1, (i64 n)), (2, (i64 ((m : Nat) : Int))), (6, (Value.slice none 0 0)), (8, (Value.bool false))] 10 ?_
    refine od ?_
    refine qs ?_
    refine qg ?_
    refine og 2 [(0, (ptr g)), (1, (i64 n)), (2, (i64 ((m : Nat) : Int))), (6, (Value.slice none 0 0)), (32, (Value.bool true))] 2 ?_
    refine od ?_
    refine q_then (o := .tmp 32) (by kernel_rfl) rfl ?_
    refine qs ?_
    refine qg ?_
    refine og 1 [(0, (ptr g)), (1, (i64 n)), (2, (i64 ((m : Nat) : Int))), (6, (Value.slice none 0 0))] 1 ?_
    refine od ?_
    refine q_ret (by kernel_rfl) ?_
    refine ⟨(Value.slice none 0 0), retv_tmp rfl rfl, ?_⟩
    have e : partK base (l.map EntP.key) n (m : Int) = [] := partK_none (by omega)
    exact ⟨[], none, 0, rfl, K0, (Ents.nil _).mono (fun _ h => h.elim) (fun _ h => h.2), by rw [e]; rfl⟩
   ·skip
    refine Ops.call (by kernel_rfl) (d := (some 27)) (by kernel_rfl) (at_gone _ T g base old A c l n H0 hE hT (by omega) (by omega) q9) ?_
    rintro _ w40 ⟨rfl, K39⟩
    refine ⟨_, _, rfl, rfl, ?_⟩
    replace K0 := K0.t0 K39
    replace H0 := H0.keep K39 (fun h => h)
    replace hE := Ents.keep0 hE K39
    clear K39
    refine og 4 [(0, (ptr g)), (1, (i64 n)), (2, (i64 ((m : Nat) : Int))), (6, (Value.slice none 0 0)), (29, (agg [(i64 0), (Value.slice none 0 0)])), (30, (Value.bool false))] 7 ?_
    refine Ops.new (o := rowL [(i64 0), (Value.slice none 0 0)] 88) (V := fun b => (ptr b)) (by kernel_rfl) (d := (some 7)) (by kernel_rfl) (fun b => rfl) (fun b41 w42 hb43 H44 K45 hs46 => ?_)
    have lb41g : g < b41 := by have := H0.lt; omega
    have nb41 : w.heap.size ≤ b41 := by have := K0.size; omega
    have ot47 : ∀ i, T i → i ≠ b41 := fun i hi => by have := Ents.lt hE i hi; omega
    replace K0 := K0.t0 K45
    replace H0 := H0.keep K45 (fun h => h)
    replace hE := Ents.keep0 hE K45
    clear K45 hs46
    refine Ops.put (t := 88) (b := b41) (off := 0) (v := (agg [(i64 0), (Value.slice none 0 0)])) (ys := [(i64 0), (Value.slice none 0 0)]) (by kernel_rfl) (by kernel_rfl) H44 (by kernel_rfl) (d := none) (by kernel_rfl) rfl (fun w48 H49 K50 => ?_)
    clear H44
    replace K0 := K0.trans K50 (U := none_) (fun i h1 h2 => h2) (fun i h1 h2 => by have h2 : i = b41 := h2; exfalso; omega)
    replace H0 := H0.keep K50 (by intro h; change g = b41 at h; omega)
    replace hE := Ents.keep hE K50 (fun i hi hs => by have hs : i = b41 := hs; have := ot47 i hi; omega)
    clear K50
    refine og 1 [(0, (ptr g)), (1, (i64 n)), (2, (i64 ((m : Nat) : Int))), (6, (Value.slice none 0 0)), (8, (Value.bool false))] 10 ?_
    refine od ?_
    refine qs ?_
    refine qg ?_
    refine og 2 [(0, (ptr g)), (1, (i64 n)), (2, (i64 ((m : Nat) : Int))), (6, (Value.slice none 0 0)), (32, (Value.bool true))] 2 ?_
    refine od ?_
    refine q_then (o := .tmp 32) (by kernel_rfl) rfl ?_
    refine qs ?_
    refine qg ?_
    refine og 1 [(0, (ptr g)), (1, (i64 n)), (2, (i64 ((m : Nat) : Int))), (6, (Value.slice none 0 0))] 1 ?_
    refine od ?_
    refine q_ret (by kernel_rfl) ?_
    refine ⟨(Value.slice none 0 0), retv_tmp rfl rfl, ?_⟩
    have e : partK base (l.map EntP.key) n (m : Int) = [] := partK_none (by omega)
    exact ⟨[], none, 0, rfl, K0, (Ents.nil _).mono (fun _ h => h.elim) (fun _ h => h.2), by rw [e]; rfl⟩
   ·skip
    obtain ⟨x13, hx14⟩ : ∃ y, l[k12]? = some y := ⟨_, List.getElem?_eq_getElem q11⟩
    refine Ops.call (by kernel_rfl) (d := (some 27)) (by kernel_rfl) (at_here _ T g base old A c l n k12 x13 H0 hE hT (by omega) (by omega) q10 q11 hx14) ?_
    rintro _ w52 ⟨rfl, K51⟩
    refine ⟨_, _, rfl, rfl, ?_⟩
    replace K0 := K0.t0 K51
    replace H0 := H0.keep K51 (fun h => h)
    replace hE := Ents.keep0 hE K51
    clear K51
    refine og 4 [(0, (ptr g)), (1, (i64 n)), (2, (i64 ((m : Nat) : Int))), (6, (Value.slice none 0 0)), (29, (agg [(i64 x13.term), (Value.slice x13.A x13.cmd.length x13.c)])), (30, (Value.bool true))] 7 ?_
    refine Ops.new (o := rowL [(i64 0), (Value.slice none 0 0)] 88) (V := fun b => (ptr b)) (by kernel_rfl) (d := (some 7)) (by kernel_rfl) (fun b => rfl) (fun b53 w54 hb55 H56 K57 hs58 => ?_)
    have lb53g : g < b53 := by have := H0.lt; omega
    have nb53 : w.heap.size ≤ b53 := by have := K0.size; omega
    have ot59 : ∀ i, T i → i ≠ b53 := fun i hi => by have := Ents.lt hE i hi; omega
    replace K0 := K0.t0 K57
    replace H0 := H0.keep K57 (fun h => h)
    replace hE := Ents.keep0 hE K57
    clear K57 hs58
    refine Ops.put (t := 88) (b := b53) (off := 0) (v := (agg [(i64 x13.term), (Value.slice x13.A x13.cmd.length x13.c)])) (ys := [(i64 x13.term), (Value.slice x13.A x13.cmd.length x13.c)]) (by kernel_rfl) (by kernel_rfl) H56 (by kernel_rfl) (d := none) (by kernel_rfl) rfl (fun w60 H61 K62 => ?_)
    clear H56
    replace K0 := K0.trans K62 (U := none_) (fun i h1 h2 => h2) (fun i h1 h2 => by have h2 : i = b53 := h2; exfalso; omega)
    replace H0 := H0.keep K62 (by intro h; change g = b53 at h; omega)
    replace hE := Ents.keep hE K62 (fun i hi hs => by have hs : i = b53 := hs; have := ot59 i hi; omega)
    clear K62
    refine og 1 [(0, (ptr g)), (1, (i64 n)), (2, (i64 ((m : Nat) : Int))), (6, (Value.slice none 0 0)), (8, (Value.bool true))] 10 ?_
    refine od ?_
    refine qs ?_
    refine qg ?_
    refine og 2 [(0, (ptr g)), (1, (i64 n)), (2, (i64 ((m : Nat) : Int))), (6, (Value.slice none 0 0)), (32, (Value.bool false))] 2 ?_
    refine od ?_
    refine q_else (o := .tmp 32) (by kernel_rfl) rfl ?_
    refine q_skip (by kernel_rfl) ?_
    refine qs ?_
    refine q_draw (fun wz => Keeps none_ w60 wz) 13 (by kernel_rfl) (by kernel_rfl) (by kernel_rfl) (fun w63 K64 _ _ => ⟨K64, ?_⟩)
    replace K0 := K0.t0 K64
    replace H0 := H0.keep K64 (fun h => h)
    replace H61 := H61.keep K64 (fun h => h)
    replace hE := Ents.keep0 hE K64
    refine Dr.strong (S' := (fun wz => Keeps none_ w63 wz)) (Keeps.refl w63) (fun wz hx => K64.trans hx (fun i _ h => h) (fun _ _ h => h)) ?_
    clear K64
    refine Dr.takes (fuel' := 10) (is' := [2, 1, 0]) [0, 1, 2] [(0, (ptr g)), (1, (i64 n)), (2, (i64 ((m : Nat) : Int))), (6, (Value.slice none 0 0)), (35, (Value.pointer (some ⟨g, 2, none⟩)))] (by kernel_rfl) rfl (by kernel_rfl) ?_
    refine Dr.take (i := 3) (v := (Value.slice A l.length c)) (by kernel_rfl) (by kernel_rfl) (fun wz hS => Runs.load (t := 22) (a := ⟨g, 2, none⟩) (by kernel_rfl) ((H0.keep hS (fun h => h)).loads (by kernel_rfl))) (d := (some 36)) (by kernel_rfl) rfl ?_
    refine Dr.takes (fuel' := 5) (is' := [7, 6, 5, 4, 3, 2, 1, 0]) [4, 5, 6, 7] [(2, (i64 ((m : Nat) : Int))), (6, (Value.slice none 0 0)), (36, (Value.slice A l.length c)), (37, (i64 n)), (40, (ptr g))] (by kernel_rfl) rfl (by kernel_rfl) ?_
    refine Dr.take (i := 8) (v := (i64 base)) (by kernel_rfl) (by kernel_rfl) (fun wz hS => Runs.load (t := 2) (a := ⟨g, 0, none⟩) (by kernel_rfl) ((H0.keep hS (fun h => h)).loads (by kernel_rfl))) (d := (some 41)) (by kernel_rfl) rfl ?_
    refine Dr.takes (fuel' := 3) (is' := [9, 8, 7, 6, 5, 4, 3, 2, 1, 0]) [9] [(2, (i64 ((m : Nat) : Int))), (6, (Value.slice none 0 0)), (36, (Value.slice A l.length c)), (42, (i64 (IntKind.i64.wrap (n - base))))] (by kernel_rfl) rfl (by kernel_rfl) ?_
    have e65 : IntKind.i64.wrap (n - base) = ((k12 + 1 : Nat) : Int) := by rw [wrap_i64 (by omega) (by omega)]; omega
    rw [e65]
    refine Dr.takes (fuel' := 2) (is' := [10, 9, 8, 7, 6, 5, 4, 3, 2, 1, 0]) [10] [(2, (i64 ((m : Nat) : Int))), (6, (Value.slice none 0 0)), (36, (Value.slice A l.length c)), (43, (i64 (IntKind.i64.wrap (((k12 + 1 : Nat) : Int) - 1))))] (by kernel_rfl) rfl (by kernel_rfl) ?_
    have e66 : IntKind.i64.wrap (((k12 + 1 : Nat) : Int) - 1) = ((k12 : Nat) : Int) := by rw [wrap_i64 (by omega) (by omega)]; omega
    rw [e66]
    obtain ⟨A72, c73, hr69, hE70⟩ := Ents.cutRun (P := Try.prog) (t := 22) (e := 43) (by kernel_rfl) (by kernel_rfl) hE k12 l.length (kl := .i64) (hi := none) (.inl ⟨rfl, rfl⟩) (by omega) (by omega)
    obtain ⟨l67, hl68⟩ : ∃ z, z = (l.drop k12).take (l.length - k12) := ⟨_, rfl⟩
    rw [← hl68] at hr69 hE70
    have hn71 : l67.length = l.length - k12 := by rw [hl68]; simp only [List.length_take, List.length_drop]; omega
    have hc74 := Ents.len hE70
    refine Dr.take (i := 11) (v := (Value.slice A72 l67.length c73)) (by kernel_rfl) (by kernel_rfl) (fun wz hS => Runs.slice (by kernel_rfl) (hr69 _)) (d := (some 44)) (by kernel_rfl) rfl ?_
    refine Dr.takes (fuel' := 0) (is' := [12, 11, 10, 9, 8, 7, 6, 5, 4, 3, 2, 1, 0]) [12] [(2, (i64 ((m : Nat) : Int))), (6, (Value.slice none 0 0)), (9, (Value.slice A72 l67.length c73))] (by kernel_rfl) rfl (by kernel_rfl) ?_
    refine Dr.done (by kernel_rfl) ?_
    refine qs ?_
    refine qg ?_
    refine og 5 [(6, (Value.slice none 0 0)), (45, (Value.slice A72 l67.length c73)), (49, (i64 (if (((l67.length : Nat) : Int) : Int) < ((m : Nat) : Int) then (((l67.length : Nat) : Int) : Int) else ((m : Nat) : Int))))] 5 ?_
    have e75 : (if (((l67.length : Nat) : Int) : Int) < ((m : Nat) : Int) then (((l67.length : Nat) : Int) : Int) else ((m : Nat) : Int)) = ((min m l67.length : Nat) : Int) := by split <;> omega
    rw [e75]
    clear e75
    obtain ⟨hr78, hE79⟩ := Ents.headRun (P := Try.prog) (t := 22) (e := 43) (by kernel_rfl) (by kernel_rfl) hE70 (min m l67.length) c73 (kh := .i64) (mx := none) (.inl ⟨rfl, rfl⟩) (by omega) (by omega) (by omega)
    obtain ⟨l76, hl77⟩ : ∃ z, z = l67.take (min m l67.length) := ⟨_, rfl⟩
    rw [← hl77] at hr78 hE79
    have hn80 : l76.length = min m l67.length := by rw [hl77]; simp only [List.length_take]; omega
    have hc81 := Ents.len hE79
    refine Ops.go (v := (Value.slice A72 l76.length c73)) (by kernel_rfl) (Runs.slice (by kernel_rfl) (hr78 _)) (d := (some 50)) (by kernel_rfl) rfl ?_
    refine Ops.call (by kernel_rfl) (d := (some 51)) (by kernel_rfl) (own_calls _ T A72 c73 l76 hE79 (BigK.l (BigK.take hl77 (BigK.cut hl68 hBig))) (by omega)) ?_
    rintro _ w85 ⟨l82, A83, c84, rfl, K86, hE87, hK88⟩
    have ot89 : ∀ i, (fun i => w63.heap.size ≤ i ∧ i < w85.heap.size) i → i ≠ g := fun i hi => by have := hi.1; have := H0.lt; omega
    have ot90 : ∀ i, (fun i => w63.heap.size ≤ i ∧ i < w85.heap.size) i → i ≠ b53 := fun i hi => by have := hi.1; have := H61.lt; omega
    have hz91 := K0.size
    have hn92 := keys_len2 hK88
    try rw [List.length_drop] at hn92
    try rw [List.length_append] at hn92
    try rw [List.length_map] at hn92
    try rw [List.length_map] at hn92
    refine ⟨_, _, rfl, rfl, ?_⟩
    replace K0 := K0.t0 K86
    replace H0 := H0.keep K86 (fun h => h)
    replace H61 := H61.keep K86 (fun h => h)
    replace hE := Ents.keep0 hE K86
    replace hE70 := Ents.keep0 hE70 K86
    replace hE79 := Ents.keep0 hE79 K86
    clear K86
    refine og 1 [(6, (Value.slice A83 l82.length c84))] 8 ?_
    refine od ?_
    refine q_ret (by kernel_rfl) ?_
    refine ⟨(Value.slice A83 l82.length c84), retv_tmp rfl rfl, ?_⟩
    have e := partK_here (l := l) (m := m) q10 (by omega) (by omega) hl68 hl77
    exact ⟨l82, A83, c84, rfl, K0, (hE87).mono (fun i hi => ⟨by have := hi.1; omega, Ents.lt hE87 i hi⟩) (fun i hi => hi.2), by rw [hK88, e]⟩
end Go.Proofs.Ytnmpepjikfbpdaa
namespace Go.Q
open Go.RowKit
theorem termK_last (base old : Int) (ks : Ks) (t : Int) (c : List UInt8) : termK base old (ks ++ [(t, c)]) (base + ((ks ++ [(t, c)]).length : Nat)) = (t, 0) := by
  unfold termK
  rw [List.length_append, List.length_singleton, if_neg (by omega), if_neg (by omega)]
  have e : (base + ((ks.length + 1 : Nat) : Int) - base - 1).toNat = ks.length := by omega
  rw [e]
  simp [List.getD]
theorem lastK_app (base old : Int) (ks : Ks) (t : Int) (c : List UInt8) : lastK base old (ks ++ [(t, c)]) = t := by unfold lastK; rw [termK_last]
theorem appE_one {base old : Int} {ks : Ks} {t : Int} {c : List UInt8} (hl : ks.length + 1 ≤ 4096) (h1 : lastK base old ks ≤ t) (h2 : 1 ≤ t) (h3 : t ≤ 1152921504606846976) : appE base old ks [(t, c)] = 0 := by
  unfold appE
  rw [List.length_singleton, if_neg (by omega), if_pos]
  unfold risingK
  rw [if_neg (by show ¬ (t < max (lastK base old ks) 1 ∨ 1152921504606846976 < t); omega)]
  rfl
theorem agC_app {base old t commit : Int} {ks : Ks} {c : List UInt8} (h : commit ≤ base + ks.length) : agC base old t commit (ks ++ [(t, c)]) = base + ks.length + 1 := by
  unfold agC
  rw [lastK_app, List.length_append, List.length_singleton, if_pos ⟨by omega, rfl⟩]
  omega
theorem partK_app {base : Int} {ks : Ks} {t : Int} {c : List UInt8} : partK base (ks ++ [(t, c)]) (base + ((ks ++ [(t, c)]).length : Nat)) 1 = [(t, c)] := by
  unfold partK
  rw [List.length_append, List.length_singleton, if_neg (by omega)]
  have e : (base + ((ks.length + 1 : Nat) : Int) - base - 1).toNat = ks.length := by omega
  rw [e, List.drop_left]
  rfl
theorem rising_last : ∀ {ks : Ks} {t : Int}, 0 ≤ t → risingK t ks = true → ∀ x ∈ ks, 0 ≤ x.1
  | [], _, _, _, x, hx => by cases hx
  | y :: l, t, h0, h, x, hx => by
    unfold risingK at h
    split at h
    · cases h
    · next hn =>
      have hy : 0 ≤ y.1 := by omega
      rcases List.mem_cons.1 hx with rfl | hx
      · exact hy
      · exact rising_last hy h x hx
theorem lastK_nonneg {base old : Int} {ks : Ks} (h0 : 0 ≤ old) (h : risingK old ks = true) : 0 ≤ lastK base old ks := by
  unfold lastK termK
  rw [if_neg (by omega)]
  split
  · exact h0
  · next hn =>
    have e : (base + (ks.length : Nat) - base - 1).toNat = ks.length - 1 := by omega
    rw [e]
    have hl : 0 < ks.length := by omega
    show 0 ≤ (ks.getD (ks.length - 1) (0, [])).1
    rw [List.getD_eq_getElem?_getD, List.getElem?_eq_getElem (by omega)]
    exact rising_last h0 h _ (List.getElem_mem _)
theorem one_key {l : List EntP} {t : Int} {c : List UInt8} (h : l.map EntP.key = [(t, c)]) : ∃ y, l = [y] ∧ y.term = t ∧ y.cmd = c := by
  match l, h with
  | [y], h =>
    have h := (List.cons.inj h).1
    exact ⟨y, rfl, congrArg Prod.fst h, congrArg Prod.snd h⟩
theorem bv_ne {xs : List UInt8} (h : xs ≠ []) : bv xs ≠ [] := fun q => h (by cases xs with | nil => rfl | cons x l => cases q)
end Go.Q
namespace Go.Q
open Go.RowKit

def le4 (a b c d : Nat) : Nat := (((0 ||| a * 1) ||| b * 256) ||| c * 65536) ||| d * 16777216
theorem or_add {k A x : Nat} (h : A < 2 ^ k) : A ||| x * 2 ^ k = A + x * 2 ^ k := by
  have := Nat.two_pow_add_eq_or_of_lt h x
  rw [Nat.or_comm, Nat.mul_comm x, ← this, Nat.add_comm]
theorem le4_eq {a b c d : Nat} (ha : a < 256) (hb : b < 256) (hc : c < 256) (hd : d < 256) : le4 a b c d = a + b * 256 + c * 65536 + d * 16777216 := by
  unfold le4
  have h1 : (0 ||| a * 1) = a := by simp
  have h2 : a ||| b * 256 = a + b * 256 := or_add (k := 8) (by omega)
  have h3 : (a + b * 256) ||| c * 65536 = a + b * 256 + c * 65536 := or_add (k := 16) (by omega)
  have h4 : (a + b * 256 + c * 65536) ||| d * 16777216 = a + b * 256 + c * 65536 + d * 16777216 := or_add (k := 24) (by omega)
  rw [h1, h2, h3, h4]
def byteN (bs : List UInt8) (k : Nat) : Nat := (bs.getD k 0).toNat
/-- The first frame of bytes: what is in it, how many bytes it has, the error. -/
def cutB (bs : List UInt8) : List UInt8 × Nat × Int :=
  if (scanB bs).2.2 ≠ 0 then ([], 0, (scanB bs).2.2)
  else if 65536 < (scanB bs).1 then ([], 0, 3)
  else if bs.length < (scanB bs).2.1 + 4 + (scanB bs).1 then ([], 0, 10)
  else if le4 (byteN bs (scanB bs).2.1) (byteN bs ((scanB bs).2.1 + 1)) (byteN bs ((scanB bs).2.1 + 2)) (byteN bs ((scanB bs).2.1 + 3)) ≠ crcMore 0 ((bs.drop ((scanB bs).2.1 + 4)).take (scanB bs).1) then ([], (scanB bs).2.1 + 4 + (scanB bs).1, 12)
  else ((bs.drop ((scanB bs).2.1 + 4)).take (scanB bs).1, (scanB bs).2.1 + 4 + (scanB bs).1, 0)
def unframeB (bs : List UInt8) : List UInt8 × Int :=
  if 0 < (cutB bs).2.1 ∧ (cutB bs).2.1 < bs.length then ([], 11)
  else if (cutB bs).2.2 ≠ 0 then ([], (cutB bs).2.2)
  else ((cutB bs).1, 0)
theorem frame_scan (p rest : List UInt8) (hp : p.length ≤ 65536) : scanB (frameB p ++ rest) = (p.length, (uv p.length).length, 0) := by
  unfold frameB
  rw [List.append_assoc]
  exact scanB_uv _ (by omega)
theorem frame_len (p : List UInt8) : (frameB p).length = (uv p.length).length + 4 + p.length := by
  unfold frameB fourB
  simp only [List.length_append, List.length_cons, List.length_nil]
  omega
theorem frame_cut {p rest : List UInt8} (hp : p.length ≤ 65536) : cutB (frameB p ++ rest) = (p, (uv p.length).length + 4 + p.length, 0) := by
  have hs := frame_scan p rest hp
  have hl := frame_len p
  have hd : (frameB p ++ rest).drop ((uv p.length).length + 4) = p ++ rest := by
    unfold frameB fourB
    simp only [List.append_assoc]
    rw [← List.drop_drop, List.drop_left]
    rfl
  have hb : ∀ j, j < 4 → byteN (frameB p ++ rest) ((uv p.length).length + j) = byteN (fourB (crcMore 0 p)) j := by
    intro j hj
    unfold byteN frameB
    rw [List.getD_eq_getElem?_getD, List.getD_eq_getElem?_getD, List.append_assoc, List.getElem?_append_right (by omega), Nat.add_sub_cancel_left, List.append_assoc, List.getElem?_append_left (by unfold fourB; simpa using hj)]
  have hc := crcMore_lt p (s := 0) (by omega)
  unfold cutB
  rw [hs, if_neg (by simp), if_neg (by simp only; omega), if_neg (by simp only [List.length_append]; omega)]
  simp only [hd, List.take_left]
  have h0 := hb 0 (by omega)
  rw [Nat.add_zero] at h0
  rw [h0, hb 1 (by omega), hb 2 (by omega), hb 3 (by omega)]
  have hle : le4 (byteN (fourB (crcMore 0 p)) 0) (byteN (fourB (crcMore 0 p)) 1) (byteN (fourB (crcMore 0 p)) 2) (byteN (fourB (crcMore 0 p)) 3) = crcMore 0 p := by
    have b0 : byteN (fourB (crcMore 0 p)) 0 = crcMore 0 p % 256 := by unfold byteN fourB; simp
    have b1 : byteN (fourB (crcMore 0 p)) 1 = crcMore 0 p / 256 % 256 := by unfold byteN fourB; simp
    have b2 : byteN (fourB (crcMore 0 p)) 2 = crcMore 0 p / 65536 % 256 := by unfold byteN fourB; simp; omega
    have b3 : byteN (fourB (crcMore 0 p)) 3 = crcMore 0 p / 16777216 % 256 := by unfold byteN fourB; simp; omega
    rw [b0, b1, b2, b3, le4_eq (by omega) (by omega) (by omega) (by omega)]
    omega
  rw [hle, if_neg (by simp)]
theorem unframe_short {p : List UInt8} {k : Nat} (hp : p.length ≤ 65536) (hk : k < (frameB p).length) : unframeB ((frameB p).take k) = ([], 10) := by
  have hl := frame_len p
  have hc : cutB ((frameB p).take k) = ([], 0, 10) := by
    rcases Nat.lt_or_ge k (uv p.length).length with h | h
    · have e : (frameB p).take k = (uv p.length).take k := by
        unfold frameB
        rw [List.take_append_of_le_length (by omega)]
      have hs := scanA_short p.length k 0 0 h (.inl rfl) (by rw [show p7 0 = 1 from rfl]; omega) (by omega)
      unfold cutB
      rw [e]
      have : (scanB ((uv p.length).take k)).2.2 = 10 := by show (scanA ((uv p.length).take k) 0 0).2.2 = 10; rw [hs]
      rw [if_pos (by omega), this]
    · have e : (frameB p).take k = uv p.length ++ ((fourB (crcMore 0 p) ++ p).take (k - (uv p.length).length)) := by
        unfold frameB
        rw [List.take_append, List.take_of_length_le h]
      have hs := scanB_uv (m := p.length) ((fourB (crcMore 0 p) ++ p).take (k - (uv p.length).length)) (by omega)
      have hlen : ((frameB p).take k).length = k := by rw [List.length_take]; omega
      unfold cutB
      rw [hlen, e, hs, if_neg (by simp), if_neg (by simp only; omega), if_pos (by simp only; omega)]
  unfold unframeB
  rw [hc, if_neg (by simp), if_pos (by simp)]
end Go.Q
namespace Go.Q
open Go.RowKit

/-- The frames that bytes begin with, at most N of them. -/
def framesN : Nat → List UInt8 → List (List UInt8)
  | 0, _ => []
  | N + 1, bs => if bs.length = 0 ∨ (cutB bs).2.2 ≠ 0 then [] else (cutB bs).1 :: framesN N (bs.drop (cutB bs).2.1)
def framesB (bs : List UInt8) : List (List UInt8) := framesN bs.length bs
theorem cut_pos {bs : List UInt8} (h : (cutB bs).2.2 = 0) : 4 ≤ (cutB bs).2.1 ∧ (cutB bs).2.1 ≤ bs.length := by
  unfold cutB at h ⊢
  by_cases h1 : (scanB bs).2.2 ≠ 0
  · rw [if_pos h1] at h; exact absurd h h1
  · rw [if_neg h1] at h ⊢
    by_cases h2 : 65536 < (scanB bs).1
    · rw [if_pos h2] at h; cases h
    · rw [if_neg h2] at h ⊢
      by_cases h3 : bs.length < (scanB bs).2.1 + 4 + (scanB bs).1
      · rw [if_pos h3] at h; cases h
      · rw [if_neg h3] at h ⊢
        split at h
        · cases h
        · rename_i h4
          rw [if_neg h4]
          simp only
          omega
theorem framesN_more : ∀ (N M : Nat) (bs : List UInt8), bs.length ≤ N → bs.length ≤ M → framesN N bs = framesN M bs
  | 0, 0, bs, _, _ => rfl
  | 0, M + 1, bs, h, _ => by unfold framesN; rw [if_pos (.inl (by omega))]
  | N + 1, 0, bs, _, h => by unfold framesN; rw [if_pos (.inl (by omega))]
  | N + 1, M + 1, bs, h1, h2 => by
    unfold framesN
    split
    · rfl
    · rename_i hc
      have hp := cut_pos (bs := bs) (Classical.byContradiction fun q => hc (.inr q))
      rw [framesN_more N M _ (by rw [List.length_drop]; omega) (by rw [List.length_drop]; omega)]
theorem frames_nil {bs : List UInt8} (h : bs.length = 0 ∨ (cutB bs).2.2 ≠ 0) : framesB bs = [] := by
  unfold framesB
  cases bs.length with
  | zero => rfl
  | succ N => unfold framesN; rw [if_pos h]
theorem frames_cons {bs : List UInt8} (h : bs.length ≠ 0) (h2 : (cutB bs).2.2 = 0) : framesB bs = (cutB bs).1 :: framesB (bs.drop (cutB bs).2.1) := by
  have hp := cut_pos h2
  unfold framesB
  cases hl : bs.length with
  | zero => exact absurd hl h
  | succ N =>
    rw [framesN, if_neg (by rw [hl]; simp [h2])]
    rw [framesN_more N (bs.drop (cutB bs).2.1).length _ (by rw [List.length_drop]; omega) (Nat.le_refl _)]
theorem cut_short {p : List UInt8} {k : Nat} (hp : p.length ≤ 65536) (hk : k < (frameB p).length) : (cutB ((frameB p).take k)).2.2 ≠ 0 := by
  intro h
  have hu := unframe_short hp hk
  unfold unframeB at hu
  split at hu
  · have := congrArg Prod.snd hu; simp at this
  · rw [if_neg (by rw [h]; simp)] at hu
    have := congrArg Prod.snd hu; simp at this
/-- How many of the texts' frames end at or ahead of 'cut'. -/
def fitN : List (List UInt8) → Nat → Nat
  | [], _ => 0
  | p :: l, cut => if (frameB p).length ≤ cut then fitN l (cut - (frameB p).length) + 1 else 0
theorem frames_take : ∀ (l : List (List UInt8)) (cut : Nat), (∀ p ∈ l, p.length ≤ 65536) → framesB ((l.flatMap frameB).take cut) = l.take (fitN l cut)
  | [], cut, h => by rw [frames_nil (.inl (by simp))]; rfl
  | p :: l, cut, h => by
    have hp := h p (by simp)
    have hl := frame_len p
    rw [List.flatMap_cons]
    unfold fitN
    by_cases hc : (frameB p).length ≤ cut
    · rw [if_pos hc, List.take_append, List.take_of_length_le hc]
      have hf := frame_cut (rest := (l.flatMap frameB).take (cut - (frameB p).length)) hp
      have hn : (frameB p ++ (l.flatMap frameB).take (cut - (frameB p).length)).length ≠ 0 := by rw [List.length_append]; omega
      rw [frames_cons hn (by rw [hf]), hf]
      simp only
      rw [← hl, List.drop_left, frames_take l _ (fun q hq => h q (by simp [hq])), List.take_succ_cons]
    · rw [if_neg hc, List.take_append_of_le_length (by omega), frames_nil (.inr (cut_short hp (by omega)))]
      rfl
end Go.Q
namespace Go.Q
open Go.ChangeShapes Go.WideShapes Go.ChangeAt Go.RowKit Go.Deep

/-- A part: its bytes, and where they stand. -/
structure PartP where
  A : Option Addr
  c : Nat
  data : List UInt8
def PartP.cells (x : PartP) : List Value := [.slice x.A x.data.length x.c]
theorem PartP.two (x : PartP) : x.cells.length = 1 := rfl
theorem PartP.one (x : PartP) : oneCells x.cells = true := rfl
abbrev RdP (w : World) (v : Value) (l : List PartP) : Prop := RdT w 1 PartP.cells v l
def PartsIn (w : World) (l : List PartP) : Prop := ∀ x ∈ l, RdB w (.slice x.A x.data.length x.c) x.data
theorem PartsIn.keep {w w' : World} {l : List PartP} (h : PartsIn w l) (K : Keeps none_ w w') : PartsIn w' l := fun x hx => (h x hx).keep0 (by omega) K
/-- The parts' bytes are one's own. -/
def PartsOwn (e : Nat) (w : World) (base : Nat) (l : List PartP) : Prop := ∀ x ∈ l, OwnB w base e (.slice x.A x.data.length x.c) x.data
theorem PartsOwn.ins {e base : Nat} {w : World} {l : List PartP} (h : PartsOwn e w base l) : PartsIn w l := fun x hx => OwnB.rd (h x hx)
theorem PartsOwn.nil (e : Nat) (w : World) (base : Nat) : PartsOwn e w base [] := fun x hx => by cases hx
theorem PartsOwn.keep {e base : Nat} {w w' : World} {l : List PartP} (h : PartsOwn e w base l) (K : Keeps none_ w w') : PartsOwn e w' base l := fun x hx => own_keep0 (h x hx) K
theorem PartsOwn.add {e base : Nat} {w : World} {l : List PartP} {x : PartP} (h : PartsOwn e w base l) (hx : OwnB w base e (.slice x.A x.data.length x.c) x.data) : PartsOwn e w base (l ++ [x]) := fun y hy => by
  rcases List.mem_append.1 hy with hy | hy
  · exact h y hy
  · rw [List.mem_singleton] at hy; subst hy; exact hx
/-- Rows of other types are other rows. -/
theorem own_types {w : World} {b1 b2 e1 e2 s1 s2 n1 n2 : Nat} {v1 v2 : Value} {xs1 xs2 : List Value} (h1 : w.ownsRow b1 e1 s1 v1 n1 xs1) (h2 : w.ownsRow b2 e2 s2 v2 n2 xs2) (he : e1 ≠ e2) : ∀ i, v1.ownBlock = some i → v2.ownBlock = some i → False := by
  intro i hi1 hi2
  obtain ⟨_, h1⟩ := h1
  obtain ⟨_, h2⟩ := h2
  rcases h1 with ⟨rfl, _⟩ | ⟨g1, _, _, rfl, _, g1h, _⟩
  · cases hi1
  · rcases h2 with ⟨rfl, _⟩ | ⟨g2, _, _, rfl, _, g2h, _⟩
    · cases hi2
    · obtain rfl : g1 = i := by simpa [Value.ownBlock] using hi1
      obtain rfl : g2 = g1 := by simpa [Value.ownBlock] using hi2
      rw [g1h] at g2h
      simp only [Option.some.injEq, Obj.cells.injEq] at g2h
      exact he g2h.2.1
theorem PartsOwn.apart {e base b2 e2 s2 n2 : Nat} {w : World} {l : List PartP} {v : Value} {xs : List Value} (h : PartsOwn e w base l) (h2 : w.ownsRow b2 e2 s2 v n2 xs) (he : e ≠ e2) :
    ∀ x ∈ l, ∀ i, (Value.slice x.A x.data.length x.c).ownBlock = some i → v.ownBlock = some i → False := fun x hx => own_types (h x hx) h2 he
/-- Numbers as a row of cells. -/
def icell (n : Int) : List Value := [i64 n]
theorem RdT.ldu {α : Type} {f : α → List Value} {P : Program} {t : TypeId} {w : World} {n c k b off : Nat} {A : Option Addr} {l : List α} {x : α} {u : Value} (hf : ∀ x, (f x).length = 1) (h : RdT w 1 f (.slice A n c) l) (ht : isAgg? P t = some false) (hA : A = some ⟨b, off, none⟩) (hx : l[k]? = some x) (hu : (f x)[0]? = some u) :
    Loads P w t ⟨b, off + k, none⟩ u := by
  have := RdT.ldf (o := 0) hf h ht hA hx hu
  rwa [Nat.mul_one, Nat.add_zero] at this
section
variable {H : Type} {enc : TypeId × Value → H} {P : Program} {w : World} {base : Nat} {spare : Nat → Bool} {held : Bool}
theorem open_parts {t e b : TypeId} {v : Value} {d : DataW H} {ps : List MemPlace} (ht : P.underlying t = some (.slice e)) (he : P.underlying e = some (.slice b)) (hC : P.cellsOf e = 1) (hb : P.underlying b = some (.int .u8)) (hbC : P.cellsOf b = 1)
    (hv : Value.okWide P w .any 0 t v) (h : DataW.Trod enc P w base spare held t v d ps) :
    ∃ (l : List PartP) (A : Option Addr) (c : Nat), v = .slice A l.length c ∧ RdP w (.slice A l.length c) l ∧ PartsIn w l := by
  have hf := slice_form ht hv
  obtain ⟨fuel, h⟩ := trod_fuel h hf
  obtain ⟨l, hR, hg, _, A, c, rfl⟩ := open_models PartP.cells (fun x => RdB w (.slice x.A x.data.length x.c) x.data) ht hC (by decide) hf h fun m cs y hl htr => by
    match cs, hl with
    | [c0], _ =>
      have hs := slice_trod he htr
      obtain ⟨bs, hB, _⟩ := open_bytes_in he hb hbC hs htr
      obtain ⟨A, c, rfl⟩ := hB.form
      exact ⟨⟨A, c, bs⟩, hB, rfl⟩
  exact ⟨l, A, c, rfl, hR, hg⟩
end
/-- The frames of the first i parts, one behind the other. -/
def allB (l : List PartP) (i : Nat) : List UInt8 := ((l.map PartP.data).take i).flatMap frameB
/-- Where they end. -/
def endsI (l : List PartP) (i : Nat) : List Int := (List.range i).map fun j => (((allB l (j + 1)).length : Nat) : Int)
theorem fit_le : ∀ (l : List (List UInt8)) (cut : Nat), fitN l cut ≤ l.length
  | [], _ => Nat.le_refl _
  | p :: l, cut => by
    unfold fitN
    split
    · have := fit_le l (cut - (frameB p).length); rw [List.length_cons]; omega
    · exact Nat.zero_le _
theorem fit_end : ∀ (l : List (List UInt8)) (cut k : Nat), k < fitN l cut → ((l.take (k + 1)).flatMap frameB).length ≤ cut
  | [], _, k, h => by cases h
  | p :: l, cut, k, h => by
    unfold fitN at h
    split at h
    · rename_i hc
      rw [List.take_succ_cons, List.flatMap_cons, List.length_append]
      cases k with
      | zero => rw [List.take_zero]; simpa using hc
      | succ k => have := fit_end l (cut - (frameB p).length) k (by omega); omega
    · cases h
theorem fit_stop : ∀ (l : List (List UInt8)) (cut : Nat), fitN l cut < l.length → cut < ((l.take (fitN l cut + 1)).flatMap frameB).length
  | [], _, h => by cases h
  | p :: l, cut, h => by
    unfold fitN at h ⊢
    split
    · rename_i hc
      rw [if_pos hc, List.length_cons] at h
      have := fit_stop l (cut - (frameB p).length) (by omega)
      rw [List.take_succ_cons, List.flatMap_cons, List.length_append]
      omega
    · rename_i hc
      rw [List.take_succ_cons, List.flatMap_cons, List.length_append]
      omega
/-- How many of the first i parts' frames are told where their bytes are cut, and what is known of them. -/
theorem told {l : List PartP} {i k : Nat} (hi : i ≤ l.length) (hs : ∀ x ∈ l.take i, x.data.length ≤ 65536) :
    (framesB ((allB l i).take k)).length ≤ i ∧ (∀ j, j < (framesB ((allB l i).take k)).length → (allB l (j + 1)).length ≤ k ∧ ∀ x, l[j]? = some x → (framesB ((allB l i).take k)).getD j [] = x.data) ∧
      ((framesB ((allB l i).take k)).length < i → k < (allB l ((framesB ((allB l i).take k)).length + 1)).length) := by
  have ht : framesB ((allB l i).take k) = ((l.map PartP.data).take i).take (fitN ((l.map PartP.data).take i) k) := frames_take _ _ fun p hp => by
    rw [← List.map_take] at hp
    obtain ⟨x, hx, rfl⟩ := List.mem_map.1 hp
    exact hs x hx
  have hl : ((l.map PartP.data).take i).length = i := by rw [List.length_take, List.length_map]; omega
  have hf := fit_le ((l.map PartP.data).take i) k
  have hN : (framesB ((allB l i).take k)).length = fitN ((l.map PartP.data).take i) k := by rw [ht, List.length_take]; omega
  have htt : ∀ j, j < i → ((l.map PartP.data).take i).take (j + 1) = (l.map PartP.data).take (j + 1) := fun j hj => by rw [List.take_take]; congr 1; omega
  refine ⟨by omega, fun j hj => ⟨?_, fun x hx => ?_⟩, fun h => ?_⟩
  · have := fit_end ((l.map PartP.data).take i) k j (by omega)
    rw [htt j (by omega)] at this
    exact this
  · rw [List.getD_eq_getElem?_getD, ht, List.getElem?_take_of_lt (by omega), List.getElem?_take_of_lt (by omega), List.getElem?_map, hx]
    rfl
  · have := fit_stop ((l.map PartP.data).take i) k (by omega)
    rw [← hN, htt _ h] at this
    exact this
end Go.Q
namespace Go.Proofs.Ytnmpepjikfbpdaa
open Go.Q Go.RowKit

theorem Log_calls (w : World) (r g : Nat) (term voted role leader commit group elapsed timeout : Int) (vv pv : Value) (T : Nat → Prop) (base old : Int) (A : Option Addr) (c : Nat) (l : List EntP) (Hr : Has w r (rowL [(i64 term), (i64 voted), (i64 role), (i64 leader), (i64 commit), (i64 group), (i64 0), (i64 1), (ptr g), (i64 elapsed), (i64 timeout), (Value.slice none 0 0), vv, pv, (Value.pointer none), (Value.pointer none), (Value.bool false), (Value.slice none 0 0)] 84)) (H0 : Has w g (rowL [i64 base, i64 old, .slice A l.length c] 78)) (hE : Ents w T (.slice A l.length c) l) (hT : ∀ i, T i → i ≠ g) (hB : 0 ≤ base ∧ base ≤ 2305843009213693952) (hL : l.length ≤ 4096) (hrg : r ≠ g) (hrT : ∀ i, T i → i ≠ r) (hBig : BigK (l.map EntP.key)) : Calls Try.prog 16 ⟨[(ptr r)]⟩ w (fun e w' => ∃ g l' A' c', e = .returned (ptr g) ∧ w.heap.size ≤ g ∧ Keeps none_ w w' ∧ Has w' g (rowL [i64 base, i64 old, .slice A' l'.length c'] 78) ∧ Ents w' (fun i => (w.heap.size ≤ i ∧ i < w'.heap.size) ∧ i ≠ g) (.slice A' l'.length c') l' ∧ l'.map EntP.key = (l.map EntP.key)) := by
 have hcm := (Ents.len hE).2.2
 unfold maxLen at hcm
 have hcap := Ents.len hE
 have Hg := H0.lt
 have Hrl := Hr.lt
 have K0 : Keeps none_ w w := Keeps.refl w
 refine q_calls Try.func16 (by kernel_rfl) (by kernel_rfl) ?_
 refine qs ?_
 refine qg ?_
 refine og 1 [(0, (ptr r)), (2, (Value.pointer none))] 1 ?_
 refine od ?_
 refine qs ?_
 refine qs ?_
 refine qg ?_
 refine og 2 [(0, (ptr r)), (2, (Value.pointer none)), (4, (Value.bool false))] 2 ?_
 refine od ?_
 refine q_else (o := .tmp 4) (by kernel_rfl) rfl ?_
 refine q_skip (by kernel_rfl) ?_
 refine qs ?_
 refine qg ?_
 refine og 3 [(2, (Value.pointer none)), (7, (Value.pointer (some ⟨r, 8, none⟩)))] 3 ?_
 refine Ops.go (v := (ptr g)) (by kernel_rfl) (Runs.load (t := 24) (a := ⟨r, 8, none⟩) (by kernel_rfl) (Hr.loads (by kernel_rfl))) (d := (some 8)) (by kernel_rfl) rfl ?_
 refine Ops.call (by kernel_rfl) (d := (some 9)) (by kernel_rfl) (Copy_calls _ T g base old A c l H0 hE hT (by omega) (by omega) hBig) ?_
 rintro _ w5 ⟨g1, l2, A3, c4, rfl, hg10, K6, H7, hE8, hK9⟩
 have ot11 : ∀ i, (fun i => (w.heap.size ≤ i ∧ i < w5.heap.size) ∧ i ≠ g1) i → i ≠ g := fun i hi => by have := hi.1.1; have := H0.lt; omega
 have lg1g : g < g1 := by have := H0.lt; omega
 have ot12 : ∀ i, (fun i => (w.heap.size ≤ i ∧ i < w5.heap.size) ∧ i ≠ g1) i → i ≠ r := fun i hi => by have := hi.1.1; have := Hr.lt; omega
 have lg1r : r < g1 := by have := Hr.lt; omega
 have ot13 : ∀ i, T i → i ≠ g1 := fun i hi => by have := Ents.lt hE i hi; omega
 have ot14 : ∀ i, (fun i => (w.heap.size ≤ i ∧ i < w5.heap.size) ∧ i ≠ g1) i → i ≠ g1 := fun i hi => hi.2
 have ng1 : w.heap.size ≤ g1 := by have := K0.size; omega
 have hn15 := keys_len2 hK9
 try rw [List.length_drop] at hn15
 try rw [List.length_append] at hn15
 try rw [List.length_map] at hn15
 try rw [List.length_map] at hn15
 refine ⟨_, _, rfl, rfl, ?_⟩
 replace K0 := K0.t0 K6
 replace H0 := H0.keep K6 (fun h => h)
 replace Hr := Hr.keep K6 (fun h => h)
 replace hE := Ents.keep0 hE K6
 clear K6
 refine og 1 [(2, (ptr g1))] 6 ?_
 refine od ?_
 refine q_ret (by kernel_rfl) ?_
 refine ⟨(ptr g1), retv_tmp rfl rfl, ?_⟩
 exact ⟨g1, l2, A3, c4, rfl, ng1, K0, H7, (hE8).mono (fun i hi => ⟨⟨by have := hi.1; omega, Ents.lt hE8 i hi⟩, ot14 i hi⟩) (fun i hi => hi.1.2), hK9⟩

set_option maxHeartbeats 4000000 in
theorem Alone_calls (w : World) (EA : Option Addr) (ec : Nat) (l : List EntP) (term : Int) (CA : Option Addr) (cc : Nat) (cm : List PartP) (hE : RdE w (.slice EA l.length ec) l) (hI : EntsIn w l) (hBig : BigK (l.map EntP.key)) (hl9 : l.length * 32 ≤ 140737488351232) (hCm : RdP w (.slice CA cm.length cc) cm) (hCi : PartsIn w cm) (ht : -9223372036854775808 ≤ term ∧ term ≤ 9223372036854775807) : Calls Try.prog 3 ⟨[(Value.slice EA l.length ec), (i64 term), (Value.slice CA cm.length cc)]⟩ w (fun e w' => e = .returned (.bool true) ∧ Keeps none_ w w') := by
 have hE0 := Ents.given hE hI
 have hcap := Ents.len hE0
 have hcml := (RdT.len PartP.two (by decide) hCm).2
 unfold maxLen at hcml
 have K0 : Keeps none_ w w := Keeps.refl w
 refine q_calls Try.func3 (by kernel_rfl) (by kernel_rfl) ?_
 refine qs ?_
 refine qg ?_
 refine og 1 [(0, (Value.slice EA l.length ec)), (1, (i64 term)), (2, (Value.slice CA cm.length cc)), (6, (Value.bool false))] 1 ?_
 refine od ?_
 refine qs ?_
 refine qg ?_
 refine og 1 [(0, (Value.slice EA l.length ec)), (1, (i64 term)), (2, (Value.slice CA cm.length cc)), (6, (Value.bool false)), (20, (Value.slice EA l.length ec))] 1 ?_
 by_cases hq1 : newE 0 0 (l.map EntP.key) = 0
 ·skip
  refine Ops.call (by kernel_rfl) (d := (some 21)) (by kernel_rfl) (New_ok _ (fun i => i < w.heap.size) 0 0 EA ec l hE0 hBig hq1) ?_
  rintro _ w6 ⟨g2, l3, A4, c5, rfl, hg11, K7, H8, hE9, hK10⟩
  have ot12 : ∀ i, (fun i => i < w.heap.size) i → i ≠ g2 := fun i hi => by have := Ents.lt hE0 i hi; omega
  have ot13 : ∀ i, (fun i => (w.heap.size ≤ i ∧ i < w6.heap.size) ∧ i ≠ g2) i → i ≠ g2 := fun i hi => hi.2
  have ng2 : w.heap.size ≤ g2 := by have := K0.size; omega
  have hn14 := keys_len2 hK10
  try rw [List.length_drop] at hn14
  try rw [List.length_append] at hn14
  try rw [List.length_map] at hn14
  try rw [List.length_map] at hn14
  refine ⟨_, _, rfl, rfl, ?_⟩
  replace K0 := K0.t0 K7
  replace hE0 := Ents.keep0 hE0 K7
  clear K7
  have hkkl3 := hK10
  refine og 5 [(0, (Value.slice EA l.length ec)), (1, (i64 term)), (2, (Value.slice CA cm.length cc)), (6, (Value.bool false)), (7, (ptr g2)), (8, (i64 0))] 7 ?_
  refine od ?_
  refine qs ?_
  refine qs ?_
  refine qg ?_
  refine og 11 [(0, (Value.slice EA l.length ec)), (1, (i64 term)), (2, (Value.slice CA cm.length cc)), (6, (Value.bool false)), (7, (ptr g2)), (8, (i64 0)), (34, (Value.bool (decide (((l.length : Nat) : Int) > 50))))] 11 ?_
  refine od ?_
  refine q_cond (o := .tmp 34) (b := (decide (((l.length : Nat) : Int) > 50))) (by kernel_rfl) rfl (fun h15 => ?_) (fun h15 => ?_)
  ·rw [h15]
   have p16 : ((l.length : Nat) : Int) > 50 := of_decide_eq_true h15
   refine qs ?_
   refine qg ?_
   refine og 14 [(0, (Value.slice EA l.length ec)), (1, (i64 term)), (2, (Value.slice CA cm.length cc)), (6, (Value.bool false)), (7, (ptr g2)), (44, (Value.bool false)), (48, (Value.bool (decide (((l.length : Nat) : Int) > 50))))] 14 ?_
   rw [h15]
   refine Ops.call (by kernel_rfl) (d := (some 49)) (by kernel_rfl) (known_calls _) ?_
   rintro _ w18 ⟨rfl, K17⟩
   refine ⟨_, _, rfl, rfl, ?_⟩
   replace K0 := K0.t0 K17
   replace H8 := H8.keep K17 (fun h => h)
   replace hE0 := Ents.keep0 hE0 K17
   replace hE9 := Ents.keep0 hE9 K17
   clear K17
   refine og 3 [(0, (Value.slice EA l.length ec)), (1, (i64 term)), (2, (Value.slice CA cm.length cc)), (6, (Value.bool true)), (7, (ptr g2))] 18 ?_
   refine od ?_
   refine q_ret (by kernel_rfl) ?_
   refine ⟨(Value.bool true), retv_tmp rfl rfl, ?_⟩
   exact ⟨rfl, K0⟩
  ·rw [h15]
   have p19 : ¬ (((l.length : Nat) : Int) > 50) := of_decide_eq_false h15
   refine q_skip (by kernel_rfl) ?_
   refine qs ?_
   refine qg ?_
   refine og 2 [(0, (Value.slice EA l.length ec)), (1, (i64 term)), (2, (Value.slice CA cm.length cc)), (6, (Value.bool false)), (53, (i64 term)), (54, (ptr g2))] 2 ?_
   by_cases hq20 : lastK 0 0 (l3.map EntP.key) ≤ term ∧ term ≤ 1152921504606846976
   ·skip
    refine Ops.call (by kernel_rfl) (d := (some 55)) (by kernel_rfl) (RNew_calls _ 0 term (-1) 0 (fun i => (w.heap.size ≤ i ∧ i < w6.heap.size) ∧ i ≠ g2) g2 0 0 A4 c5 l3 H8 hE9 ot13 (by omega) (by omega) (BigK.keys hK10 hBig) (by omega) hq20 (by omega) (by omega)) ?_
    rintro _ w27 ⟨b21, g22, l23, A24, c25, T26, rfl, K28, hn35, hn36, hn37, H29, H30, hM31, hK33, hT34⟩
    have hE32 := hM31.ents
    have hw38 := K0.size
    replace hM31 := hM31.base (bs' := w.heap.size) hw38
    have nb21 : w.heap.size ≤ b21 := by omega
    have ng22 : w.heap.size ≤ g22 := by omega
    have ot39 : ∀ i, T26 i → i ≠ g2 := fun i hi => by have := (hT34 i hi).2.2; have := H8.lt; omega
    have ot40 : ∀ i, ((Value.slice A24 l23.length c25)).ownBlock = some i → i ≠ g2 := fun i hi => ot39 i (hM31.ownT i hi)
    have lb21g2 : g2 < b21 := by have := H8.lt; omega
    have lg22g2 : g2 < g22 := by have := H8.lt; omega
    have ot41 : ∀ i, T26 i → i ≠ b21 := fun i hi => (hT34 i hi).2.1
    have ot42 : ∀ i, ((Value.slice A24 l23.length c25)).ownBlock = some i → i ≠ b21 := fun i hi => ot41 i (hM31.ownT i hi)
    have ot43 : ∀ i, T26 i → i ≠ g22 := fun i hi => (hT34 i hi).1
    have ot44 : ∀ i, ((Value.slice A24 l23.length c25)).ownBlock = some i → i ≠ g22 := fun i hi => ot43 i (hM31.ownT i hi)
    have hl45 : l23.length = l3.length := by have q := congrArg List.length hK33; simpa using q
    refine ⟨_, _, rfl, rfl, ?_⟩
    replace K0 := K0.t0 K28
    replace H8 := H8.keep K28 (fun h => h)
    replace hE0 := Ents.keep0 hE0 K28
    replace hE9 := Ents.keep0 hE9 K28
    clear K28
    have hbigl23 : BigK (l23.map EntP.key) := by rw [hK33]; exact (BigK.keys hK10 hBig)
    have hlk : lastK 0 0 (l23.map EntP.key) ≤ term := by rw [hK33]; exact hq20.1
    have hlk0 : 0 ≤ lastK 0 0 (l23.map EntP.key) := by rw [hK33, hK10]; exact lastK_nonneg (by decide) (newE_ok hq1).2.2
    refine og 5 [(0, (Value.slice EA l.length ec)), (1, (i64 term)), (2, (Value.slice CA cm.length cc)), (6, (Value.bool false)), (9, (ptr b21)), (10, (i64 0))] 8 ?_
    refine od ?_
    refine qs ?_
    refine qs ?_
    refine qg ?_
    refine og 10 [(0, (Value.slice EA l.length ec)), (1, (i64 term)), (2, (Value.slice CA cm.length cc)), (6, (Value.bool false)), (9, (ptr b21)), (10, (i64 0)), (67, (Value.bool (decide (term ≥ 1152921504606846976))))] 10 ?_
    refine od ?_
    refine q_cond (o := .tmp 67) (b := (decide (term ≥ 1152921504606846976))) (by kernel_rfl) rfl (fun h46 => ?_) (fun h46 => ?_)
    ·rw [h46]
     have p47 : term ≥ 1152921504606846976 := of_decide_eq_true h46
     refine qs ?_
     refine qg ?_
     refine og 7 [(0, (Value.slice EA l.length ec)), (1, (i64 term)), (2, (Value.slice CA cm.length cc)), (6, (Value.bool false)), (9, (ptr b21)), (74, (Value.bool (decide (term ≥ 1152921504606846976))))] 7 ?_
     rw [h46]
     refine Ops.call (by kernel_rfl) (d := (some 75)) (by kernel_rfl) (known_calls _) ?_
     rintro _ w49 ⟨rfl, K48⟩
     refine ⟨_, _, rfl, rfl, ?_⟩
     replace K0 := K0.t0 K48
     replace H8 := H8.keep K48 (fun h => h)
     replace H29 := H29.keep K48 (fun h => h)
     replace H30 := H30.keep K48 (fun h => h)
     replace hE0 := Ents.keep0 hE0 K48
     replace hE9 := Ents.keep0 hE9 K48
     replace hE32 := Ents.keep0 hE32 K48
     replace hM31 := LogE.keep0 hM31 K48
     clear K48
     refine og 2 [(0, (Value.slice EA l.length ec)), (1, (i64 term)), (2, (Value.slice CA cm.length cc)), (6, (Value.bool true)), (9, (ptr b21))] 10 ?_
     refine od ?_
     refine q_ret (by kernel_rfl) ?_
     refine ⟨(Value.bool true), retv_tmp rfl rfl, ?_⟩
     exact ⟨rfl, K0⟩
    ·rw [h46]
     have p50 : ¬ (term ≥ 1152921504606846976) := of_decide_eq_false h46
     refine q_skip (by kernel_rfl) ?_
     refine qs ?_
     refine qs ?_
     refine qg ?_
     refine og 1 [(0, (Value.slice EA l.length ec)), (1, (i64 term)), (2, (Value.slice CA cm.length cc)), (6, (Value.bool false)), (9, (ptr b21)), (11, (i64 0))] 1 ?_
     refine od ?_
     refine q_block (id := 0) (by kernel_rfl) ?_
     refine q_roll 11 (by kernel_rfl) ?_
     refine roll_step ?_
     refine qs ?_
     refine qs ?_
     refine qg ?_
     refine og 2 [(0, (Value.slice EA l.length ec)), (1, (i64 term)), (2, (Value.slice CA cm.length cc)), (6, (Value.bool false)), (9, (ptr b21)), (11, (i64 0)), (78, (Value.bool true))] 2 ?_
     refine od ?_
     refine q_then (o := .tmp 78) (by kernel_rfl) rfl ?_
     refine q_skip (by kernel_rfl) ?_
     refine qs ?_
     refine q_block (id := 1) (by kernel_rfl) ?_
     refine qs ?_
     refine qg ?_
     refine og 1 [(0, (Value.slice EA l.length ec)), (1, (i64 term)), (2, (Value.slice CA cm.length cc)), (6, (Value.bool false)), (9, (ptr b21)), (11, (i64 0)), (78, (Value.bool true)), (81, (ptr b21))] 1 ?_
     refine Ops.call (by kernel_rfl) (d := (some 82)) (by kernel_rfl) (Tick_wait _ b21 g22 term (-1) 0 (-1) 0 0 0 10 (Value.map none) (Value.slice none 0 0) H29 (by first | omega | decide) (by first | omega | decide) (by first | omega | decide)) ?_
     rintro _ w52 ⟨rfl, K51, H53⟩
     refine ⟨_, _, rfl, rfl, ?_⟩
     replace K0 := K0.trans K51 (U := none_) (fun i h1 h2 => h2) (fun i h1 h2 => by have h2 : i = b21 := h2; exfalso; omega)
     replace H8 := H8.keep K51 (by intro h; change g2 = b21 at h; omega)
     replace H30 := H30.keep K51 (by intro h; change g22 = b21 at h; omega)
     clear hE0
     clear hE9
     replace hE32 := Ents.keep hE32 K51 (fun i hi hs => by have hs : i = b21 := hs; have := ot41 i hi; omega)
     replace hM31 := LogE.keep hM31 K51 (fun i hi hs => by have hs : i = b21 := hs; have := ot41 i hi; omega)
     clear K51
     refine og 2 [(0, (Value.slice EA l.length ec)), (1, (i64 term)), (2, (Value.slice CA cm.length cc)), (6, (Value.bool false)), (9, (ptr b21)), (11, (i64 0)), (78, (Value.bool true)), (84, (Value.bool false))] 4 ?_
     refine od ?_
     refine q_else (o := .tmp 84) (by kernel_rfl) rfl ?_
     refine q_skip (by kernel_rfl) ?_
     refine qg ?_
     refine og 3 [(0, (Value.slice EA l.length ec)), (1, (i64 term)), (2, (Value.slice CA cm.length cc)), (6, (Value.bool false)), (9, (ptr b21)), (11, (i64 1)), (78, (Value.bool true)), (84, (Value.bool false))] 3 ?_
     refine od ?_
     refine roll_step ?_
     refine qs ?_
     refine qs ?_
     refine qg ?_
     refine og 2 [(0, (Value.slice EA l.length ec)), (1, (i64 term)), (2, (Value.slice CA cm.length cc)), (6, (Value.bool false)), (9, (ptr b21)), (11, (i64 1)), (78, (Value.bool true)), (84, (Value.bool false))] 2 ?_
     refine od ?_
     refine q_then (o := .tmp 78) (by kernel_rfl) rfl ?_
     refine q_skip (by kernel_rfl) ?_
     refine qs ?_
     refine q_block (id := 1) (by kernel_rfl) ?_
     refine qs ?_
     refine qg ?_
     refine og 1 [(0, (Value.slice EA l.length ec)), (1, (i64 term)), (2, (Value.slice CA cm.length cc)), (6, (Value.bool false)), (9, (ptr b21)), (11, (i64 1)), (78, (Value.bool true)), (81, (ptr b21)), (84, (Value.bool false))] 1 ?_
     refine Ops.call (by kernel_rfl) (d := (some 82)) (by kernel_rfl) (Tick_wait _ b21 g22 term (-1) 0 (-1) 0 0 1 10 (Value.map none) (Value.slice none 0 0) H53 (by first | omega | decide) (by first | omega | decide) (by first | omega | decide)) ?_
     rintro _ w55 ⟨rfl, K54, H56⟩
     refine ⟨_, _, rfl, rfl, ?_⟩
     replace K0 := K0.trans K54 (U := none_) (fun i h1 h2 => h2) (fun i h1 h2 => by have h2 : i = b21 := h2; exfalso; omega)
     replace H8 := H8.keep K54 (by intro h; change g2 = b21 at h; omega)
     replace H30 := H30.keep K54 (by intro h; change g22 = b21 at h; omega)
     replace hE32 := Ents.keep hE32 K54 (fun i hi hs => by have hs : i = b21 := hs; have := ot41 i hi; omega)
     replace hM31 := LogE.keep hM31 K54 (fun i hi hs => by have hs : i = b21 := hs; have := ot41 i hi; omega)
     clear K54
     refine og 2 [(0, (Value.slice EA l.length ec)), (1, (i64 term)), (2, (Value.slice CA cm.length cc)), (6, (Value.bool false)), (9, (ptr b21)), (11, (i64 1)), (78, (Value.bool true)), (84, (Value.bool false))] 4 ?_
     refine od ?_
     refine q_else (o := .tmp 84) (by kernel_rfl) rfl ?_
     refine q_skip (by kernel_rfl) ?_
     refine qg ?_
     refine og 3 [(0, (Value.slice EA l.length ec)), (1, (i64 term)), (2, (Value.slice CA cm.length cc)), (6, (Value.bool false)), (9, (ptr b21)), (11, (i64 2)), (78, (Value.bool true)), (84, (Value.bool false))] 3 ?_
     refine od ?_
     refine roll_step ?_
     refine qs ?_
     refine qs ?_
     refine qg ?_
     refine og 2 [(0, (Value.slice EA l.length ec)), (1, (i64 term)), (2, (Value.slice CA cm.length cc)), (6, (Value.bool false)), (9, (ptr b21)), (11, (i64 2)), (78, (Value.bool true)), (84, (Value.bool false))] 2 ?_
     refine od ?_
     refine q_then (o := .tmp 78) (by kernel_rfl) rfl ?_
     refine q_skip (by kernel_rfl) ?_
     refine qs ?_
     refine q_block (id := 1) (by kernel_rfl) ?_
     refine qs ?_
     refine qg ?_
     refine og 1 [(0, (Value.slice EA l.length ec)), (1, (i64 term)), (2, (Value.slice CA cm.length cc)), (6, (Value.bool false)), (9, (ptr b21)), (11, (i64 2)), (78, (Value.bool true)), (81, (ptr b21)), (84, (Value.bool false))] 1 ?_
     refine Ops.call (by kernel_rfl) (d := (some 82)) (by kernel_rfl) (Tick_wait _ b21 g22 term (-1) 0 (-1) 0 0 2 10 (Value.map none) (Value.slice none 0 0) H56 (by first | omega | decide) (by first | omega | decide) (by first | omega | decide)) ?_
     rintro _ w58 ⟨rfl, K57, H59⟩
     refine ⟨_, _, rfl, rfl, ?_⟩
     replace K0 := K0.trans K57 (U := none_) (fun i h1 h2 => h2) (fun i h1 h2 => by have h2 : i = b21 := h2; exfalso; omega)
     replace H8 := H8.keep K57 (by intro h; change g2 = b21 at h; omega)
     replace H30 := H30.keep K57 (by intro h; change g22 = b21 at h; omega)
     replace hE32 := Ents.keep hE32 K57 (fun i hi hs => by have hs : i = b21 := hs; have := ot41 i hi; omega)
     replace hM31 := LogE.keep hM31 K57 (fun i hi hs => by have hs : i = b21 := hs; have := ot41 i hi; omega)
     clear K57
     refine og 2 [(0, (Value.slice EA l.length ec)), (1, (i64 term)), (2, (Value.slice CA cm.length cc)), (6, (Value.bool false)), (9, (ptr b21)), (11, (i64 2)), (78, (Value.bool true)), (84, (Value.bool false))] 4 ?_
     refine od ?_
     refine q_else (o := .tmp 84) (by kernel_rfl) rfl ?_
     refine q_skip (by kernel_rfl) ?_
     refine qg ?_
     refine og 3 [(0, (Value.slice EA l.length ec)), (1, (i64 term)), (2, (Value.slice CA cm.length cc)), (6, (Value.bool false)), (9, (ptr b21)), (11, (i64 3)), (78, (Value.bool true)), (84, (Value.bool false))] 3 ?_
     refine od ?_
     refine roll_step ?_
     refine qs ?_
     refine qs ?_
     refine qg ?_
     refine og 2 [(0, (Value.slice EA l.length ec)), (1, (i64 term)), (2, (Value.slice CA cm.length cc)), (6, (Value.bool false)), (9, (ptr b21)), (11, (i64 3)), (78, (Value.bool true)), (84, (Value.bool false))] 2 ?_
     refine od ?_
     refine q_then (o := .tmp 78) (by kernel_rfl) rfl ?_
     refine q_skip (by kernel_rfl) ?_
     refine qs ?_
     refine q_block (id := 1) (by kernel_rfl) ?_
     refine qs ?_
     refine qg ?_
     refine og 1 [(0, (Value.slice EA l.length ec)), (1, (i64 term)), (2, (Value.slice CA cm.length cc)), (6, (Value.bool false)), (9, (ptr b21)), (11, (i64 3)), (78, (Value.bool true)), (81, (ptr b21)), (84, (Value.bool false))] 1 ?_
     refine Ops.call (by kernel_rfl) (d := (some 82)) (by kernel_rfl) (Tick_wait _ b21 g22 term (-1) 0 (-1) 0 0 3 10 (Value.map none) (Value.slice none 0 0) H59 (by first | omega | decide) (by first | omega | decide) (by first | omega | decide)) ?_
     rintro _ w61 ⟨rfl, K60, H62⟩
     refine ⟨_, _, rfl, rfl, ?_⟩
     replace K0 := K0.trans K60 (U := none_) (fun i h1 h2 => h2) (fun i h1 h2 => by have h2 : i = b21 := h2; exfalso; omega)
     replace H8 := H8.keep K60 (by intro h; change g2 = b21 at h; omega)
     replace H30 := H30.keep K60 (by intro h; change g22 = b21 at h; omega)
     replace hE32 := Ents.keep hE32 K60 (fun i hi hs => by have hs : i = b21 := hs; have := ot41 i hi; omega)
     replace hM31 := LogE.keep hM31 K60 (fun i hi hs => by have hs : i = b21 := hs; have := ot41 i hi; omega)
     clear K60
     refine og 2 [(0, (Value.slice EA l.length ec)), (1, (i64 term)), (2, (Value.slice CA cm.length cc)), (6, (Value.bool false)), (9, (ptr b21)), (11, (i64 3)), (78, (Value.bool true)), (84, (Value.bool false))] 4 ?_
     refine od ?_
     refine q_else (o := .tmp 84) (by kernel_rfl) rfl ?_
     refine q_skip (by kernel_rfl) ?_
     refine qg ?_
     refine og 3 [(0, (Value.slice EA l.length ec)), (1, (i64 term)), (2, (Value.slice CA cm.length cc)), (6, (Value.bool false)), (9, (ptr b21)), (11, (i64 4)), (78, (Value.bool true)), (84, (Value.bool false))] 3 ?_
     refine od ?_
     refine roll_step ?_
     refine qs ?_
     refine qs ?_
     refine qg ?_
     refine og 2 [(0, (Value.slice EA l.length ec)), (1, (i64 term)), (2, (Value.slice CA cm.length cc)), (6, (Value.bool false)), (9, (ptr b21)), (11, (i64 4)), (78, (Value.bool true)), (84, (Value.bool false))] 2 ?_
     refine od ?_
     refine q_then (o := .tmp 78) (by kernel_rfl) rfl ?_
     refine q_skip (by kernel_rfl) ?_
     refine qs ?_
     refine q_block (id := 1) (by kernel_rfl) ?_
     refine qs ?_
     refine qg ?_
     refine og 1 [(0, (Value.slice EA l.length ec)), (1, (i64 term)), (2, (Value.slice CA cm.length cc)), (6, (Value.bool false)), (9, (ptr b21)), (11, (i64 4)), (78, (Value.bool true)), (81, (ptr b21)), (84, (Value.bool false))] 1 ?_
     refine Ops.call (by kernel_rfl) (d := (some 82)) (by kernel_rfl) (Tick_wait _ b21 g22 term (-1) 0 (-1) 0 0 4 10 (Value.map none) (Value.slice none 0 0) H62 (by first | omega | decide) (by first | omega | decide) (by first | omega | decide)) ?_
     rintro _ w64 ⟨rfl, K63, H65⟩
     refine ⟨_, _, rfl, rfl, ?_⟩
     replace K0 := K0.trans K63 (U := none_) (fun i h1 h2 => h2) (fun i h1 h2 => by have h2 : i = b21 := h2; exfalso; omega)
     replace H8 := H8.keep K63 (by intro h; change g2 = b21 at h; omega)
     replace H30 := H30.keep K63 (by intro h; change g22 = b21 at h; omega)
     replace hE32 := Ents.keep hE32 K63 (fun i hi hs => by have hs : i = b21 := hs; have := ot41 i hi; omega)
     replace hM31 := LogE.keep hM31 K63 (fun i hi hs => by have hs : i = b21 := hs; have := ot41 i hi; omega)
     clear K63
     refine og 2 [(0, (Value.slice EA l.length ec)), (1, (i64 term)), (2, (Value.slice CA cm.length cc)), (6, (Value.bool false)), (9, (ptr b21)), (11, (i64 4)), (78, (Value.bool true)), (84, (Value.bool false))] 4 ?_
     refine od ?_
     refine q_else (o := .tmp 84) (by kernel_rfl) rfl ?_
     refine q_skip (by kernel_rfl) ?_
     refine qg ?_
     refine og 3 [(0, (Value.slice EA l.length ec)), (1, (i64 term)), (2, (Value.slice CA cm.length cc)), (6, (Value.bool false)), (9, (ptr b21)), (11, (i64 5)), (78, (Value.bool true)), (84, (Value.bool false))] 3 ?_
     refine od ?_
     refine roll_step ?_
     refine qs ?_
     refine qs ?_
     refine qg ?_
     refine og 2 [(0, (Value.slice EA l.length ec)), (1, (i64 term)), (2, (Value.slice CA cm.length cc)), (6, (Value.bool false)), (9, (ptr b21)), (11, (i64 5)), (78, (Value.bool true)), (84, (Value.bool false))] 2 ?_
     refine od ?_
     refine q_then (o := .tmp 78) (by kernel_rfl) rfl ?_
     refine q_skip (by kernel_rfl) ?_
     refine qs ?_
     refine q_block (id := 1) (by kernel_rfl) ?_
     refine qs ?_
     refine qg ?_
     refine og 1 [(0, (Value.slice EA l.length ec)), (1, (i64 term)), (2, (Value.slice CA cm.length cc)), (6, (Value.bool false)), (9, (ptr b21)), (11, (i64 5)), (78, (Value.bool true)), (81, (ptr b21)), (84, (Value.bool false))] 1 ?_
     refine Ops.call (by kernel_rfl) (d := (some 82)) (by kernel_rfl) (Tick_wait _ b21 g22 term (-1) 0 (-1) 0 0 5 10 (Value.map none) (Value.slice none 0 0) H65 (by first | omega | decide) (by first | omega | decide) (by first | omega | decide)) ?_
     rintro _ w67 ⟨rfl, K66, H68⟩
     refine ⟨_, _, rfl, rfl, ?_⟩
     replace K0 := K0.trans K66 (U := none_) (fun i h1 h2 => h2) (fun i h1 h2 => by have h2 : i = b21 := h2; exfalso; omega)
     replace H8 := H8.keep K66 (by intro h; change g2 = b21 at h; omega)
     replace H30 := H30.keep K66 (by intro h; change g22 = b21 at h; omega)
     replace hE32 := Ents.keep hE32 K66 (fun i hi hs => by have hs : i = b21 := hs; have := ot41 i hi; omega)
     replace hM31 := LogE.keep hM31 K66 (fun i hi hs => by have hs : i = b21 := hs; have := ot41 i hi; omega)
     clear K66
     refine og 2 [(0, (Value.slice EA l.length ec)), (1, (i64 term)), (2, (Value.slice CA cm.length cc)), (6, (Value.bool false)), (9, (ptr b21)), (11, (i64 5)), (78, (Value.bool true)), (84, (Value.bool false))] 4 ?_
     refine od ?_
     refine q_else (o := .tmp 84) (by kernel_rfl) rfl ?_
     refine q_skip (by kernel_rfl) ?_
     refine qg ?_
     refine og 3 [(0, (Value.slice EA l.length ec)), (1, (i64 term)), (2, (Value.slice CA cm.length cc)), (6, (Value.bool false)), (9, (ptr b21)), (11, (i64 6)), (78, (Value.bool true)), (84, (Value.bool false))] 3 ?_
     refine od ?_
     refine roll_step ?_
     refine qs ?_
     refine qs ?_
     refine qg ?_
     refine og 2 [(0, (Value.slice EA l.length ec)), (1, (i64 term)), (2, (Value.slice CA cm.length cc)), (6, (Value.bool false)), (9, (ptr b21)), (11, (i64 6)), (78, (Value.bool true)), (84, (Value.bool false))] 2 ?_
     refine od ?_
     refine q_then (o := .tmp 78) (by kernel_rfl) rfl ?_
     refine q_skip (by kernel_rfl) ?_
     refine qs ?_
     refine q_block (id := 1) (by kernel_rfl) ?_
     refine qs ?_
     refine qg ?_
     refine og 1 [(0, (Value.slice EA l.length ec)), (1, (i64 term)), (2, (Value.slice CA cm.length cc)), (6, (Value.bool false)), (9, (ptr b21)), (11, (i64 6)), (78, (Value.bool true)), (81, (ptr b21)), (84, (Value.bool false))] 1 ?_
     refine Ops.call (by kernel_rfl) (d := (some 82)) (by kernel_rfl) (Tick_wait _ b21 g22 term (-1) 0 (-1) 0 0 6 10 (Value.map none) (Value.slice none 0 0) H68 (by first | omega | decide) (by first | omega | decide) (by first | omega | decide)) ?_
     rintro _ w70 ⟨rfl, K69, H71⟩
     refine ⟨_, _, rfl, rfl, ?_⟩
     replace K0 := K0.trans K69 (U := none_) (fun i h1 h2 => h2) (fun i h1 h2 => by have h2 : i = b21 := h2; exfalso; omega)
     replace H8 := H8.keep K69 (by intro h; change g2 = b21 at h; omega)
     replace H30 := H30.keep K69 (by intro h; change g22 = b21 at h; omega)
     replace hE32 := Ents.keep hE32 K69 (fun i hi hs => by have hs : i = b21 := hs; have := ot41 i hi; omega)
     replace hM31 := LogE.keep hM31 K69 (fun i hi hs => by have hs : i = b21 := hs; have := ot41 i hi; omega)
     clear K69
     refine og 2 [(0, (Value.slice EA l.length ec)), (1, (i64 term)), (2, (Value.slice CA cm.length cc)), (6, (Value.bool false)), (9, (ptr b21)), (11, (i64 6)), (78, (Value.bool true)), (84, (Value.bool false))] 4 ?_
     refine od ?_
     refine q_else (o := .tmp 84) (by kernel_rfl) rfl ?_
     refine q_skip (by kernel_rfl) ?_
     refine qg ?_
     refine og 3 [(0, (Value.slice EA l.length ec)), (1, (i64 term)), (2, (Value.slice CA cm.length cc)), (6, (Value.bool false)), (9, (ptr b21)), (11, (i64 7)), (78, (Value.bool true)), (84, (Value.bool false))] 3 ?_
     refine od ?_
     refine roll_step ?_
     refine qs ?_
     refine qs ?_
     refine qg ?_
     refine og 2 [(0, (Value.slice EA l.length ec)), (1, (i64 term)), (2, (Value.slice CA cm.length cc)), (6, (Value.bool false)), (9, (ptr b21)), (11, (i64 7)), (78, (Value.bool true)), (84, (Value.bool false))] 2 ?_
     refine od ?_
     refine q_then (o := .tmp 78) (by kernel_rfl) rfl ?_
     refine q_skip (by kernel_rfl) ?_
     refine qs ?_
     refine q_block (id := 1) (by kernel_rfl) ?_
     refine qs ?_
     refine qg ?_
     refine og 1 [(0, (Value.slice EA l.length ec)), (1, (i64 term)), (2, (Value.slice CA cm.length cc)), (6, (Value.bool false)), (9, (ptr b21)), (11, (i64 7)), (78, (Value.bool true)), (81, (ptr b21)), (84, (Value.bool false))] 1 ?_
     refine Ops.call (by kernel_rfl) (d := (some 82)) (by kernel_rfl) (Tick_wait _ b21 g22 term (-1) 0 (-1) 0 0 7 10 (Value.map none) (Value.slice none 0 0) H71 (by first | omega | decide) (by first | omega | decide) (by first | omega | decide)) ?_
     rintro _ w73 ⟨rfl, K72, H74⟩
     refine ⟨_, _, rfl, rfl, ?_⟩
     replace K0 := K0.trans K72 (U := none_) (fun i h1 h2 => h2) (fun i h1 h2 => by have h2 : i = b21 := h2; exfalso; omega)
     replace H8 := H8.keep K72 (by intro h; change g2 = b21 at h; omega)
     replace H30 := H30.keep K72 (by intro h; change g22 = b21 at h; omega)
     replace hE32 := Ents.keep hE32 K72 (fun i hi hs => by have hs : i = b21 := hs; have := ot41 i hi; omega)
     replace hM31 := LogE.keep hM31 K72 (fun i hi hs => by have hs : i = b21 := hs; have := ot41 i hi; omega)
     clear K72
     refine og 2 [(0, (Value.slice EA l.length ec)), (1, (i64 term)), (2, (Value.slice CA cm.length cc)), (6, (Value.bool false)), (9, (ptr b21)), (11, (i64 7)), (78, (Value.bool true)), (84, (Value.bool false))] 4 ?_
     refine od ?_
     refine q_else (o := .tmp 84) (by kernel_rfl) rfl ?_
     refine q_skip (by kernel_rfl) ?_
     refine qg ?_
     refine og 3 [(0, (Value.slice EA l.length ec)), (1, (i64 term)), (2, (Value.slice CA cm.length cc)), (6, (Value.bool false)), (9, (ptr b21)), (11, (i64 8)), (78, (Value.bool true)), (84, (Value.bool false))] 3 ?_
     refine od ?_
     refine roll_step ?_
     refine qs ?_
     refine qs ?_
     refine qg ?_
     refine og 2 [(0, (Value.slice EA l.length ec)), (1, (i64 term)), (2, (Value.slice CA cm.length cc)), (6, (Value.bool false)), (9, (ptr b21)), (11, (i64 8)), (78, (Value.bool true)), (84, (Value.bool false))] 2 ?_
     refine od ?_
     refine q_then (o := .tmp 78) (by kernel_rfl) rfl ?_
     refine q_skip (by kernel_rfl) ?_
     refine qs ?_
     refine q_block (id := 1) (by kernel_rfl) ?_
     refine qs ?_
     refine qg ?_
     refine og 1 [(0, (Value.slice EA l.length ec)), (1, (i64 term)), (2, (Value.slice CA cm.length cc)), (6, (Value.bool false)), (9, (ptr b21)), (11, (i64 8)), (78, (Value.bool true)), (81, (ptr b21)), (84, (Value.bool false))] 1 ?_
     refine Ops.call (by kernel_rfl) (d := (some 82)) (by kernel_rfl) (Tick_wait _ b21 g22 term (-1) 0 (-1) 0 0 8 10 (Value.map none) (Value.slice none 0 0) H74 (by first | omega | decide) (by first | omega | decide) (by first | omega | decide)) ?_
     rintro _ w76 ⟨rfl, K75, H77⟩
     refine ⟨_, _, rfl, rfl, ?_⟩
     replace K0 := K0.trans K75 (U := none_) (fun i h1 h2 => h2) (fun i h1 h2 => by have h2 : i = b21 := h2; exfalso; omega)
     replace H8 := H8.keep K75 (by intro h; change g2 = b21 at h; omega)
     replace H30 := H30.keep K75 (by intro h; change g22 = b21 at h; omega)
     replace hE32 := Ents.keep hE32 K75 (fun i hi hs => by have hs : i = b21 := hs; have := ot41 i hi; omega)
     replace hM31 := LogE.keep hM31 K75 (fun i hi hs => by have hs : i = b21 := hs; have := ot41 i hi; omega)
     clear K75
     refine og 2 [(0, (Value.slice EA l.length ec)), (1, (i64 term)), (2, (Value.slice CA cm.length cc)), (6, (Value.bool false)), (9, (ptr b21)), (11, (i64 8)), (78, (Value.bool true)), (84, (Value.bool false))] 4 ?_
     refine od ?_
     refine q_else (o := .tmp 84) (by kernel_rfl) rfl ?_
     refine q_skip (by kernel_rfl) ?_
     refine qg ?_
     refine og 3 [(0, (Value.slice EA l.length ec)), (1, (i64 term)), (2, (Value.slice CA cm.length cc)), (6, (Value.bool false)), (9, (ptr b21)), (11, (i64 9)), (78, (Value.bool true)), (84, (Value.bool false))] 3 ?_
     refine od ?_
     refine roll_step ?_
     refine qs ?_
     refine qs ?_
     refine qg ?_
     refine og 2 [(0, (Value.slice EA l.length ec)), (1, (i64 term)), (2, (Value.slice CA cm.length cc)), (6, (Value.bool false)), (9, (ptr b21)), (11, (i64 9)), (78, (Value.bool true)), (84, (Value.bool false))] 2 ?_
     refine od ?_
     refine q_then (o := .tmp 78) (by kernel_rfl) rfl ?_
     refine q_skip (by kernel_rfl) ?_
     refine qs ?_
     refine q_block (id := 1) (by kernel_rfl) ?_
     refine qs ?_
     refine qg ?_
     refine og 1 [(0, (Value.slice EA l.length ec)), (1, (i64 term)), (2, (Value.slice CA cm.length cc)), (6, (Value.bool false)), (9, (ptr b21)), (11, (i64 9)), (78, (Value.bool true)), (81, (ptr b21)), (84, (Value.bool false))] 1 ?_
     refine Ops.call (by kernel_rfl) (d := (some 82)) (by kernel_rfl) (Tick_lead _ b21 g22 term (-1) 0 (-1) 0 0 9 10 (Value.map none) (Value.slice none 0 0) T26 w.heap.size 0 0 A24 c25 l23 H77 H30 hM31 ot43 (by omega) (by omega) (by omega) ot41 (Nat.le_trans (Nat.le_refl _) K0.size) hbigl23 (by first | omega | decide) (by first | omega | decide) (by first | omega | decide) (appE_one (by rw [List.length_map]; omega) (by omega) (by omega) (by omega)) (by omega) (by first | omega | decide)) ?_
     rintro _ w82 ⟨l78, A79, c80, T81, PA90, pc91, mb92, rfl, K83, H84, H85, hM86, hK88, hT89⟩
     have hE87 := hM86.ents
     have ot93 : ∀ i, T81 i → i ≠ g2 := fun i hi => by rcases (hT89 i hi).2.2 with h | h; (exact ot39 i h); (have := H8.lt; omega)
     have ot94 : ∀ i, ((Value.slice A79 l78.length c80)).ownBlock = some i → i ≠ g2 := fun i hi => ot93 i (hM86.ownT i hi)
     have ot95 : ∀ i, T81 i → i ≠ b21 := fun i hi => (hT89 i hi).2.1
     have ot96 : ∀ i, ((Value.slice A79 l78.length c80)).ownBlock = some i → i ≠ b21 := fun i hi => ot95 i (hM86.ownT i hi)
     have ot97 : ∀ i, T81 i → i ≠ g22 := fun i hi => (hT89 i hi).1
     have ot98 : ∀ i, ((Value.slice A79 l78.length c80)).ownBlock = some i → i ≠ g22 := fun i hi => ot97 i (hM86.ownT i hi)
     have hn99 : l78.length = l23.length + 1 := by have q := congrArg List.length hK88; simpa using q
     refine ⟨_, _, rfl, rfl, ?_⟩
     replace K0 := K0.trans K83 (U := none_) (fun i h1 h2 => h2) (fun i h1 h2 => by have h2 : i = b21 ∨ i = g22 ∨ ((Value.slice A24 l23.length c25)).ownBlock = some i := h2; rcases h2 with h2 | h2 | h2; (exfalso; omega); (exfalso; omega); (exfalso; have := (World.ownsRow.lt hM31.own i h2).1; omega))
     replace H8 := H8.keep K83 (by intro h; change g2 = b21 ∨ g2 = g22 ∨ ((Value.slice A24 l23.length c25)).ownBlock = some g2 at h; rcases h with h | h | h; (omega); (omega); (have := ot40 g2 h; omega))
     clear hE32
     clear hM31
     clear K83
     have hbigl78 : BigK (l78.map EntP.key) := by rw [hK88]; exact BigK.app hbigl23 (fun y hy => by rw [List.mem_singleton] at hy; subst hy; exact Nat.zero_le _)
     refine og 2 [(0, (Value.slice EA l.length ec)), (1, (i64 term)), (2, (Value.slice CA cm.length cc)), (6, (Value.bool false)), (9, (ptr b21)), (11, (i64 9)), (78, (Value.bool true)), (84, (Value.bool false))] 4 ?_
     refine od ?_
     refine q_else (o := .tmp 84) (by kernel_rfl) rfl ?_
     refine q_skip (by kernel_rfl) ?_
     refine qg ?_
     refine og 3 [(0, (Value.slice EA l.length ec)), (1, (i64 term)), (2, (Value.slice CA cm.length cc)), (6, (Value.bool false)), (9, (ptr b21)), (11, (i64 10)), (78, (Value.bool true)), (84, (Value.bool false))] 3 ?_
     refine od ?_
     refine roll_step ?_
     refine qs ?_
     refine qs ?_
     refine qg ?_
     refine og 2 [(0, (Value.slice EA l.length ec)), (1, (i64 term)), (2, (Value.slice CA cm.length cc)), (6, (Value.bool false)), (9, (ptr b21)), (11, (i64 10)), (78, (Value.bool false)), (84, (Value.bool false))] 2 ?_
     refine od ?_
     refine q_else (o := .tmp 78) (by kernel_rfl) rfl ?_
     refine q_exit (id := 0) (by kernel_rfl) ?_
     refine qs ?_
     refine qg ?_
     refine og 1 [(0, (Value.slice EA l.length ec)), (1, (i64 term)), (2, (Value.slice CA cm.length cc)), (6, (Value.bool false)), (9, (ptr b21)), (85, (ptr b21))] 1 ?_
     refine Ops.call (by kernel_rfl) (d := (some 86)) (by kernel_rfl) (Info_calls _ b21 g22 ((term : Int) + 1) 0 2 0 (agC 0 0 ((term : Int) + 1) 0 ((l23.map EntP.key) ++ [(((term : Int) + 1), [])])) 0 0 10 (Value.map (some mb92)) (Value.slice PA90 1 pc91) H84) ?_
     rintro _ w101 ⟨rfl, K100⟩
     refine ⟨_, _, rfl, rfl, ?_⟩
     replace K0 := K0.t0 K100
     replace H8 := H8.keep K100 (fun h => h)
     replace H84 := H84.keep K100 (fun h => h)
     replace H85 := H85.keep K100 (fun h => h)
     replace hE87 := Ents.keep0 hE87 K100
     replace hM86 := LogE.keep0 hM86 K100
     clear K100
     refine Ops.new (o := rowL [(i64 0), (i64 0), (i64 0), (i64 0), (i64 0)] 35) (V := fun b => (ptr b)) (by kernel_rfl) (d := (some 12)) (by kernel_rfl) (fun b => rfl) (fun b102 w103 hb104 H105 K106 hs107 => ?_)
     have lb102g2 : g2 < b102 := by have := H8.lt; omega
     have lb102b21 : b21 < b102 := by have := H84.lt; omega
     have lb102g22 : g22 < b102 := by have := H85.lt; omega
     have nb102 : w.heap.size ≤ b102 := by have := K0.size; omega
     have ot108 : ∀ i, T81 i → i ≠ b102 := fun i hi => by have := Ents.lt hE87 i hi; omega
     have ot109 : ∀ i, ((Value.slice A79 l78.length c80)).ownBlock = some i → i ≠ b102 := fun i hi => ot108 i (hM86.ownT i hi)
     replace K0 := K0.t0 K106
     replace H8 := H8.keep K106 (fun h => h)
     replace H84 := H84.keep K106 (fun h => h)
     replace H85 := H85.keep K106 (fun h => h)
     replace hE87 := Ents.keep0 hE87 K106
     replace hM86 := LogE.keep0 hM86 K106
     clear K106 hs107
     refine Ops.put (t := 35) (b := b102) (off := 0) (v := (agg [(i64 ((term : Int) + 1)), (i64 0), (i64 2), (i64 0), (i64 (agC 0 0 ((term : Int) + 1) 0 ((l23.map EntP.key) ++ [(((term : Int) + 1), [])])))])) (ys := [(i64 ((term : Int) + 1)), (i64 0), (i64 2), (i64 0), (i64 (agC 0 0 ((term : Int) + 1) 0 ((l23.map EntP.key) ++ [(((term : Int) + 1), [])])))]) (by kernel_rfl) (by kernel_rfl) H105 (by kernel_rfl) (d := none) (by kernel_rfl) rfl (fun w110 H111 K112 => ?_)
     clear H105
     replace K0 := K0.trans K112 (U := none_) (fun i h1 h2 => h2) (fun i h1 h2 => by have h2 : i = b102 := h2; exfalso; omega)
     replace H8 := H8.keep K112 (by intro h; change g2 = b102 at h; omega)
     replace H84 := H84.keep K112 (by intro h; change b21 = b102 at h; omega)
     replace H85 := H85.keep K112 (by intro h; change g22 = b102 at h; omega)
     replace hE87 := Ents.keep hE87 K112 (fun i hi hs => by have hs : i = b102 := hs; have := ot108 i hi; omega)
     replace hM86 := LogE.keep hM86 K112 (fun i hi hs => by have hs : i = b102 := hs; have := ot108 i hi; omega)
     clear K112
     refine od ?_
     refine qs ?_
     refine qs ?_
     refine qg ?_
     refine og 1 [(0, (Value.slice EA l.length ec)), (1, (i64 term)), (2, (Value.slice CA cm.length cc)), (6, (Value.bool false)), (9, (ptr b21)), (12, (ptr b102)), (87, (Value.pointer (some ⟨b102, 2, none⟩)))] 1 ?_
     refine Ops.go (v := (i64 2)) (by kernel_rfl) (Runs.load (t := 3) (a := ⟨b102, 2, none⟩) (by kernel_rfl) (H111.loads (by kernel_rfl))) (d := (some 88)) (by kernel_rfl) rfl ?_
     refine og 3 [(0, (Value.slice EA l.length ec)), (1, (i64 term)), (2, (Value.slice CA cm.length cc)), (6, (Value.bool false)), (9, (ptr b21)), (12, (ptr b102)), (90, (Value.bool false)), (91, (ptr b102))] 5 ?_
     refine Ops.go (v := (i64 ((term : Int) + 1))) (by kernel_rfl) (Runs.load (t := 2) (a := ⟨b102, 0, none⟩) (by kernel_rfl) (H111.loads (by kernel_rfl))) (d := (some 92)) (by kernel_rfl) rfl ?_
     refine og 2 [(0, (Value.slice EA l.length ec)), (1, (i64 term)), (2, (Value.slice CA cm.length cc)), (6, (Value.bool false)), (9, (ptr b21)), (12, (ptr b102)), (90, (Value.bool false)), (92, (i64 ((term : Int) + 1))), (94, (i64 (IntKind.i64.wrap (term + 1))))] 8 ?_
     have e113 : IntKind.i64.wrap (term + 1) = term + 1 := wrap_i64 (by omega) (by omega)
     rw [e113]
     refine og 3 [(0, (Value.slice EA l.length ec)), (1, (i64 term)), (2, (Value.slice CA cm.length cc)), (6, (Value.bool false)), (9, (ptr b21)), (12, (ptr b102)), (97, (Value.bool (((term : Int) + 1) != (term + 1))))] 11 ?_
     have h114 : (((term : Int) + 1) != (term + 1)) = false := bne_f (by omega)
     rw [h114]
     refine og 1 [(0, (Value.slice EA l.length ec)), (1, (i64 term)), (2, (Value.slice CA cm.length cc)), (6, (Value.bool false)), (9, (ptr b21)), (12, (ptr b102)), (97, (Value.bool false)), (98, (Value.pointer (some ⟨b102, 3, none⟩)))] 12 ?_
     refine Ops.go (v := (i64 0)) (by kernel_rfl) (Runs.load (t := 3) (a := ⟨b102, 3, none⟩) (by kernel_rfl) (H111.loads (by kernel_rfl))) (d := (some 99)) (by kernel_rfl) rfl ?_
     refine og 4 [(0, (Value.slice EA l.length ec)), (1, (i64 term)), (2, (Value.slice CA cm.length cc)), (6, (Value.bool false)), (9, (ptr b21)), (102, (Value.bool false)), (103, (Value.pointer (some ⟨b102, 4, none⟩)))] 17 ?_
     refine Ops.go (v := (i64 (agC 0 0 ((term : Int) + 1) 0 ((l23.map EntP.key) ++ [(((term : Int) + 1), [])])))) (by kernel_rfl) (Runs.load (t := 2) (a := ⟨b102, 4, none⟩) (by kernel_rfl) (H111.loads (by kernel_rfl))) (d := (some 104)) (by kernel_rfl) rfl ?_
     refine og 3 [(1, (i64 term)), (2, (Value.slice CA cm.length cc)), (6, (Value.bool false)), (9, (ptr b21)), (102, (Value.bool false)), (104, (i64 (agC 0 0 ((term : Int) + 1) 0 ((l23.map EntP.key) ++ [(((term : Int) + 1), [])])))), (107, (i64 (IntKind.i64.wrap (((l.length : Nat) : Int) + 1))))] 21 ?_
     have e115 : IntKind.i64.wrap (((l.length : Nat) : Int) + 1) = ((l.length + 1 : Nat) : Int) := by rw [wrap_i64 (by omega) (by omega)]; omega
     rw [e115]
     clear e115
     refine og 2 [(1, (i64 term)), (2, (Value.slice CA cm.length cc)), (6, (Value.bool false)), (9, (ptr b21)), (109, (Value.bool ((agC 0 0 ((term : Int) + 1) 0 ((l23.map EntP.key) ++ [(((term : Int) + 1), [])])) != ((l.length + 1 : Nat) : Int))))] 23 ?_
     refine od ?_
     have h116 : ((agC 0 0 ((term : Int) + 1) 0 ((l23.map EntP.key) ++ [(((term : Int) + 1), [])])) != ((l.length + 1 : Nat) : Int)) = false := bne_f (by rw [agC_app (by rw [List.length_map]; omega), List.length_map]; omega)
     rw [h116]
     refine q_else (o := .tmp 109) (by kernel_rfl) rfl ?_
     refine q_skip (by kernel_rfl) ?_
     refine qs ?_
     refine qs ?_
     refine qg ?_
     refine og 1 [(1, (i64 term)), (2, (Value.slice CA cm.length cc)), (6, (Value.bool false)), (9, (ptr b21)), (13, (i64 0))] 1 ?_
     refine od ?_
     refine q_block (id := 2) (by kernel_rfl) ?_
     refine q_keep (R := [(1, (i64 term)), (2, (Value.slice CA cm.length cc)), (9, (ptr b21)), (13, (i64 0))]) (by kernel_rfl) ?_
     refine q_loop (fun (gs : Nat × (List EntP) × (Option Addr) × Nat × (Nat → Prop) × Int) L (wx : World) => match gs with | (kk, gl, gA, gc, TT, cmt) => L = [(1, (i64 term)), (2, (Value.slice CA cm.length cc)), (9, (ptr b21)), (13, (i64 ((kk : Nat) : Int)))] ∧ LogE wx w.heap.size 43 TT (.slice gA gl.length gc) gl ∧ (∀ i, TT i → i ≠ b21) ∧ (∀ i, TT i → i ≠ g22) ∧ BigK (gl.map EntP.key) ∧ lastK 0 0 (gl.map EntP.key) = term + 1 ∧ gl.length ≤ 51 + kk ∧ cmt ≤ (gl.length : Int) ∧ kk ≤ cm.length ∧ kk ≤ 50 ∧ Keeps none_ w wx ∧ Has wx b21 (rowL [(i64 ((term : Int) + 1)), (i64 0), (i64 2), (i64 0), (i64 cmt), (i64 0), (i64 0), (i64 1), (ptr g22), (i64 0), (i64 10), (Value.slice none 0 0), (Value.map (some mb92)), (Value.slice PA90 1 pc91), (Value.pointer none), (Value.pointer none), (Value.bool false), (Value.slice none 0 0)] 84) ∧ Has wx g22 (rowL [(i64 0), (i64 0), (Value.slice gA gl.length gc)] 78)) (fun (gs : Nat × (List EntP) × (Option Addr) × Nat × (Nat → Prop) × Int) => match gs with | (kk, gl, gA, gc, TT, cmt) => cm.length - kk) (0, l78, A79, c80, T81, agC 0 0 ((term : Int) + 1) 0 ((l23.map EntP.key) ++ [(((term : Int) + 1), [])])) (by kernel_rfl) ⟨rfl, hM86, ot95, ot97, hbigl78, (by rw [hK88, lastK_app]), (by omega), (by rw [agC_app (by rw [List.length_map]; omega), List.length_map]; omega), Nat.zero_le _, Nat.zero_le _, K0, H84, H85⟩ ?_
     clear H84 H85 hE87 hM86 K0
     rintro ⟨kk, gl, gA, gc, TT, cmt⟩ _ w117 ⟨rfl, hM9, hTb21, hTg22, hBk, hlast, hLn, hcm, hk, hk50, K118, H119, H120⟩
     have hE9 := hM9.ents
     have hVb21 : ∀ i, ((Value.slice gA gl.length gc)).ownBlock = some i → i ≠ b21 := fun i hi => hTb21 i (hM9.ownT i hi)
     have hVg22 : ∀ i, ((Value.slice gA gl.length gc)).ownBlock = some i → i ≠ g22 := fun i hi => hTg22 i (hM9.ownT i hi)
     refine qs ?_
     refine qs ?_
     refine qg ?_
     refine og 5 [(1, (i64 term)), (2, (Value.slice CA cm.length cc)), (9, (ptr b21)), (13, (i64 ((kk : Nat) : Int))), (114, (Value.bool (decide (((kk : Nat) : Int) < ((cm.length : Nat) : Int)))))] 5 ?_
     refine Ops.split (decide (((kk : Nat) : Int) < ((cm.length : Nat) : Int))) (fun h121 => ?_) (fun h121 => ?_)
     ·rw [h121]
      have p122 : ((kk : Nat) : Int) < ((cm.length : Nat) : Int) := of_decide_eq_true h121
      refine og 3 [(1, (i64 term)), (2, (Value.slice CA cm.length cc)), (9, (ptr b21)), (13, (i64 ((kk : Nat) : Int))), (117, (Value.bool (decide (((kk : Nat) : Int) < 50))))] 8 ?_
      refine od ?_
      refine q_cond (o := .tmp 117) (b := (decide (((kk : Nat) : Int) < 50))) (by kernel_rfl) rfl (fun h123 => ?_) (fun h123 => ?_)
      ·rw [h123]
       have p124 : ((kk : Nat) : Int) < 50 := of_decide_eq_true h123
       refine q_skip (by kernel_rfl) ?_
       refine qs ?_
       refine q_block (id := 3) (by kernel_rfl) ?_
       refine qs ?_
       refine qs ?_
       refine qg ?_
       refine og 2 [(1, (i64 term)), (2, (Value.slice CA cm.length cc)), (9, (ptr b21)), (13, (i64 ((kk : Nat) : Int))), (117, (Value.bool true)), (120, (Value.slice CA cm.length cc)), (121, (i64 ((kk : Nat) : Int)))] 2 ?_
       obtain ⟨rb125, ro126, x, hA127, hx128⟩ := RdT.open (Rd.keep0 (by omega) hCm K118) rfl (k := kk) (by omega)
       have hBx := hCi x (List.mem_of_getElem? hx128)
       have hBl := hBx.slice
       unfold maxLen at hBl
       refine Ops.go (by kernel_rfl) (Runs.ixSliceE (k := IntKind.i64) (t := 23) (len := cm.length) (cap := cc) (s := 1) (off' := ro126 + kk) (i := ((kk : Nat) : Int)) hA127 (by kernel_rfl) (by kernel_rfl) (by omega) (by omega) (by omega)) (d := (some 122)) (by kernel_rfl) rfl ?_
       refine Ops.go (v := (Value.slice x.A x.data.length x.c)) (by kernel_rfl) (Runs.load (t := 37) (a := ⟨rb125, ro126 + kk, none⟩) (by kernel_rfl) (RdT.ldu (f := PartP.cells) (x := x) PartP.two (Rd.keep0 (by omega) hCm K118) (by kernel_rfl) hA127 hx128 rfl)) (d := (some 123)) (by kernel_rfl) rfl ?_
       refine og 2 [(1, (i64 term)), (2, (Value.slice CA cm.length cc)), (9, (ptr b21)), (13, (i64 ((kk : Nat) : Int))), (117, (Value.bool true)), (125, (Value.bool (decide (((x.data.length : Nat) : Int) > 1900))))] 6 ?_
       refine od ?_
       refine q_cond (o := .tmp 125) (b := (decide (((x.data.length : Nat) : Int) > 1900))) (by kernel_rfl) rfl (fun h129 => ?_) (fun h129 => ?_)
       ·rw [h129]
        have p130 : ((x.data.length : Nat) : Int) > 1900 := of_decide_eq_true h129
        refine q_exit (id := 3) (by kernel_rfl) ?_
        refine qg ?_
        refine og 2 [(1, (i64 term)), (2, (Value.slice CA cm.length cc)), (9, (ptr b21)), (13, (i64 ((kk : Nat) : Int))), (117, (Value.bool true)), (119, (i64 (IntKind.i64.wrap (((kk : Nat) : Int) + 1)))), (125, (Value.bool true))] 2 ?_
        have e131 : IntKind.i64.wrap (((kk : Nat) : Int) + 1) = ((kk + 1 : Nat) : Int) := by rw [wrap_i64 (by omega) (by omega)]; omega
        rw [e131]
        clear e131
        refine og 1 [(1, (i64 term)), (2, (Value.slice CA cm.length cc)), (9, (ptr b21)), (13, (i64 ((kk + 1 : Nat) : Int))), (117, (Value.bool true)), (125, (Value.bool true))] 3 ?_
        refine Ops.keep (R := [(1, (i64 term)), (2, (Value.slice CA cm.length cc)), (9, (ptr b21)), (13, (i64 ((kk + 1 : Nat) : Int)))]) (by kernel_rfl) ?_
        refine od ?_
        exact ⟨(kk + 1, gl, gA, gc, TT, cmt), ⟨rfl, hM9, hTb21, hTg22, hBk, hlast, (by omega), hcm, (by omega), (by omega), K118, H119, H120⟩, (show cm.length - (kk + 1) < cm.length - kk from by omega)⟩
       ·rw [h129]
        have p132 : ¬ (((x.data.length : Nat) : Int) > 1900) := of_decide_eq_false h129
        refine q_skip (by kernel_rfl) ?_
        refine qs ?_
        refine qg ?_
        refine og 3 [(1, (i64 term)), (2, (Value.slice CA cm.length cc)), (9, (ptr b21)), (13, (i64 ((kk : Nat) : Int))), (117, (Value.bool true)), (125, (Value.bool false)), (127, (ptr b21)), (128, (Value.slice CA cm.length cc)), (129, (i64 ((kk : Nat) : Int)))] 3 ?_
        refine Ops.go (by kernel_rfl) (Runs.ixSliceE (k := IntKind.i64) (t := 23) (len := cm.length) (cap := cc) (s := 1) (off' := ro126 + kk) (i := ((kk : Nat) : Int)) hA127 (by kernel_rfl) (by kernel_rfl) (by omega) (by omega) (by omega)) (d := (some 130)) (by kernel_rfl) rfl ?_
        refine Ops.go (v := (Value.slice x.A x.data.length x.c)) (by kernel_rfl) (Runs.load (t := 37) (a := ⟨rb125, ro126 + kk, none⟩) (by kernel_rfl) (RdT.ldu (f := PartP.cells) (x := x) PartP.two (Rd.keep0 (by omega) hCm K118) (by kernel_rfl) hA127 hx128 rfl)) (d := (some 131)) (by kernel_rfl) rfl ?_
        refine Ops.call (by kernel_rfl) (d := (some 132)) (by kernel_rfl) (Propose_calls _ b21 g22 ((term : Int) + 1) 0 2 0 cmt 0 0 10 (Value.map (some mb92)) (Value.slice PA90 1 pc91) TT w.heap.size 0 0 gA gc gl x.A x.c x.data H119 H120 hM9 hTg22 (by omega) (by omega) (by omega) hTb21 (Nat.le_trans (Nat.le_refl _) K118.size) hBk (by first | omega | decide) (hBx.keep0 (by omega) K118) (by first | omega | decide) (fun hb i hi => Nat.lt_of_lt_of_le (Rd.lt hBx (bv_ne hb) i hi) K118.size) (fun hb i hi => by have := Rd.lt hBx (bv_ne hb) i hi; omega) (fun hb i hi => by have := Rd.lt hBx (bv_ne hb) i hi; omega) (fun hb i hi h => by have q1 := Rd.lt hBx (bv_ne hb) i hi; have q2 := (World.ownsRow.lt hM9.own i h).1; omega) (appE_one (by rw [List.length_map]; omega) (by omega) (by omega) (by omega)) (by omega)) ?_
        rintro _ w137 ⟨l133, A134, c135, T136, rfl, K138, H139, H140, hM141, hK143, hT144⟩
        have hE142 := hM141.ents
        have ot145 : ∀ i, T136 i → i ≠ b21 := fun i hi => (hT144 i hi).2.1
        have ot146 : ∀ i, ((Value.slice A134 l133.length c135)).ownBlock = some i → i ≠ b21 := fun i hi => ot145 i (hM141.ownT i hi)
        have ot147 : ∀ i, T136 i → i ≠ g22 := fun i hi => (hT144 i hi).1
        have ot148 : ∀ i, ((Value.slice A134 l133.length c135)).ownBlock = some i → i ≠ g22 := fun i hi => ot147 i (hM141.ownT i hi)
        have hn149 : l133.length = gl.length + 1 := by have q := congrArg List.length hK143; simpa using q
        refine ⟨_, _, rfl, rfl, ?_⟩
        replace K118 := K118.trans K138 (U := none_) (fun i h1 h2 => h2) (fun i h1 h2 => by have h2 : i = b21 ∨ i = g22 ∨ ((Value.slice gA gl.length gc)).ownBlock = some i := h2; rcases h2 with h2 | h2 | h2; (exfalso; omega); (exfalso; omega); (exfalso; have := (World.ownsRow.lt hM9.own i h2).1; omega))
        clear hE9
        clear hM9
        clear K138
        have hbigl133 : BigK (l133.map EntP.key) := by rw [hK143]; exact BigK.app hBk (fun y hy => by rw [List.mem_singleton] at hy; subst hy; (show (x.data : List UInt8).length ≤ _); first | decide | omega)
        refine og 7 [(1, (i64 term)), (2, (Value.slice CA cm.length cc)), (9, (ptr b21)), (13, (i64 ((kk : Nat) : Int))), (14, (i64 (0 + ((l133.length : Nat) : Int)))), (15, (Value.slice none 0 0)), (16, (i64 0)), (117, (Value.bool true)), (125, (Value.bool false))] 13 ?_
        refine od ?_
        refine qs ?_
        refine qg ?_
        refine og 1 [(1, (i64 term)), (2, (Value.slice CA cm.length cc)), (9, (ptr b21)), (13, (i64 ((kk : Nat) : Int))), (14, (i64 (0 + ((l133.length : Nat) : Int)))), (15, (Value.slice none 0 0)), (16, (i64 0)), (117, (Value.bool true)), (125, (Value.bool false)), (136, (ptr b21))] 1 ?_
        refine Ops.call (by kernel_rfl) (d := (some 137)) (by kernel_rfl) (Log_calls _ b21 g22 ((term : Int) + 1) 0 2 0 (agC 0 0 ((term : Int) + 1) cmt ((gl.map EntP.key) ++ [(((term : Int) + 1), x.data)])) 0 0 10 (Value.map (some mb92)) (Value.slice PA90 1 pc91) T136 0 0 A134 c135 l133 H139 H140 hE142 ot147 (by omega) (by omega) (by omega) ot145 hbigl133) ?_
        rintro _ w154 ⟨g150, l151, A152, c153, rfl, hg159, K155, H156, hE157, hK158⟩
        have ot160 : ∀ i, (fun i => (w137.heap.size ≤ i ∧ i < w154.heap.size) ∧ i ≠ g150) i → i ≠ b21 := fun i hi => by have := hi.1.1; have := H139.lt; omega
        have lg150b21 : b21 < g150 := by have := H139.lt; omega
        have ot161 : ∀ i, (fun i => (w137.heap.size ≤ i ∧ i < w154.heap.size) ∧ i ≠ g150) i → i ≠ g22 := fun i hi => by have := hi.1.1; have := H140.lt; omega
        have lg150g22 : g22 < g150 := by have := H140.lt; omega
        have ot162 : ∀ i, T136 i → i ≠ g150 := fun i hi => by have := Ents.lt hE142 i hi; omega
        have ot163 : ∀ i, (fun i => (w137.heap.size ≤ i ∧ i < w154.heap.size) ∧ i ≠ g150) i → i ≠ g150 := fun i hi => hi.2
        have ng150 : w.heap.size ≤ g150 := by have := K118.size; omega
        have hn164 := keys_len2 hK158
        try rw [List.length_drop] at hn164
        try rw [List.length_append] at hn164
        try rw [List.length_map] at hn164
        try rw [List.length_map] at hn164
        refine ⟨_, _, rfl, rfl, ?_⟩
        replace K118 := K118.trans K155 (U := none_) (fun i h1 h2 => h2) (fun i h1 h2 => by exact h2)
        replace H139 := H139.keep K155 (fun h => h)
        replace H140 := H140.keep K155 (fun h => h)
        replace hE142 := Ents.keep0 hE142 K155
        replace hM141 := LogE.keep0 hM141 K155
        clear K155
        have hkkl151 := hK158
        refine og 1 [(1, (i64 term)), (2, (Value.slice CA cm.length cc)), (9, (ptr b21)), (13, (i64 ((kk : Nat) : Int))), (14, (i64 (0 + ((l133.length : Nat) : Int)))), (15, (Value.slice none 0 0)), (16, (i64 0)), (17, (ptr g150)), (117, (Value.bool true)), (125, (Value.bool false))] 3 ?_
        refine od ?_
        refine qs ?_
        refine qs ?_
        refine qg ?_
        refine og 9 [(1, (i64 term)), (2, (Value.slice CA cm.length cc)), (9, (ptr b21)), (13, (i64 ((kk : Nat) : Int))), (14, (i64 (0 + ((l133.length : Nat) : Int)))), (15, (Value.slice none 0 0)), (16, (i64 0)), (17, (ptr g150)), (117, (Value.bool true)), (125, (Value.bool false)), (145, (Value.bool false)), (146, (ptr b21))] 9 ?_
        refine Ops.call (by kernel_rfl) (d := (some 147)) (by kernel_rfl) (Info_calls _ b21 g22 ((term : Int) + 1) 0 2 0 (agC 0 0 ((term : Int) + 1) cmt ((gl.map EntP.key) ++ [(((term : Int) + 1), x.data)])) 0 0 10 (Value.map (some mb92)) (Value.slice PA90 1 pc91) H139) ?_
        rintro _ w166 ⟨rfl, K165⟩
        refine ⟨_, _, rfl, rfl, ?_⟩
        replace K118 := K118.trans K165 (U := none_) (fun i h1 h2 => h2) (fun i h1 h2 => by exact h2)
        replace H139 := H139.keep K165 (fun h => h)
        replace H140 := H140.keep K165 (fun h => h)
        replace H156 := H156.keep K165 (fun h => h)
        replace hE142 := Ents.keep0 hE142 K165
        replace hM141 := LogE.keep0 hM141 K165
        replace hE157 := Ents.keep0 hE157 K165
        clear K165
        refine og 5 [(1, (i64 term)), (2, (Value.slice CA cm.length cc)), (9, (ptr b21)), (13, (i64 ((kk : Nat) : Int))), (14, (i64 (0 + ((l133.length : Nat) : Int)))), (15, (Value.slice none 0 0)), (16, (i64 0)), (17, (ptr g150)), (117, (Value.bool true)), (125, (Value.bool false)), (152, (Value.bool ((agC 0 0 ((term : Int) + 1) cmt ((gl.map EntP.key) ++ [(((term : Int) + 1), x.data)])) != (0 + ((l133.length : Nat) : Int)))))] 15 ?_
        have h167 : ((agC 0 0 ((term : Int) + 1) cmt ((gl.map EntP.key) ++ [(((term : Int) + 1), x.data)])) != (0 + ((l133.length : Nat) : Int))) = false := bne_f (by rw [agC_app (by rw [List.length_map]; omega), List.length_map]; omega)
        rw [h167]
        refine og 3 [(1, (i64 term)), (2, (Value.slice CA cm.length cc)), (9, (ptr b21)), (13, (i64 ((kk : Nat) : Int))), (14, (i64 (0 + ((l133.length : Nat) : Int)))), (15, (Value.slice none 0 0)), (16, (i64 0)), (17, (ptr g150)), (117, (Value.bool true)), (125, (Value.bool false)), (155, (Value.bool false))] 18 ?_
        refine od ?_
        refine q_else (o := .tmp 155) (by kernel_rfl) rfl ?_
        refine q_skip (by kernel_rfl) ?_
        refine qs ?_
        refine qg ?_
        refine og 2 [(1, (i64 term)), (2, (Value.slice CA cm.length cc)), (9, (ptr b21)), (13, (i64 ((kk : Nat) : Int))), (14, (i64 (0 + ((l133.length : Nat) : Int)))), (15, (Value.slice none 0 0)), (16, (i64 0)), (17, (ptr g150)), (117, (Value.bool true)), (125, (Value.bool false)), (155, (Value.bool false)), (156, (ptr g150)), (157, (i64 (0 + ((l133.length : Nat) : Int))))] 2 ?_
        have hp168 := partK_len 0 (l151.map EntP.key) (0 + ((l133.length : Nat) : Int)) 1
        rw [List.length_map] at hp168
        refine Ops.call (by kernel_rfl) (d := (some 158)) (by kernel_rfl) (Part_calls _ (fun i => (w137.heap.size ≤ i ∧ i < w154.heap.size) ∧ i ≠ g150) g150 0 0 A152 c153 l151 (0 + ((l133.length : Nat) : Int)) 1 H156 hE157 ot163 (by omega) (by omega) (by omega) (by omega) (BigK.keys hK158 hbigl133)) ?_
        rintro _ w172 ⟨l169, A170, c171, rfl, K173, hE174, hK175⟩
        have ot176 : ∀ i, (fun i => w166.heap.size ≤ i ∧ i < w172.heap.size) i → i ≠ b21 := fun i hi => by have := hi.1; have := H139.lt; omega
        have ot177 : ∀ i, (fun i => w166.heap.size ≤ i ∧ i < w172.heap.size) i → i ≠ g22 := fun i hi => by have := hi.1; have := H140.lt; omega
        have ot178 : ∀ i, (fun i => w166.heap.size ≤ i ∧ i < w172.heap.size) i → i ≠ g150 := fun i hi => by have := hi.1; have := H156.lt; omega
        have hz179 := K118.size
        have hn180 := keys_len2 hK175
        try rw [List.length_drop] at hn180
        try rw [List.length_append] at hn180
        try rw [List.length_map] at hn180
        try rw [List.length_map] at hn180
        refine ⟨_, _, rfl, rfl, ?_⟩
        replace K118 := K118.trans K173 (U := none_) (fun i h1 h2 => h2) (fun i h1 h2 => by exact h2)
        replace H139 := H139.keep K173 (fun h => h)
        replace H140 := H140.keep K173 (fun h => h)
        replace H156 := H156.keep K173 (fun h => h)
        replace hE142 := Ents.keep0 hE142 K173
        replace hM141 := LogE.keep0 hM141 K173
        replace hE157 := Ents.keep0 hE157 K173
        clear K173
        have hkkl169 := hK175
        have hKp : l169.map EntP.key = [(term + 1, x.data)] := by rw [hK175, hK158, hK143, show (0 + ((l133.length : Nat) : Int)) = 0 + (((gl.map EntP.key ++ [(term + 1, x.data)]).length : Nat) : Int) from by rw [List.length_append, List.length_map, List.length_singleton]; omega]; exact partK_app
        obtain ⟨y, hy1, hy2, hy3⟩ := one_key hKp
        have hy0 : l169[0]? = some y := by rw [hy1]; rfl
        have hyn : l169.length = 1 := by rw [hy1]; rfl
        refine og 1 [(1, (i64 term)), (2, (Value.slice CA cm.length cc)), (9, (ptr b21)), (13, (i64 ((kk : Nat) : Int))), (14, (i64 (0 + ((l133.length : Nat) : Int)))), (15, (Value.slice none 0 0)), (16, (i64 0)), (17, (ptr g150)), (18, (Value.slice A170 l169.length c171)), (117, (Value.bool true)), (125, (Value.bool false)), (155, (Value.bool false))] 4 ?_
        refine od ?_
        refine qs ?_
        refine q_draw (fun wz => Keeps none_ w172 wz) 25 (by kernel_rfl) (by kernel_rfl) (by kernel_rfl) (fun w181 K182 _ _ => ⟨K182, ?_⟩)
        replace K118 := K118.trans K182 (U := none_) (fun i h1 h2 => h2) (fun i h1 h2 => by exact h2)
        replace H139 := H139.keep K182 (fun h => h)
        replace H140 := H140.keep K182 (fun h => h)
        replace H156 := H156.keep K182 (fun h => h)
        replace hE142 := Ents.keep0 hE142 K182
        replace hM141 := LogE.keep0 hM141 K182
        replace hE157 := Ents.keep0 hE157 K182
        replace hE174 := Ents.keep0 hE174 K182
        refine Dr.strong (S' := (fun wz => Keeps none_ w181 wz)) (Keeps.refl w181) (fun wz hx => K182.trans hx (fun i _ h => h) (fun _ _ h => h)) ?_
        clear K182
        refine Dr.takes (fuel' := 21) (is' := [3, 2, 1, 0]) [0, 1, 2, 3] [(1, (i64 term)), (2, (Value.slice CA cm.length cc)), (9, (ptr b21)), (13, (i64 ((kk : Nat) : Int))), (14, (i64 (0 + ((l133.length : Nat) : Int)))), (15, (Value.slice none 0 0)), (16, (i64 0)), (17, (ptr g150)), (18, (Value.slice A170 l169.length c171)), (117, (Value.bool true)), (125, (Value.bool false)), (155, (Value.bool false)), (162, (Value.bool (((l169.length : Nat) : Int) != 1)))] (by kernel_rfl) rfl (by kernel_rfl) ?_
        have h183 : (((l169.length : Nat) : Int) != 1) = false := bne_f (by omega)
        rw [h183]
        obtain ⟨z0, hz0⟩ : ∃ z : Nat, z = 0 := ⟨_, rfl⟩
        have hyz : l169[z0]? = some y := by rw [hz0]; exact hy0
        obtain ⟨rb184, ro185, hA186⟩ := Rd.addr (Ents.rd hE174) (by omega)
        have hyB := Ents.ins hE174 y (List.mem_of_getElem? hy0)
        have hyl := hyB.slice
        refine Dr.takes (fuel' := 20) (is' := [4, 3, 2, 1, 0]) [4] [(1, (i64 term)), (2, (Value.slice CA cm.length cc)), (9, (ptr b21)), (13, (i64 ((kk : Nat) : Int))), (14, (i64 (0 + ((l133.length : Nat) : Int)))), (15, (Value.slice none 0 0)), (16, (i64 0)), (17, (ptr g150)), (18, (Value.slice A170 l169.length c171)), (117, (Value.bool true)), (125, (Value.bool false)), (155, (Value.bool false)), (162, (Value.bool false)), (163, (Value.slice A170 l169.length c171))] (by kernel_rfl) rfl (by kernel_rfl) ?_
        refine Dr.take (i := 5) (v := (Value.pointer (some ⟨rb184, ro185 + z0 * 2, none⟩))) (by kernel_rfl) (by kernel_rfl) (fun wz hS => Runs.ixSliceE (k := IntKind.i64) (t := 22) (len := l169.length) (cap := c171) (s := 2) (off' := ro185 + z0 * 2) (i := 0) hA186 (by kernel_rfl) (by kernel_rfl) (by omega) (by omega) (by omega)) (d := (some 164)) (by kernel_rfl) rfl ?_
        refine Dr.takes (fuel' := 18) (is' := [6, 5, 4, 3, 2, 1, 0]) [6] [(1, (i64 term)), (2, (Value.slice CA cm.length cc)), (9, (ptr b21)), (13, (i64 ((kk : Nat) : Int))), (14, (i64 (0 + ((l133.length : Nat) : Int)))), (15, (Value.slice none 0 0)), (16, (i64 0)), (17, (ptr g150)), (18, (Value.slice A170 l169.length c171)), (117, (Value.bool true)), (125, (Value.bool false)), (155, (Value.bool false)), (162, (Value.bool false)), (165, (Value.pointer (some ⟨rb184, ro185 + z0 * 2 + 1, none⟩)))] (by kernel_rfl) rfl (by kernel_rfl) ?_
        refine Dr.take (i := 7) (v := (Value.slice y.A y.cmd.length y.c)) (by kernel_rfl) (by kernel_rfl) (fun wz hS => Runs.load (t := 37) (a := ⟨rb184, ro185 + z0 * 2 + 1, none⟩) (by kernel_rfl) (RdT.ldf (f := EntP.cells) (x := y) (o := 1) EntP.two (Ents.rd (Ents.keep0 hE174 hS)) (by kernel_rfl) hA186 hyz rfl)) (d := (some 166)) (by kernel_rfl) rfl ?_
        refine Dr.take (i := 8) (v := (Value.string (str y.cmd))) (by kernel_rfl) (by kernel_rfl) (fun wz hS => Runs.b2s (s := 37) (d := 9) (e := 5) (by kernel_rfl) (by kernel_rfl) (by kernel_rfl) (Rd.keep0 (by omega) hyB hS)) (d := (some 167)) (by kernel_rfl) rfl ?_
        refine Dr.takes (fuel' := 14) (is' := [10, 9, 8, 7, 6, 5, 4, 3, 2, 1, 0]) [9, 10] [(1, (i64 term)), (2, (Value.slice CA cm.length cc)), (9, (ptr b21)), (13, (i64 ((kk : Nat) : Int))), (14, (i64 (0 + ((l133.length : Nat) : Int)))), (15, (Value.slice none 0 0)), (16, (i64 0)), (17, (ptr g150)), (18, (Value.slice A170 l169.length c171)), (117, (Value.bool true)), (125, (Value.bool false)), (155, (Value.bool false)), (162, (Value.bool false)), (167, (Value.string (str y.cmd))), (168, (Value.slice CA cm.length cc)), (169, (i64 ((kk : Nat) : Int)))] (by kernel_rfl) rfl (by kernel_rfl) ?_
        refine Dr.take (i := 11) (v := (Value.pointer (some ⟨rb125, ro126 + kk, none⟩))) (by kernel_rfl) (by kernel_rfl) (fun wz hS => Runs.ixSliceE (k := IntKind.i64) (t := 23) (len := cm.length) (cap := cc) (s := 1) (off' := ro126 + kk) (i := ((kk : Nat) : Int)) hA127 (by kernel_rfl) (by kernel_rfl) (by omega) (by omega) (by omega)) (d := (some 170)) (by kernel_rfl) rfl ?_
        refine Dr.take (i := 12) (v := (Value.slice x.A x.data.length x.c)) (by kernel_rfl) (by kernel_rfl) (fun wz hS => Runs.load (t := 37) (a := ⟨rb125, ro126 + kk, none⟩) (by kernel_rfl) (RdT.ldu (f := PartP.cells) (x := x) PartP.two (Rd.keep0 (by omega) hCm (K118.trans hS (fun _ _ h => h) (fun _ _ h => h))) (by kernel_rfl) hA127 hx128 rfl)) (d := (some 171)) (by kernel_rfl) rfl ?_
        refine Dr.take (i := 13) (v := (Value.string (str x.data))) (by kernel_rfl) (by kernel_rfl) (fun wz hS => Runs.b2s (s := 37) (d := 9) (e := 5) (by kernel_rfl) (by kernel_rfl) (by kernel_rfl) (Rd.keep0 (by omega) (hBx.keep0 (by omega) K118) hS)) (d := (some 172)) (by kernel_rfl) rfl ?_
        refine Dr.take (i := 14) (v := (Value.bool (!(y.cmd == x.data)))) (by kernel_rfl) (by kernel_rfl) (fun wz hS => Runs.strne (t := 9) (by kernel_rfl)) (d := (some 173)) (by kernel_rfl) rfl ?_
        refine Dr.takes (fuel' := 8) (is' := [16, 15, 14, 13, 12, 11, 10, 9, 8, 7, 6, 5, 4, 3, 2, 1, 0]) [15, 16] [(1, (i64 term)), (2, (Value.slice CA cm.length cc)), (9, (ptr b21)), (13, (i64 ((kk : Nat) : Int))), (14, (i64 (0 + ((l133.length : Nat) : Int)))), (15, (Value.slice none 0 0)), (16, (i64 0)), (17, (ptr g150)), (18, (Value.slice A170 l169.length c171)), (117, (Value.bool true)), (125, (Value.bool false)), (155, (Value.bool false)), (175, (Value.bool (!(y.cmd == x.data))))] (by kernel_rfl) rfl (by kernel_rfl) ?_
        have h187 : (!(y.cmd == x.data)) = false := by rw [show (y.cmd == x.data) = true from by rw [hy3]; simp]; rfl
        rw [h187]
        refine Dr.takes (fuel' := 7) (is' := [17, 16, 15, 14, 13, 12, 11, 10, 9, 8, 7, 6, 5, 4, 3, 2, 1, 0]) [17] [(1, (i64 term)), (2, (Value.slice CA cm.length cc)), (9, (ptr b21)), (13, (i64 ((kk : Nat) : Int))), (14, (i64 (0 + ((l133.length : Nat) : Int)))), (15, (Value.slice none 0 0)), (16, (i64 0)), (17, (ptr g150)), (18, (Value.slice A170 l169.length c171)), (117, (Value.bool true)), (125, (Value.bool false)), (155, (Value.bool false)), (175, (Value.bool false)), (176, (Value.slice A170 l169.length c171))] (by kernel_rfl) rfl (by kernel_rfl) ?_
        refine Dr.take (i := 18) (v := (Value.pointer (some ⟨rb184, ro185 + z0 * 2, none⟩))) (by kernel_rfl) (by kernel_rfl) (fun wz hS => Runs.ixSliceE (k := IntKind.i64) (t := 22) (len := l169.length) (cap := c171) (s := 2) (off' := ro185 + z0 * 2) (i := 0) hA186 (by kernel_rfl) (by kernel_rfl) (by omega) (by omega) (by omega)) (d := (some 177)) (by kernel_rfl) rfl ?_
        refine Dr.takes (fuel' := 5) (is' := [19, 18, 17, 16, 15, 14, 13, 12, 11, 10, 9, 8, 7, 6, 5, 4, 3, 2, 1, 0]) [19] [(1, (i64 term)), (2, (Value.slice CA cm.length cc)), (9, (ptr b21)), (13, (i64 ((kk : Nat) : Int))), (14, (i64 (0 + ((l133.length : Nat) : Int)))), (15, (Value.slice none 0 0)), (16, (i64 0)), (17, (ptr g150)), (18, (Value.slice A170 l169.length c171)), (117, (Value.bool true)), (125, (Value.bool false)), (155, (Value.bool false)), (175, (Value.bool false)), (178, (Value.pointer (some ⟨rb184, ro185 + z0 * 2, none⟩)))] (by kernel_rfl) rfl (by kernel_rfl) ?_
        refine Dr.take (i := 20) (v := (i64 y.term)) (by kernel_rfl) (by kernel_rfl) (fun wz hS => Runs.load (t := 2) (a := ⟨rb184, ro185 + z0 * 2, none⟩) (by kernel_rfl) (RdT.ldf (f := EntP.cells) (x := y) (o := 0) EntP.two (Ents.rd (Ents.keep0 hE174 hS)) (by kernel_rfl) hA186 hyz rfl)) (d := (some 179)) (by kernel_rfl) rfl ?_
        refine Dr.takes (fuel' := 2) (is' := [22, 21, 20, 19, 18, 17, 16, 15, 14, 13, 12, 11, 10, 9, 8, 7, 6, 5, 4, 3, 2, 1, 0]) [21, 22] [(1, (i64 term)), (2, (Value.slice CA cm.length cc)), (9, (ptr b21)), (13, (i64 ((kk : Nat) : Int))), (14, (i64 (0 + ((l133.length : Nat) : Int)))), (15, (Value.slice none 0 0)), (16, (i64 0)), (17, (ptr g150)), (18, (Value.slice A170 l169.length c171)), (117, (Value.bool true)), (125, (Value.bool false)), (155, (Value.bool false)), (175, (Value.bool false)), (179, (i64 y.term)), (181, (i64 (IntKind.i64.wrap (term + 1))))] (by kernel_rfl) rfl (by kernel_rfl) ?_
        have e188 : IntKind.i64.wrap (term + 1) = term + 1 := wrap_i64 (by omega) (by omega)
        rw [e188]
        refine Dr.takes (fuel' := 0) (is' := [24, 23, 22, 21, 20, 19, 18, 17, 16, 15, 14, 13, 12, 11, 10, 9, 8, 7, 6, 5, 4, 3, 2, 1, 0]) [23, 24] [(1, (i64 term)), (2, (Value.slice CA cm.length cc)), (9, (ptr b21)), (13, (i64 ((kk : Nat) : Int))), (14, (i64 (0 + ((l133.length : Nat) : Int)))), (15, (Value.slice none 0 0)), (16, (i64 0)), (17, (ptr g150)), (18, (Value.slice A170 l169.length c171)), (117, (Value.bool true)), (125, (Value.bool false)), (155, (Value.bool false)), (183, (Value.bool (y.term != (term + 1))))] (by kernel_rfl) rfl (by kernel_rfl) ?_
        refine Dr.done (by kernel_rfl) ?_
        have h189 : (y.term != (term + 1)) = false := bne_f (by omega)
        rw [h189]
        refine q_else (o := .tmp 183) (by kernel_rfl) rfl ?_
        refine q_skip (by kernel_rfl) ?_
        refine qg ?_
        refine og 2 [(1, (i64 term)), (2, (Value.slice CA cm.length cc)), (9, (ptr b21)), (13, (i64 ((kk : Nat) : Int))), (14, (i64 (0 + ((l133.length : Nat) : Int)))), (15, (Value.slice none 0 0)), (16, (i64 0)), (17, (ptr g150)), (18, (Value.slice A170 l169.length c171)), (117, (Value.bool true)), (119, (i64 (IntKind.i64.wrap (((kk : Nat) : Int) + 1)))), (125, (Value.bool false)), (155, (Value.bool false)), (183, (Value.bool false))] 2 ?_
        have e190 : IntKind.i64.wrap (((kk : Nat) : Int) + 1) = ((kk + 1 : Nat) : Int) := by rw [wrap_i64 (by omega) (by omega)]; omega
        rw [e190]
        clear e190
        refine og 1 [(1, (i64 term)), (2, (Value.slice CA cm.length cc)), (9, (ptr b21)), (13, (i64 ((kk + 1 : Nat) : Int))), (14, (i64 (0 + ((l133.length : Nat) : Int)))), (15, (Value.slice none 0 0)), (16, (i64 0)), (17, (ptr g150)), (18, (Value.slice A170 l169.length c171)), (117, (Value.bool true)), (125, (Value.bool false)), (155, (Value.bool false)), (183, (Value.bool false))] 3 ?_
        refine Ops.keep (R := [(1, (i64 term)), (2, (Value.slice CA cm.length cc)), (9, (ptr b21)), (13, (i64 ((kk + 1 : Nat) : Int)))]) (by kernel_rfl) ?_
        refine od ?_
        exact ⟨(kk + 1, l133, A134, c135, T136, agC 0 0 ((term : Int) + 1) cmt ((gl.map EntP.key) ++ [(((term : Int) + 1), x.data)])), ⟨rfl, hM141, ot145, ot147, hbigl133, (by rw [hK143, lastK_app]), (by omega), (by rw [agC_app (by rw [List.length_map]; omega), List.length_map]; omega), (by omega), (by omega), K118, H139, H140⟩, (show cm.length - (kk + 1) < cm.length - kk from by omega)⟩
      ·rw [h123]
       have p191 : ¬ (((kk : Nat) : Int) < 50) := of_decide_eq_false h123
       refine q_exit (id := 2) (by kernel_rfl) ?_
       refine qs ?_
       refine qg ?_
       refine Ops.call (by kernel_rfl) (d := (some 184)) (by kernel_rfl) (known_calls _) ?_
       rintro _ w193 ⟨rfl, K192⟩
       refine ⟨_, _, rfl, rfl, ?_⟩
       replace K118 := K118.trans K192 (U := none_) (fun i h1 h2 => h2) (fun i h1 h2 => by exact h2)
       replace H119 := H119.keep K192 (fun h => h)
       replace H120 := H120.keep K192 (fun h => h)
       replace hE9 := Ents.keep0 hE9 K192
       replace hM9 := LogE.keep0 hM9 K192
       clear K192
       refine og 1 [(6, (Value.bool true))] 2 ?_
       refine od ?_
       refine q_ret (by kernel_rfl) ?_
       refine ⟨(Value.bool true), retv_tmp rfl rfl, ?_⟩
       exact ⟨rfl, K118⟩
     ·rw [h121]
      have p194 : ¬ (((kk : Nat) : Int) < ((cm.length : Nat) : Int)) := of_decide_eq_false h121
      refine og 3 [(1, (i64 term)), (2, (Value.slice CA cm.length cc)), (9, (ptr b21)), (13, (i64 ((kk : Nat) : Int))), (117, (Value.bool false))] 8 ?_
      refine od ?_
      refine q_else (o := .tmp 117) (by kernel_rfl) rfl ?_
      refine q_exit (id := 2) (by kernel_rfl) ?_
      refine qs ?_
      refine qg ?_
      refine Ops.call (by kernel_rfl) (d := (some 184)) (by kernel_rfl) (known_calls _) ?_
      rintro _ w196 ⟨rfl, K195⟩
      refine ⟨_, _, rfl, rfl, ?_⟩
      replace K118 := K118.trans K195 (U := none_) (fun i h1 h2 => h2) (fun i h1 h2 => by exact h2)
      replace H119 := H119.keep K195 (fun h => h)
      replace H120 := H120.keep K195 (fun h => h)
      replace hE9 := Ents.keep0 hE9 K195
      replace hM9 := LogE.keep0 hM9 K195
      clear K195
      refine og 1 [(6, (Value.bool true))] 2 ?_
      refine od ?_
      refine q_ret (by kernel_rfl) ?_
      refine ⟨(Value.bool true), retv_tmp rfl rfl, ?_⟩
      exact ⟨rfl, K118⟩
   ·skip
    refine Ops.call (by kernel_rfl) (d := (some 55)) (by kernel_rfl) (RNew_bad _ 0 term (-1) 0 (fun i => (w.heap.size ≤ i ∧ i < w6.heap.size) ∧ i ≠ g2) g2 0 0 A4 c5 l3 H8 hE9 ot13 (by omega) (by omega) (by omega) hq20 (by omega)) ?_
    rintro _ w198 ⟨rfl, K197⟩
    refine ⟨_, _, rfl, rfl, ?_⟩
    replace K0 := K0.t0 K197
    replace H8 := H8.keep K197 (fun h => h)
    replace hE0 := Ents.keep0 hE0 K197
    replace hE9 := Ents.keep0 hE9 K197
    clear K197
    refine og 5 [(0, (Value.slice EA l.length ec)), (1, (i64 term)), (2, (Value.slice CA cm.length cc)), (6, (Value.bool false)), (9, (Value.pointer none)), (10, (i64 1))] 8 ?_
    refine od ?_
    refine qs ?_
    refine qs ?_
    refine qg ?_
    refine og 10 [(0, (Value.slice EA l.length ec)), (1, (i64 term)), (2, (Value.slice CA cm.length cc)), (6, (Value.bool false)), (9, (Value.pointer none)), (10, (i64 1)), (67, (Value.bool true))] 10 ?_
    refine od ?_
    refine q_then (o := .tmp 67) (by kernel_rfl) rfl ?_
    refine qs ?_
    refine qg ?_
    refine og 7 [(0, (Value.slice EA l.length ec)), (1, (i64 term)), (2, (Value.slice CA cm.length cc)), (6, (Value.bool false)), (9, (Value.pointer none)), (74, (Value.bool true))] 7 ?_
    refine Ops.call (by kernel_rfl) (d := (some 75)) (by kernel_rfl) (known_calls _) ?_
    rintro _ w200 ⟨rfl, K199⟩
    refine ⟨_, _, rfl, rfl, ?_⟩
    replace K0 := K0.t0 K199
    replace H8 := H8.keep K199 (fun h => h)
    replace hE0 := Ents.keep0 hE0 K199
    replace hE9 := Ents.keep0 hE9 K199
    clear K199
    refine og 2 [(0, (Value.slice EA l.length ec)), (1, (i64 term)), (2, (Value.slice CA cm.length cc)), (6, (Value.bool true)), (9, (Value.pointer none))] 10 ?_
    refine od ?_
    refine q_ret (by kernel_rfl) ?_
    refine ⟨(Value.bool true), retv_tmp rfl rfl, ?_⟩
    exact ⟨rfl, K0⟩
 ·skip
  refine Ops.call (by kernel_rfl) (d := (some 21)) (by kernel_rfl) (New_bad _ (fun i => i < w.heap.size) 0 0 EA ec l hE0 hBig hq1) ?_
  rintro _ w202 ⟨rfl, K201⟩
  refine ⟨_, _, rfl, rfl, ?_⟩
  replace K0 := K0.t0 K201
  replace hE0 := Ents.keep0 hE0 K201
  clear K201
  refine og 5 [(0, (Value.slice EA l.length ec)), (1, (i64 term)), (2, (Value.slice CA cm.length cc)), (6, (Value.bool false)), (7, (Value.pointer none)), (8, (i64 (newE 0 0 (l.map EntP.key))))] 7 ?_
  refine od ?_
  refine qs ?_
  refine qs ?_
  refine qg ?_
  refine og 3 [(0, (Value.slice EA l.length ec)), (1, (i64 term)), (2, (Value.slice CA cm.length cc)), (6, (Value.bool false)), (7, (Value.pointer none)), (8, (i64 (newE 0 0 (l.map EntP.key)))), (26, (Value.bool ((newE 0 0 (l.map EntP.key)) != 0)))] 3 ?_
  have h203 : ((newE 0 0 (l.map EntP.key)) != 0) = true := bne_t hq1
  rw [h203]
  refine og 8 [(0, (Value.slice EA l.length ec)), (1, (i64 term)), (2, (Value.slice CA cm.length cc)), (6, (Value.bool false)), (7, (Value.pointer none)), (8, (i64 (newE 0 0 (l.map EntP.key)))), (34, (Value.bool true))] 11 ?_
  refine od ?_
  refine q_then (o := .tmp 34) (by kernel_rfl) rfl ?_
  refine qs ?_
  refine qg ?_
  refine og 3 [(0, (Value.slice EA l.length ec)), (1, (i64 term)), (2, (Value.slice CA cm.length cc)), (6, (Value.bool false)), (7, (Value.pointer none)), (37, (Value.bool ((newE 0 0 (l.map EntP.key)) != 0)))] 3 ?_
  rw [h203]
  refine og 4 [(0, (Value.slice EA l.length ec)), (1, (i64 term)), (2, (Value.slice CA cm.length cc)), (6, (Value.bool false)), (7, (Value.pointer none)), (41, (Value.bool true))] 7 ?_
  refine Ops.call (by kernel_rfl) (d := (some 42)) (by kernel_rfl) (known_calls _) ?_
  rintro _ w205 ⟨rfl, K204⟩
  refine ⟨_, _, rfl, rfl, ?_⟩
  replace K0 := K0.t0 K204
  replace hE0 := Ents.keep0 hE0 K204
  clear K204
  refine og 10 [(0, (Value.slice EA l.length ec)), (1, (i64 term)), (2, (Value.slice CA cm.length cc)), (6, (Value.bool true)), (7, (Value.pointer none))] 18 ?_
  refine od ?_
  refine q_ret (by kernel_rfl) ?_
  refine ⟨(Value.bool true), retv_tmp rfl rfl, ?_⟩
  exact ⟨rfl, K0⟩
end Go.Proofs.Ytnmpepjikfbpdaa
namespace Go.Q
open Go.ChangeShapes Go.WideShapes Go.ChangeAt Go.RowKit Go.Deep

structure LetP where
  kind : Int
  n : Int
  group : Int
  op : Opm
  rep : ReplyM
  body : List UInt8
structure LetP.Ok (x : LetP) : Prop where
  kind : -9223372036854775808 ≤ x.kind ∧ x.kind ≤ 9223372036854775807
  n : -9223372036854775808 ≤ x.n ∧ x.n ≤ 9223372036854775807
  group : -9223372036854775808 ≤ x.group ∧ x.group ≤ 9223372036854775807
  op : x.op.Ok
  rep : x.rep.Ok
/-- The cells of a letter whose rows and bytes stand at V and D. -/
def LetP.cells (x : LetP) (V : Option Addr) (c : Nat) (D : Option Addr) (dc : Nat) : List Value :=
  [i64 x.kind, i64 x.n, i64 x.group, i64 x.op.kind, .string (str x.op.frm), .string (str x.op.to), i64 x.op.amount, .string (str x.op.key), i64 x.op.slot, i64 x.op.shard, i64 x.rep.why, i64 x.rep.amount, .slice V x.rep.rows.length c, .slice D x.body.length dc]
section
variable {H : Type} {enc : TypeId × Value → H} {P : Program} {w : World} {base : Nat} {spare : Nat → Bool} {held : Bool}
/-- A field: where it begins, how many cells it has, its type. -/
def fieldAt? (P : Program) (fs : Array Field) (j : Nat) : Option (Nat × Nat × TypeId) := match fs[j]? with
  | some f => some (f.offset, P.cellsOf f.type, f.type)
  | none => none
theorem trod_field {e : TypeId} {fs : Array Field} {m : Nat} {cs : List Value} {y : DataW H × List MemPlace} (he : P.underlying e = some (.struct fs)) (h : DataW.trod enc P w base spare held m e cs = some y) {j off sz : Nat} {t : TypeId} (hj : fieldAt? P fs j = some (off, sz, t)) :
    ∃ m' z, DataW.trod enc P w base spare held m' t ((cs.drop off).take sz) = some z ∧ ∀ n ∈ z.1.weights P t, n ∈ y.1.weights P e := by
  obtain ⟨xs, m', hm, hy, hlen, hxl, hf⟩ := DataW.trod_struct he h
  unfold fieldAt? at hj
  cases hfj : fs[j]? with
  | none => rw [hfj] at hj; cases hj
  | some f =>
    rw [hfj] at hj
    simp only [Option.some.injEq, Prod.mk.injEq] at hj
    obtain ⟨rfl, rfl, rfl⟩ := hj
    have h2 := hf j f hfj
    have hlt : j < xs.length := by have := (Array.getElem?_eq_some_iff.1 hfj).1; omega
    rw [List.getElem?_eq_getElem hlt] at h2
    refine ⟨_, _, h2, fun n hn => ?_⟩
    subst hy
    simp only [DataW.weights, he]
    exact DataW.weights_mem_each (j := j) (by rw [List.getElem?_map, Array.getElem?_toList, hfj]; rfl) (by rw [List.getElem?_map, List.getElem?_eq_getElem hlt]; rfl) n hn
theorem slice_weight {t e : TypeId} {n sz : Nat} {d : DataW H} (hu : P.underlying t = some (.slice e)) (hb : P.bytesOf e = sz) (hz : ∀ k ∈ d.weights P t, k ≤ reachBytes) (h : n = 0 ∨ ∃ el sp, d = .slice el sp ∧ el.length = n) : n * sz ≤ 140737488351232 := by
  rcases h with rfl | ⟨el, sp, rfl, rfl⟩
  · simp
  · have := hz ((el.length + sp.length) * P.bytesOf e) (by simp [DataW.weights, hu])
    rw [hb] at this
    have e : reachBytes = 140737488351232 := by decide
    rw [e, Nat.add_mul] at this
    omega
theorem weight_in {ts : List TypeId} {ds : List (DataW H)} (hz : (DataW.weightsEach P ts ds).all (· ≤ reachBytes) = true) {j : Nat} {t : TypeId} {d : DataW H} (ht : ts[j]? = some t) (hd : ds[j]? = some d) : ∀ k ∈ d.weights P t, k ≤ reachBytes :=
  fun k hk => of_decide_eq_true (List.all_eq_true.1 hz k (DataW.weights_mem_each ht hd k hk))
end
/-! ### as bytes -/
/-- Can it be packed? -/
def LetP.Fits (x : LetP) : Prop :=
  (x.kind = 2 → x.op.frm.length ≤ 65536 ∧ x.op.to.length ≤ 65536 ∧ x.op.key.length ≤ 65536) ∧ (x.kind = 3 → x.rep.rows.length ≤ 600 ∧ ∀ r ∈ x.rep.rows, r.name.length ≤ 65536) ∧ (x.kind ≠ 2 → x.kind ≠ 3 → x.body.length ≤ 65536)
instance (x : LetP) : Decidable x.Fits := by unfold LetP.Fits; infer_instance
def letv (x : LetP) : List UInt8 :=
  iv x.kind ++ (if x.kind = 2 then iv x.n ++ opv x.op else if x.kind = 3 then iv x.n ++ rpv x.rep else if x.kind = 5 then iv x.n ++ (iv x.group ++ tv x.body) else if x.kind = 4 then iv x.n ++ tv x.body else tv x.body)
/-- A letter as bytes, and the error. -/
def packB (x : LetP) : List UInt8 × Int :=
  if x.kind < 1 ∨ 5 < x.kind then ([], 1) else if ¬ x.Fits then ([], 3) else if 1048576 < (letv x).length then ([], 3) else (letv x, 0)
/-- The group that an operation goes to. -/
def groupI (k : Int) : Int := if k = 6 ∨ k = 7 then 0 else -1
/-- What counts of a letter. -/
def LetP.just (x : LetP) : LetP :=
  ⟨x.kind, if x.kind = 1 then 0 else x.n, if x.kind = 5 then x.group else 0, if x.kind = 2 then x.op else ⟨0, [], [], 0, [], 0, 0⟩, if x.kind = 3 then x.rep else ⟨0, 0, []⟩, if x.kind = 2 ∨ x.kind = 3 then [] else x.body⟩
end Go.Q
namespace Go.Q
open Go.ChangeShapes Go.WideShapes Go.ChangeAt Go.RowKit Go.Deep
section
variable {H : Type} {enc : TypeId × Value → H} {P : Program} {w : World} {base : Nat} {spare : Nat → Bool} {held : Bool}
theorem weightsAll_mem {e : TypeId} : ∀ {l : List (DataW H)} {d : DataW H}, d ∈ l → ∀ {n : Nat}, n ∈ d.weights P e → n ∈ DataW.weightsAll P e l
  | [], d, h, _, _ => by cases h
  | x :: l, d, h, n, hn => by
    simp only [DataW.weightsAll, List.mem_append]
    rcases List.mem_cons.1 h with rfl | h
    · exact .inl hn
    · exact .inr (weightsAll_mem h hn)
theorem open_rows_w {t e : TypeId} {sz : Nat} {v : Value} {d : DataW H} {ps : List MemPlace} (R : List Value → DataW H → Prop) (ht : P.underlying t = some (.slice e)) (hC : P.cellsOf e = sz) (hsz : 0 < sz)
    {fuel : Nat} (h : DataW.trod enc P w base spare held fuel t [v] = some (d, ps))
    (dec : ∀ (m : Nat) (cs : List Value) (y : DataW H × List MemPlace), cs.length = sz → DataW.trod enc P w base spare held m e cs = some y → R cs y.1) :
    ∃ css : List (List Value), Rd w sz v css.flatten ∧ (∀ cs ∈ css, ∃ z, R cs z ∧ ∀ n ∈ z.weights P e, n ∈ d.weights P t) ∧ (css.length = 0 ∨ ∃ k ∈ d.weights P t, css.length * P.bytesOf e ≤ k) ∧ ∃ A c, v = .slice A css.length c := by
  have hv := slice_trod ht h
  rcases open_slice ht h with ⟨hcs, hx⟩ | ⟨a, len, cap', m, k, D, Pl, hcs, hb, hl, hm, hmm, hxx, hi⟩
  · simp only [List.cons.injEq, and_true] at hcs
    subst hcs
    exact ⟨[], Rd.nil w sz, by simp, .inl rfl, none, 0, rfl⟩
  · have hd : d = .slice ((List.range len).map D) ((List.range (m - len)).map fun j => D (len + j)) := by
      simp only [Prod.mk.injEq] at hxx; exact hxx.1
    have hlm : len ≤ m := by rw [hmm]; split <;> omega
    -- each element's cells are read as one of the data
    obtain ⟨css, hr, hc, hdd, A, c, hA⟩ := open_rows (fun cs => ∃ z, R cs z) ht hC hsz hv h fun m cs y hl htr => ⟨y.1, dec m cs y hl htr⟩
    -- the same rows, told with their places
    have hn : css.length = len := by
      simp only [List.cons.injEq, and_true] at hcs
      rw [hA] at hcs
      injection hcs with _ h2 _
    have hat : ∀ i, i < len → ∃ cs z, css[i]? = some cs ∧ R cs z ∧ ∀ n ∈ z.weights P e, n ∈ d.weights P t := by
      intro i hin
      obtain ⟨cs', hc', htr⟩ := hi i (by omega)
      rw [hC] at hc'
      obtain ⟨_, hlen, hcell⟩ := World.cells?_some hc'
      have hci : i < css.length := by omega
      refine ⟨css[i], D i, List.getElem?_eq_getElem hci, ?_, ?_⟩
      · have hcl := (hc css[i] (List.getElem_mem hci)).1
        have heq : css[i] = cs' := by
          apply List.ext_getElem?
          intro j
          rcases Nat.lt_or_ge j sz with hj | hj
          · have h1 : css[i][j]? = some (css[i][j]'(by omega)) := List.getElem?_eq_getElem (by omega)
            have h2 : cs'[j]? = some (cs'[j]'(by omega)) := List.getElem?_eq_getElem (by omega)
            have hfl : (css.flatten)[i * sz + j]? = css[i][j]? := by
              have e1 : css.flatten = css.flatMap id := by simp [List.flatMap]
              have hall : ∀ l : List (List Value), (∀ x ∈ l, x.length = sz) → ∀ (k : Nat) (x : List Value), l[k]? = some x → ∀ q, q < sz → l.flatten[k * sz + q]? = x[q]? := by
                intro l
                induction l with
                | nil => intro _ k x hx; simp at hx
                | cons y l ih =>
                  intro hy k x hx q hq
                  have hyl := hy y (by simp)
                  cases k with
                  | zero =>
                    simp only [List.getElem?_cons_zero, Option.some.injEq] at hx
                    subst hx
                    rw [List.flatten_cons, Nat.zero_mul, Nat.zero_add, List.getElem?_append_left (by omega)]
                  | succ k =>
                    simp only [List.getElem?_cons_succ] at hx
                    rw [List.flatten_cons, List.getElem?_append_right (by rw [hyl, Nat.add_mul]; omega), hyl, show (k + 1) * sz + q - sz = k * sz + q from by rw [Nat.add_mul]; omega]
                    exact ih (fun z hz => hy z (by simp [hz])) k x hx q hq
              exact hall css (fun x hx => (hc x hx).1) i _ (List.getElem?_eq_getElem hci) j hj
            obtain ⟨bk, off, hAA⟩ := Rd.addr (hA ▸ hr : Rd w sz (.slice A css.length c) css.flatten) (by omega)
            have hw1 := Rd.cell (hA ▸ hr : Rd w sz (.slice A css.length c) css.flatten) hAA (hfl.trans h1)
            have hw2 := hcell j hj
            have ha : a = ⟨bk, off, none⟩ := by
              simp only [List.cons.injEq, and_true] at hcs
              rw [hA] at hcs
              injection hcs with h1 _ _
              rw [hAA] at h1
              exact (Option.some.inj h1).symm
            rw [ha, add_plain, add_plain, Nat.add_assoc, hw1, h2] at hw2
            rw [h1, h2]
            exact hw2
          · rw [List.getElem?_eq_none (by omega), List.getElem?_eq_none (by omega)]
        rw [heq]
        exact dec _ cs' _ hlen htr
      · intro n hn'
        rw [hd]
        simp only [DataW.weights, ht]
        exact List.mem_cons.2 (.inr (List.mem_append.2 (.inl (weightsAll_mem (List.mem_map.2 ⟨i, List.mem_range.2 hin, rfl⟩) hn'))))
    refine ⟨css, hr, fun cs hcs => ?_, ?_, A, c, hA⟩
    · obtain ⟨i, hi1, hi2⟩ := List.getElem_of_mem hcs
      obtain ⟨cs2, z, h1, h2, h3⟩ := hat i (by omega)
      rw [List.getElem?_eq_getElem hi1, hi2] at h1
      have := Option.some.inj h1
      subst this
      exact ⟨z, h2, h3⟩
    · refine .inr ⟨_, by rw [hd]; simp only [DataW.weights, ht]; exact List.mem_cons_self .., ?_⟩
      rw [hn]
      exact Nat.mul_le_mul_right _ (by simp)
/-- Entries that come in. -/
theorem open_entsW {t e b tb i0 : TypeId} {fs : Array Field} {v : Value} {d : DataW H} {ps : List MemPlace} (ht : P.underlying t = some (.slice e)) (he : P.underlying e = some (.struct fs)) (hC : P.cellsOf e = 2) (hbe : P.bytesOf e = 32)
    (k0 : fieldAt? P fs 0 = some (0, 1, i0)) (k1 : fieldAt? P fs 1 = some (1, 1, tb)) (u0 : P.underlying i0 = some (.int .i64)) (u1 : P.underlying tb = some (.slice b)) (hb8 : P.underlying b = some (.int .u8)) (hbC : P.cellsOf b = 1) (hbb : P.bytesOf b = 1)
    (hv : Value.okWide P w .any 0 t v) (hz : ∀ k ∈ d.weights P t, k ≤ reachBytes) (h : DataW.Trod enc P w base spare held t v d ps) :
    ∃ (l : List EntP) (A : Option Addr) (c : Nat), v = .slice A l.length c ∧ RdE w (.slice A l.length c) l ∧ EntsIn w l ∧ EntsOk l ∧ l.length * 32 ≤ 140737488351232 ∧ ∀ x ∈ l, x.cmd.length ≤ 140737488351232 := by
  obtain ⟨fuel, h⟩ := trod_fuel h (slice_form ht hv)
  have hr : reachBytes = 140737488351232 := by decide
  rw [hr] at hz
  obtain ⟨css, hR, hc, hl, A, c, hA⟩ := open_rows_w (sz := 2) (fun cs z => (∀ k ∈ z.weights P e, k ≤ 140737488351232) → ∃ x : EntP, ((-9223372036854775808 ≤ x.term ∧ x.term ≤ 9223372036854775807) ∧ RdB w (.slice x.A x.cmd.length x.c) x.cmd ∧ x.cmd.length ≤ 140737488351232) ∧ cs = x.cells) ht hC (by decide) h fun m cs y hl htr hz => by
    match cs, hl with
    | [c0, c1], _ =>
      obtain ⟨m0, z0, s0, _⟩ := trod_field he htr k0
      obtain ⟨m1, z1, s1, w1⟩ := trod_field he htr k1
      obtain ⟨n0, e0, _, w0⟩ := DataW.trod_int u0 s0
      have hs1 := slice_trod u1 (v := c1) s1
      obtain ⟨bs, hB, hBd⟩ := open_bytes_in (d := z1.1) (ps := z1.2) u1 hb8 hbC hs1 s1
      have hbz := slice_weight u1 hbb (fun k hk => by rw [hr]; exact hz k (w1 k hk)) hBd
      rw [Nat.mul_one] at hbz
      obtain ⟨B, d, rfl⟩ := hB.form
      simp only [List.drop_zero, List.take_succ_cons, List.take_zero, List.cons.injEq, and_true] at e0
      subst e0
      exact ⟨⟨n0, B, d, bs⟩, ⟨wf_i64 w0, hB, hbz⟩, rfl⟩
  obtain ⟨l, hb, hl2, hg⟩ := flat_models (f := EntP.cells) (Good := fun x => (-9223372036854775808 ≤ x.term ∧ x.term ≤ 9223372036854775807) ∧ RdB w (.slice x.A x.cmd.length x.c) x.cmd ∧ x.cmd.length ≤ 140737488351232) (css := css) fun cs hcs => by
    obtain ⟨z, h1, h2⟩ := hc cs hcs
    exact h1 fun k hk => hz k (h2 k hk)
  rw [← hl2] at hA hl
  subst hA
  rw [hbe] at hl
  refine ⟨l, A, c, rfl, by unfold RdE RdT; rw [← hb]; exact hR, fun x hx => (hg x hx).2.1, fun x hx => (hg x hx).1, ?_, fun x hx => (hg x hx).2.2⟩
  rcases hl with h0 | ⟨k, hk, hk2⟩
  · omega
  · exact Nat.le_trans hk2 (hz k hk)
end
end Go.Q
