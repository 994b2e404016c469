/- a part of a log -/
import Derived.Test.YtncjidepplaocaaProg
import Derived.Test.YtncjidepplaocaaKB
import Derived.Test.YtncjidepplaocaaLX
set_option linter.unusedVariables false
namespace Go.Proofs.Ytncjidepplaocaa
open Go.Q Go.RowKit

theorem Part_calls (w : World) (T : Nat → Prop) (g : Nat) (base old : Int) (A : Option Addr) (c : Nat) (l : List EntP) (n most : Int) (H0 : Has w g (rowL [i64 base, i64 old, .slice A l.length c] 55)) (hE : Ents w T (.slice A l.length c) l) (hT : ∀ i, T i → i ≠ g) (hB : 0 ≤ base ∧ base ≤ 2305843009213693952) (hL : l.length ≤ 4096) (hn : -9223372036854775808 ≤ n ∧ n ≤ 9223372036854775807) (hmo : -9223372036854775808 ≤ most ∧ most ≤ 9223372036854775807) (hBig : BigK (l.map EntP.key)) : Calls Try.prog 11 ⟨[(ptr g), (i64 n), (i64 most)]⟩ w (fun e w' => ∃ l' A' c', e = .returned (.slice A' l'.length c') ∧ Keeps none_ w w' ∧ Ents w' (fun i => w.heap.size ≤ i ∧ i < w'.heap.size) (.slice A' l'.length c') l' ∧ l'.map EntP.key = partK base (l.map EntP.key) n most) := by
 have hcap := Ents.len hE
 have Hg := H0.lt
 have hcm := hcap.2.2
 unfold maxLen at hcm
 have K0 : Keeps none_ w w := Keeps.refl w
 refine q_calls Try.func11 (by kernel_rfl) (by kernel_rfl) ?_
 refine qs ?_
 refine qg ?_
 refine og 1 [(0, (ptr g)), (1, (i64 n)), (2, (i64 most)), (6, (Value.slice none 0 0))] 1 ?_
 refine od ?_
 refine qs ?_
 refine qs ?_
 refine qg ?_
 refine og 7 [(0, (ptr g)), (1, (i64 n)), (2, (i64 most)), (6, (Value.slice none 0 0)), (16, (Value.bool (decide (most < 1))))] 7 ?_
 refine Ops.split (decide (most < 1)) (fun h1 => ?_) (fun h1 => ?_)
 ·rw [h1]
  have p2 : most < 1 := of_decide_eq_true h1
  refine og 7 [(0, (ptr g)), (1, (i64 n)), (2, (i64 most)), (6, (Value.slice none 0 0)), (23, (Value.bool true))] 14 ?_
  refine od ?_
  refine q_then (o := .tmp 23) (by kernel_rfl) rfl ?_
  refine qs ?_
  refine qg ?_
  refine og 1 [(0, (ptr g)), (1, (i64 n)), (2, (i64 most)), (6, (Value.slice none 0 0))] 1 ?_
  refine od ?_
  refine q_ret (by kernel_rfl) ?_
  refine ⟨(Value.slice none 0 0), retv_tmp rfl rfl, ?_⟩
  have e : partK base (l.map EntP.key) n most = [] := partK_none (by omega)
  exact ⟨[], none, 0, rfl, K0, (Ents.nil _).mono (fun _ h => h.elim) (fun _ h => h.2), by rw [e]; rfl⟩
 ·rw [h1]
  have p3 : ¬ (most < 1) := of_decide_eq_false h1
  obtain ⟨m, hm⟩ : ∃ m : Nat, most = (m : Int) := Int.eq_ofNat_of_zero_le (by omega)
  subst hm
  refine og 4 [(0, (ptr g)), (1, (i64 n)), (2, (i64 ((m : Nat) : Int))), (6, (Value.slice none 0 0)), (16, (Value.bool false)), (17, (i64 n)), (20, (ptr g))] 11 ?_
  refine Ops.go (v := (i64 base)) (by kernel_rfl) (Runs.load (t := 2) (a := ⟨g, 0, none⟩) (by kernel_rfl) (H0.loads (by kernel_rfl))) (d := (some 21)) (by kernel_rfl) rfl ?_
  refine og 2 [(0, (ptr g)), (1, (i64 n)), (2, (i64 ((m : Nat) : Int))), (6, (Value.slice none 0 0)), (23, (Value.bool (decide (n ≤ base))))] 14 ?_
  refine od ?_
  refine q_cond (o := .tmp 23) (b := (decide (n ≤ base))) (by kernel_rfl) rfl (fun h4 => ?_) (fun h4 => ?_)
  ·rw [h4]
   have p5 : n ≤ base := of_decide_eq_true h4
   refine qs ?_
   refine qg ?_
   refine og 1 [(0, (ptr g)), (1, (i64 n)), (2, (i64 ((m : Nat) : Int))), (6, (Value.slice none 0 0))] 1 ?_
   refine od ?_
   refine q_ret (by kernel_rfl) ?_
   refine ⟨(Value.slice none 0 0), retv_tmp rfl rfl, ?_⟩
   have e : partK base (l.map EntP.key) n (m : Int) = [] := partK_none (by omega)
   exact ⟨[], none, 0, rfl, K0, (Ents.nil _).mono (fun _ h => h.elim) (fun _ h => h.2), by rw [e]; rfl⟩
  ·rw [h4]
   have p6 : ¬ (n ≤ base) := of_decide_eq_false h4
   refine q_skip (by kernel_rfl) ?_
   refine qs ?_
   refine qs ?_
   refine qg ?_
   refine og 2 [(0, (ptr g)), (1, (i64 n)), (2, (i64 ((m : Nat) : Int))), (6, (Value.slice none 0 0)), (25, (ptr g)), (26, (i64 n))] 2 ?_
   rcases at_or base l.length n with q7 | q8 | q9 | ⟨k12, q10, q11⟩
   ·skip
    refine Ops.call (by kernel_rfl) (d := (some 27)) (by kernel_rfl) (at_low _ T g base old A c l n H0 hE hT (by omega) (by omega) q7) ?_
    rintro _ w16 ⟨rfl, K15⟩
    refine ⟨_, _, rfl, rfl, ?_⟩
    replace K0 := K0.t0 K15
    replace H0 := H0.keep K15 (fun h => h)
    replace hE := Ents.keep0 hE K15
    clear K15
    refine og 4 [(0, (ptr g)), (1, (i64 n)), (2, (i64 ((m : Nat) : Int))), (6, (Value.slice none 0 0)), (29, (agg [(i64 0), (Value.slice none 0 0)])), (30, (Value.bool false))] 7 ?_
    refine Ops.new (o := rowL [(i64 0), (Value.slice none 0 0)] 64) (V := fun b => (ptr b)) (by kernel_rfl) (d := (some 7)) (by kernel_rfl) (fun b => rfl) (fun b17 w18 hb19 H20 K21 hs22 => ?_)
    have lb17g : g < b17 := by have := H0.lt; omega
    have nb17 : w.heap.size ≤ b17 := by have := K0.size; omega
    have ot23 : ∀ i, T i → i ≠ b17 := fun i hi => by have := Ents.lt hE i hi; omega
    replace K0 := K0.t0 K21
    replace H0 := H0.keep K21 (fun h => h)
    replace hE := Ents.keep0 hE K21
    clear K21 hs22
    refine Ops.put (t := 64) (b := b17) (off := 0) (v := (agg [(i64 0), (Value.slice none 0 0)])) (ys := [(i64 0), (Value.slice none 0 0)]) (by kernel_rfl) (by kernel_rfl) H20 (by kernel_rfl) (d := none) (by kernel_rfl) rfl (fun w24 H25 K26 => ?_)
    clear H20
    replace K0 := K0.trans K26 (U := none_) (fun i h1 h2 => h2) (fun i h1 h2 => by have h2 : i = b17 := h2; exfalso; omega)
    replace H0 := H0.keep K26 (by intro h; change g = b17 at h; omega)
    replace hE := Ents.keep hE K26 (fun i hi hs => by have hs : i = b17 := hs; have := ot23 i hi; omega)
    clear K26
    refine og 1 [(0, (ptr g)), (1, (i64 n)), (2, (i64 ((m : Nat) : Int))), (6, (Value.slice none 0 0)), (8, (Value.bool false))] 10 ?_
    refine od ?_
    refine qs ?_
    refine qg ?_
    refine og 2 [(0, (ptr g)), (1, (i64 n)), (2, (i64 ((m : Nat) : Int))), (6, (Value.slice none 0 0)), (32, (Value.bool true))] 2 ?_
    refine od ?_
    refine q_then (o := .tmp 32) (by kernel_rfl) rfl ?_
    refine qs ?_
    refine qg ?_
    refine og 1 [(0, (ptr g)), (1, (i64 n)), (2, (i64 ((m : Nat) : Int))), (6, (Value.slice none 0 0))] 1 ?_
    refine od ?_
    refine q_ret (by kernel_rfl) ?_
    refine ⟨(Value.slice none 0 0), retv_tmp rfl rfl, ?_⟩
    have e : partK base (l.map EntP.key) n (m : Int) = [] := partK_none (by omega)
    exact ⟨[], none, 0, rfl, K0, (Ents.nil _).mono (fun _ h => h.elim) (fun _ h => h.2), by rw [e]; rfl⟩
   ·skip
    refine Ops.call (by kernel_rfl) (d := (some 27)) (by kernel_rfl) (at_high _ T g base old A c l n H0 hE hT (by omega) (by omega) (by omega) q8) ?_
    rintro _ w28 ⟨rfl, K27⟩
    refine ⟨_, _, rfl, rfl, ?_⟩
    replace K0 := K0.t0 K27
    replace H0 := H0.keep K27 (fun h => h)
    replace hE := Ents.keep0 hE K27
    clear K27
    refine og 4 [(0, (ptr g)), (1, (i64 n)), (2, (i64 ((m : Nat) : Int))), (6, (Value.slice none 0 0)), (29, (agg [(i64 0), (Value.slice none 0 0)])), (30, (Value.bool false))] 7 ?_
    refine Ops.new (o := rowL [(i64 0), (Value.slice none 0 0)] 64) (V := fun b => (ptr b)) (by kernel_rfl) (d := (some 7)) (by kernel_rfl) (fun b => rfl) (fun b29 w30 hb31 H32 K33 hs34 => ?_)
    have lb29g : g < b29 := by have := H0.lt; omega
    have nb29 : w.heap.size ≤ b29 := by have := K0.size; omega
    have ot35 : ∀ i, T i → i ≠ b29 := fun i hi => by have := Ents.lt hE i hi; omega
    replace K0 := K0.t0 K33
    replace H0 := H0.keep K33 (fun h => h)
    replace hE := Ents.keep0 hE K33
    clear K33 hs34
    refine Ops.put (t := 64) (b := b29) (off := 0) (v := (agg [(i64 0), (Value.slice none 0 0)])) (ys := [(i64 0), (Value.slice none 0 0)]) (by kernel_rfl) (by kernel_rfl) H32 (by kernel_rfl) (d := none) (by kernel_rfl) rfl (fun w36 H37 K38 => ?_)
    clear H32
    replace K0 := K0.trans K38 (U := none_) (fun i h1 h2 => h2) (fun i h1 h2 => by have h2 : i = b29 := h2; exfalso; omega)
    replace H0 := H0.keep K38 (by intro h; change g = b29 at h; omega)
    replace hE := Ents.keep hE K38 (fun i hi hs => by have hs : i = b29 := hs; have := ot35 i hi; omega)
    clear K38
    refine og 1 [(0, (ptr g)), (1, (i64 n)), (2, (i64 ((m : Nat) : Int))), (6, (Value.slice none 0 0)), (8, (Value.bool false))] 10 ?_
    refine od ?_
    refine qs ?_
    refine qg ?_
    refine og 2 [(0, (ptr g)), (1, (i64 n)), (2, (i64 ((m : Nat) : Int))), (6, (Value.slice none 0 0)), (32, (Value.bool true))] 2 ?_
    refine od ?_
    refine q_then (o := .tmp 32) (by kernel_rfl) rfl ?_
    refine qs ?_
    refine qg ?_
    refine og 1 [(0, (ptr g)), (1, (i64 n)), (2, (i64 ((m : Nat) : Int))), (6, (Value.slice none 0 0))] 1 ?_
    refine od ?_
    refine q_ret (by kernel_rfl) ?_
    refine ⟨(Value.slice none 0 0), retv_tmp rfl rfl, ?_⟩
    have e : partK base (l.map EntP.key) n (m : Int) = [] := partK_none (by omega)
    exact ⟨[], none, 0, rfl, K0, (Ents.nil _).mono (fun _ h => h.elim) (fun _ h => h.2), by rw [e]; rfl⟩
   ·skip
    refine Ops.call (by kernel_rfl) (d := (some 27)) (by kernel_rfl) (at_gone _ T g base old A c l n H0 hE hT (by omega) (by omega) q9) ?_
    rintro _ w40 ⟨rfl, K39⟩
    refine ⟨_, _, rfl, rfl, ?_⟩
    replace K0 := K0.t0 K39
    replace H0 := H0.keep K39 (fun h => h)
    replace hE := Ents.keep0 hE K39
    clear K39
    refine og 4 [(0, (ptr g)), (1, (i64 n)), (2, (i64 ((m : Nat) : Int))), (6, (Value.slice none 0 0)), (29, (agg [(i64 0), (Value.slice none 0 0)])), (30, (Value.bool false))] 7 ?_
    refine Ops.new (o := rowL [(i64 0), (Value.slice none 0 0)] 64) (V := fun b => (ptr b)) (by kernel_rfl) (d := (some 7)) (by kernel_rfl) (fun b => rfl) (fun b41 w42 hb43 H44 K45 hs46 => ?_)
    have lb41g : g < b41 := by have := H0.lt; omega
    have nb41 : w.heap.size ≤ b41 := by have := K0.size; omega
    have ot47 : ∀ i, T i → i ≠ b41 := fun i hi => by have := Ents.lt hE i hi; omega
    replace K0 := K0.t0 K45
    replace H0 := H0.keep K45 (fun h => h)
    replace hE := Ents.keep0 hE K45
    clear K45 hs46
    refine Ops.put (t := 64) (b := b41) (off := 0) (v := (agg [(i64 0), (Value.slice none 0 0)])) (ys := [(i64 0), (Value.slice none 0 0)]) (by kernel_rfl) (by kernel_rfl) H44 (by kernel_rfl) (d := none) (by kernel_rfl) rfl (fun w48 H49 K50 => ?_)
    clear H44
    replace K0 := K0.trans K50 (U := none_) (fun i h1 h2 => h2) (fun i h1 h2 => by have h2 : i = b41 := h2; exfalso; omega)
    replace H0 := H0.keep K50 (by intro h; change g = b41 at h; omega)
    replace hE := Ents.keep hE K50 (fun i hi hs => by have hs : i = b41 := hs; have := ot47 i hi; omega)
    clear K50
    refine og 1 [(0, (ptr g)), (1, (i64 n)), (2, (i64 ((m : Nat) : Int))), (6, (Value.slice none 0 0)), (8, (Value.bool false))] 10 ?_
    refine od ?_
    refine qs ?_
    refine qg ?_
    refine og 2 [(0, (ptr g)), (1, (i64 n)), (2, (i64 ((m : Nat) : Int))), (6, (Value.slice none 0 0)), (32, (Value.bool true))] 2 ?_
    refine od ?_
    refine q_then (o := .tmp 32) (by kernel_rfl) rfl ?_
    refine qs ?_
    refine qg ?_
    refine og 1 [(0, (ptr g)), (1, (i64 n)), (2, (i64 ((m : Nat) : Int))), (6, (Value.slice none 0 0))] 1 ?_
    refine od ?_
    refine q_ret (by kernel_rfl) ?_
    refine ⟨(Value.slice none 0 0), retv_tmp rfl rfl, ?_⟩
    have e : partK base (l.map EntP.key) n (m : Int) = [] := partK_none (by omega)
    exact ⟨[], none, 0, rfl, K0, (Ents.nil _).mono (fun _ h => h.elim) (fun _ h => h.2), by rw [e]; rfl⟩
   ·skip
    obtain ⟨x13, hx14⟩ : ∃ y, l[k12]? = some y := ⟨_, List.getElem?_eq_getElem q11⟩
    refine Ops.call (by kernel_rfl) (d := (some 27)) (by kernel_rfl) (at_here _ T g base old A c l n k12 x13 H0 hE hT (by omega) (by omega) q10 q11 hx14) ?_
    rintro _ w52 ⟨rfl, K51⟩
    refine ⟨_, _, rfl, rfl, ?_⟩
    replace K0 := K0.t0 K51
    replace H0 := H0.keep K51 (fun h => h)
    replace hE := Ents.keep0 hE K51
    clear K51
    refine og 4 [(0, (ptr g)), (1, (i64 n)), (2, (i64 ((m : Nat) : Int))), (6, (Value.slice none 0 0)), (29, (agg [(i64 x13.term), (Value.slice x13.A x13.cmd.length x13.c)])), (30, (Value.bool true))] 7 ?_
    refine Ops.new (o := rowL [(i64 0), (Value.slice none 0 0)] 64) (V := fun b => (ptr b)) (by kernel_rfl) (d := (some 7)) (by kernel_rfl) (fun b => rfl) (fun b53 w54 hb55 H56 K57 hs58 => ?_)
    have lb53g : g < b53 := by have := H0.lt; omega
    have nb53 : w.heap.size ≤ b53 := by have := K0.size; omega
    have ot59 : ∀ i, T i → i ≠ b53 := fun i hi => by have := Ents.lt hE i hi; omega
    replace K0 := K0.t0 K57
    replace H0 := H0.keep K57 (fun h => h)
    replace hE := Ents.keep0 hE K57
    clear K57 hs58
    refine Ops.put (t := 64) (b := b53) (off := 0) (v := (agg [(i64 x13.term), (Value.slice x13.A x13.cmd.length x13.c)])) (ys := [(i64 x13.term), (Value.slice x13.A x13.cmd.length x13.c)]) (by kernel_rfl) (by kernel_rfl) H56 (by kernel_rfl) (d := none) (by kernel_rfl) rfl (fun w60 H61 K62 => ?_)
    clear H56
    replace K0 := K0.trans K62 (U := none_) (fun i h1 h2 => h2) (fun i h1 h2 => by have h2 : i = b53 := h2; exfalso; omega)
    replace H0 := H0.keep K62 (by intro h; change g = b53 at h; omega)
    replace hE := Ents.keep hE K62 (fun i hi hs => by have hs : i = b53 := hs; have := ot59 i hi; omega)
    clear K62
    refine og 1 [(0, (ptr g)), (1, (i64 n)), (2, (i64 ((m : Nat) : Int))), (6, (Value.slice none 0 0)), (8, (Value.bool true))] 10 ?_
    refine od ?_
    refine qs ?_
    refine qg ?_
    refine og 2 [(0, (ptr g)), (1, (i64 n)), (2, (i64 ((m : Nat) : Int))), (6, (Value.slice none 0 0)), (32, (Value.bool false))] 2 ?_
    refine od ?_
    refine q_else (o := .tmp 32) (by kernel_rfl) rfl ?_
    refine q_skip (by kernel_rfl) ?_
    refine qs ?_
    refine q_draw (fun wz => Keeps none_ w60 wz) 13 (by kernel_rfl) (by kernel_rfl) (by kernel_rfl) (fun w63 K64 _ _ => ⟨K64, ?_⟩)
    replace K0 := K0.t0 K64
    replace H0 := H0.keep K64 (fun h => h)
    replace H61 := H61.keep K64 (fun h => h)
    replace hE := Ents.keep0 hE K64
    refine Dr.strong (S' := (fun wz => Keeps none_ w63 wz)) (Keeps.refl w63) (fun wz hx => K64.trans hx (fun i _ h => h) (fun _ _ h => h)) ?_
    clear K64
    refine Dr.takes (fuel' := 10) (is' := [2, 1, 0]) [0, 1, 2] [(0, (ptr g)), (1, (i64 n)), (2, (i64 ((m : Nat) : Int))), (6, (Value.slice none 0 0)), (35, (Value.pointer (some ⟨g, 2, none⟩)))] (by kernel_rfl) rfl (by kernel_rfl) ?_
    refine Dr.take (i := 3) (v := (Value.slice A l.length c)) (by kernel_rfl) (by kernel_rfl) (fun wz hS => Runs.load (t := 22) (a := ⟨g, 2, none⟩) (by kernel_rfl) ((H0.keep hS (fun h => h)).loads (by kernel_rfl))) (d := (some 36)) (by kernel_rfl) rfl ?_
    refine Dr.takes (fuel' := 5) (is' := [7, 6, 5, 4, 3, 2, 1, 0]) [4, 5, 6, 7] [(2, (i64 ((m : Nat) : Int))), (6, (Value.slice none 0 0)), (36, (Value.slice A l.length c)), (37, (i64 n)), (40, (ptr g))] (by kernel_rfl) rfl (by kernel_rfl) ?_
    refine Dr.take (i := 8) (v := (i64 base)) (by kernel_rfl) (by kernel_rfl) (fun wz hS => Runs.load (t := 2) (a := ⟨g, 0, none⟩) (by kernel_rfl) ((H0.keep hS (fun h => h)).loads (by kernel_rfl))) (d := (some 41)) (by kernel_rfl) rfl ?_
    refine Dr.takes (fuel' := 3) (is' := [9, 8, 7, 6, 5, 4, 3, 2, 1, 0]) [9] [(2, (i64 ((m : Nat) : Int))), (6, (Value.slice none 0 0)), (36, (Value.slice A l.length c)), (42, (i64 (IntKind.i64.wrap (n - base))))] (by kernel_rfl) rfl (by kernel_rfl) ?_
    have e65 : IntKind.i64.wrap (n - base) = ((k12 + 1 : Nat) : Int) := by rw [wrap_i64 (by omega) (by omega)]; omega
    rw [e65]
    refine Dr.takes (fuel' := 2) (is' := [10, 9, 8, 7, 6, 5, 4, 3, 2, 1, 0]) [10] [(2, (i64 ((m : Nat) : Int))), (6, (Value.slice none 0 0)), (36, (Value.slice A l.length c)), (43, (i64 (IntKind.i64.wrap (((k12 + 1 : Nat) : Int) - 1))))] (by kernel_rfl) rfl (by kernel_rfl) ?_
    have e66 : IntKind.i64.wrap (((k12 + 1 : Nat) : Int) - 1) = ((k12 : Nat) : Int) := by rw [wrap_i64 (by omega) (by omega)]; omega
    rw [e66]
    obtain ⟨A72, c73, hr69, hE70⟩ := Ents.cutRun (P := Try.prog) (t := 22) (e := 43) (by kernel_rfl) (by kernel_rfl) hE k12 l.length (kl := .i64) (hi := none) (.inl ⟨rfl, rfl⟩) (by omega) (by omega)
    obtain ⟨l67, hl68⟩ : ∃ z, z = (l.drop k12).take (l.length - k12) := ⟨_, rfl⟩
    rw [← hl68] at hr69 hE70
    have hn71 : l67.length = l.length - k12 := by rw [hl68]; simp only [List.length_take, List.length_drop]; omega
    have hc74 := Ents.len hE70
    refine Dr.take (i := 11) (v := (Value.slice A72 l67.length c73)) (by kernel_rfl) (by kernel_rfl) (fun wz hS => Runs.slice (by kernel_rfl) (hr69 _)) (d := (some 44)) (by kernel_rfl) rfl ?_
    refine Dr.takes (fuel' := 0) (is' := [12, 11, 10, 9, 8, 7, 6, 5, 4, 3, 2, 1, 0]) [12] [(2, (i64 ((m : Nat) : Int))), (6, (Value.slice none 0 0)), (9, (Value.slice A72 l67.length c73))] (by kernel_rfl) rfl (by kernel_rfl) ?_
    refine Dr.done (by kernel_rfl) ?_
    refine qs ?_
    refine qg ?_
    refine og 5 [(6, (Value.slice none 0 0)), (45, (Value.slice A72 l67.length c73)), (49, (i64 (if (((l67.length : Nat) : Int) : Int) < ((m : Nat) : Int) then (((l67.length : Nat) : Int) : Int) else ((m : Nat) : Int))))] 5 ?_
    have e75 : (if (((l67.length : Nat) : Int) : Int) < ((m : Nat) : Int) then (((l67.length : Nat) : Int) : Int) else ((m : Nat) : Int)) = ((min m l67.length : Nat) : Int) := by split <;> omega
    rw [e75]
    clear e75
    obtain ⟨hr78, hE79⟩ := Ents.headRun (P := Try.prog) (t := 22) (e := 43) (by kernel_rfl) (by kernel_rfl) hE70 (min m l67.length) c73 (kh := .i64) (mx := none) (.inl ⟨rfl, rfl⟩) (by omega) (by omega) (by omega)
    obtain ⟨l76, hl77⟩ : ∃ z, z = l67.take (min m l67.length) := ⟨_, rfl⟩
    rw [← hl77] at hr78 hE79
    have hn80 : l76.length = min m l67.length := by rw [hl77]; simp only [List.length_take]; omega
    have hc81 := Ents.len hE79
    refine Ops.go (v := (Value.slice A72 l76.length c73)) (by kernel_rfl) (Runs.slice (by kernel_rfl) (hr78 _)) (d := (some 50)) (by kernel_rfl) rfl ?_
    refine Ops.call (by kernel_rfl) (d := (some 51)) (by kernel_rfl) (own_calls _ T A72 c73 l76 hE79 (BigK.l (BigK.take hl77 (BigK.cut hl68 hBig))) (by omega)) ?_
    rintro _ w85 ⟨l82, A83, c84, rfl, K86, hE87, hK88⟩
    have ot89 : ∀ i, (fun i => w63.heap.size ≤ i ∧ i < w85.heap.size) i → i ≠ g := fun i hi => by have := hi.1; have := H0.lt; omega
    have ot90 : ∀ i, (fun i => w63.heap.size ≤ i ∧ i < w85.heap.size) i → i ≠ b53 := fun i hi => by have := hi.1; have := H61.lt; omega
    have hz91 := K0.size
    have hn92 := keys_len2 hK88
    try rw [List.length_drop] at hn92
    try rw [List.length_append] at hn92
    try rw [List.length_map] at hn92
    try rw [List.length_map] at hn92
    refine ⟨_, _, rfl, rfl, ?_⟩
    replace K0 := K0.t0 K86
    replace H0 := H0.keep K86 (fun h => h)
    replace H61 := H61.keep K86 (fun h => h)
    replace hE := Ents.keep0 hE K86
    replace hE70 := Ents.keep0 hE70 K86
    replace hE79 := Ents.keep0 hE79 K86
    clear K86
    refine og 1 [(6, (Value.slice A83 l82.length c84))] 8 ?_
    refine od ?_
    refine q_ret (by kernel_rfl) ?_
    refine ⟨(Value.slice A83 l82.length c84), retv_tmp rfl rfl, ?_⟩
    have e := partK_here (l := l) (m := m) q10 (by omega) (by omega) hl68 hl77
    exact ⟨l82, A83, c84, rfl, K0, (hE87).mono (fun i hi => ⟨by have := hi.1; omega, Ents.lt hE87 i hi⟩) (fun i hi => hi.2), by rw [hK88, e]⟩
end Go.Proofs.Ytncjidepplaocaa
