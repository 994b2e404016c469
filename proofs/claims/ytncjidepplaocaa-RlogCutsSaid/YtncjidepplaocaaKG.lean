/- a log is cut -/
import Derived.Test.YtncjidepplaocaaProg
import Derived.Test.YtncjidepplaocaaKC
import Derived.Test.YtncjidepplaocaaLX
set_option linter.unusedVariables false
namespace Go.Proofs.Ytncjidepplaocaa
open Go.Q Go.RowKit

theorem ClipE_calls (w : World) (T : Nat → Prop) (A : Option Addr) (c : Nat) (l : List EntP) (hE : Ents w T (.slice A l.length c) l) : Calls Try.prog 29 ⟨[(Value.slice A l.length c)]⟩ w (fun e w' => e = .returned (.slice A l.length l.length) ∧ w = w') := by
 have hcap := Ents.len hE
 have K0 : Keeps none_ w w := Keeps.refl w
 refine q_calls Try.func29 (by kernel_rfl) (by kernel_rfl) ?_
 refine qs ?_
 refine qg ?_
 refine og 1 [(0, (Value.slice A l.length c)), (2, (Value.slice none 0 0))] 1 ?_
 refine od ?_
 refine qs ?_
 refine qg ?_
 refine og 5 [(2, (Value.slice none 0 0)), (3, (Value.slice A l.length c)), (5, (i64 ((l.length : Nat) : Int))), (7, (i64 ((l.length : Nat) : Int)))] 5 ?_
 obtain ⟨hr3, hE4⟩ := Ents.headRun (P := Try.prog) (t := 22) (e := 43) (by kernel_rfl) (by kernel_rfl) hE l.length l.length (kh := .i64) (mx := (some (i64 ((l.length : Nat) : Int)))) (.inr ⟨_, rfl⟩) (by omega) (by omega) (by omega)
 obtain ⟨l1, hl2⟩ : ∃ z, z = l.take l.length := ⟨_, rfl⟩
 rw [← hl2] at hr3 hE4
 have hn5 : l1.length = l.length := by rw [hl2]; simp only [List.length_take]; omega
 have hc6 := Ents.len hE4
 refine Ops.go (v := (Value.slice A l1.length l.length)) (by kernel_rfl) (Runs.slice (by kernel_rfl) (hr3 _)) (d := (some 8)) (by kernel_rfl) rfl ?_
 refine og 1 [(2, (Value.slice A l1.length l.length))] 7 ?_
 refine od ?_
 refine q_ret (by kernel_rfl) ?_
 refine ⟨(Value.slice A l1.length l.length), retv_tmp rfl rfl, ?_⟩
 exact ⟨by rw [hl2, List.take_length], rfl⟩

theorem Cut_ok (w : World) (T : Nat → Prop) (g : Nat) (base old : Int) (A : Option Addr) (c : Nat) (l : List EntP) (n : Int) (k : Nat) (H0 : Has w g (rowL [i64 base, i64 old, .slice A l.length c] 55)) (hE : Ents w T (.slice A l.length c) l) (hT : ∀ i, T i → i ≠ g) (hB : 0 ≤ base ∧ base ≤ 2305843009213693952) (hL : l.length ≤ 4096) (hn : -9223372036854775808 ≤ n ∧ n ≤ 9223372036854775807) (hq : n = base + (k : Int) + 1) (hk : k ≤ l.length) : Calls Try.prog 19 ⟨[(ptr g), (i64 n)]⟩ w (fun e w' => ∃ l', e = .returned (i64 0) ∧ Keeps (fun i => i = g) w w' ∧ Has w' g (rowL [i64 base, i64 old, .slice A l'.length l'.length] 55) ∧ Ents w' T (.slice A l'.length l'.length) l' ∧ l'.map EntP.key = (l.map EntP.key).take k) := by
 have hcap := Ents.len hE
 have Hg := H0.lt
 subst hq
 have K0 : Keeps (fun i => i = g) w w := (Keeps.refl w).mono (fun _ _ h => h.elim)
 refine q_calls Try.func19 (by kernel_rfl) (by kernel_rfl) ?_
 refine qs ?_
 refine qg ?_
 refine og 1 [(0, (ptr g)), (1, (i64 (base + (k : Int) + 1))), (4, (i64 0))] 1 ?_
 refine od ?_
 refine qs ?_
 refine qs ?_
 refine qg ?_
 refine og 2 [(0, (ptr g)), (1, (i64 (base + (k : Int) + 1))), (4, (i64 0)), (8, (Value.bool false))] 2 ?_
 refine od ?_
 refine q_else (o := .tmp 8) (by kernel_rfl) rfl ?_
 refine q_skip (by kernel_rfl) ?_
 refine qs ?_
 refine qg ?_
 refine og 1 [(0, (ptr g)), (1, (i64 (base + (k : Int) + 1))), (4, (i64 0)), (10, (ptr g))] 1 ?_
 refine Ops.call (by kernel_rfl) (d := (some 11)) (by kernel_rfl) (Last_calls _ T g base old A c l H0 hE hT (by omega) (by omega)) ?_
 rintro _ w2 ⟨rfl, K1⟩
 refine ⟨_, _, rfl, rfl, ?_⟩
 replace K0 := K0.trans K1 (U := (fun i => i = g)) (fun i h1 h2 => h2) (fun i h1 h2 => by exact h2.elim)
 replace H0 := H0.keep K1 (fun h => h)
 replace hE := Ents.keep0 hE K1
 clear K1
 refine og 5 [(0, (ptr g)), (1, (i64 (base + (k : Int) + 1))), (4, (i64 0)), (5, (i64 (base + ((l.length : Nat) : Int))))] 7 ?_
 refine od ?_
 refine qs ?_
 refine qs ?_
 refine qg ?_
 refine og 4 [(0, (ptr g)), (1, (i64 (base + (k : Int) + 1))), (4, (i64 0)), (5, (i64 (base + ((l.length : Nat) : Int)))), (14, (i64 (base + (k : Int) + 1))), (17, (ptr g))] 4 ?_
 refine Ops.go (v := (i64 base)) (by kernel_rfl) (Runs.load (t := 2) (a := ⟨g, 0, none⟩) (by kernel_rfl) (H0.loads (by kernel_rfl))) (d := (some 18)) (by kernel_rfl) rfl ?_
 refine og 2 [(0, (ptr g)), (1, (i64 (base + (k : Int) + 1))), (4, (i64 0)), (5, (i64 (base + ((l.length : Nat) : Int)))), (20, (Value.bool (decide (base + (k : Int) + 1 ≤ base))))] 7 ?_
 refine Ops.split (decide (base + (k : Int) + 1 ≤ base)) (fun h3 => ?_) (fun h3 => ?_)
 ·rw [h3]
  have p4 : base + (k : Int) + 1 ≤ base := of_decide_eq_true h3
  refine og 5 [(0, (ptr g)), (1, (i64 (base + (k : Int) + 1))), (4, (i64 0)), (25, (Value.bool true))] 12 ?_
  refine od ?_
  refine q_then (o := .tmp 25) (by kernel_rfl) rfl ?_
  refine qs ?_
  refine qg ?_
  refine og 1 [(0, (ptr g)), (1, (i64 (base + (k : Int) + 1))), (4, (i64 1))] 1 ?_
  refine od ?_
  refine q_ret (by kernel_rfl) ?_
  refine ⟨(i64 1), retv_tmp rfl rfl, ?_⟩
  exfalso; omega
 ·rw [h3]
  have p5 : ¬ (base + (k : Int) + 1 ≤ base) := of_decide_eq_false h3
  refine og 3 [(0, (ptr g)), (1, (i64 (base + (k : Int) + 1))), (4, (i64 0)), (20, (Value.bool false)), (21, (i64 (base + (k : Int) + 1))), (23, (i64 (IntKind.i64.wrap ((base + ((l.length : Nat) : Int)) + 1))))] 10 ?_
  have e6 : IntKind.i64.wrap ((base + ((l.length : Nat) : Int)) + 1) = (base + ((l.length : Nat) : Int)) + 1 := wrap_i64 (by omega) (by omega)
  rw [e6]
  refine og 2 [(0, (ptr g)), (1, (i64 (base + (k : Int) + 1))), (4, (i64 0)), (25, (Value.bool (decide (base + (k : Int) + 1 > (base + ((l.length : Nat) : Int)) + 1))))] 12 ?_
  refine od ?_
  refine q_cond (o := .tmp 25) (b := (decide (base + (k : Int) + 1 > (base + ((l.length : Nat) : Int)) + 1))) (by kernel_rfl) rfl (fun h7 => ?_) (fun h7 => ?_)
  ·rw [h7]
   have p8 : base + (k : Int) + 1 > (base + ((l.length : Nat) : Int)) + 1 := of_decide_eq_true h7
   refine qs ?_
   refine qg ?_
   refine og 1 [(0, (ptr g)), (1, (i64 (base + (k : Int) + 1))), (4, (i64 1))] 1 ?_
   refine od ?_
   refine q_ret (by kernel_rfl) ?_
   refine ⟨(i64 1), retv_tmp rfl rfl, ?_⟩
   exfalso; omega
  ·rw [h7]
   have p9 : ¬ (base + (k : Int) + 1 > (base + ((l.length : Nat) : Int)) + 1) := of_decide_eq_false h7
   refine q_skip (by kernel_rfl) ?_
   refine qs ?_
   refine q_draw (fun wz => Keeps (fun i => i = g) w2 wz ∧ Loads Try.prog wz 2 ⟨g, 0, none⟩ (i64 base)) 17 (by kernel_rfl) (by kernel_rfl) (by kernel_rfl) (fun w10 K11 _ _ => ⟨⟨(K11.mono (fun _ _ h => h.elim)), ((H0.keep K11 (fun h => h)).loads (by kernel_rfl))⟩, ?_⟩)
   replace K0 := K0.trans K11 (U := (fun i => i = g)) (fun i h1 h2 => h2) (fun i h1 h2 => by exact h2.elim)
   replace H0 := H0.keep K11 (fun h => h)
   replace hE := Ents.keep0 hE K11
   refine Dr.strong (S' := (fun wz => Keeps (fun i => i = g) w10 wz ∧ Loads Try.prog wz 2 ⟨g, 0, none⟩ (i64 base))) ⟨((Keeps.refl w10).mono (fun _ _ h => h.elim)), (H0.loads (by kernel_rfl))⟩ (fun wz hx => ⟨K11.trans hx.1 (fun i _ h => h.elim) (fun _ _ h => h), hx.2⟩) ?_
   clear K11
   refine Dr.takes (fuel' := 9) (is' := [8, 7, 6, 5, 3, 2, 1, 0]) [0, 1, 2, 3, 5, 6, 7, 8] [(4, (i64 0)), (26, (ptr g)), (29, (Value.pointer (some ⟨g, 2, none⟩))), (31, (i64 (base + (k : Int) + 1))), (34, (ptr g))] (by kernel_rfl) rfl (by kernel_rfl) ?_
   refine Dr.take (i := 9) (v := (i64 base)) (by kernel_rfl) (by kernel_rfl) (fun wz hS => Runs.load (t := 2) (a := ⟨g, 0, none⟩) (by kernel_rfl) hS.2) (d := (some 35)) (by kernel_rfl) rfl ?_
   refine Dr.takes (fuel' := 7) (is' := [10, 9, 8, 7, 6, 5, 3, 2, 1, 0]) [10] [(4, (i64 0)), (26, (ptr g)), (29, (Value.pointer (some ⟨g, 2, none⟩))), (36, (i64 (IntKind.i64.wrap ((base + (k : Int) + 1) - base))))] (by kernel_rfl) rfl (by kernel_rfl) ?_
   have e12 : IntKind.i64.wrap ((base + (k : Int) + 1) - base) = ((k + 1 : Nat) : Int) := by rw [wrap_i64 (by omega) (by omega)]; omega
   rw [e12]
   refine Dr.takes (fuel' := 6) (is' := [11, 10, 9, 8, 7, 6, 5, 3, 2, 1, 0]) [11] [(4, (i64 0)), (26, (ptr g)), (29, (Value.pointer (some ⟨g, 2, none⟩))), (37, (i64 (IntKind.i64.wrap (((k + 1 : Nat) : Int) - 1))))] (by kernel_rfl) rfl (by kernel_rfl) ?_
   have e13 : IntKind.i64.wrap (((k + 1 : Nat) : Int) - 1) = ((k : Nat) : Int) := by rw [wrap_i64 (by omega) (by omega)]; omega
   rw [e13]
   refine Dr.go (i := 4) (v := (Value.slice A l.length c)) (by kernel_rfl) (by kernel_rfl) (Runs.load (t := 22) (a := ⟨g, 2, none⟩) (by kernel_rfl) (H0.loads (by kernel_rfl))) (d := (some 30)) (by kernel_rfl) rfl ⟨((Keeps.refl _).mono (fun _ _ h => h.elim)), (H0.loads (by kernel_rfl))⟩ ?_
   obtain ⟨hr16, hE17⟩ := Ents.headRun (P := Try.prog) (t := 22) (e := 43) (by kernel_rfl) (by kernel_rfl) hE k c (kh := .i64) (mx := none) (.inl ⟨rfl, rfl⟩) (by omega) (by omega) (by omega)
   obtain ⟨l14, hl15⟩ : ∃ z, z = l.take k := ⟨_, rfl⟩
   rw [← hl15] at hr16 hE17
   have hn18 : l14.length = k := by rw [hl15]; simp only [List.length_take]; omega
   have hc19 := Ents.len hE17
   refine Dr.take (i := 12) (v := (Value.slice A l14.length c)) (by kernel_rfl) (by kernel_rfl) (fun wz hS => Runs.slice (by kernel_rfl) (hr16 _)) (d := (some 38)) (by kernel_rfl) rfl ?_
   refine Dr.call (i := 13) (by kernel_rfl) (by kernel_rfl) (d := (some 39)) (by kernel_rfl) (fun _ => ClipE_calls _ T A c l14 hE17) ?_
   rintro _ _ ⟨rfl, rfl⟩
   refine ⟨_, _, rfl, rfl, ⟨((Keeps.refl _).mono (fun _ _ h => h.elim)), (H0.loads (by kernel_rfl))⟩, ?_⟩
   have hE20 := Ents.clip hE17
   refine Dr.takes (fuel' := 1) (is' := [15, 14, 13, 12, 4, 11, 10, 9, 8, 7, 6, 5, 3, 2, 1, 0]) [14, 15] [(4, (i64 0)), (39, (Value.slice A l14.length l14.length)), (41, (Value.pointer (some ⟨g, 2, none⟩)))] (by kernel_rfl) rfl (by kernel_rfl) ?_
   refine Dr.put (i := 16) (t := 22) (b := g) (off := 2) (v := (Value.slice A l14.length l14.length)) (ys := [(i64 base), (i64 old), (Value.slice A l14.length l14.length)]) (by kernel_rfl) (by kernel_rfl) (by kernel_rfl) H0 (by kernel_rfl) (d := none) (by kernel_rfl) rfl (fun w21 H22 K23 => ?_)
   clear H0
   replace K0 := K0.trans K23 (U := (fun i => i = g)) (fun i h1 h2 => h2) (fun i h1 h2 => by have h2 : i = g := h2; show i = g; omega)
   replace hE := Ents.keep hE K23 (fun i hi hs => by have hs : i = g := hs; have := hT i hi; omega)
   replace hE17 := Ents.keep hE17 K23 (fun i hi hs => by have hs : i = g := hs; have := hT i hi; omega)
   replace hE20 := Ents.keep hE20 K23 (fun i hi hs => by have hs : i = g := hs; have := hT i hi; omega)
   refine ⟨⟨K23, (H22.loads (by kernel_rfl))⟩, ?_⟩
   refine Dr.strong (S' := (fun wz => Keeps (fun i => i = g) w21 wz ∧ Loads Try.prog wz 2 ⟨g, 0, none⟩ (i64 base))) ⟨((Keeps.refl w21).mono (fun _ _ h => h.elim)), (H22.loads (by kernel_rfl))⟩ (fun wz hx => ⟨K23.trans hx.1 (fun i _ h => by have h : i = g := h; show i = g; omega) (fun _ _ h => h), hx.2⟩) ?_
   clear K23
   refine Dr.done (by kernel_rfl) ?_
   refine qs ?_
   refine qg ?_
   refine og 1 [(4, (i64 0))] 1 ?_
   refine od ?_
   refine q_ret (by kernel_rfl) ?_
   refine ⟨(i64 0), retv_tmp rfl rfl, ?_⟩
   exact ⟨l14, rfl, K0, H22, hE20, by rw [hl15, List.map_take]⟩

theorem Cut_bad (w : World) (T : Nat → Prop) (g : Nat) (base old : Int) (A : Option Addr) (c : Nat) (l : List EntP) (n : Int) (H0 : Has w g (rowL [i64 base, i64 old, .slice A l.length c] 55)) (hE : Ents w T (.slice A l.length c) l) (hT : ∀ i, T i → i ≠ g) (hB : 0 ≤ base ∧ base ≤ 2305843009213693952) (hL : l.length ≤ 4096) (hn : -9223372036854775808 ≤ n ∧ n ≤ 9223372036854775807) (hq : n ≤ base ∨ base + (l.length : Int) + 1 < n) : Calls Try.prog 19 ⟨[(ptr g), (i64 n)]⟩ w (fun e w' => e = .returned (i64 1) ∧ Keeps none_ w w') := by
 have hcap := Ents.len hE
 have Hg := H0.lt
 have K0 : Keeps none_ w w := Keeps.refl w
 refine q_calls Try.func19 (by kernel_rfl) (by kernel_rfl) ?_
 refine qs ?_
 refine qg ?_
 refine og 1 [(0, (ptr g)), (1, (i64 n)), (4, (i64 0))] 1 ?_
 refine od ?_
 refine qs ?_
 refine qs ?_
 refine qg ?_
 refine og 2 [(0, (ptr g)), (1, (i64 n)), (4, (i64 0)), (8, (Value.bool false))] 2 ?_
 refine od ?_
 refine q_else (o := .tmp 8) (by kernel_rfl) rfl ?_
 refine q_skip (by kernel_rfl) ?_
 refine qs ?_
 refine qg ?_
 refine og 1 [(0, (ptr g)), (1, (i64 n)), (4, (i64 0)), (10, (ptr g))] 1 ?_
 refine Ops.call (by kernel_rfl) (d := (some 11)) (by kernel_rfl) (Last_calls _ T g base old A c l H0 hE hT (by omega) (by omega)) ?_
 rintro _ w2 ⟨rfl, K1⟩
 refine ⟨_, _, rfl, rfl, ?_⟩
 replace K0 := K0.t0 K1
 replace H0 := H0.keep K1 (fun h => h)
 replace hE := Ents.keep0 hE K1
 clear K1
 refine og 5 [(0, (ptr g)), (1, (i64 n)), (4, (i64 0)), (5, (i64 (base + ((l.length : Nat) : Int))))] 7 ?_
 refine od ?_
 refine qs ?_
 refine qs ?_
 refine qg ?_
 refine og 4 [(0, (ptr g)), (1, (i64 n)), (4, (i64 0)), (5, (i64 (base + ((l.length : Nat) : Int)))), (14, (i64 n)), (17, (ptr g))] 4 ?_
 refine Ops.go (v := (i64 base)) (by kernel_rfl) (Runs.load (t := 2) (a := ⟨g, 0, none⟩) (by kernel_rfl) (H0.loads (by kernel_rfl))) (d := (some 18)) (by kernel_rfl) rfl ?_
 refine og 2 [(0, (ptr g)), (1, (i64 n)), (4, (i64 0)), (5, (i64 (base + ((l.length : Nat) : Int)))), (20, (Value.bool (decide (n ≤ base))))] 7 ?_
 refine Ops.split (decide (n ≤ base)) (fun h3 => ?_) (fun h3 => ?_)
 ·rw [h3]
  have p4 : n ≤ base := of_decide_eq_true h3
  refine og 5 [(0, (ptr g)), (1, (i64 n)), (4, (i64 0)), (25, (Value.bool true))] 12 ?_
  refine od ?_
  refine q_then (o := .tmp 25) (by kernel_rfl) rfl ?_
  refine qs ?_
  refine qg ?_
  refine og 1 [(0, (ptr g)), (1, (i64 n)), (4, (i64 1))] 1 ?_
  refine od ?_
  refine q_ret (by kernel_rfl) ?_
  refine ⟨(i64 1), retv_tmp rfl rfl, ?_⟩
  exact ⟨rfl, K0⟩
 ·rw [h3]
  have p5 : ¬ (n ≤ base) := of_decide_eq_false h3
  refine og 3 [(0, (ptr g)), (1, (i64 n)), (4, (i64 0)), (20, (Value.bool false)), (21, (i64 n)), (23, (i64 (IntKind.i64.wrap ((base + ((l.length : Nat) : Int)) + 1))))] 10 ?_
  have e6 : IntKind.i64.wrap ((base + ((l.length : Nat) : Int)) + 1) = (base + ((l.length : Nat) : Int)) + 1 := wrap_i64 (by omega) (by omega)
  rw [e6]
  refine og 2 [(0, (ptr g)), (1, (i64 n)), (4, (i64 0)), (25, (Value.bool (decide (n > (base + ((l.length : Nat) : Int)) + 1))))] 12 ?_
  refine od ?_
  have h7 : (decide (n > (base + ((l.length : Nat) : Int)) + 1)) = true := decide_eq_true (by omega)
  rw [h7]
  refine q_then (o := .tmp 25) (by kernel_rfl) rfl ?_
  refine qs ?_
  refine qg ?_
  refine og 1 [(0, (ptr g)), (1, (i64 n)), (4, (i64 1))] 1 ?_
  refine od ?_
  refine q_ret (by kernel_rfl) ?_
  refine ⟨(i64 1), retv_tmp rfl rfl, ?_⟩
  exact ⟨rfl, K0⟩
end Go.Proofs.Ytncjidepplaocaa
