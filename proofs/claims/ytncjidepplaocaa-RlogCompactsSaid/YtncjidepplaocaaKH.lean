/- a log is compacted -/
import Derived.Test.YtncjidepplaocaaProg
import Derived.Test.YtncjidepplaocaaKC
import Derived.Test.YtncjidepplaocaaLX
set_option linter.unusedVariables false
namespace Go.Proofs.Ytncjidepplaocaa
open Go.Q Go.RowKit

theorem CloneE2_calls (w : World) (T : Nat → Prop) (v : Value) (l : List EntP) (h : Ents w T v l) (hl : l.length * 32 ≤ 140737488351232) : Calls Try.prog 28 ⟨[v]⟩ w (fun e w' => ∃ A' c', e = .returned (.slice A' l.length c') ∧ Keeps none_ w w' ∧ Ents w' (fun i => (T i ∨ w.heap.size ≤ i) ∧ i < w'.heap.size) (.slice A' l.length c') l) := by
 refine (CloneE_calls w v l h.rd hl).mono ?_
 rintro _ w' ⟨v', rfl, hk, (⟨rfl, rfl⟩ | ⟨G, cap, rest, rfl, hG, HG, q1, q2, q3⟩)⟩
 ·exact ⟨none, 0, rfl, hk, (Ents.nil _).mono (fun _ h => h.elim) (fun _ h => h.2)⟩
 ·have hO := own_casesE_mk hG HG q1 q2 q3
  refine ⟨_, _, rfl, hk, ⟨OwnT.rd hO, (h.keep0 hk).ins, fun _ i hi => ?_, fun x hx hc i hi => ⟨.inl (h.inn x hx hc i hi), Nat.lt_of_lt_of_le (h.lt i (h.inn x hx hc i hi)) hk.size⟩, fun i hi => hi.2⟩⟩
  have := World.ownsRow.lt hO i hi
  exact ⟨.inr this.1, this.2⟩

theorem Compact_ok (w : World) (T : Nat → Prop) (g : Nat) (base old : Int) (A : Option Addr) (c : Nat) (l : List EntP) (n : Int) (k : Nat) (H0 : Has w g (rowL [i64 base, i64 old, .slice A l.length c] 55)) (hE : Ents w T (.slice A l.length c) l) (hT : ∀ i, T i → i ≠ g) (hB : 0 ≤ base ∧ base ≤ 2305843009213693952) (hL : l.length ≤ 4096) (hn : -9223372036854775808 ≤ n ∧ n ≤ 9223372036854775807) (hq : n = base + (k : Int)) (hk : k ≤ l.length) : Calls Try.prog 14 ⟨[(ptr g), (i64 n)]⟩ w (fun e w' => ∃ l' A' c' T', e = .returned (i64 0) ∧ Keeps (fun i => i = g) w w' ∧ Has w' g (rowL [i64 n, i64 (termK base old (l.map EntP.key) n).1, .slice A' l'.length c'] 55) ∧ Ents w' T' (.slice A' l'.length c') l' ∧ l'.map EntP.key = (l.map EntP.key).drop k ∧ ∀ i, T' i → i ≠ g ∧ (T i ∨ w.heap.size ≤ i)) := by
 have hcap := Ents.len hE
 have Hg := H0.lt
 have hT0 := hT
 have hz : (termK base old (l.map EntP.key) n).2 = 0 := termK_ok (by rw [List.length_map]; omega)
 have K0 : Keeps (fun i => i = g) w w := (Keeps.refl w).mono (fun _ _ h => h.elim)
 refine q_calls Try.func14 (by kernel_rfl) (by kernel_rfl) ?_
 refine qs ?_
 refine qg ?_
 refine og 1 [(0, (ptr g)), (1, (i64 n)), (4, (i64 0))] 1 ?_
 refine od ?_
 refine qs ?_
 refine qg ?_
 refine og 2 [(0, (ptr g)), (1, (i64 n)), (4, (i64 0)), (8, (ptr g)), (9, (i64 n))] 2 ?_
 refine Ops.call (by kernel_rfl) (d := (some 10)) (by kernel_rfl) (Term_calls _ T g base old A c l n H0 hE hT (by omega) (by omega) (by omega)) ?_
 rintro _ w2 ⟨rfl, K1⟩
 refine ⟨_, _, rfl, rfl, ?_⟩
 replace K0 := K0.trans K1 (U := (fun i => i = g)) (fun i h1 h2 => h2) (fun i h1 h2 => by exact h2.elim)
 replace H0 := H0.keep K1 (fun h => h)
 replace hE := Ents.keep0 hE K1
 clear K1
 refine og 5 [(0, (ptr g)), (1, (i64 n)), (4, (i64 0)), (5, (i64 ((termK base old (l.map EntP.key) n).1))), (6, (i64 ((termK base old (l.map EntP.key) n).2)))] 8 ?_
 refine od ?_
 refine qs ?_
 refine qs ?_
 refine qg ?_
 refine og 2 [(0, (ptr g)), (1, (i64 n)), (4, (i64 0)), (5, (i64 ((termK base old (l.map EntP.key) n).1))), (6, (i64 ((termK base old (l.map EntP.key) n).2))), (14, (Value.bool (((termK base old (l.map EntP.key) n).2) != 0)))] 2 ?_
 refine od ?_
 have h3 : (((termK base old (l.map EntP.key) n).2) != 0) = false := bne_f hz
 rw [h3]
 refine q_else (o := .tmp 14) (by kernel_rfl) rfl ?_
 refine q_skip (by kernel_rfl) ?_
 refine qs ?_
 refine q_draw (fun wz => Keeps (fun i => i = g) w2 wz ∧ Loads Try.prog wz 2 ⟨g, 0, none⟩ (i64 base)) 16 (by kernel_rfl) (by kernel_rfl) (by kernel_rfl) (fun w4 K5 _ _ => ⟨⟨(K5.mono (fun _ _ h => h.elim)), ((H0.keep K5 (fun h => h)).loads (by kernel_rfl))⟩, ?_⟩)
 replace K0 := K0.trans K5 (U := (fun i => i = g)) (fun i h1 h2 => h2) (fun i h1 h2 => by exact h2.elim)
 replace H0 := H0.keep K5 (fun h => h)
 replace hE := Ents.keep0 hE K5
 refine Dr.strong (S' := (fun wz => Keeps (fun i => i = g) w4 wz ∧ Loads Try.prog wz 2 ⟨g, 0, none⟩ (i64 base))) ⟨((Keeps.refl w4).mono (fun _ _ h => h.elim)), (H0.loads (by kernel_rfl))⟩ (fun wz hx => ⟨K5.trans hx.1 (fun i _ h => h.elim) (fun _ _ h => h), hx.2⟩) ?_
 clear K5
 refine Dr.takes (fuel' := 8) (is' := [8, 7, 6, 5, 3, 2, 1, 0]) [0, 1, 2, 3, 5, 6, 7, 8] [(0, (ptr g)), (1, (i64 n)), (4, (i64 0)), (5, (i64 ((termK base old (l.map EntP.key) n).1))), (16, (ptr g)), (19, (Value.pointer (some ⟨g, 2, none⟩))), (21, (i64 n)), (24, (ptr g))] (by kernel_rfl) rfl (by kernel_rfl) ?_
 refine Dr.take (i := 9) (v := (i64 base)) (by kernel_rfl) (by kernel_rfl) (fun wz hS => Runs.load (t := 2) (a := ⟨g, 0, none⟩) (by kernel_rfl) hS.2) (d := (some 25)) (by kernel_rfl) rfl ?_
 refine Dr.takes (fuel' := 6) (is' := [10, 9, 8, 7, 6, 5, 3, 2, 1, 0]) [10] [(0, (ptr g)), (1, (i64 n)), (4, (i64 0)), (5, (i64 ((termK base old (l.map EntP.key) n).1))), (16, (ptr g)), (19, (Value.pointer (some ⟨g, 2, none⟩))), (26, (i64 (IntKind.i64.wrap (n - base))))] (by kernel_rfl) rfl (by kernel_rfl) ?_
 have e6 : IntKind.i64.wrap (n - base) = ((k : Nat) : Int) := by rw [wrap_i64 (by omega) (by omega)]; omega
 rw [e6]
 refine Dr.go (i := 4) (v := (Value.slice A l.length c)) (by kernel_rfl) (by kernel_rfl) (Runs.load (t := 22) (a := ⟨g, 2, none⟩) (by kernel_rfl) (H0.loads (by kernel_rfl))) (d := (some 20)) (by kernel_rfl) rfl ⟨((Keeps.refl _).mono (fun _ _ h => h.elim)), (H0.loads (by kernel_rfl))⟩ ?_
 obtain ⟨A12, c13, hr9, hE10⟩ := Ents.cutRun (P := Try.prog) (t := 22) (e := 43) (by kernel_rfl) (by kernel_rfl) hE k l.length (kl := .i64) (hi := none) (.inl ⟨rfl, rfl⟩) (by omega) (by omega)
 obtain ⟨l7, hl8⟩ : ∃ z, z = (l.drop k).take (l.length - k) := ⟨_, rfl⟩
 rw [← hl8] at hr9 hE10
 have hn11 : l7.length = l.length - k := by rw [hl8]; simp only [List.length_take, List.length_drop]; omega
 have hc14 := Ents.len hE10
 refine Dr.take (i := 11) (v := (Value.slice A12 l7.length c13)) (by kernel_rfl) (by kernel_rfl) (fun wz hS => Runs.slice (by kernel_rfl) (hr9 _)) (d := (some 27)) (by kernel_rfl) rfl ?_
 refine Dr.call (i := 12) (by kernel_rfl) (by kernel_rfl) (d := (some 28)) (by kernel_rfl) (fun _ => CloneE2_calls _ T (Value.slice A12 l7.length c13) l7 hE10 (by omega)) ?_
 rintro _ w17 ⟨A15, c16, rfl, K18, hE19⟩
 have hz20 := K0.size
 have ot21 : ∀ i, (fun i => (T i ∨ w4.heap.size ≤ i) ∧ i < w17.heap.size) i → i ≠ g := fun i hi => by rcases hi.1 with h | h; (exact hT i h); (have := H0.lt; omega)
 replace K0 := K0.trans K18 (U := (fun i => i = g)) (fun i h1 h2 => h2) (fun i h1 h2 => by exact h2.elim)
 replace H0 := H0.keep K18 (fun h => h)
 replace hE := Ents.keep0 hE K18
 replace hE10 := Ents.keep0 hE10 K18
 refine ⟨_, _, rfl, rfl, ⟨(K18.mono (fun _ _ h => h.elim)), (H0.loads (by kernel_rfl))⟩, ?_⟩
 refine Dr.strong (S' := (fun wz => Keeps (fun i => i = g) w17 wz ∧ Loads Try.prog wz 2 ⟨g, 0, none⟩ (i64 base))) ⟨((Keeps.refl w17).mono (fun _ _ h => h.elim)), (H0.loads (by kernel_rfl))⟩ (fun wz hx => ⟨K18.trans hx.1 (fun i _ h => h.elim) (fun _ _ h => h), hx.2⟩) ?_
 clear K18
 refine Dr.takes (fuel' := 1) (is' := [14, 13, 12, 11, 4, 10, 9, 8, 7, 6, 5, 3, 2, 1, 0]) [13, 14] [(0, (ptr g)), (1, (i64 n)), (4, (i64 0)), (5, (i64 ((termK base old (l.map EntP.key) n).1))), (28, (Value.slice A15 l7.length c16)), (30, (Value.pointer (some ⟨g, 2, none⟩)))] (by kernel_rfl) rfl (by kernel_rfl) ?_
 refine Dr.put (i := 15) (t := 22) (b := g) (off := 2) (v := (Value.slice A15 l7.length c16)) (ys := [(i64 base), (i64 old), (Value.slice A15 l7.length c16)]) (by kernel_rfl) (by kernel_rfl) (by kernel_rfl) H0 (by kernel_rfl) (d := none) (by kernel_rfl) rfl (fun w22 H23 K24 => ?_)
 clear H0
 replace K0 := K0.trans K24 (U := (fun i => i = g)) (fun i h1 h2 => h2) (fun i h1 h2 => by have h2 : i = g := h2; show i = g; omega)
 replace hE := Ents.keep hE K24 (fun i hi hs => by have hs : i = g := hs; have := hT i hi; omega)
 replace hE10 := Ents.keep hE10 K24 (fun i hi hs => by have hs : i = g := hs; have := hT i hi; omega)
 replace hE19 := Ents.keep hE19 K24 (fun i hi hs => by have hs : i = g := hs; have := ot21 i hi; omega)
 refine ⟨⟨K24, (H23.loads (by kernel_rfl))⟩, ?_⟩
 refine Dr.strong (S' := (fun wz => Keeps (fun i => i = g) w22 wz ∧ Loads Try.prog wz 2 ⟨g, 0, none⟩ (i64 base))) ⟨((Keeps.refl w22).mono (fun _ _ h => h.elim)), (H23.loads (by kernel_rfl))⟩ (fun wz hx => ⟨K24.trans hx.1 (fun i _ h => by have h : i = g := h; show i = g; omega) (fun _ _ h => h), hx.2⟩) ?_
 clear K24
 refine Dr.done (by kernel_rfl) ?_
 refine qs ?_
 refine qg ?_
 refine og 6 [(4, (i64 0)), (32, (ptr g)), (33, (i64 n)), (34, (i64 ((termK base old (l.map EntP.key) n).1))), (36, (ptr g))] 6 ?_
 refine Ops.put (t := 2) (b := g) (off := 0) (v := (i64 n)) (ys := [(i64 n), (i64 old), (Value.slice A15 l7.length c16)]) (by kernel_rfl) (by kernel_rfl) H23 (by kernel_rfl) (d := none) (by kernel_rfl) rfl (fun w25 H26 K27 => ?_)
 clear H23
 replace K0 := K0.trans K27 (U := (fun i => i = g)) (fun i h1 h2 => h2) (fun i h1 h2 => by have h2 : i = g := h2; show i = g; omega)
 replace hE := Ents.keep hE K27 (fun i hi hs => by have hs : i = g := hs; have := hT i hi; omega)
 replace hE10 := Ents.keep hE10 K27 (fun i hi hs => by have hs : i = g := hs; have := hT i hi; omega)
 replace hE19 := Ents.keep hE19 K27 (fun i hi hs => by have hs : i = g := hs; have := ot21 i hi; omega)
 clear K27
 refine og 2 [(4, (i64 0)), (34, (i64 ((termK base old (l.map EntP.key) n).1))), (38, (Value.pointer (some ⟨g, 1, none⟩)))] 9 ?_
 refine Ops.put (t := 2) (b := g) (off := 1) (v := (i64 ((termK base old (l.map EntP.key) n).1))) (ys := [(i64 n), (i64 ((termK base old (l.map EntP.key) n).1)), (Value.slice A15 l7.length c16)]) (by kernel_rfl) (by kernel_rfl) H26 (by kernel_rfl) (d := none) (by kernel_rfl) rfl (fun w28 H29 K30 => ?_)
 clear H26
 replace K0 := K0.trans K30 (U := (fun i => i = g)) (fun i h1 h2 => h2) (fun i h1 h2 => by have h2 : i = g := h2; show i = g; omega)
 replace hE := Ents.keep hE K30 (fun i hi hs => by have hs : i = g := hs; have := hT i hi; omega)
 replace hE10 := Ents.keep hE10 K30 (fun i hi hs => by have hs : i = g := hs; have := hT i hi; omega)
 replace hE19 := Ents.keep hE19 K30 (fun i hi hs => by have hs : i = g := hs; have := ot21 i hi; omega)
 clear K30
 refine od ?_
 refine qs ?_
 refine qg ?_
 refine og 1 [(4, (i64 0))] 1 ?_
 refine od ?_
 refine q_ret (by kernel_rfl) ?_
 refine ⟨(i64 0), retv_tmp rfl rfl, ?_⟩
 exact ⟨l7, A15, c16, (fun i => (T i ∨ w4.heap.size ≤ i) ∧ i < w17.heap.size), rfl, K0, H29, hE19, by rw [hl8, List.take_of_length_le (by simp), List.map_drop], fun i hi => by rcases hi.1 with h | h; (exact ⟨hT0 i h, .inl h⟩); (exact ⟨by omega, .inr (by omega)⟩)⟩

theorem Compact_bad (w : World) (T : Nat → Prop) (g : Nat) (base old : Int) (A : Option Addr) (c : Nat) (l : List EntP) (n : Int) (H0 : Has w g (rowL [i64 base, i64 old, .slice A l.length c] 55)) (hE : Ents w T (.slice A l.length c) l) (hT : ∀ i, T i → i ≠ g) (hB : 0 ≤ base ∧ base ≤ 2305843009213693952) (hL : l.length ≤ 4096) (hn : -9223372036854775808 ≤ n ∧ n ≤ 9223372036854775807) (hq : n < base ∨ base + (l.length : Int) < n) : Calls Try.prog 14 ⟨[(ptr g), (i64 n)]⟩ w (fun e w' => e = .returned (i64 1) ∧ Keeps none_ w w') := by
 have hcap := Ents.len hE
 have Hg := H0.lt
 have hz : termK base old (l.map EntP.key) n = (0, 1) := termK_none (by rw [List.length_map]; omega)
 have K0 : Keeps none_ w w := Keeps.refl w
 refine q_calls Try.func14 (by kernel_rfl) (by kernel_rfl) ?_
 refine qs ?_
 refine qg ?_
 refine og 1 [(0, (ptr g)), (1, (i64 n)), (4, (i64 0))] 1 ?_
 refine od ?_
 refine qs ?_
 refine qg ?_
 refine og 2 [(0, (ptr g)), (1, (i64 n)), (4, (i64 0)), (8, (ptr g)), (9, (i64 n))] 2 ?_
 refine Ops.call (by kernel_rfl) (d := (some 10)) (by kernel_rfl) (Term_calls _ T g base old A c l n H0 hE hT (by omega) (by omega) (by omega)) ?_
 rintro _ w2 ⟨rfl, K1⟩
 refine ⟨_, _, rfl, rfl, ?_⟩
 replace K0 := K0.t0 K1
 replace H0 := H0.keep K1 (fun h => h)
 replace hE := Ents.keep0 hE K1
 clear K1
 refine og 5 [(0, (ptr g)), (1, (i64 n)), (4, (i64 0)), (5, (i64 ((termK base old (l.map EntP.key) n).1))), (6, (i64 ((termK base old (l.map EntP.key) n).2)))] 8 ?_
 refine od ?_
 refine qs ?_
 refine qs ?_
 refine qg ?_
 refine og 2 [(0, (ptr g)), (1, (i64 n)), (4, (i64 0)), (5, (i64 ((termK base old (l.map EntP.key) n).1))), (6, (i64 ((termK base old (l.map EntP.key) n).2))), (14, (Value.bool (((termK base old (l.map EntP.key) n).2) != 0)))] 2 ?_
 refine od ?_
 have h3 : (((termK base old (l.map EntP.key) n).2) != 0) = true := bne_t (by rw [hz]; decide)
 rw [h3]
 refine q_then (o := .tmp 14) (by kernel_rfl) rfl ?_
 refine qs ?_
 refine qg ?_
 refine og 2 [(0, (ptr g)), (1, (i64 n)), (4, (i64 ((termK base old (l.map EntP.key) n).2))), (5, (i64 ((termK base old (l.map EntP.key) n).1)))] 2 ?_
 refine od ?_
 refine q_ret (by kernel_rfl) ?_
 refine ⟨(i64 ((termK base old (l.map EntP.key) n).2)), retv_tmp rfl rfl, ?_⟩
 exact ⟨by rw [hz], K0⟩
end Go.Proofs.Ytncjidepplaocaa
