/- what is seen of a log -/
import Derived.Test.YtncjidepplaocaaProg
import Derived.Test.YtncjidepplaocaaKB
import Derived.Test.YtncjidepplaocaaLX
set_option linter.unusedVariables false
namespace Go.Proofs.Ytncjidepplaocaa
open Go.Q Go.RowKit

theorem Last_calls (w : World) (T : Nat → Prop) (g : Nat) (base old : Int) (A : Option Addr) (c : Nat) (l : List EntP) (H0 : Has w g (rowL [i64 base, i64 old, .slice A l.length c] 55)) (hE : Ents w T (.slice A l.length c) l) (hT : ∀ i, T i → i ≠ g) (hB : 0 ≤ base ∧ base ≤ 2305843009213693952) (hL : l.length ≤ 4096) : Calls Try.prog 16 ⟨[(ptr g)]⟩ w (fun e w' => e = .returned (.tuple #[i64 (base + ((l.length : Nat) : Int)), i64 (lastK base old (l.map EntP.key))]) ∧ Keeps none_ w w') := by
 have hcap := Ents.len hE
 have Hg := H0.lt
 have hcm := hcap.2.2
 unfold maxLen at hcm
 have K0 : Keeps none_ w w := Keeps.refl w
 refine q_calls Try.func16 (by kernel_rfl) (by kernel_rfl) ?_
 refine qs ?_
 refine qg ?_
 refine og 2 [(0, (ptr g)), (2, (i64 0)), (3, (i64 0))] 2 ?_
 refine od ?_
 refine qs ?_
 refine qs ?_
 refine qg ?_
 refine og 2 [(0, (ptr g)), (2, (i64 0)), (3, (i64 0)), (6, (Value.bool false))] 2 ?_
 refine od ?_
 refine q_else (o := .tmp 6) (by kernel_rfl) rfl ?_
 refine q_skip (by kernel_rfl) ?_
 refine qs ?_
 refine q_draw (fun wz => Keeps none_ w wz) 11 (by kernel_rfl) (by kernel_rfl) (by kernel_rfl) (fun w1 K2 _ _ => ⟨K2, ?_⟩)
 replace K0 := K0.t0 K2
 replace H0 := H0.keep K2 (fun h => h)
 replace hE := Ents.keep0 hE K2
 refine Dr.strong (S' := (fun wz => Keeps none_ w1 wz)) (Keeps.refl w1) (fun wz hx => K2.trans hx (fun i _ h => h) (fun _ _ h => h)) ?_
 clear K2
 refine Dr.takes (fuel' := 8) (is' := [2, 1, 0]) [0, 1, 2] [(0, (ptr g)), (2, (i64 0)), (3, (i64 0)), (9, (ptr g))] (by kernel_rfl) rfl (by kernel_rfl) ?_
 refine Dr.take (i := 3) (v := (i64 base)) (by kernel_rfl) (by kernel_rfl) (fun wz hS => Runs.load (t := 2) (a := ⟨g, 0, none⟩) (by kernel_rfl) ((H0.keep hS (fun h => h)).loads (by kernel_rfl))) (d := (some 10)) (by kernel_rfl) rfl ?_
 refine Dr.takes (fuel' := 4) (is' := [6, 5, 4, 3, 2, 1, 0]) [4, 5, 6] [(0, (ptr g)), (2, (i64 0)), (3, (i64 0)), (10, (i64 base)), (13, (Value.pointer (some ⟨g, 2, none⟩)))] (by kernel_rfl) rfl (by kernel_rfl) ?_
 refine Dr.take (i := 7) (v := (Value.slice A l.length c)) (by kernel_rfl) (by kernel_rfl) (fun wz hS => Runs.load (t := 22) (a := ⟨g, 2, none⟩) (by kernel_rfl) ((H0.keep hS (fun h => h)).loads (by kernel_rfl))) (d := (some 14)) (by kernel_rfl) rfl ?_
 refine Dr.takes (fuel' := 1) (is' := [9, 8, 7, 6, 5, 4, 3, 2, 1, 0]) [8, 9] [(0, (ptr g)), (2, (i64 0)), (3, (i64 0)), (16, (i64 (IntKind.i64.wrap (base + ((l.length : Nat) : Int)))))] (by kernel_rfl) rfl (by kernel_rfl) ?_
 have e3 : IntKind.i64.wrap (base + ((l.length : Nat) : Int)) = base + ((l.length : Nat) : Int) := wrap_i64 (by omega) (by omega)
 rw [e3]
 refine Dr.takes (fuel' := 0) (is' := [10, 9, 8, 7, 6, 5, 4, 3, 2, 1, 0]) [10] [(0, (ptr g)), (2, (i64 0)), (3, (i64 0)), (4, (i64 (base + ((l.length : Nat) : Int))))] (by kernel_rfl) rfl (by kernel_rfl) ?_
 refine Dr.done (by kernel_rfl) ?_
 refine qs ?_
 refine qg ?_
 refine og 3 [(2, (i64 0)), (3, (i64 0)), (17, (i64 (base + ((l.length : Nat) : Int)))), (18, (ptr g)), (19, (i64 (base + ((l.length : Nat) : Int))))] 3 ?_
 rcases at_or base l.length (base + ((l.length : Nat) : Int)) with q4 | q5 | q6 | ⟨k9, q7, q8⟩
 ·exfalso; omega
 ·exfalso; omega
 ·skip
  refine Ops.call (by kernel_rfl) (d := (some 20)) (by kernel_rfl) (at_gone _ T g base old A c l (base + ((l.length : Nat) : Int)) H0 hE hT (by omega) (by omega) q6) ?_
  rintro _ w13 ⟨rfl, K12⟩
  refine ⟨_, _, rfl, rfl, ?_⟩
  replace K0 := K0.t0 K12
  replace H0 := H0.keep K12 (fun h => h)
  replace hE := Ents.keep0 hE K12
  clear K12
  refine Ops.call (by kernel_rfl) (d := (some 21)) (by kernel_rfl) (gone_calls _ old) ?_
  rintro _ w15 ⟨rfl, K14⟩
  refine ⟨_, _, rfl, rfl, ?_⟩
  replace K0 := K0.t0 K14
  replace H0 := H0.keep K14 (fun h => h)
  replace hE := Ents.keep0 hE K14
  clear K14
  refine og 2 [(2, (i64 (base + ((l.length : Nat) : Int)))), (3, (i64 old))] 7 ?_
  refine od ?_
  refine q_ret (by kernel_rfl) ?_
  refine ⟨(Value.tuple #[(i64 (base + ((l.length : Nat) : Int))), (i64 old)]), retv_tmp2 rfl rfl rfl, ?_⟩
  have e : lastK base old (l.map EntP.key) = old := by unfold lastK; rw [List.length_map, q6, termK_base]
  exact ⟨by rw [e], K0⟩
 ·skip
  obtain ⟨x10, hx11⟩ : ∃ y, l[k9]? = some y := ⟨_, List.getElem?_eq_getElem q8⟩
  refine Ops.call (by kernel_rfl) (d := (some 20)) (by kernel_rfl) (at_here _ T g base old A c l (base + ((l.length : Nat) : Int)) k9 x10 H0 hE hT (by omega) (by omega) q7 q8 hx11) ?_
  rintro _ w17 ⟨rfl, K16⟩
  refine ⟨_, _, rfl, rfl, ?_⟩
  replace K0 := K0.t0 K16
  replace H0 := H0.keep K16 (fun h => h)
  replace hE := Ents.keep0 hE K16
  clear K16
  refine Ops.call (by kernel_rfl) (d := (some 21)) (by kernel_rfl) (here_calls _ x10) ?_
  rintro _ w19 ⟨rfl, K18⟩
  refine ⟨_, _, rfl, rfl, ?_⟩
  replace K0 := K0.t0 K18
  replace H0 := H0.keep K18 (fun h => h)
  replace hE := Ents.keep0 hE K18
  clear K18
  refine og 2 [(2, (i64 (base + ((l.length : Nat) : Int)))), (3, (i64 x10.term))] 7 ?_
  refine od ?_
  refine q_ret (by kernel_rfl) ?_
  refine ⟨(Value.tuple #[(i64 (base + ((l.length : Nat) : Int))), (i64 x10.term)]), retv_tmp2 rfl rfl rfl, ?_⟩
  have e : lastK base old (l.map EntP.key) = x10.term := by unfold lastK; rw [List.length_map, q7, termK_at (ekey_at hx11)]
  exact ⟨by rw [e], K0⟩

theorem Term_calls (w : World) (T : Nat → Prop) (g : Nat) (base old : Int) (A : Option Addr) (c : Nat) (l : List EntP) (n : Int) (H0 : Has w g (rowL [i64 base, i64 old, .slice A l.length c] 55)) (hE : Ents w T (.slice A l.length c) l) (hT : ∀ i, T i → i ≠ g) (hB : 0 ≤ base ∧ base ≤ 2305843009213693952) (hL : l.length ≤ 4096) (hn : -9223372036854775808 ≤ n ∧ n ≤ 9223372036854775807) : Calls Try.prog 10 ⟨[(ptr g), (i64 n)]⟩ w (fun e w' => e = .returned (.tuple #[i64 (termK base old (l.map EntP.key) n).1, i64 (termK base old (l.map EntP.key) n).2]) ∧ Keeps none_ w w') := by
 have hcap := Ents.len hE
 have Hg := H0.lt
 have hcm := hcap.2.2
 unfold maxLen at hcm
 have K0 : Keeps none_ w w := Keeps.refl w
 refine q_calls Try.func10 (by kernel_rfl) (by kernel_rfl) ?_
 refine qs ?_
 refine qg ?_
 refine og 2 [(0, (ptr g)), (1, (i64 n)), (4, (i64 0)), (5, (i64 0))] 2 ?_
 refine od ?_
 refine qs ?_
 refine qs ?_
 refine qg ?_
 refine og 2 [(0, (ptr g)), (1, (i64 n)), (4, (i64 0)), (5, (i64 0)), (9, (Value.bool false))] 2 ?_
 refine od ?_
 refine q_else (o := .tmp 9) (by kernel_rfl) rfl ?_
 refine q_skip (by kernel_rfl) ?_
 refine qs ?_
 refine qs ?_
 refine qg ?_
 refine og 2 [(4, (i64 0)), (5, (i64 0)), (10, (ptr g)), (11, (i64 n))] 2 ?_
 rcases at_or base l.length n with q1 | q2 | q3 | ⟨k6, q4, q5⟩
 ·skip
  refine Ops.call (by kernel_rfl) (d := (some 12)) (by kernel_rfl) (at_low _ T g base old A c l n H0 hE hT (by omega) (by omega) q1) ?_
  rintro _ w10 ⟨rfl, K9⟩
  refine ⟨_, _, rfl, rfl, ?_⟩
  replace K0 := K0.t0 K9
  replace H0 := H0.keep K9 (fun h => h)
  replace hE := Ents.keep0 hE K9
  clear K9
  refine od ?_
  refine q_block (id := 0) (by kernel_rfl) ?_
  refine qs ?_
  refine qg ?_
  refine og 3 [(4, (i64 0)), (5, (i64 0)), (12, Value.nilIface), (14, (Value.bool false)), (15, (agg [(i64 0)]))] 3 ?_
  refine od ?_
  refine q_else (o := .tmp 14) (by kernel_rfl) rfl ?_
  refine qs ?_
  refine qg ?_
  refine og 3 [(4, (i64 0)), (5, (i64 0)), (19, (Value.bool false)), (20, (agg [(i64 0), (Value.slice none 0 0)]))] 3 ?_
  refine od ?_
  refine q_else (o := .tmp 19) (by kernel_rfl) rfl ?_
  refine q_skip (by kernel_rfl) ?_
  refine qs ?_
  refine qg ?_
  refine og 2 [(4, (i64 0)), (5, (i64 1))] 2 ?_
  refine od ?_
  refine q_ret (by kernel_rfl) ?_
  refine ⟨(Value.tuple #[(i64 0), (i64 1)]), retv_tmp2 rfl rfl rfl, ?_⟩
  have e : termK base old (l.map EntP.key) n = (0, 1) := by rw [termK_none (by rw [List.length_map]; omega)]
  exact ⟨by rw [e], K0⟩
 ·skip
  refine Ops.call (by kernel_rfl) (d := (some 12)) (by kernel_rfl) (at_high _ T g base old A c l n H0 hE hT (by omega) (by omega) (by omega) q2) ?_
  rintro _ w12 ⟨rfl, K11⟩
  refine ⟨_, _, rfl, rfl, ?_⟩
  replace K0 := K0.t0 K11
  replace H0 := H0.keep K11 (fun h => h)
  replace hE := Ents.keep0 hE K11
  clear K11
  refine od ?_
  refine q_block (id := 0) (by kernel_rfl) ?_
  refine qs ?_
  refine qg ?_
  refine og 3 [(4, (i64 0)), (5, (i64 0)), (12, Value.nilIface), (14, (Value.bool false)), (15, (agg [(i64 0)]))] 3 ?_
  refine od ?_
  refine q_else (o := .tmp 14) (by kernel_rfl) rfl ?_
  refine qs ?_
  refine qg ?_
  refine og 3 [(4, (i64 0)), (5, (i64 0)), (19, (Value.bool false)), (20, (agg [(i64 0), (Value.slice none 0 0)]))] 3 ?_
  refine od ?_
  refine q_else (o := .tmp 19) (by kernel_rfl) rfl ?_
  refine q_skip (by kernel_rfl) ?_
  refine qs ?_
  refine qg ?_
  refine og 2 [(4, (i64 0)), (5, (i64 1))] 2 ?_
  refine od ?_
  refine q_ret (by kernel_rfl) ?_
  refine ⟨(Value.tuple #[(i64 0), (i64 1)]), retv_tmp2 rfl rfl rfl, ?_⟩
  have e : termK base old (l.map EntP.key) n = (0, 1) := by rw [termK_none (by rw [List.length_map]; omega)]
  exact ⟨by rw [e], K0⟩
 ·skip
  refine Ops.call (by kernel_rfl) (d := (some 12)) (by kernel_rfl) (at_gone _ T g base old A c l n H0 hE hT (by omega) (by omega) q3) ?_
  rintro _ w14 ⟨rfl, K13⟩
  refine ⟨_, _, rfl, rfl, ?_⟩
  replace K0 := K0.t0 K13
  replace H0 := H0.keep K13 (fun h => h)
  replace hE := Ents.keep0 hE K13
  clear K13
  refine od ?_
  refine q_block (id := 0) (by kernel_rfl) ?_
  refine qs ?_
  refine qg ?_
  refine og 3 [(4, (i64 0)), (5, (i64 0)), (12, (Value.iface 62 (agg [(i64 old)]))), (14, (Value.bool true)), (15, (agg [(i64 old)]))] 3 ?_
  refine od ?_
  refine q_then (o := .tmp 14) (by kernel_rfl) rfl ?_
  refine qs ?_
  refine qg ?_
  refine Ops.new (o := rowL [(i64 0)] 62) (V := fun b => (ptr b)) (by kernel_rfl) (d := (some 6)) (by kernel_rfl) (fun b => rfl) (fun b15 w16 hb17 H18 K19 hs20 => ?_)
  have lb15 : g < b15 := by have := H0.lt; omega
  have nb15 : w.heap.size ≤ b15 := by have := K0.size; omega
  have ot21 : ∀ i, T i → i ≠ b15 := fun i hi => by have := Ents.lt hE i hi; omega
  replace K0 := K0.t0 K19
  replace H0 := H0.keep K19 (fun h => h)
  replace hE := Ents.keep0 hE K19
  clear K19 hs20
  refine Ops.put (t := 62) (b := b15) (off := 0) (v := (agg [(i64 old)])) (ys := [(i64 old)]) (by kernel_rfl) (by kernel_rfl) H18 (by kernel_rfl) (d := none) (by kernel_rfl) rfl (fun w22 H23 K24 => ?_)
  clear H18
  replace K0 := K0.trans K24 (U := none_) (fun i h1 h2 => h2) (fun i h1 h2 => by have h2 : i = b15 := h2; exfalso; omega)
  replace H0 := H0.keep K24 (by intro h; change g = b15 at h; omega)
  replace hE := Ents.keep hE K24 (fun i hi hs => by have hs : i = b15 := hs; have := ot21 i hi; omega)
  clear K24
  refine od ?_
  refine qs ?_
  refine qg ?_
  refine og 1 [(4, (i64 0)), (5, (i64 0)), (12, (Value.iface 62 (agg [(i64 old)]))), (16, (ptr b15))] 1 ?_
  refine Ops.go (v := (i64 old)) (by kernel_rfl) (Runs.load (t := 2) (a := ⟨b15, 0, none⟩) (by kernel_rfl) (H23.loads (by kernel_rfl))) (d := (some 17)) (by kernel_rfl) rfl ?_
  refine og 2 [(4, (i64 old)), (5, (i64 0)), (12, (Value.iface 62 (agg [(i64 old)])))] 4 ?_
  refine od ?_
  refine q_ret (by kernel_rfl) ?_
  refine ⟨(Value.tuple #[(i64 old), (i64 0)]), retv_tmp2 rfl rfl rfl, ?_⟩
  have e : termK base old (l.map EntP.key) n = (old, 0) := by rw [q3, termK_base]
  exact ⟨by rw [e], K0⟩
 ·skip
  obtain ⟨x7, hx8⟩ : ∃ y, l[k6]? = some y := ⟨_, List.getElem?_eq_getElem q5⟩
  refine Ops.call (by kernel_rfl) (d := (some 12)) (by kernel_rfl) (at_here _ T g base old A c l n k6 x7 H0 hE hT (by omega) (by omega) q4 q5 hx8) ?_
  rintro _ w26 ⟨rfl, K25⟩
  refine ⟨_, _, rfl, rfl, ?_⟩
  replace K0 := K0.t0 K25
  replace H0 := H0.keep K25 (fun h => h)
  replace hE := Ents.keep0 hE K25
  clear K25
  refine od ?_
  refine q_block (id := 0) (by kernel_rfl) ?_
  refine qs ?_
  refine qg ?_
  refine og 3 [(4, (i64 0)), (5, (i64 0)), (12, (Value.iface 64 (agg [(i64 x7.term), (Value.slice x7.A x7.cmd.length x7.c)]))), (14, (Value.bool false)), (15, (agg [(i64 0)]))] 3 ?_
  refine od ?_
  refine q_else (o := .tmp 14) (by kernel_rfl) rfl ?_
  refine qs ?_
  refine qg ?_
  refine og 3 [(4, (i64 0)), (5, (i64 0)), (19, (Value.bool true)), (20, (agg [(i64 x7.term), (Value.slice x7.A x7.cmd.length x7.c)]))] 3 ?_
  refine od ?_
  refine q_then (o := .tmp 19) (by kernel_rfl) rfl ?_
  refine qs ?_
  refine qg ?_
  refine Ops.new (o := rowL [(i64 0), (Value.slice none 0 0)] 64) (V := fun b => (ptr b)) (by kernel_rfl) (d := (some 7)) (by kernel_rfl) (fun b => rfl) (fun b27 w28 hb29 H30 K31 hs32 => ?_)
  have lb27 : g < b27 := by have := H0.lt; omega
  have nb27 : w.heap.size ≤ b27 := by have := K0.size; omega
  have ot33 : ∀ i, T i → i ≠ b27 := fun i hi => by have := Ents.lt hE i hi; omega
  replace K0 := K0.t0 K31
  replace H0 := H0.keep K31 (fun h => h)
  replace hE := Ents.keep0 hE K31
  clear K31 hs32
  refine Ops.put (t := 64) (b := b27) (off := 0) (v := (agg [(i64 x7.term), (Value.slice x7.A x7.cmd.length x7.c)])) (ys := [(i64 x7.term), (Value.slice x7.A x7.cmd.length x7.c)]) (by kernel_rfl) (by kernel_rfl) H30 (by kernel_rfl) (d := none) (by kernel_rfl) rfl (fun w34 H35 K36 => ?_)
  clear H30
  replace K0 := K0.trans K36 (U := none_) (fun i h1 h2 => h2) (fun i h1 h2 => by have h2 : i = b27 := h2; exfalso; omega)
  replace H0 := H0.keep K36 (by intro h; change g = b27 at h; omega)
  replace hE := Ents.keep hE K36 (fun i hi hs => by have hs : i = b27 := hs; have := ot33 i hi; omega)
  clear K36
  refine od ?_
  refine qs ?_
  refine qg ?_
  refine og 2 [(4, (i64 0)), (5, (i64 0)), (22, (ptr b27))] 2 ?_
  refine Ops.go (v := (i64 x7.term)) (by kernel_rfl) (Runs.load (t := 2) (a := ⟨b27, 0, none⟩) (by kernel_rfl) (H35.loads (by kernel_rfl))) (d := (some 23)) (by kernel_rfl) rfl ?_
  refine og 2 [(4, (i64 x7.term)), (5, (i64 0))] 5 ?_
  refine od ?_
  refine q_ret (by kernel_rfl) ?_
  refine ⟨(Value.tuple #[(i64 x7.term), (i64 0)]), retv_tmp2 rfl rfl rfl, ?_⟩
  have e : termK base old (l.map EntP.key) n = (x7.term, 0) := by rw [q4, termK_at (ekey_at hx8)]
  exact ⟨by rw [e], K0⟩

theorem Base_calls (w : World) (T : Nat → Prop) (g : Nat) (base old : Int) (A : Option Addr) (c : Nat) (l : List EntP) (H0 : Has w g (rowL [i64 base, i64 old, .slice A l.length c] 55)) (hE : Ents w T (.slice A l.length c) l) (hT : ∀ i, T i → i ≠ g) (hB : 0 ≤ base ∧ base ≤ 2305843009213693952) (hL : l.length ≤ 4096) : Calls Try.prog 22 ⟨[(ptr g)]⟩ w (fun e w' => e = .returned (.tuple #[i64 base, i64 old]) ∧ Keeps none_ w w') := by
 have hcap := Ents.len hE
 have Hg := H0.lt
 have hcm := hcap.2.2
 unfold maxLen at hcm
 have K0 : Keeps none_ w w := Keeps.refl w
 refine q_calls Try.func22 (by kernel_rfl) (by kernel_rfl) ?_
 refine qs ?_
 refine qg ?_
 refine og 2 [(0, (ptr g)), (2, (i64 0)), (3, (i64 0))] 2 ?_
 refine od ?_
 refine qs ?_
 refine qs ?_
 refine qg ?_
 refine og 2 [(0, (ptr g)), (2, (i64 0)), (3, (i64 0)), (5, (Value.bool false))] 2 ?_
 refine od ?_
 refine q_else (o := .tmp 5) (by kernel_rfl) rfl ?_
 refine q_skip (by kernel_rfl) ?_
 refine qs ?_
 refine q_draw (fun wz => Keeps none_ w wz) 10 (by kernel_rfl) (by kernel_rfl) (by kernel_rfl) (fun w1 K2 _ _ => ⟨K2, ?_⟩)
 replace K0 := K0.t0 K2
 replace H0 := H0.keep K2 (fun h => h)
 replace hE := Ents.keep0 hE K2
 refine Dr.strong (S' := (fun wz => Keeps none_ w1 wz)) (Keeps.refl w1) (fun wz hx => K2.trans hx (fun i _ h => h) (fun _ _ h => h)) ?_
 clear K2
 refine Dr.takes (fuel' := 7) (is' := [2, 1, 0]) [0, 1, 2] [(0, (ptr g)), (2, (i64 0)), (3, (i64 0)), (8, (ptr g))] (by kernel_rfl) rfl (by kernel_rfl) ?_
 refine Dr.take (i := 3) (v := (i64 base)) (by kernel_rfl) (by kernel_rfl) (fun wz hS => Runs.load (t := 2) (a := ⟨g, 0, none⟩) (by kernel_rfl) ((H0.keep hS (fun h => h)).loads (by kernel_rfl))) (d := (some 9)) (by kernel_rfl) rfl ?_
 refine Dr.takes (fuel' := 3) (is' := [6, 5, 4, 3, 2, 1, 0]) [4, 5, 6] [(2, (i64 0)), (3, (i64 0)), (9, (i64 base)), (12, (Value.pointer (some ⟨g, 1, none⟩)))] (by kernel_rfl) rfl (by kernel_rfl) ?_
 refine Dr.take (i := 7) (v := (i64 old)) (by kernel_rfl) (by kernel_rfl) (fun wz hS => Runs.load (t := 2) (a := ⟨g, 1, none⟩) (by kernel_rfl) ((H0.keep hS (fun h => h)).loads (by kernel_rfl))) (d := (some 13)) (by kernel_rfl) rfl ?_
 refine Dr.takes (fuel' := 0) (is' := [9, 8, 7, 6, 5, 4, 3, 2, 1, 0]) [8, 9] [(2, (i64 base)), (3, (i64 old))] (by kernel_rfl) rfl (by kernel_rfl) ?_
 refine Dr.done (by kernel_rfl) ?_
 refine q_ret (by kernel_rfl) ?_
 refine ⟨(Value.tuple #[(i64 base), (i64 old)]), retv_tmp2 rfl rfl rfl, ?_⟩
 exact ⟨rfl, K0⟩

theorem Len_calls (w : World) (T : Nat → Prop) (g : Nat) (base old : Int) (A : Option Addr) (c : Nat) (l : List EntP) (H0 : Has w g (rowL [i64 base, i64 old, .slice A l.length c] 55)) (hE : Ents w T (.slice A l.length c) l) (hT : ∀ i, T i → i ≠ g) (hB : 0 ≤ base ∧ base ≤ 2305843009213693952) (hL : l.length ≤ 4096) : Calls Try.prog 20 ⟨[(ptr g)]⟩ w (fun e w' => e = .returned (i64 ((l.length : Nat) : Int)) ∧ Keeps none_ w w') := by
 have hcap := Ents.len hE
 have Hg := H0.lt
 have hcm := hcap.2.2
 unfold maxLen at hcm
 have K0 : Keeps none_ w w := Keeps.refl w
 refine q_calls Try.func20 (by kernel_rfl) (by kernel_rfl) ?_
 refine qs ?_
 refine qg ?_
 refine og 1 [(0, (ptr g)), (2, (i64 0))] 1 ?_
 refine od ?_
 refine qs ?_
 refine qs ?_
 refine qg ?_
 refine og 2 [(0, (ptr g)), (2, (i64 0)), (4, (Value.bool false))] 2 ?_
 refine od ?_
 refine q_else (o := .tmp 4) (by kernel_rfl) rfl ?_
 refine q_skip (by kernel_rfl) ?_
 refine qs ?_
 refine qg ?_
 refine og 3 [(2, (i64 0)), (7, (Value.pointer (some ⟨g, 2, none⟩)))] 3 ?_
 refine Ops.go (v := (Value.slice A l.length c)) (by kernel_rfl) (Runs.load (t := 22) (a := ⟨g, 2, none⟩) (by kernel_rfl) (H0.loads (by kernel_rfl))) (d := (some 8)) (by kernel_rfl) rfl ?_
 refine og 2 [(2, (i64 ((l.length : Nat) : Int)))] 6 ?_
 refine od ?_
 refine q_ret (by kernel_rfl) ?_
 refine ⟨(i64 ((l.length : Nat) : Int)), retv_tmp rfl rfl, ?_⟩
 exact ⟨rfl, K0⟩

theorem Newer_calls (w : World) (T : Nat → Prop) (g : Nat) (base old : Int) (A : Option Addr) (c : Nat) (l : List EntP) (n t : Int) (H0 : Has w g (rowL [i64 base, i64 old, .slice A l.length c] 55)) (hE : Ents w T (.slice A l.length c) l) (hT : ∀ i, T i → i ≠ g) (hB : 0 ≤ base ∧ base ≤ 2305843009213693952) (hL : l.length ≤ 4096) : Calls Try.prog 18 ⟨[(ptr g), (i64 n), (i64 t)]⟩ w (fun e w' => ∃ b, e = .returned (.bool b) ∧ (b = true ↔ (lastK base old (l.map EntP.key) < t ∨ t = lastK base old (l.map EntP.key) ∧ base + ((l.length : Nat) : Int) ≤ n)) ∧ Keeps none_ w w') := by
 have hcap := Ents.len hE
 have Hg := H0.lt
 have hcm := hcap.2.2
 unfold maxLen at hcm
 have K0 : Keeps none_ w w := Keeps.refl w
 refine q_calls Try.func18 (by kernel_rfl) (by kernel_rfl) ?_
 refine qs ?_
 refine qg ?_
 refine og 1 [(0, (ptr g)), (1, (i64 n)), (2, (i64 t)), (6, (Value.bool false))] 1 ?_
 refine od ?_
 refine qs ?_
 refine qs ?_
 refine qg ?_
 refine og 2 [(0, (ptr g)), (1, (i64 n)), (2, (i64 t)), (6, (Value.bool false)), (10, (Value.bool false))] 2 ?_
 refine od ?_
 refine q_else (o := .tmp 10) (by kernel_rfl) rfl ?_
 refine q_skip (by kernel_rfl) ?_
 refine qs ?_
 refine qg ?_
 refine og 1 [(1, (i64 n)), (2, (i64 t)), (6, (Value.bool false)), (12, (ptr g))] 1 ?_
 refine Ops.call (by kernel_rfl) (d := (some 13)) (by kernel_rfl) (Last_calls _ T g base old A c l H0 hE hT (by omega) (by omega)) ?_
 rintro _ w2 ⟨rfl, K1⟩
 refine ⟨_, _, rfl, rfl, ?_⟩
 replace K0 := K0.t0 K1
 replace H0 := H0.keep K1 (fun h => h)
 replace hE := Ents.keep0 hE K1
 clear K1
 refine og 5 [(1, (i64 n)), (2, (i64 t)), (6, (Value.bool false)), (7, (i64 (base + ((l.length : Nat) : Int)))), (8, (i64 (lastK base old (l.map EntP.key))))] 7 ?_
 refine od ?_
 refine qs ?_
 refine qg ?_
 refine og 4 [(1, (i64 n)), (2, (i64 t)), (6, (Value.bool false)), (7, (i64 (base + ((l.length : Nat) : Int)))), (8, (i64 (lastK base old (l.map EntP.key)))), (19, (Value.bool (decide (t > lastK base old (l.map EntP.key)))))] 4 ?_
 refine Ops.split (decide (t > lastK base old (l.map EntP.key))) (fun h3 => ?_) (fun h3 => ?_)
 ·rw [h3]
  have p4 : t > lastK base old (l.map EntP.key) := of_decide_eq_true h3
  refine og 10 [(6, (Value.bool true))] 14 ?_
  refine od ?_
  refine q_ret (by kernel_rfl) ?_
  refine ⟨(Value.bool true), retv_tmp rfl rfl, ?_⟩
  refine ⟨_, rfl, ?_, K0⟩
  first | (constructor <;> intro h <;> first | rfl | omega | (cases h; done)) | (rw [decide_eq_true_iff]; constructor <;> intro h <;> omega)
 ·rw [h3]
  have p5 : ¬ (t > lastK base old (l.map EntP.key)) := of_decide_eq_false h3
  refine og 4 [(1, (i64 n)), (6, (Value.bool false)), (7, (i64 (base + ((l.length : Nat) : Int)))), (19, (Value.bool false)), (23, (Value.bool (t == (lastK base old (l.map EntP.key)))))] 8 ?_
  refine Ops.split (t == (lastK base old (l.map EntP.key))) (fun h6 => ?_) (fun h6 => ?_)
  ·rw [h6]
   have p7 : t = lastK base old (l.map EntP.key) := of_beq_t h6
   refine og 6 [(6, (Value.bool (decide (n ≥ base + ((l.length : Nat) : Int)))))] 14 ?_
   refine od ?_
   refine q_ret (by kernel_rfl) ?_
   refine ⟨(Value.bool (decide (n ≥ base + ((l.length : Nat) : Int)))), retv_tmp rfl rfl, ?_⟩
   refine ⟨_, rfl, ?_, K0⟩
   first | (constructor <;> intro h <;> first | rfl | omega | (cases h; done)) | (rw [decide_eq_true_iff]; constructor <;> intro h <;> omega)
  ·rw [h6]
   have p8 : ¬ (t = lastK base old (l.map EntP.key)) := of_beq_f h6
   refine og 6 [(6, (Value.bool false))] 14 ?_
   refine od ?_
   refine q_ret (by kernel_rfl) ?_
   refine ⟨(Value.bool false), retv_tmp rfl rfl, ?_⟩
   refine ⟨_, rfl, ?_, K0⟩
   first | (constructor <;> intro h <;> first | rfl | omega | (cases h; done)) | (rw [decide_eq_true_iff]; constructor <;> intro h <;> omega)
end Go.Proofs.Ytncjidepplaocaa
