/- places of a log -/
import Derived.Test.YtncjidepplaocaaProg
import Derived.Test.YtncjidepplaocaaKA
import Derived.Test.YtncjidepplaocaaLX
set_option linter.unusedVariables false
namespace Go.Proofs.Ytncjidepplaocaa
open Go.Q Go.RowKit

theorem rising_calls (w : World) (T : Nat → Prop) (t0 : Int) (A : Option Addr) (c : Nat) (l : List EntP) (hE : Ents w T (.slice A l.length c) l) : Calls Try.prog 24 ⟨[(i64 t0), (Value.slice A l.length c)]⟩ w (fun e w' => e = .returned (.bool (risingK t0 (l.map EntP.key))) ∧ Keeps none_ w w') := by
 have hcap := Ents.len hE
 have hcm := hcap.2.2
 unfold maxLen at hcm
 have K0 : Keeps none_ w w := Keeps.refl w
 refine q_calls Try.func24 (by kernel_rfl) (by kernel_rfl) ?_
 refine qs ?_
 refine qg ?_
 refine og 1 [(0, (i64 t0)), (1, (Value.slice A l.length c)), (4, (Value.bool false))] 1 ?_
 refine od ?_
 refine qs ?_
 refine qs ?_
 refine qg ?_
 refine og 3 [(0, (i64 t0)), (4, (Value.bool false)), (7, (Value.slice A l.length c)), (8, (i64 ((l.length : Nat) : Int))), (9, (i64 0))] 3 ?_
 refine od ?_
 refine q_block (id := 0) (by kernel_rfl) ?_
 refine q_keep (R := [(0, (i64 t0)), (7, (Value.slice A l.length c)), (8, (i64 ((l.length : Nat) : Int))), (9, (i64 0))]) (by kernel_rfl) ?_
 refine q_loop (fun (gs : Nat × Int) L (wx : World) => match gs with | (i, t) => L = [(0, (i64 t)), (7, (Value.slice A l.length c)), (8, (i64 ((l.length : Nat) : Int))), (9, (i64 ((i : Nat) : Int)))] ∧ risingK t ((l.map EntP.key).drop i) = risingK t0 (l.map EntP.key) ∧ i ≤ l.length ∧ Ents wx T (.slice A l.length c) l ∧ Keeps none_ w wx) (fun (gs : Nat × Int) => match gs with | (i, t) => l.length - i) (0, t0) (by kernel_rfl) ⟨rfl, rfl, Nat.zero_le _, hE, K0⟩ ?_
 clear hE K0
 rintro ⟨i, t⟩ _ w1 ⟨rfl, hR, hi, hE, K2⟩
 refine qs ?_
 refine qg ?_
 refine og 1 [(0, (i64 t)), (7, (Value.slice A l.length c)), (8, (i64 ((l.length : Nat) : Int))), (9, (i64 ((i : Nat) : Int))), (10, (Value.bool (decide (((i : Nat) : Int) < ((l.length : Nat) : Int)))))] 1 ?_
 refine od ?_
 refine qs ?_
 refine q_cond (o := .tmp 10) (b := (decide (((i : Nat) : Int) < ((l.length : Nat) : Int)))) (by kernel_rfl) rfl (fun h3 => ?_) (fun h3 => ?_)
 ·rw [h3]
  have p4 : ((i : Nat) : Int) < ((l.length : Nat) : Int) := of_decide_eq_true h3
  refine q_skip (by kernel_rfl) ?_
  refine qs ?_
  refine q_block (id := 1) (by kernel_rfl) ?_
  refine qs ?_
  refine qg ?_
  obtain ⟨x, hx⟩ : ∃ y, l[i]? = some y := ⟨_, List.getElem?_eq_getElem (by omega)⟩
  have hRd := risingK_drop (t := t) (ekey_at hx)
  obtain ⟨rb5, ro6, hA7⟩ := Rd.addr (Ents.rd hE) (by omega)
  refine Ops.go (by kernel_rfl) (Runs.ixSliceE (k := IntKind.i64) (t := 22) (len := l.length) (cap := c) (s := 2) (off' := ro6 + i * 2) (i := ((i : Nat) : Int)) hA7 (by kernel_rfl) (by kernel_rfl) (by omega) (by omega) (by omega)) (d := (some 11)) (by kernel_rfl) rfl ?_
  refine Ops.go (v := (agg [(i64 x.term), (Value.slice x.A x.cmd.length x.c)])) (by kernel_rfl) (Runs.load (t := 43) (a := ⟨rb5, ro6 + i * 2, none⟩) (by kernel_rfl) (RdT.ld (f := EntP.cells) (x := x) EntP.two (Ents.rd hE) (by kernel_rfl) (by kernel_rfl) hA7 hx)) (d := (some 12)) (by kernel_rfl) rfl ?_
  refine Ops.new (o := rowL [(i64 0), (Value.slice none 0 0)] 43) (V := fun b => (ptr b)) (by kernel_rfl) (d := (some 6)) (by kernel_rfl) (fun b => rfl) (fun b8 w9 hb10 H11 K12 hs13 => ?_)
  have nb8 : w.heap.size ≤ b8 := by have := K2.size; omega
  have ot14 : ∀ i, T i → i ≠ b8 := fun i hi => by have := Ents.lt hE i hi; omega
  replace K2 := K2.trans K12 (U := none_) (fun i h1 h2 => h2) (fun i h1 h2 => by exact h2)
  replace hE := Ents.keep0 hE K12
  clear K12 hs13
  refine Ops.put (t := 43) (b := b8) (off := 0) (v := (agg [(i64 x.term), (Value.slice x.A x.cmd.length x.c)])) (ys := [(i64 x.term), (Value.slice x.A x.cmd.length x.c)]) (by kernel_rfl) (by kernel_rfl) H11 (by kernel_rfl) (d := none) (by kernel_rfl) rfl (fun w15 H16 K17 => ?_)
  clear H11
  replace K2 := K2.trans K17 (U := none_) (fun i h1 h2 => h2) (fun i h1 h2 => by have h2 : i = b8 := h2; exfalso; omega)
  replace hE := Ents.keep hE K17 (fun i hi hs => by have hs : i = b8 := hs; have := ot14 i hi; omega)
  clear K17
  refine od ?_
  refine qs ?_
  refine qs ?_
  refine qg ?_
  refine og 1 [(0, (i64 t)), (6, (ptr b8)), (7, (Value.slice A l.length c)), (8, (i64 ((l.length : Nat) : Int))), (9, (i64 ((i : Nat) : Int))), (10, (Value.bool true)), (13, (ptr b8))] 1 ?_
  refine Ops.go (v := (i64 x.term)) (by kernel_rfl) (Runs.load (t := 2) (a := ⟨b8, 0, none⟩) (by kernel_rfl) (H16.loads (by kernel_rfl))) (d := (some 14)) (by kernel_rfl) rfl ?_
  refine og 2 [(0, (i64 t)), (6, (ptr b8)), (7, (Value.slice A l.length c)), (8, (i64 ((l.length : Nat) : Int))), (9, (i64 ((i : Nat) : Int))), (10, (Value.bool true)), (14, (i64 x.term)), (16, (i64 (if (1 : Int) > t then (1 : Int) else t)))] 4 ?_
  have e18 : (if (1 : Int) > t then (1 : Int) else t) = max t 1 := by split <;> omega
  rw [e18]
  clear e18
  refine og 2 [(0, (i64 t)), (6, (ptr b8)), (7, (Value.slice A l.length c)), (8, (i64 ((l.length : Nat) : Int))), (9, (i64 ((i : Nat) : Int))), (10, (Value.bool true)), (18, (Value.bool (decide (x.term < max t 1))))] 6 ?_
  refine Ops.split (decide (x.term < max t 1)) (fun h19 => ?_) (fun h19 => ?_)
  ·rw [h19]
   have p20 : x.term < max t 1 := of_decide_eq_true h19
   refine og 4 [(0, (i64 t)), (6, (ptr b8)), (7, (Value.slice A l.length c)), (8, (i64 ((l.length : Nat) : Int))), (9, (i64 ((i : Nat) : Int))), (10, (Value.bool true)), (22, (Value.bool true))] 10 ?_
   refine od ?_
   refine q_then (o := .tmp 22) (by kernel_rfl) rfl ?_
   refine qs ?_
   refine qg ?_
   refine og 1 [(0, (i64 t)), (4, (Value.bool false)), (6, (ptr b8)), (7, (Value.slice A l.length c)), (8, (i64 ((l.length : Nat) : Int))), (9, (i64 ((i : Nat) : Int))), (10, (Value.bool true)), (22, (Value.bool true))] 1 ?_
   refine od ?_
   refine q_ret (by kernel_rfl) ?_
   refine ⟨(Value.bool false), retv_tmp rfl rfl, ?_⟩
   have e : risingK t0 (l.map EntP.key) = false := by rw [← hR, hRd, if_pos (by omega)]
   exact ⟨by rw [e], K2⟩
  ·rw [h19]
   have p21 : ¬ (x.term < max t 1) := of_decide_eq_false h19
   refine og 1 [(0, (i64 t)), (6, (ptr b8)), (7, (Value.slice A l.length c)), (8, (i64 ((l.length : Nat) : Int))), (9, (i64 ((i : Nat) : Int))), (10, (Value.bool true)), (18, (Value.bool false)), (19, (ptr b8))] 7 ?_
   refine Ops.go (v := (i64 x.term)) (by kernel_rfl) (Runs.load (t := 2) (a := ⟨b8, 0, none⟩) (by kernel_rfl) (H16.loads (by kernel_rfl))) (d := (some 20)) (by kernel_rfl) rfl ?_
   refine og 2 [(0, (i64 t)), (6, (ptr b8)), (7, (Value.slice A l.length c)), (8, (i64 ((l.length : Nat) : Int))), (9, (i64 ((i : Nat) : Int))), (10, (Value.bool true)), (22, (Value.bool (decide (x.term > 1152921504606846976))))] 10 ?_
   refine od ?_
   refine q_cond (o := .tmp 22) (b := (decide (x.term > 1152921504606846976))) (by kernel_rfl) rfl (fun h22 => ?_) (fun h22 => ?_)
   ·rw [h22]
    have p23 : x.term > 1152921504606846976 := of_decide_eq_true h22
    refine qs ?_
    refine qg ?_
    refine og 1 [(0, (i64 t)), (4, (Value.bool false)), (6, (ptr b8)), (7, (Value.slice A l.length c)), (8, (i64 ((l.length : Nat) : Int))), (9, (i64 ((i : Nat) : Int))), (10, (Value.bool true)), (22, (Value.bool true))] 1 ?_
    refine od ?_
    refine q_ret (by kernel_rfl) ?_
    refine ⟨(Value.bool false), retv_tmp rfl rfl, ?_⟩
    have e : risingK t0 (l.map EntP.key) = false := by rw [← hR, hRd, if_pos (by omega)]
    exact ⟨by rw [e], K2⟩
   ·rw [h22]
    have p24 : ¬ (x.term > 1152921504606846976) := of_decide_eq_false h22
    refine q_skip (by kernel_rfl) ?_
    refine qg ?_
    refine og 1 [(0, (i64 t)), (6, (ptr b8)), (7, (Value.slice A l.length c)), (8, (i64 ((l.length : Nat) : Int))), (9, (i64 ((i : Nat) : Int))), (10, (Value.bool true)), (22, (Value.bool false)), (23, (ptr b8))] 1 ?_
    refine Ops.go (v := (i64 x.term)) (by kernel_rfl) (Runs.load (t := 2) (a := ⟨b8, 0, none⟩) (by kernel_rfl) (H16.loads (by kernel_rfl))) (d := (some 24)) (by kernel_rfl) rfl ?_
    refine og 1 [(0, (i64 x.term)), (6, (ptr b8)), (7, (Value.slice A l.length c)), (8, (i64 ((l.length : Nat) : Int))), (9, (i64 ((i : Nat) : Int))), (10, (Value.bool true)), (22, (Value.bool false))] 3 ?_
    refine od ?_
    refine qg ?_
    refine og 1 [(0, (i64 x.term)), (6, (ptr b8)), (7, (Value.slice A l.length c)), (8, (i64 ((l.length : Nat) : Int))), (9, (i64 ((i : Nat) : Int))), (10, (Value.bool true)), (22, (Value.bool false)), (25, (i64 (IntKind.i64.wrap (((i : Nat) : Int) + 1))))] 1 ?_
    have e25 : IntKind.i64.wrap (((i : Nat) : Int) + 1) = ((i + 1 : Nat) : Int) := by rw [wrap_i64 (by omega) (by omega)]; omega
    rw [e25]
    clear e25
    refine og 1 [(0, (i64 x.term)), (6, (ptr b8)), (7, (Value.slice A l.length c)), (8, (i64 ((l.length : Nat) : Int))), (9, (i64 ((i + 1 : Nat) : Int))), (10, (Value.bool true)), (22, (Value.bool false))] 2 ?_
    refine Ops.keep (R := [(0, (i64 x.term)), (7, (Value.slice A l.length c)), (8, (i64 ((l.length : Nat) : Int))), (9, (i64 ((i + 1 : Nat) : Int)))]) (by kernel_rfl) ?_
    refine od ?_
    exact ⟨(i + 1, x.term), ⟨rfl, (by rw [← hR, hRd, if_neg (by omega)]), (by omega), hE, K2⟩, (show l.length - (i + 1) < l.length - i from by omega)⟩
 ·rw [h3]
  have p26 : ¬ (((i : Nat) : Int) < ((l.length : Nat) : Int)) := of_decide_eq_false h3
  refine q_exit (id := 0) (by kernel_rfl) ?_
  refine qs ?_
  refine qg ?_
  refine og 1 [(4, (Value.bool true))] 1 ?_
  refine od ?_
  refine q_ret (by kernel_rfl) ?_
  refine ⟨(Value.bool true), retv_tmp rfl rfl, ?_⟩
  have e : risingK t0 (l.map EntP.key) = true := by rw [List.drop_of_length_le (by rw [List.length_map]; omega)] at hR; exact hR.symm
  exact ⟨by rw [e], K2⟩

theorem gone_calls (w : World) (n : Int)  : Calls Try.prog 47 ⟨[(agg [(i64 n)])]⟩ w (fun e w' => e = .returned (i64 n) ∧ Keeps none_ w w') := by
 have K0 : Keeps none_ w w := Keeps.refl w
 refine q_calls Try.func47 (by kernel_rfl) (by kernel_rfl) ?_
 refine qs ?_
 refine qg ?_
 refine Ops.new (o := rowL [(i64 n)] 62) (V := fun b => (ptr b)) (by kernel_rfl) (d := (some 1)) (by kernel_rfl) (fun b => rfl) (fun b1 w2 hb3 H4 K5 hs6 => ?_)
 have nb1 : w.heap.size ≤ b1 := by have := K0.size; omega
 replace K0 := K0.t0 K5
 clear K5 hs6
 refine og 1 [(1, (ptr b1)), (2, (i64 0))] 2 ?_
 refine od ?_
 refine qs ?_
 refine qg ?_
 refine og 1 [(2, (i64 0)), (3, (ptr b1))] 1 ?_
 refine Ops.go (v := (i64 n)) (by kernel_rfl) (Runs.load (t := 2) (a := ⟨b1, 0, none⟩) (by kernel_rfl) (H4.loads (by kernel_rfl))) (d := (some 4)) (by kernel_rfl) rfl ?_
 refine og 1 [(2, (i64 n))] 3 ?_
 refine od ?_
 refine q_ret (by kernel_rfl) ?_
 refine ⟨(i64 n), retv_tmp rfl rfl, ?_⟩
 exact ⟨rfl, K0⟩

theorem here_calls (w : World) (x : EntP)  : Calls Try.prog 48 ⟨[(agg [(i64 x.term), (Value.slice x.A x.cmd.length x.c)])]⟩ w (fun e w' => e = .returned (i64 x.term) ∧ Keeps none_ w w') := by
 have K0 : Keeps none_ w w := Keeps.refl w
 refine q_calls Try.func48 (by kernel_rfl) (by kernel_rfl) ?_
 refine qs ?_
 refine qg ?_
 refine Ops.new (o := rowL [(i64 x.term), (Value.slice x.A x.cmd.length x.c)] 64) (V := fun b => (ptr b)) (by kernel_rfl) (d := (some 1)) (by kernel_rfl) (fun b => rfl) (fun b1 w2 hb3 H4 K5 hs6 => ?_)
 have nb1 : w.heap.size ≤ b1 := by have := K0.size; omega
 replace K0 := K0.t0 K5
 clear K5 hs6
 refine og 1 [(1, (ptr b1)), (2, (i64 0))] 2 ?_
 refine od ?_
 refine qs ?_
 refine qg ?_
 refine og 2 [(2, (i64 0)), (4, (ptr b1))] 2 ?_
 refine Ops.go (v := (i64 x.term)) (by kernel_rfl) (Runs.load (t := 2) (a := ⟨b1, 0, none⟩) (by kernel_rfl) (H4.loads (by kernel_rfl))) (d := (some 5)) (by kernel_rfl) rfl ?_
 refine og 1 [(2, (i64 x.term))] 4 ?_
 refine od ?_
 refine q_ret (by kernel_rfl) ?_
 refine ⟨(i64 x.term), retv_tmp rfl rfl, ?_⟩
 exact ⟨rfl, K0⟩

theorem at_low (w : World) (T : Nat → Prop) (g : Nat) (base old : Int) (A : Option Addr) (c : Nat) (l : List EntP) (n : Int) (H0 : Has w g (rowL [i64 base, i64 old, .slice A l.length c] 55)) (hE : Ents w T (.slice A l.length c) l) (hT : ∀ i, T i → i ≠ g) (hB : 0 ≤ base ∧ base ≤ 2305843009213693952) (hL : l.length ≤ 4096) (hq : n < base) : Calls Try.prog 27 ⟨[(ptr g), (i64 n)]⟩ w (fun e w' => e = .returned (Value.nilIface) ∧ Keeps none_ w w') := by
 have hcap := Ents.len hE
 have Hg := H0.lt
 have K0 : Keeps none_ w w := Keeps.refl w
 refine q_calls Try.func27 (by kernel_rfl) (by kernel_rfl) ?_
 refine qs ?_
 refine qg ?_
 refine og 1 [(0, (ptr g)), (1, (i64 n)), (4, Value.nilIface)] 1 ?_
 refine od ?_
 refine qs ?_
 refine qg ?_
 refine og 4 [(0, (ptr g)), (1, (i64 n)), (4, Value.nilIface), (6, (i64 n)), (9, (ptr g))] 4 ?_
 refine Ops.go (v := (i64 base)) (by kernel_rfl) (Runs.load (t := 2) (a := ⟨g, 0, none⟩) (by kernel_rfl) (H0.loads (by kernel_rfl))) (d := (some 10)) (by kernel_rfl) rfl ?_
 refine og 1 [(0, (ptr g)), (1, (i64 n)), (4, Value.nilIface), (11, (i64 (IntKind.i64.wrap (n - base))))] 6 ?_
 refine og 1 [(0, (ptr g)), (1, (i64 n)), (4, Value.nilIface), (5, (i64 (IntKind.i64.wrap (n - base))))] 7 ?_
 refine od ?_
 refine q_block (id := 0) (by kernel_rfl) ?_
 refine qs ?_
 refine qg ?_
 refine og 4 [(0, (ptr g)), (4, Value.nilIface), (5, (i64 (IntKind.i64.wrap (n - base)))), (23, (i64 n)), (26, (ptr g))] 4 ?_
 refine Ops.go (v := (i64 base)) (by kernel_rfl) (Runs.load (t := 2) (a := ⟨g, 0, none⟩) (by kernel_rfl) (H0.loads (by kernel_rfl))) (d := (some 27)) (by kernel_rfl) rfl ?_
 refine og 2 [(0, (ptr g)), (4, Value.nilIface), (5, (i64 (IntKind.i64.wrap (n - base)))), (29, (Value.bool (decide (n < base))))] 7 ?_
 have h1 : (decide (n < base)) = true := decide_eq_true (by omega)
 rw [h1]
 refine og 9 [(0, (ptr g)), (4, Value.nilIface), (5, (i64 (IntKind.i64.wrap (n - base)))), (22, (Value.bool true))] 16 ?_
 refine od ?_
 refine q_then (o := .tmp 22) (by kernel_rfl) rfl ?_
 refine qs ?_
 refine qg ?_
 refine og 1 [(0, (ptr g)), (4, Value.nilIface), (5, (i64 (IntKind.i64.wrap (n - base))))] 1 ?_
 refine od ?_
 refine q_ret (by kernel_rfl) ?_
 refine ⟨Value.nilIface, retv_tmp rfl rfl, ?_⟩
 exact ⟨rfl, K0⟩

theorem at_high (w : World) (T : Nat → Prop) (g : Nat) (base old : Int) (A : Option Addr) (c : Nat) (l : List EntP) (n : Int) (H0 : Has w g (rowL [i64 base, i64 old, .slice A l.length c] 55)) (hE : Ents w T (.slice A l.length c) l) (hT : ∀ i, T i → i ≠ g) (hB : 0 ≤ base ∧ base ≤ 2305843009213693952) (hL : l.length ≤ 4096) (hn : -9223372036854775808 ≤ n ∧ n ≤ 9223372036854775807) (hq : base + (l.length : Int) < n) : Calls Try.prog 27 ⟨[(ptr g), (i64 n)]⟩ w (fun e w' => e = .returned (Value.nilIface) ∧ Keeps none_ w w') := by
 have hcap := Ents.len hE
 have Hg := H0.lt
 have K0 : Keeps none_ w w := Keeps.refl w
 refine q_calls Try.func27 (by kernel_rfl) (by kernel_rfl) ?_
 refine qs ?_
 refine qg ?_
 refine og 1 [(0, (ptr g)), (1, (i64 n)), (4, Value.nilIface)] 1 ?_
 refine od ?_
 refine qs ?_
 refine qg ?_
 refine og 4 [(0, (ptr g)), (1, (i64 n)), (4, Value.nilIface), (6, (i64 n)), (9, (ptr g))] 4 ?_
 refine Ops.go (v := (i64 base)) (by kernel_rfl) (Runs.load (t := 2) (a := ⟨g, 0, none⟩) (by kernel_rfl) (H0.loads (by kernel_rfl))) (d := (some 10)) (by kernel_rfl) rfl ?_
 refine og 1 [(0, (ptr g)), (1, (i64 n)), (4, Value.nilIface), (11, (i64 (IntKind.i64.wrap (n - base))))] 6 ?_
 have e1 : IntKind.i64.wrap (n - base) = n - base := wrap_i64 (by omega) (by omega)
 rw [e1]
 refine og 1 [(0, (ptr g)), (1, (i64 n)), (4, Value.nilIface), (5, (i64 (n - base)))] 7 ?_
 refine od ?_
 refine q_block (id := 0) (by kernel_rfl) ?_
 refine qs ?_
 refine qg ?_
 refine og 4 [(0, (ptr g)), (4, Value.nilIface), (5, (i64 (n - base))), (23, (i64 n)), (26, (ptr g))] 4 ?_
 refine Ops.go (v := (i64 base)) (by kernel_rfl) (Runs.load (t := 2) (a := ⟨g, 0, none⟩) (by kernel_rfl) (H0.loads (by kernel_rfl))) (d := (some 27)) (by kernel_rfl) rfl ?_
 refine og 2 [(0, (ptr g)), (4, Value.nilIface), (5, (i64 (n - base))), (29, (Value.bool (decide (n < base))))] 7 ?_
 have h2 : (decide (n < base)) = false := decide_eq_false (by omega)
 rw [h2]
 refine og 4 [(0, (ptr g)), (4, Value.nilIface), (5, (i64 (n - base))), (29, (Value.bool false)), (30, (i64 (n - base))), (33, (Value.pointer (some ⟨g, 2, none⟩)))] 11 ?_
 refine Ops.go (v := (Value.slice A l.length c)) (by kernel_rfl) (Runs.load (t := 22) (a := ⟨g, 2, none⟩) (by kernel_rfl) (H0.loads (by kernel_rfl))) (d := (some 34)) (by kernel_rfl) rfl ?_
 refine og 4 [(0, (ptr g)), (4, Value.nilIface), (5, (i64 (n - base))), (22, (Value.bool (decide (n - base > ((l.length : Nat) : Int)))))] 16 ?_
 refine od ?_
 have h3 : (decide (n - base > ((l.length : Nat) : Int))) = true := decide_eq_true (by omega)
 rw [h3]
 refine q_then (o := .tmp 22) (by kernel_rfl) rfl ?_
 refine qs ?_
 refine qg ?_
 refine og 1 [(0, (ptr g)), (4, Value.nilIface), (5, (i64 (n - base)))] 1 ?_
 refine od ?_
 refine q_ret (by kernel_rfl) ?_
 refine ⟨Value.nilIface, retv_tmp rfl rfl, ?_⟩
 exact ⟨rfl, K0⟩

theorem at_gone (w : World) (T : Nat → Prop) (g : Nat) (base old : Int) (A : Option Addr) (c : Nat) (l : List EntP) (n : Int) (H0 : Has w g (rowL [i64 base, i64 old, .slice A l.length c] 55)) (hE : Ents w T (.slice A l.length c) l) (hT : ∀ i, T i → i ≠ g) (hB : 0 ≤ base ∧ base ≤ 2305843009213693952) (hL : l.length ≤ 4096) (hq : n = base) : Calls Try.prog 27 ⟨[(ptr g), (i64 n)]⟩ w (fun e w' => e = .returned (.iface 62 (agg [i64 old])) ∧ Keeps none_ w w') := by
 have hcap := Ents.len hE
 have Hg := H0.lt
 have K0 : Keeps none_ w w := Keeps.refl w
 have hq := hq.symm
 subst hq
 refine q_calls Try.func27 (by kernel_rfl) (by kernel_rfl) ?_
 refine qs ?_
 refine qg ?_
 refine og 1 [(0, (ptr g)), (1, (i64 base)), (4, Value.nilIface)] 1 ?_
 refine od ?_
 refine qs ?_
 refine qg ?_
 refine og 4 [(0, (ptr g)), (1, (i64 base)), (4, Value.nilIface), (6, (i64 base)), (9, (ptr g))] 4 ?_
 refine Ops.go (v := (i64 base)) (by kernel_rfl) (Runs.load (t := 2) (a := ⟨g, 0, none⟩) (by kernel_rfl) (H0.loads (by kernel_rfl))) (d := (some 10)) (by kernel_rfl) rfl ?_
 refine og 1 [(0, (ptr g)), (1, (i64 base)), (4, Value.nilIface), (11, (i64 (IntKind.i64.wrap (base - base))))] 6 ?_
 have e1 : IntKind.i64.wrap (base - base) = 0 := by rw [wrap_i64 (by omega) (by omega)]; omega
 rw [e1]
 refine og 1 [(0, (ptr g)), (1, (i64 base)), (4, Value.nilIface), (5, (i64 0))] 7 ?_
 refine od ?_
 refine q_block (id := 0) (by kernel_rfl) ?_
 refine qs ?_
 refine qg ?_
 refine og 4 [(0, (ptr g)), (4, Value.nilIface), (5, (i64 0)), (23, (i64 base)), (26, (ptr g))] 4 ?_
 refine Ops.go (v := (i64 base)) (by kernel_rfl) (Runs.load (t := 2) (a := ⟨g, 0, none⟩) (by kernel_rfl) (H0.loads (by kernel_rfl))) (d := (some 27)) (by kernel_rfl) rfl ?_
 refine og 2 [(0, (ptr g)), (4, Value.nilIface), (5, (i64 0)), (29, (Value.bool (decide (base < base))))] 7 ?_
 have h2 : (decide (base < base)) = false := decide_eq_false (by omega)
 rw [h2]
 refine og 4 [(0, (ptr g)), (4, Value.nilIface), (5, (i64 0)), (29, (Value.bool false)), (30, (i64 0)), (33, (Value.pointer (some ⟨g, 2, none⟩)))] 11 ?_
 refine Ops.go (v := (Value.slice A l.length c)) (by kernel_rfl) (Runs.load (t := 22) (a := ⟨g, 2, none⟩) (by kernel_rfl) (H0.loads (by kernel_rfl))) (d := (some 34)) (by kernel_rfl) rfl ?_
 refine og 4 [(0, (ptr g)), (4, Value.nilIface), (5, (i64 0)), (22, (Value.bool (decide (0 > ((l.length : Nat) : Int)))))] 16 ?_
 refine od ?_
 have h3 : (decide (0 > ((l.length : Nat) : Int))) = false := decide_eq_false (by omega)
 rw [h3]
 refine q_else (o := .tmp 22) (by kernel_rfl) rfl ?_
 refine qs ?_
 refine qg ?_
 refine og 3 [(0, (ptr g)), (4, Value.nilIface), (5, (i64 0)), (38, (Value.bool (0 == 0)))] 3 ?_
 refine od ?_
 have h4 : (0 == 0) = true := by simp
 rw [h4]
 refine q_then (o := .tmp 38) (by kernel_rfl) rfl ?_
 refine qs ?_
 refine qg ?_
 refine og 3 [(0, (ptr g)), (4, Value.nilIface), (5, (i64 0)), (43, (Value.pointer (some ⟨g, 1, none⟩)))] 3 ?_
 refine Ops.go (v := (i64 old)) (by kernel_rfl) (Runs.load (t := 2) (a := ⟨g, 1, none⟩) (by kernel_rfl) (H0.loads (by kernel_rfl))) (d := (some 44)) (by kernel_rfl) rfl ?_
 refine og 3 [(0, (ptr g)), (4, (Value.iface 62 (agg [(i64 old)]))), (5, (i64 0))] 7 ?_
 refine od ?_
 refine q_ret (by kernel_rfl) ?_
 refine ⟨(Value.iface 62 (agg [(i64 old)])), retv_tmp rfl rfl, ?_⟩
 exact ⟨rfl, K0⟩

theorem at_here (w : World) (T : Nat → Prop) (g : Nat) (base old : Int) (A : Option Addr) (c : Nat) (l : List EntP) (n : Int) (k : Nat) (x : EntP) (H0 : Has w g (rowL [i64 base, i64 old, .slice A l.length c] 55)) (hE : Ents w T (.slice A l.length c) l) (hT : ∀ i, T i → i ≠ g) (hB : 0 ≤ base ∧ base ≤ 2305843009213693952) (hL : l.length ≤ 4096) (hq : n = base + (k : Int) + 1) (hk : k < l.length) (hx : l[k]? = some x) : Calls Try.prog 27 ⟨[(ptr g), (i64 n)]⟩ w (fun e w' => e = .returned (.iface 64 (agg x.cells)) ∧ Keeps none_ w w') := by
 have hcap := Ents.len hE
 have Hg := H0.lt
 have K0 : Keeps none_ w w := Keeps.refl w
 subst hq
 refine q_calls Try.func27 (by kernel_rfl) (by kernel_rfl) ?_
 refine qs ?_
 refine qg ?_
 refine og 1 [(0, (ptr g)), (1, (i64 (base + (k : Int) + 1))), (4, Value.nilIface)] 1 ?_
 refine od ?_
 refine qs ?_
 refine qg ?_
 refine og 4 [(0, (ptr g)), (1, (i64 (base + (k : Int) + 1))), (4, Value.nilIface), (6, (i64 (base + (k : Int) + 1))), (9, (ptr g))] 4 ?_
 refine Ops.go (v := (i64 base)) (by kernel_rfl) (Runs.load (t := 2) (a := ⟨g, 0, none⟩) (by kernel_rfl) (H0.loads (by kernel_rfl))) (d := (some 10)) (by kernel_rfl) rfl ?_
 refine og 1 [(0, (ptr g)), (1, (i64 (base + (k : Int) + 1))), (4, Value.nilIface), (11, (i64 (IntKind.i64.wrap ((base + (k : Int) + 1) - base))))] 6 ?_
 have e1 : IntKind.i64.wrap ((base + (k : Int) + 1) - base) = ((k + 1 : Nat) : Int) := by rw [wrap_i64 (by omega) (by omega)]; omega
 rw [e1]
 refine og 1 [(0, (ptr g)), (1, (i64 (base + (k : Int) + 1))), (4, Value.nilIface), (5, (i64 ((k + 1 : Nat) : Int)))] 7 ?_
 refine od ?_
 refine q_block (id := 0) (by kernel_rfl) ?_
 refine qs ?_
 refine qg ?_
 refine og 4 [(0, (ptr g)), (4, Value.nilIface), (5, (i64 ((k + 1 : Nat) : Int))), (23, (i64 (base + (k : Int) + 1))), (26, (ptr g))] 4 ?_
 refine Ops.go (v := (i64 base)) (by kernel_rfl) (Runs.load (t := 2) (a := ⟨g, 0, none⟩) (by kernel_rfl) (H0.loads (by kernel_rfl))) (d := (some 27)) (by kernel_rfl) rfl ?_
 refine og 2 [(0, (ptr g)), (4, Value.nilIface), (5, (i64 ((k + 1 : Nat) : Int))), (29, (Value.bool (decide (base + (k : Int) + 1 < base))))] 7 ?_
 have h2 : (decide (base + (k : Int) + 1 < base)) = false := decide_eq_false (by omega)
 rw [h2]
 refine og 4 [(0, (ptr g)), (4, Value.nilIface), (5, (i64 ((k + 1 : Nat) : Int))), (29, (Value.bool false)), (30, (i64 ((k + 1 : Nat) : Int))), (33, (Value.pointer (some ⟨g, 2, none⟩)))] 11 ?_
 refine Ops.go (v := (Value.slice A l.length c)) (by kernel_rfl) (Runs.load (t := 22) (a := ⟨g, 2, none⟩) (by kernel_rfl) (H0.loads (by kernel_rfl))) (d := (some 34)) (by kernel_rfl) rfl ?_
 refine og 4 [(0, (ptr g)), (4, Value.nilIface), (5, (i64 ((k + 1 : Nat) : Int))), (22, (Value.bool (decide (((k + 1 : Nat) : Int) > ((l.length : Nat) : Int)))))] 16 ?_
 refine od ?_
 have h3 : (decide (((k + 1 : Nat) : Int) > ((l.length : Nat) : Int))) = false := decide_eq_false (by omega)
 rw [h3]
 refine q_else (o := .tmp 22) (by kernel_rfl) rfl ?_
 refine qs ?_
 refine qg ?_
 refine og 3 [(0, (ptr g)), (4, Value.nilIface), (5, (i64 ((k + 1 : Nat) : Int))), (38, (Value.bool (((k + 1 : Nat) : Int) == 0)))] 3 ?_
 refine od ?_
 have h4 : (((k + 1 : Nat) : Int) == 0) = false := beq_f (by omega)
 rw [h4]
 refine q_else (o := .tmp 38) (by kernel_rfl) rfl ?_
 refine qs ?_
 refine qg ?_
 refine og 3 [(4, Value.nilIface), (5, (i64 ((k + 1 : Nat) : Int))), (14, (Value.pointer (some ⟨g, 2, none⟩)))] 3 ?_
 refine Ops.go (v := (Value.slice A l.length c)) (by kernel_rfl) (Runs.load (t := 22) (a := ⟨g, 2, none⟩) (by kernel_rfl) (H0.loads (by kernel_rfl))) (d := (some 15)) (by kernel_rfl) rfl ?_
 refine og 2 [(4, Value.nilIface), (15, (Value.slice A l.length c)), (17, (i64 (IntKind.i64.wrap (((k + 1 : Nat) : Int) - 1))))] 6 ?_
 have e5 : IntKind.i64.wrap (((k + 1 : Nat) : Int) - 1) = ((k : Nat) : Int) := by rw [wrap_i64 (by omega) (by omega)]; omega
 rw [e5]
 obtain ⟨rb6, ro7, hA8⟩ := Rd.addr (Ents.rd hE) (by omega)
 refine Ops.go (by kernel_rfl) (Runs.ixSliceE (k := IntKind.i64) (t := 22) (len := l.length) (cap := c) (s := 2) (off' := ro7 + k * 2) (i := ((k : Nat) : Int)) hA8 (by kernel_rfl) (by kernel_rfl) (by omega) (by omega) (by omega)) (d := (some 18)) (by kernel_rfl) rfl ?_
 refine Ops.go (v := (agg [(i64 x.term), (Value.slice x.A x.cmd.length x.c)])) (by kernel_rfl) (Runs.load (t := 43) (a := ⟨rb6, ro7 + k * 2, none⟩) (by kernel_rfl) (RdT.ld (f := EntP.cells) (x := x) EntP.two (Ents.rd hE) (by kernel_rfl) (by kernel_rfl) hA8 hx)) (d := (some 19)) (by kernel_rfl) rfl ?_
 refine og 3 [(4, (Value.iface 64 (agg [(i64 x.term), (Value.slice x.A x.cmd.length x.c)])))] 11 ?_
 refine od ?_
 refine q_ret (by kernel_rfl) ?_
 refine ⟨(Value.iface 64 (agg [(i64 x.term), (Value.slice x.A x.cmd.length x.c)])), retv_tmp rfl rfl, ?_⟩
 exact ⟨rfl, K0⟩
end Go.Proofs.Ytncjidepplaocaa
