/- numbers are written -/
import Derived.Test.YtlnidnadpdpciaaProg
import Derived.Test.YtlnidnadpdpciaaLC
import Derived.Test.YtlnidnadpdpciaaLX
set_option linter.unusedVariables false
namespace Go.Proofs.Ytlnidnadpdpciaa
open Go.Q Go.RowKit
theorem tyB : ElemTy Try.prog 28 5 1 1 := elemTy (by kernel_rfl)

theorem Clip_calls (w : World) (A : Option Addr) (n c : Nat) (hnc : n ≤ c)  : Calls Try.prog 83 ⟨[(Value.slice A n c)]⟩ w (fun e w' => e = .returned (.slice A n n) ∧ w = w') := by
 have K0 : Keeps none_ w w := Keeps.refl w
 refine q_calls Try.func83 (by kernel_rfl) (by kernel_rfl) ?_
 refine qs ?_
 refine qg ?_
 refine og 1 [(0, (Value.slice A n c)), (2, (Value.slice none 0 0))] 1 ?_
 refine od ?_
 refine qs ?_
 refine qg ?_
 refine og 5 [(2, (Value.slice none 0 0)), (3, (Value.slice A n c)), (5, (i64 ((n : Nat) : Int))), (7, (i64 ((n : Nat) : Int)))] 5 ?_
 have hcut := run_cut (sz := 1) (P := Try.prog) (w := w) (t := 28) (A := A) (n := n) (c := c) 0 n n (lo := none) (hi := some (i64 ((n : Nat) : Int))) (mx := some (i64 ((n : Nat) : Int))) tyB.slice (by kernel_rfl) (.inl ⟨rfl, rfl⟩) (.inr ⟨_, rfl⟩) (.inr ⟨_, rfl⟩) (by omega) (by omega) (by omega)
 have hA : (if n = 0 then A else Option.map (fun q => Addr.add q (0 * 1)) A) = A := by cases A <;> simp [Addr.add]
 rw [hA, Nat.sub_zero] at hcut
 refine Ops.go (v := (Value.slice A n n)) (by kernel_rfl) (Runs.slice (by kernel_rfl) hcut) (d := (some 8)) (by kernel_rfl) rfl ?_
 clear hcut hA
 refine og 1 [(2, (Value.slice A n n))] 7 ?_
 refine od ?_
 refine q_ret (by kernel_rfl) ?_
 refine ⟨(Value.slice A n n), retv_tmp rfl rfl, ?_⟩
 exact ⟨rfl, rfl⟩

theorem Uint_calls (w : World) (v : Value) (xs : List UInt8) (m0 : Nat) (hv : RdB w v xs) (hm0 : m0 < 18446744073709551616) (hl : xs.length ≤ 140737488351232) : Calls Try.prog 67 ⟨[v, (Value.int IntKind.u64 ((m0 : Nat) : Int))]⟩ w (fun e w' => ∃ v', e = .returned v' ∧ Keeps none_ w w' ∧ OwnB w' w.heap.size 5 v' (xs ++ uv m0)) := by
 obtain ⟨A, c, rfl⟩ := hv.form
 have hsl := hv.slice
 have K0 : Keeps none_ w w := Keeps.refl w
 refine q_calls Try.func67 (by kernel_rfl) (by kernel_rfl) ?_
 refine qs ?_
 refine qg ?_
 refine og 1 [(0, (Value.slice A xs.length c)), (1, (Value.int IntKind.u64 ((m0 : Nat) : Int))), (4, (Value.slice none 0 0))] 1 ?_
 refine od ?_
 refine qs ?_
 refine qg ?_
 refine og 1 [(0, (Value.slice A xs.length c)), (1, (Value.int IntKind.u64 ((m0 : Nat) : Int))), (4, (Value.slice none 0 0)), (5, (Value.slice A xs.length c))] 1 ?_
 refine Ops.call (by kernel_rfl) (d := (some 6)) (by kernel_rfl) (Clip_calls _ A xs.length c (by omega)) ?_
 rintro _ _ ⟨rfl, rfl⟩
 refine ⟨_, _, rfl, rfl, ?_⟩
 refine og 1 [(0, (Value.slice A xs.length xs.length)), (1, (Value.int IntKind.u64 ((m0 : Nat) : Int))), (4, (Value.slice none 0 0))] 3 ?_
 refine od ?_
 refine qs ?_
 refine q_block (id := 0) (by kernel_rfl) ?_
 refine q_keep (R := [(0, (Value.slice A xs.length xs.length)), (1, (Value.int IntKind.u64 ((m0 : Nat) : Int))), (4, (Value.slice none 0 0))]) (by kernel_rfl) ?_
 refine q_loop (fun (gs : Value × Nat × (List UInt8)) L (wx : World) => match gs with | (v, m, ys) => L = [(0, v), (1, (Value.int IntKind.u64 ((m : Nat) : Int))), (4, (Value.slice none 0 0))] ∧ Wr wx w.heap.size 5 v ys ∧ ys ++ uv m = xs ++ uv m0 ∧ m < 18446744073709551616 ∧ Keeps none_ w wx) (fun (gs : Value × Nat × (List UInt8)) => match gs with | (v, m, ys) => m) (.slice A xs.length xs.length, m0, xs) (by kernel_rfl) ⟨rfl, .inl ⟨A, rfl, hv.clip⟩, rfl, hm0, K0⟩ ?_
 clear K0
 rintro ⟨v, m, ys⟩ _ w1 ⟨rfl, hW, hE, hm, K2⟩
 have hlen := congrArg List.length hE
 simp only [List.length_append] at hlen
 have hu := uv_length_10 hm0
 have hp := uv_pos m
 refine qs ?_
 refine qs ?_
 refine qg ?_
 refine og 2 [(0, v), (1, (Value.int IntKind.u64 ((m : Nat) : Int))), (4, (Value.slice none 0 0)), (8, (Value.bool (decide (((m : Nat) : Int) > 127))))] 2 ?_
 refine od ?_
 refine q_cond (o := .tmp 8) (b := (decide (((m : Nat) : Int) > 127))) (by kernel_rfl) rfl (fun h3 => ?_) (fun h3 => ?_)
 ·rw [h3]
  have p4 : ((m : Nat) : Int) > 127 := of_decide_eq_true h3
  refine q_skip (by kernel_rfl) ?_
  refine qs ?_
  refine q_block (id := 1) (by kernel_rfl) ?_
  refine qg ?_
  refine og 3 [(0, v), (1, (Value.int IntKind.u64 ((m : Nat) : Int))), (4, (Value.slice none 0 0)), (8, (Value.bool true)), (11, v), (13, (Value.int IntKind.u8 (IntKind.u8.wrap ((m : Nat) : Int))))] 3 ?_
  have e5 : IntKind.u8.wrap ((m : Nat) : Int) = ((m % 256 : Nat) : Int) := u8_wrap m
  rw [e5]
  clear e5
  refine Ops.go (v := (Value.int IntKind.u8 (((m % 256) % 128 + 128 : Nat) : Int))) (by kernel_rfl) (Runs.int (op := .or) (t := 5) (by kernel_rfl) (run_or128 (by omega))) (d := (some 14)) (by kernel_rfl) rfl ?_
  refine Ops.new (o := rowL [(Value.int IntKind.u8 (((m % 256) % 128 + 128 : Nat) : Int))] 5) (V := fun b => (Value.slice (some ⟨b, 0, none⟩) 1 1)) (by kernel_rfl) (d := (some 15)) (by kernel_rfl) (fun b => rfl) (fun b6 w7 hb8 H9 K10 hs11 => ?_)
  have nb6 : w.heap.size ≤ b6 := by have := K2.size; omega
  replace K2 := K2.trans K10 (U := none_) (fun i h1 h2 => h2) (fun i h1 h2 => by exact h2)
  replace hW := hW.keep0 K10
  clear K10 hs11
  obtain ⟨v12, w13, hr14, hO15, K16⟩ := Wr.app (ty := 28) tyB hW (lit1 (by omega) H9) (by simp) (by (try simp only at *); (try simp only [List.length_append] at *); (try simp only [List.length_cons] at *); (try simp only [List.length_nil] at *); omega) K2.size
  refine Ops.go (v := v12) (by kernel_rfl) (Runs.append (ts := #[28, 28]) (ty := 28) (vs := [v, (Value.slice (some ⟨b6, 0, none⟩) 1 1)]) (by kernel_rfl) hr14) (d := (some 16)) (by kernel_rfl) rfl ?_
  have K17 := Keeps.own2 K2 K16
  clear H9 hW K2 hr14 K16
  refine og 1 [(0, v12), (1, (Value.int IntKind.u64 ((m : Nat) : Int))), (4, (Value.slice none 0 0)), (8, (Value.bool true))] 7 ?_
  refine od ?_
  refine qg ?_
  refine og 2 [(0, v12), (1, (Value.int IntKind.u64 ((m : Nat) : Int))), (4, (Value.slice none 0 0)), (8, (Value.bool true)), (10, (Value.int IntKind.u64 ((((m : Nat) : Int)).fdiv 128)))] 2 ?_
  have e18 : (((m : Nat) : Int)).fdiv 128 = ((m / 128 : Nat) : Int) := fdiv_nat m 128
  rw [e18]
  clear e18
  refine og 1 [(0, v12), (1, (Value.int IntKind.u64 ((m / 128 : Nat) : Int))), (4, (Value.slice none 0 0)), (8, (Value.bool true))] 3 ?_
  refine Ops.keep (R := [(0, v12), (1, (Value.int IntKind.u64 ((m / 128 : Nat) : Int))), (4, (Value.slice none 0 0))]) (by kernel_rfl) ?_
  refine od ?_
  exact ⟨(v12, m / 128, ys ++ [byte (m % 256 % 128 + 128)]), ⟨rfl, .inr hO15, (by rw [← hE, uv_ge (n := m) (by omega)]; rw [show byte (m % 256 % 128 + 128) = byte (m % 128 + 128) from (by rw [Nat.mod_mod_of_dvd m (by decide)])]; simp), (by omega), K17⟩, (show (m / 128) < m from by omega)⟩
 ·rw [h3]
  have p19 : ¬ (((m : Nat) : Int) > 127) := of_decide_eq_false h3
  refine q_exit (id := 0) (by kernel_rfl) ?_
  refine qs ?_
  refine qg ?_
  refine og 3 [(4, (Value.slice none 0 0)), (17, v), (19, (Value.int IntKind.u8 (IntKind.u8.wrap ((m : Nat) : Int))))] 3 ?_
  have e20 : IntKind.u8.wrap ((m : Nat) : Int) = ((m % 256 : Nat) : Int) := u8_wrap m
  rw [e20]
  clear e20
  refine Ops.new (o := rowL [(Value.int IntKind.u8 ((m % 256 : Nat) : Int))] 5) (V := fun b => (Value.slice (some ⟨b, 0, none⟩) 1 1)) (by kernel_rfl) (d := (some 20)) (by kernel_rfl) (fun b => rfl) (fun b21 w22 hb23 H24 K25 hs26 => ?_)
  have nb21 : w.heap.size ≤ b21 := by have := K2.size; omega
  replace K2 := K2.trans K25 (U := none_) (fun i h1 h2 => h2) (fun i h1 h2 => by exact h2)
  replace hW := hW.keep0 K25
  clear K25 hs26
  obtain ⟨v27, w28, hr29, hO30, K31⟩ := Wr.app (ty := 28) tyB hW (lit1 (by omega) H24) (by simp) (by (try simp only at *); (try simp only [List.length_append] at *); (try simp only [List.length_cons] at *); (try simp only [List.length_nil] at *); omega) K2.size
  refine Ops.go (v := v27) (by kernel_rfl) (Runs.append (ts := #[28, 28]) (ty := 28) (vs := [v, (Value.slice (some ⟨b21, 0, none⟩) 1 1)]) (by kernel_rfl) hr29) (d := (some 21)) (by kernel_rfl) rfl ?_
  have K32 := Keeps.own2 K2 K31
  clear H24 hW K2 hr29 K31
  refine og 1 [(4, v27)] 6 ?_
  refine od ?_
  refine q_ret (by kernel_rfl) ?_
  refine ⟨v27, retv_tmp rfl rfl, ?_⟩
  refine ⟨_, rfl, K32, ?_⟩
  have hfin : ys ++ [byte (m % 256)] = xs ++ uv m0 := by rw [← hE, uv_lt (by omega)]; rw [show m % 256 = m from (by omega)]
  rw [hfin] at hO30
  exact hO30

theorem Int_calls (w : World) (v : Value) (xs : List UInt8) (n : Int) (hv : RdB w v xs) (hn : -9223372036854775808 ≤ n ∧ n ≤ 9223372036854775807) (hl : xs.length ≤ 140737488351232) : Calls Try.prog 65 ⟨[v, (i64 n)]⟩ w (fun e w' => ∃ v', e = .returned v' ∧ Keeps none_ w w' ∧ OwnB w' w.heap.size 5 v' (xs ++ iv n)) := by
 have hz := zz_lt hn
 have hz1 := zz_neg n
 have hz2 := zz_pos n
 have K0 : Keeps none_ w w := Keeps.refl w
 refine q_calls Try.func65 (by kernel_rfl) (by kernel_rfl) ?_
 refine qs ?_
 refine qg ?_
 refine og 1 [(0, v), (1, (i64 n)), (4, (Value.slice none 0 0))] 1 ?_
 refine od ?_
 refine qs ?_
 refine qg ?_
 refine og 7 [(4, (Value.slice none 0 0)), (5, v), (8, (Value.int IntKind.u64 (IntKind.u64.wrap ((IntKind.u64.wrap n) * 2)))), (11, (Value.int IntKind.u64 (IntKind.u64.wrap ((n).fdiv 9223372036854775808))))] 7 ?_
 refine Ops.go (v := (Value.int IntKind.u64 ((zz n : Nat) : Int))) (by kernel_rfl) (Runs.int (op := .xor) (t := 112) (by kernel_rfl) (run_zigzag hn)) (d := (some 12)) (by kernel_rfl) rfl ?_
 refine Ops.call (by kernel_rfl) (d := (some 13)) (by kernel_rfl) (Uint_calls _ v xs (zz n) (hv.keep0 (by omega) K0) (by omega) (by (try simp only at *); (try simp only [List.length_append] at *); (try simp only [List.length_cons] at *); (try simp only [List.length_nil] at *); omega)) ?_
 rintro _ w3 ⟨v2, rfl, K4, hO5⟩
 have O6 := own_base hO5 K0.size
 clear hO5
 have hL1 := uv_length_10 (n := zz n) (by omega)
 refine ⟨_, _, rfl, rfl, ?_⟩
 replace K0 := K0.t0 K4
 clear K4
 refine og 1 [(4, v2)] 10 ?_
 refine od ?_
 refine q_ret (by kernel_rfl) ?_
 refine ⟨v2, retv_tmp rfl rfl, ?_⟩
 exact ⟨_, rfl, K0, O6⟩

theorem ints_calls (w : World) (v : Value) (xs : List UInt8) (b : Nat) (l : List Int) (n : Nat) (hv : RdB w v xs) (H0 : Has w b (rowL (ints l) 2)) (hln : l.length = n) (hr : ∀ x ∈ l, -9223372036854775808 ≤ x ∧ x ≤ 9223372036854775807) (h0 : 0 < n ∧ n ≤ 1000) (hl : xs.length ≤ 70368744173568) : Calls Try.prog 33 ⟨[v, (Value.slice (some ⟨b, 0, none⟩) n n)]⟩ w (fun e w' => ∃ v', e = .returned v' ∧ Keeps none_ w w' ∧ OwnB w' w.heap.size 5 v' (xs ++ ivs l)) := by
 have K0 : Keeps none_ w w := Keeps.refl w
 refine q_calls Try.func33 (by kernel_rfl) (by kernel_rfl) ?_
 refine qs ?_
 refine qg ?_
 refine og 1 [(0, v), (1, (Value.slice (some ⟨b, 0, none⟩) n n)), (4, (Value.slice none 0 0))] 1 ?_
 refine od ?_
 refine qs ?_
 refine qs ?_
 refine qg ?_
 refine og 3 [(0, v), (4, (Value.slice none 0 0)), (7, (Value.slice (some ⟨b, 0, none⟩) n n)), (8, (i64 ((n : Nat) : Int))), (9, (i64 0))] 3 ?_
 refine od ?_
 refine q_block (id := 0) (by kernel_rfl) ?_
 refine q_keep (R := [(0, v), (4, (Value.slice none 0 0)), (7, (Value.slice (some ⟨b, 0, none⟩) n n)), (8, (i64 ((n : Nat) : Int))), (9, (i64 0))]) (by kernel_rfl) ?_
 refine q_loop (fun (gs : Value × Nat × (List UInt8)) L (wx : World) => match gs with | (v, i, ys) => L = [(0, v), (4, (Value.slice none 0 0)), (7, (Value.slice (some ⟨b, 0, none⟩) n n)), (8, (i64 ((n : Nat) : Int))), (9, (i64 ((i : Nat) : Int)))] ∧ RdB wx v ys ∧ (0 < i → OwnB wx w.heap.size 5 v ys) ∧ ys = xs ++ ivs (l.take i) ∧ i ≤ n ∧ Keeps none_ w wx ∧ Has wx b (rowL (ints l) 2)) (fun (gs : Value × Nat × (List UInt8)) => match gs with | (v, i, ys) => n - i) (v, 0, xs) (by kernel_rfl) ⟨rfl, hv, (fun h => absurd h (Nat.lt_irrefl 0)), (by simp), Nat.zero_le _, K0, H0⟩ ?_
 clear H0 K0
 rintro ⟨v, i, ys⟩ _ w1 ⟨rfl, hR, hO, hE, hi, K2, H3⟩
 have hO0 := hO
 have hlen := congrArg List.length hE
 simp only [List.length_append] at hlen
 have htk := ivs_take_length hr i (by omega)
 have hri := getD_range hr i
 refine qs ?_
 refine qg ?_
 refine og 1 [(0, v), (4, (Value.slice none 0 0)), (7, (Value.slice (some ⟨b, 0, none⟩) n n)), (8, (i64 ((n : Nat) : Int))), (9, (i64 ((i : Nat) : Int))), (10, (Value.bool (decide (((i : Nat) : Int) < ((n : Nat) : Int)))))] 1 ?_
 refine od ?_
 refine qs ?_
 refine q_cond (o := .tmp 10) (b := (decide (((i : Nat) : Int) < ((n : Nat) : Int)))) (by kernel_rfl) rfl (fun h4 => ?_) (fun h4 => ?_)
 ·rw [h4]
  have p5 : ((i : Nat) : Int) < ((n : Nat) : Int) := of_decide_eq_true h4
  refine q_skip (by kernel_rfl) ?_
  refine qs ?_
  refine q_block (id := 1) (by kernel_rfl) ?_
  refine qs ?_
  refine qg ?_
  refine Ops.go (by kernel_rfl) (Runs.ixSlice (k := IntKind.i64) (t := 109) (b := b) (off := 0) (len := n) (cap := n) (s := 1) (off' := i) (i := ((i : Nat) : Int)) (by kernel_rfl) (by kernel_rfl) (by omega) (by omega) (by omega)) (d := (some 11)) (by kernel_rfl) rfl ?_
  refine Ops.go (v := (i64 (l.getD i 0))) (by kernel_rfl) (Runs.load (t := 2) (a := ⟨b, i, none⟩) (by kernel_rfl) (H3.loads (loadC1 (by kernel_rfl) (intsL_at _ i (by rw [hln]; omega))))) (d := (some 12)) (by kernel_rfl) rfl ?_
  refine og 1 [(0, v), (4, (Value.slice none 0 0)), (6, (i64 (l.getD i 0))), (7, (Value.slice (some ⟨b, 0, none⟩) n n)), (8, (i64 ((n : Nat) : Int))), (9, (i64 ((i : Nat) : Int))), (10, (Value.bool true))] 3 ?_
  refine od ?_
  refine qg ?_
  refine og 2 [(0, v), (4, (Value.slice none 0 0)), (6, (i64 (l.getD i 0))), (7, (Value.slice (some ⟨b, 0, none⟩) n n)), (8, (i64 ((n : Nat) : Int))), (9, (i64 ((i : Nat) : Int))), (10, (Value.bool true)), (13, v), (14, (i64 (l.getD i 0)))] 2 ?_
  refine Ops.call (by kernel_rfl) (d := (some 15)) (by kernel_rfl) (Int_calls _ v ys (l.getD i 0) hR (by omega) (by (try simp only at *); (try simp only [List.length_append] at *); (try simp only [List.length_cons] at *); (try simp only [List.length_nil] at *); omega)) ?_
  rintro _ w8 ⟨v7, rfl, K9, hO10⟩
  have O11 := own_base hO10 K2.size
  clear hO10
  have hL6 := iv_length_10 (n := (l.getD i 0)) (by omega)
  refine ⟨_, _, rfl, rfl, ?_⟩
  replace K2 := K2.trans K9 (U := none_) (fun i h1 h2 => h2) (fun i h1 h2 => by exact h2)
  replace H3 := H3.keep K9 (fun h => h)
  replace hR := hR.keep0 (by omega) K9
  clear K9
  refine og 1 [(0, v7), (4, (Value.slice none 0 0)), (6, (i64 (l.getD i 0))), (7, (Value.slice (some ⟨b, 0, none⟩) n n)), (8, (i64 ((n : Nat) : Int))), (9, (i64 ((i : Nat) : Int))), (10, (Value.bool true))] 4 ?_
  refine od ?_
  refine qg ?_
  refine og 1 [(0, v7), (4, (Value.slice none 0 0)), (6, (i64 (l.getD i 0))), (7, (Value.slice (some ⟨b, 0, none⟩) n n)), (8, (i64 ((n : Nat) : Int))), (9, (i64 ((i : Nat) : Int))), (10, (Value.bool true)), (16, (i64 (IntKind.i64.wrap (((i : Nat) : Int) + 1))))] 1 ?_
  have e12 : IntKind.i64.wrap (((i : Nat) : Int) + 1) = ((i : Nat) : Int) + 1 := wrap_i64 (by omega) (by omega)
  rw [e12]
  refine og 1 [(0, v7), (4, (Value.slice none 0 0)), (6, (i64 (l.getD i 0))), (7, (Value.slice (some ⟨b, 0, none⟩) n n)), (8, (i64 ((n : Nat) : Int))), (9, (i64 (((i : Nat) : Int) + 1))), (10, (Value.bool true))] 2 ?_
  refine Ops.keep (R := [(0, v7), (4, (Value.slice none 0 0)), (7, (Value.slice (some ⟨b, 0, none⟩) n n)), (8, (i64 ((n : Nat) : Int))), (9, (i64 ((i + 1 : Nat) : Int)))]) (by kernel_rfl) ?_
  refine od ?_
  exact ⟨(v7, i + 1, ys ++ iv (l.getD i 0)), ⟨rfl, (OwnB.rd O11), (fun _ => O11), (by rw [ivs_take_succ l i (by omega), ← List.append_assoc, ← hE]), (by omega), K2, H3⟩, (show n - (i + 1) < n - i from by omega)⟩
 ·rw [h4]
  have p13 : ¬ (((i : Nat) : Int) < ((n : Nat) : Int)) := of_decide_eq_false h4
  refine q_exit (id := 0) (by kernel_rfl) ?_
  refine qs ?_
  refine qg ?_
  refine og 2 [(4, v)] 2 ?_
  refine od ?_
  refine q_ret (by kernel_rfl) ?_
  refine ⟨v, retv_tmp rfl rfl, ?_⟩
  have hin : i = n := by omega
  have hO1 := hO (by omega)
  rw [hE, show l.take i = l from by rw [hin, ← hln, List.take_length]] at hO1
  exact ⟨_, rfl, K2, hO1⟩
end Go.Proofs.Ytlnidnadpdpciaa
