/- numbers are written; sums -/
import Derived.Test.YtooginpgclcldaaGreatDoorProg
import Derived.Test.YtooginpgclcldaaGreatDoorLC
import Derived.Test.YtooginpgclcldaaGreatDoorLX
set_option linter.unusedVariables false
namespace Go.Proofs.YtooginpgclcldaaGreatDoor
open Go.Q Go.RowKit
theorem tyB : ElemTy Tryz.prog 22 5 1 1 := elemTy (by kernel_rfl)

theorem Clip_calls (w : World) (A : Option Addr) (n c : Nat) (hnc : n ≤ c)  : Calls Tryz.prog 70 ⟨[(Value.slice A n c)]⟩ w (fun e w' => e = .returned (.slice A n n) ∧ w = w') := by
 have K0 : Keeps none_ w w := Keeps.refl w
 refine q_calls Tryz.func70 (by kernel_rfl) (by kernel_rfl) ?_
 refine qs ?_
 refine qg ?_
 refine og 1 [(0, (Value.slice A n c)), (2, (Value.slice none 0 0))] 1 ?_
 refine od ?_
 refine qs ?_
 refine qg ?_
 refine og 5 [(2, (Value.slice none 0 0)), (3, (Value.slice A n c)), (5, (i64 ((n : Nat) : Int))), (7, (i64 ((n : Nat) : Int)))] 5 ?_
 have hcut := run_cut (sz := 1) (P := Tryz.prog) (w := w) (t := 22) (A := A) (n := n) (c := c) 0 n n (lo := none) (hi := some (i64 ((n : Nat) : Int))) (mx := some (i64 ((n : Nat) : Int))) tyB.slice (by kernel_rfl) (.inl ⟨rfl, rfl⟩) (.inr ⟨_, rfl⟩) (.inr ⟨_, rfl⟩) (by omega) (by omega) (by omega)
 have hA : (if n = 0 then A else Option.map (fun q => Addr.add q (0 * 1)) A) = A := by cases A <;> simp [Addr.add]
 rw [hA, Nat.sub_zero] at hcut
 refine Ops.go (v := (Value.slice A n n)) (by kernel_rfl) (Runs.slice (by kernel_rfl) hcut) (d := (some 8)) (by kernel_rfl) rfl ?_
 clear hcut hA
 refine og 1 [(2, (Value.slice A n n))] 7 ?_
 refine od ?_
 refine q_ret (by kernel_rfl) ?_
 refine ⟨(Value.slice A n n), retv_tmp rfl rfl, ?_⟩
 exact ⟨rfl, rfl⟩

theorem Uint_calls (w : World) (v : Value) (xs : List UInt8) (m0 : Nat) (hv : RdB w v xs) (hm0 : m0 < 18446744073709551616) (hl : xs.length ≤ 140737488351232) : Calls Tryz.prog 30 ⟨[v, (Value.int IntKind.u64 ((m0 : Nat) : Int))]⟩ w (fun e w' => ∃ v', e = .returned v' ∧ Keeps none_ w w' ∧ OwnB w' w.heap.size 5 v' (xs ++ uv m0)) := by
 obtain ⟨A, c, rfl⟩ := hv.form
 have hsl := hv.slice
 have K0 : Keeps none_ w w := Keeps.refl w
 refine q_calls Tryz.func30 (by kernel_rfl) (by kernel_rfl) ?_
 refine qs ?_
 refine qg ?_
 refine og 1 [(0, (Value.slice A xs.length c)), (1, (Value.int IntKind.u64 ((m0 : Nat) : Int))), (4, (Value.slice none 0 0))] 1 ?_
 refine od ?_
 refine qs ?_
 refine qg ?_
 refine og 1 [(0, (Value.slice A xs.length c)), (1, (Value.int IntKind.u64 ((m0 : Nat) : Int))), (4, (Value.slice none 0 0)), (5, (Value.slice A xs.length c))] 1 ?_
 refine Ops.call (by kernel_rfl) (d := (some 6)) (by kernel_rfl) (Clip_calls _ A xs.length c (by omega)) ?_
 rintro _ _ ⟨rfl, rfl⟩
 refine ⟨_, _, rfl, rfl, ?_⟩
 refine og 1 [(0, (Value.slice A xs.length xs.length)), (1, (Value.int IntKind.u64 ((m0 : Nat) : Int))), (4, (Value.slice none 0 0))] 3 ?_
 refine od ?_
 refine qs ?_
 refine q_block (id := 0) (by kernel_rfl) ?_
 refine q_keep (R := [(0, (Value.slice A xs.length xs.length)), (1, (Value.int IntKind.u64 ((m0 : Nat) : Int))), (4, (Value.slice none 0 0))]) (by kernel_rfl) ?_
 refine q_loop (fun (gs : Value × Nat × (List UInt8)) L (wx : World) => match gs with | (v, m, ys) => L = [(0, v), (1, (Value.int IntKind.u64 ((m : Nat) : Int))), (4, (Value.slice none 0 0))] ∧ Wr wx w.heap.size 5 v ys ∧ ys ++ uv m = xs ++ uv m0 ∧ m < 18446744073709551616 ∧ Keeps none_ w wx) (fun (gs : Value × Nat × (List UInt8)) => match gs with | (v, m, ys) => m) (.slice A xs.length xs.length, m0, xs) (by kernel_rfl) ⟨rfl, .inl ⟨A, rfl, hv.clip⟩, rfl, hm0, K0⟩ ?_
 clear K0
 rintro ⟨v, m, ys⟩ _ w1 ⟨rfl, hW, hE, hm, K2⟩
 have hlen := congrArg List.length hE
 simp only [List.length_append] at hlen
 have hu := uv_length_10 hm0
 have hp := uv_pos m
 refine qs ?_
 refine qs ?_
 refine qg ?_
 refine og 2 [(0, v), (1, (Value.int IntKind.u64 ((m : Nat) : Int))), (4, (Value.slice none 0 0)), (8, (Value.bool (decide (((m : Nat) : Int) > 127))))] 2 ?_
 refine od ?_
 refine q_cond (o := .tmp 8) (b := (decide (((m : Nat) : Int) > 127))) (by kernel_rfl) rfl (fun h3 => ?_) (fun h3 => ?_)
 ·rw [h3]
  have p4 : ((m : Nat) : Int) > 127 := of_decide_eq_true h3
  refine q_skip (by kernel_rfl) ?_
  refine qs ?_
  refine q_block (id := 1) (by kernel_rfl) ?_
  refine qg ?_
  refine og 3 [(0, v), (1, (Value.int IntKind.u64 ((m : Nat) : Int))), (4, (Value.slice none 0 0)), (8, (Value.bool true)), (11, v), (13, (Value.int IntKind.u8 (IntKind.u8.wrap ((m : Nat) : Int))))] 3 ?_
  have e5 : IntKind.u8.wrap ((m : Nat) : Int) = ((m % 256 : Nat) : Int) := u8_wrap m
  rw [e5]
  clear e5
  refine Ops.go (v := (Value.int IntKind.u8 (((m % 256) % 128 + 128 : Nat) : Int))) (by kernel_rfl) (Runs.int (op := .or) (t := 5) (by kernel_rfl) (run_or128 (by omega))) (d := (some 14)) (by kernel_rfl) rfl ?_
  refine Ops.new (o := rowL [(Value.int IntKind.u8 (((m % 256) % 128 + 128 : Nat) : Int))] 5) (V := fun b => (Value.slice (some ⟨b, 0, none⟩) 1 1)) (by kernel_rfl) (d := (some 15)) (by kernel_rfl) (fun b => rfl) (fun b6 w7 hb8 H9 K10 hs11 => ?_)
  have nb6 : w.heap.size ≤ b6 := by have := K2.size; omega
  replace K2 := K2.trans K10 (U := none_) (fun i h1 h2 => h2) (fun i h1 h2 => by exact h2)
  replace hW := hW.keep0 K10
  clear K10 hs11
  obtain ⟨v12, w13, hr14, hO15, K16⟩ := Wr.app (ty := 22) tyB hW (lit1 (by omega) H9) (by simp) (by (try simp only at *); (try simp only [List.length_append] at *); (try simp only [List.length_cons] at *); (try simp only [List.length_nil] at *); omega) K2.size
  refine Ops.go (v := v12) (by kernel_rfl) (Runs.append (ts := #[22, 22]) (ty := 22) (vs := [v, (Value.slice (some ⟨b6, 0, none⟩) 1 1)]) (by kernel_rfl) hr14) (d := (some 16)) (by kernel_rfl) rfl ?_
  have K17 := Keeps.own2 K2 K16
  clear H9 hW K2 hr14 K16
  refine og 1 [(0, v12), (1, (Value.int IntKind.u64 ((m : Nat) : Int))), (4, (Value.slice none 0 0)), (8, (Value.bool true))] 7 ?_
  refine od ?_
  refine qg ?_
  refine og 2 [(0, v12), (1, (Value.int IntKind.u64 ((m : Nat) : Int))), (4, (Value.slice none 0 0)), (8, (Value.bool true)), (10, (Value.int IntKind.u64 ((((m : Nat) : Int)).fdiv 128)))] 2 ?_
  have e18 : (((m : Nat) : Int)).fdiv 128 = ((m / 128 : Nat) : Int) := fdiv_nat m 128
  rw [e18]
  clear e18
  refine og 1 [(0, v12), (1, (Value.int IntKind.u64 ((m / 128 : Nat) : Int))), (4, (Value.slice none 0 0)), (8, (Value.bool true))] 3 ?_
  refine Ops.keep (R := [(0, v12), (1, (Value.int IntKind.u64 ((m / 128 : Nat) : Int))), (4, (Value.slice none 0 0))]) (by kernel_rfl) ?_
  refine od ?_
  exact ⟨(v12, m / 128, ys ++ [byte (m % 256 % 128 + 128)]), ⟨rfl, .inr hO15, (by rw [← hE, uv_ge (n := m) (by omega)]; rw [show byte (m % 256 % 128 + 128) = byte (m % 128 + 128) from (by rw [Nat.mod_mod_of_dvd m (by decide)])]; simp), (by omega), K17⟩, (show (m / 128) < m from by omega)⟩
 ·rw [h3]
  have p19 : ¬ (((m : Nat) : Int) > 127) := of_decide_eq_false h3
  refine q_exit (id := 0) (by kernel_rfl) ?_
  refine qs ?_
  refine qg ?_
  refine og 3 [(4, (Value.slice none 0 0)), (17, v), (19, (Value.int IntKind.u8 (IntKind.u8.wrap ((m : Nat) : Int))))] 3 ?_
  have e20 : IntKind.u8.wrap ((m : Nat) : Int) = ((m % 256 : Nat) : Int) := u8_wrap m
  rw [e20]
  clear e20
  refine Ops.new (o := rowL [(Value.int IntKind.u8 ((m % 256 : Nat) : Int))] 5) (V := fun b => (Value.slice (some ⟨b, 0, none⟩) 1 1)) (by kernel_rfl) (d := (some 20)) (by kernel_rfl) (fun b => rfl) (fun b21 w22 hb23 H24 K25 hs26 => ?_)
  have nb21 : w.heap.size ≤ b21 := by have := K2.size; omega
  replace K2 := K2.trans K25 (U := none_) (fun i h1 h2 => h2) (fun i h1 h2 => by exact h2)
  replace hW := hW.keep0 K25
  clear K25 hs26
  obtain ⟨v27, w28, hr29, hO30, K31⟩ := Wr.app (ty := 22) tyB hW (lit1 (by omega) H24) (by simp) (by (try simp only at *); (try simp only [List.length_append] at *); (try simp only [List.length_cons] at *); (try simp only [List.length_nil] at *); omega) K2.size
  refine Ops.go (v := v27) (by kernel_rfl) (Runs.append (ts := #[22, 22]) (ty := 22) (vs := [v, (Value.slice (some ⟨b21, 0, none⟩) 1 1)]) (by kernel_rfl) hr29) (d := (some 21)) (by kernel_rfl) rfl ?_
  have K32 := Keeps.own2 K2 K31
  clear H24 hW K2 hr29 K31
  refine og 1 [(4, v27)] 6 ?_
  refine od ?_
  refine q_ret (by kernel_rfl) ?_
  refine ⟨v27, retv_tmp rfl rfl, ?_⟩
  refine ⟨_, rfl, K32, ?_⟩
  have hfin : ys ++ [byte (m % 256)] = xs ++ uv m0 := by rw [← hE, uv_lt (by omega)]; rw [show m % 256 = m from (by omega)]
  rw [hfin] at hO30
  exact hO30

theorem RUint_calls (w : World) (v : Value) (xs : List UInt8) (m0 : Nat) (hv : RdB w v xs) (hm0 : m0 < 18446744073709551616) (hl : xs.length ≤ 140737488351232) : Calls Tryz.prog 93 ⟨[v, (Value.int IntKind.u64 ((m0 : Nat) : Int))]⟩ w (fun e w' => ∃ v', e = .returned v' ∧ Keeps none_ w w' ∧ OwnB w' w.heap.size 5 v' (xs ++ uv m0)) := by
 have hnil : OwnB w w.heap.size 5 (.slice none 0 0) [] := World.ownsRow_nil _ _ _ _
 have K0 : Keeps none_ w w := Keeps.refl w
 refine q_calls Tryz.func93 (by kernel_rfl) (by kernel_rfl) ?_
 refine qs ?_
 refine qg ?_
 refine og 1 [(0, v), (1, (Value.int IntKind.u64 ((m0 : Nat) : Int))), (4, (Value.slice none 0 0))] 1 ?_
 refine od ?_
 refine qs ?_
 refine qg ?_
 refine og 1 [(0, v), (1, (Value.int IntKind.u64 ((m0 : Nat) : Int))), (4, (Value.slice none 0 0)), (5, (Value.slice none 0 0))] 1 ?_
 refine od ?_
 refine qs ?_
 refine qg ?_
 refine og 2 [(1, (Value.int IntKind.u64 ((m0 : Nat) : Int))), (4, (Value.slice none 0 0)), (5, (Value.slice none 0 0)), (6, (Value.slice none 0 0)), (7, v)] 2 ?_
 obtain ⟨v1, w2, hr3, hO4, K5⟩ := OwnB.app (ty := 22) tyB hnil (hv.keep0 (by omega) K0) (by (try simp only at *); (try simp only [List.length_append] at *); (try simp only [List.length_cons] at *); (try simp only [List.length_nil] at *); omega) K0.size
 refine Ops.go (v := v1) (by kernel_rfl) (Runs.append (ts := #[22, 22]) (ty := 22) (vs := [(Value.slice none 0 0), v]) (by kernel_rfl) hr3) (d := (some 8)) (by kernel_rfl) rfl ?_
 have K6 := Keeps.own2 K0 K5
 clear hnil K0 hr3 K5
 refine og 1 [(1, (Value.int IntKind.u64 ((m0 : Nat) : Int))), (4, (Value.slice none 0 0)), (5, v1)] 4 ?_
 refine od ?_
 refine qs ?_
 refine q_block (id := 0) (by kernel_rfl) ?_
 refine q_keep (R := [(1, (Value.int IntKind.u64 ((m0 : Nat) : Int))), (4, (Value.slice none 0 0)), (5, v1)]) (by kernel_rfl) ?_
 refine q_loop (fun (gs : Value × Nat × (List UInt8)) L (wx : World) => match gs with | (v, m, ys) => L = [(1, (Value.int IntKind.u64 ((m : Nat) : Int))), (4, (Value.slice none 0 0)), (5, v)] ∧ OwnB wx w.heap.size 5 v ys ∧ ys ++ uv m = xs ++ uv m0 ∧ m < 18446744073709551616 ∧ Keeps none_ w wx) (fun (gs : Value × Nat × (List UInt8)) => match gs with | (v, m, ys) => m) (v1, m0, xs) (by kernel_rfl) ⟨rfl, hO4, rfl, hm0, K6⟩ ?_
 clear hO4 K6
 rintro ⟨v, m, ys⟩ _ w7 ⟨rfl, hW, hE, hm, K8⟩
 have hlen := congrArg List.length hE
 simp only [List.length_append] at hlen
 have hu := uv_length_10 hm0
 have hp := uv_pos m
 refine qs ?_
 refine qs ?_
 refine qg ?_
 refine og 2 [(1, (Value.int IntKind.u64 ((m : Nat) : Int))), (4, (Value.slice none 0 0)), (5, v), (10, (Value.bool (decide (((m : Nat) : Int) ≥ 128))))] 2 ?_
 refine od ?_
 refine q_cond (o := .tmp 10) (b := (decide (((m : Nat) : Int) ≥ 128))) (by kernel_rfl) rfl (fun h9 => ?_) (fun h9 => ?_)
 ·rw [h9]
  have p10 : ((m : Nat) : Int) ≥ 128 := of_decide_eq_true h9
  refine q_skip (by kernel_rfl) ?_
  refine q_block (id := 1) (by kernel_rfl) ?_
  refine qs ?_
  refine qg ?_
  refine og 3 [(1, (Value.int IntKind.u64 ((m : Nat) : Int))), (4, (Value.slice none 0 0)), (5, v), (10, (Value.bool true)), (11, v), (13, (Value.int IntKind.u64 ((((m : Nat) : Int)).tmod 128)))] 3 ?_
  have e11 : (((m : Nat) : Int)).tmod 128 = ((m % 128 : Nat) : Int) := tmod_nat m 128
  rw [e11]
  clear e11
  refine og 1 [(1, (Value.int IntKind.u64 ((m : Nat) : Int))), (4, (Value.slice none 0 0)), (5, v), (10, (Value.bool true)), (11, v), (14, (Value.int IntKind.u8 (IntKind.u8.wrap ((m % 128 : Nat) : Int))))] 4 ?_
  have e12 : IntKind.u8.wrap ((m % 128 : Nat) : Int) = ((m % 128 : Nat) : Int) := wrap_u8 (by omega) (by omega)
  rw [e12]
  clear e12
  refine og 1 [(1, (Value.int IntKind.u64 ((m : Nat) : Int))), (4, (Value.slice none 0 0)), (5, v), (10, (Value.bool true)), (11, v), (15, (Value.int IntKind.u8 (IntKind.u8.wrap (((m % 128 : Nat) : Int) + 128))))] 5 ?_
  have e13 : IntKind.u8.wrap (((m % 128 : Nat) : Int) + 128) = (((m % 128) + 128 : Nat) : Int) := by rw [wrap_u8 (by omega) (by omega)]; omega
  rw [e13]
  clear e13
  refine Ops.new (o := rowL [(Value.int IntKind.u8 (((m % 128) + 128 : Nat) : Int))] 5) (V := fun b => (Value.slice (some ⟨b, 0, none⟩) 1 1)) (by kernel_rfl) (d := (some 16)) (by kernel_rfl) (fun b => rfl) (fun b14 w15 hb16 H17 K18 hs19 => ?_)
  have nb14 : w.heap.size ≤ b14 := by have := K8.size; omega
  have ob20 : ∀ i, (v).ownBlock = some i → i < b14 := fun i hi => by have := (World.ownsRow.lt hW i hi).2; omega
  replace K8 := K8.trans K18 (U := none_) (fun i h1 h2 => h2) (fun i h1 h2 => by exact h2)
  replace hW := own_keep0 hW K18
  clear K18 hs19
  obtain ⟨v21, w22, hr23, hO24, K25⟩ := OwnB.app (ty := 22) tyB hW (lit1 (by omega) H17) (by (try simp only at *); (try simp only [List.length_append] at *); (try simp only [List.length_cons] at *); (try simp only [List.length_nil] at *); omega) K8.size
  refine Ops.go (v := v21) (by kernel_rfl) (Runs.append (ts := #[22, 22]) (ty := 22) (vs := [v, (Value.slice (some ⟨b14, 0, none⟩) 1 1)]) (by kernel_rfl) hr23) (d := (some 17)) (by kernel_rfl) rfl ?_
  have K26 := Keeps.own2 K8 K25
  clear H17 hW K8 hr23 K25
  refine og 1 [(1, (Value.int IntKind.u64 ((m : Nat) : Int))), (4, (Value.slice none 0 0)), (5, v21), (10, (Value.bool true))] 8 ?_
  refine od ?_
  refine qg ?_
  refine og 2 [(1, (Value.int IntKind.u64 ((m : Nat) : Int))), (4, (Value.slice none 0 0)), (5, v21), (10, (Value.bool true)), (19, (Value.int IntKind.u64 (IntKind.u64.wrap ((((m : Nat) : Int)).tdiv 128))))] 2 ?_
  have e27 : IntKind.u64.wrap ((((m : Nat) : Int)).tdiv 128) = ((m / 128 : Nat) : Int) := (congrArg (IntKind.u64.wrap ·) (tdiv_nat m 128)).trans (wrap_u64 (by omega) (by omega))
  rw [e27]
  clear e27
  refine og 1 [(1, (Value.int IntKind.u64 ((m / 128 : Nat) : Int))), (4, (Value.slice none 0 0)), (5, v21), (10, (Value.bool true))] 3 ?_
  refine Ops.keep (R := [(1, (Value.int IntKind.u64 ((m / 128 : Nat) : Int))), (4, (Value.slice none 0 0)), (5, v21)]) (by kernel_rfl) ?_
  refine od ?_
  exact ⟨(v21, m / 128, ys ++ [byte (m % 128 + 128)]), ⟨rfl, hO24, (by rw [← hE, uv_ge (n := m) (by omega)]; simp), (by omega), K26⟩, (show (m / 128) < m from by omega)⟩
 ·rw [h9]
  have p28 : ¬ (((m : Nat) : Int) ≥ 128) := of_decide_eq_false h9
  refine q_exit (id := 0) (by kernel_rfl) ?_
  refine qs ?_
  refine qg ?_
  refine og 3 [(4, (Value.slice none 0 0)), (5, v), (20, v), (22, (Value.int IntKind.u8 (IntKind.u8.wrap ((m : Nat) : Int))))] 3 ?_
  have e29 : IntKind.u8.wrap ((m : Nat) : Int) = ((m % 256 : Nat) : Int) := u8_wrap m
  rw [e29]
  clear e29
  refine Ops.new (o := rowL [(Value.int IntKind.u8 ((m % 256 : Nat) : Int))] 5) (V := fun b => (Value.slice (some ⟨b, 0, none⟩) 1 1)) (by kernel_rfl) (d := (some 23)) (by kernel_rfl) (fun b => rfl) (fun b30 w31 hb32 H33 K34 hs35 => ?_)
  have nb30 : w.heap.size ≤ b30 := by have := K8.size; omega
  have ob36 : ∀ i, (v).ownBlock = some i → i < b30 := fun i hi => by have := (World.ownsRow.lt hW i hi).2; omega
  replace K8 := K8.trans K34 (U := none_) (fun i h1 h2 => h2) (fun i h1 h2 => by exact h2)
  replace hW := own_keep0 hW K34
  clear K34 hs35
  obtain ⟨v37, w38, hr39, hO40, K41⟩ := OwnB.app (ty := 22) tyB hW (lit1 (by omega) H33) (by (try simp only at *); (try simp only [List.length_append] at *); (try simp only [List.length_cons] at *); (try simp only [List.length_nil] at *); omega) K8.size
  refine Ops.go (v := v37) (by kernel_rfl) (Runs.append (ts := #[22, 22]) (ty := 22) (vs := [v, (Value.slice (some ⟨b30, 0, none⟩) 1 1)]) (by kernel_rfl) hr39) (d := (some 24)) (by kernel_rfl) rfl ?_
  have K42 := Keeps.own2 K8 K41
  clear H33 hW K8 hr39 K41
  refine og 1 [(4, (Value.slice none 0 0)), (5, v37)] 6 ?_
  refine od ?_
  refine qs ?_
  refine qg ?_
  refine og 2 [(4, v37)] 2 ?_
  refine od ?_
  refine q_ret (by kernel_rfl) ?_
  refine ⟨v37, retv_tmp rfl rfl, ?_⟩
  refine ⟨_, rfl, K42, ?_⟩
  have hfin : ys ++ [byte (m % 256)] = xs ++ uv m0 := by rw [← hE, uv_lt (by omega)]; rw [show m % 256 = m from (by omega)]
  rw [hfin] at hO40
  exact hO40

theorem Int_calls (w : World) (v : Value) (xs : List UInt8) (n : Int) (hv : RdB w v xs) (hn : -9223372036854775808 ≤ n ∧ n ≤ 9223372036854775807) (hl : xs.length ≤ 140737488351232) : Calls Tryz.prog 33 ⟨[v, (i64 n)]⟩ w (fun e w' => ∃ v', e = .returned v' ∧ Keeps none_ w w' ∧ OwnB w' w.heap.size 5 v' (xs ++ iv n)) := by
 have hz := zz_lt hn
 have hz1 := zz_neg n
 have hz2 := zz_pos n
 have K0 : Keeps none_ w w := Keeps.refl w
 refine q_calls Tryz.func33 (by kernel_rfl) (by kernel_rfl) ?_
 refine qs ?_
 refine qg ?_
 refine og 1 [(0, v), (1, (i64 n)), (4, (Value.slice none 0 0))] 1 ?_
 refine od ?_
 refine qs ?_
 refine qg ?_
 refine og 7 [(4, (Value.slice none 0 0)), (5, v), (8, (Value.int IntKind.u64 (IntKind.u64.wrap ((IntKind.u64.wrap n) * 2)))), (11, (Value.int IntKind.u64 (IntKind.u64.wrap ((n).fdiv 9223372036854775808))))] 7 ?_
 refine Ops.go (v := (Value.int IntKind.u64 ((zz n : Nat) : Int))) (by kernel_rfl) (Runs.int (op := .xor) (t := 63) (by kernel_rfl) (run_zigzag hn)) (d := (some 12)) (by kernel_rfl) rfl ?_
 refine Ops.call (by kernel_rfl) (d := (some 13)) (by kernel_rfl) (Uint_calls _ v xs (zz n) (hv.keep0 (by omega) K0) (by omega) (by (try simp only at *); (try simp only [List.length_append] at *); (try simp only [List.length_cons] at *); (try simp only [List.length_nil] at *); omega)) ?_
 rintro _ w3 ⟨v2, rfl, K4, hO5⟩
 have O6 := own_base hO5 K0.size
 clear hO5
 have hL1 := uv_length_10 (n := zz n) (by omega)
 refine ⟨_, _, rfl, rfl, ?_⟩
 replace K0 := K0.t0 K4
 clear K4
 refine og 1 [(4, v2)] 10 ?_
 refine od ?_
 refine q_ret (by kernel_rfl) ?_
 refine ⟨v2, retv_tmp rfl rfl, ?_⟩
 exact ⟨_, rfl, K0, O6⟩

theorem RInt_calls (w : World) (v : Value) (xs : List UInt8) (n : Int) (hv : RdB w v xs) (hn : -9223372036854775808 ≤ n ∧ n ≤ 9223372036854775807) (hl : xs.length ≤ 140737488351232) : Calls Tryz.prog 95 ⟨[v, (i64 n)]⟩ w (fun e w' => ∃ v', e = .returned v' ∧ Keeps none_ w w' ∧ OwnB w' w.heap.size 5 v' (xs ++ iv n)) := by
 have hz := zz_lt hn
 have hz1 := zz_neg n
 have hz2 := zz_pos n
 have K0 : Keeps none_ w w := Keeps.refl w
 refine q_calls Tryz.func95 (by kernel_rfl) (by kernel_rfl) ?_
 refine qs ?_
 refine qg ?_
 refine og 1 [(0, v), (1, (i64 n)), (4, (Value.slice none 0 0))] 1 ?_
 refine od ?_
 refine qs ?_
 refine qs ?_
 refine qg ?_
 refine og 2 [(0, v), (1, (i64 n)), (4, (Value.slice none 0 0)), (6, (Value.bool (decide (n < 0))))] 2 ?_
 refine od ?_
 refine q_cond (o := .tmp 6) (b := (decide (n < 0))) (by kernel_rfl) rfl (fun h1 => ?_) (fun h1 => ?_)
 ·rw [h1]
  have p2 : n < 0 := of_decide_eq_true h1
  refine qs ?_
  refine qg ?_
  refine og 3 [(0, v), (1, (i64 n)), (4, (Value.slice none 0 0)), (7, v), (9, (i64 (IntKind.i64.wrap (n + 1))))] 3 ?_
  have e3 : IntKind.i64.wrap (n + 1) = n + 1 := wrap_i64 (by omega) (by omega)
  rw [e3]
  refine og 1 [(0, v), (1, (i64 n)), (4, (Value.slice none 0 0)), (7, v), (10, (i64 (IntKind.i64.wrap (0 - (n + 1)))))] 4 ?_
  have e4 : IntKind.i64.wrap (0 - (n + 1)) = 0 - (n + 1) := wrap_i64 (by omega) (by omega)
  rw [e4]
  refine og 1 [(0, v), (1, (i64 n)), (4, (Value.slice none 0 0)), (7, v), (11, (Value.int IntKind.u64 (IntKind.u64.wrap (0 - (n + 1)))))] 5 ?_
  have e5 : IntKind.u64.wrap (0 - (n + 1)) = 0 - (n + 1) := wrap_u64 (by omega) (by omega)
  rw [e5]
  refine og 1 [(0, v), (1, (i64 n)), (4, (Value.slice none 0 0)), (7, v), (12, (Value.int IntKind.u64 (IntKind.u64.wrap (2 * (0 - (n + 1))))))] 6 ?_
  have e6 : IntKind.u64.wrap (2 * (0 - (n + 1))) = 2 * (0 - (n + 1)) := wrap_u64 (by omega) (by omega)
  rw [e6]
  refine og 1 [(0, v), (1, (i64 n)), (4, (Value.slice none 0 0)), (7, v), (13, (Value.int IntKind.u64 (IntKind.u64.wrap ((2 * (0 - (n + 1))) + 1))))] 7 ?_
  have e7 : IntKind.u64.wrap ((2 * (0 - (n + 1))) + 1) = ((zz n : Nat) : Int) := by rw [wrap_u64 (by omega) (by omega)]; omega
  rw [e7]
  refine Ops.call (by kernel_rfl) (d := (some 14)) (by kernel_rfl) (RUint_calls _ v xs (zz n) (hv.keep0 (by omega) K0) (by omega) (by (try simp only at *); (try simp only [List.length_append] at *); (try simp only [List.length_cons] at *); (try simp only [List.length_nil] at *); omega)) ?_
  rintro _ w10 ⟨v9, rfl, K11, hO12⟩
  have O13 := own_base hO12 K0.size
  clear hO12
  have hL8 := uv_length_10 (n := zz n) (by omega)
  refine ⟨_, _, rfl, rfl, ?_⟩
  replace K0 := K0.t0 K11
  clear K11
  refine og 1 [(0, v), (1, (i64 n)), (4, v9)] 9 ?_
  refine od ?_
  refine q_ret (by kernel_rfl) ?_
  refine ⟨v9, retv_tmp rfl rfl, ?_⟩
  exact ⟨_, rfl, K0, O13⟩
 ·rw [h1]
  have p14 : ¬ (n < 0) := of_decide_eq_false h1
  refine q_skip (by kernel_rfl) ?_
  refine qs ?_
  refine qg ?_
  refine og 3 [(4, (Value.slice none 0 0)), (15, v), (17, (Value.int IntKind.u64 (IntKind.u64.wrap (n))))] 3 ?_
  have e15 : IntKind.u64.wrap (n) = n := wrap_u64 (by omega) (by omega)
  rw [e15]
  refine og 1 [(4, (Value.slice none 0 0)), (15, v), (18, (Value.int IntKind.u64 (IntKind.u64.wrap (2 * n))))] 4 ?_
  have e16 : IntKind.u64.wrap (2 * n) = ((zz n : Nat) : Int) := by rw [wrap_u64 (by omega) (by omega)]; omega
  rw [e16]
  refine Ops.call (by kernel_rfl) (d := (some 19)) (by kernel_rfl) (RUint_calls _ v xs (zz n) (hv.keep0 (by omega) K0) (by omega) (by (try simp only at *); (try simp only [List.length_append] at *); (try simp only [List.length_cons] at *); (try simp only [List.length_nil] at *); omega)) ?_
  rintro _ w19 ⟨v18, rfl, K20, hO21⟩
  have O22 := own_base hO21 K0.size
  clear hO21
  have hL17 := uv_length_10 (n := zz n) (by omega)
  refine ⟨_, _, rfl, rfl, ?_⟩
  replace K0 := K0.t0 K20
  clear K20
  refine og 1 [(4, v18)] 6 ?_
  refine od ?_
  refine q_ret (by kernel_rfl) ?_
  refine ⟨v18, retv_tmp rfl rfl, ?_⟩
  exact ⟨_, rfl, K0, O22⟩

theorem shifted_calls (w : World) (r : Nat) (hr : r < 4294967296) : Calls Tryz.prog 125 ⟨[(Value.int IntKind.u32 ((r : Nat) : Int))]⟩ w (fun e w' => e = .returned (.int .u32 ((shiftB r : Nat) : Int)) ∧ w = w') := by
 refine q_calls Tryz.func125 (by kernel_rfl) (by kernel_rfl) ?_
 refine qs ?_
 refine qg ?_
 refine og 1 [(0, (Value.int IntKind.u32 ((r : Nat) : Int))), (2, (Value.int IntKind.u32 0))] 1 ?_
 refine od ?_
 refine qs ?_
 refine qg ?_
 refine og 2 [(0, (Value.int IntKind.u32 ((r : Nat) : Int))), (2, (Value.int IntKind.u32 0)), (4, (Value.int IntKind.u32 ((((r : Nat) : Int)).fdiv 2)))] 2 ?_
 have e1 : (((r : Nat) : Int)).fdiv 2 = ((r / 2 : Nat) : Int) := fdiv_nat r 2
 rw [e1]
 clear e1
 refine og 1 [(2, (Value.int IntKind.u32 0)), (4, (Value.int IntKind.u32 ((r / 2 : Nat) : Int))), (5, (Value.int IntKind.u32 ((r : Nat) : Int)))] 3 ?_
 have hb2 : r &&& 1 < 4294967296 := and32_lt (by omega)
 refine Ops.go (v := (Value.int IntKind.u32 ((r &&& 1 : Nat) : Int))) (by kernel_rfl) (Runs.int (op := .and) (t := 114) (by kernel_rfl) (run_and32 (a := r) (b := 1) (by omega) (by omega))) (d := (some 6)) (by kernel_rfl) rfl ?_
 have hb3 := neg32_lt (r &&& 1)
 refine Ops.go (v := (Value.int IntKind.u32 ((neg32 (r &&& 1) : Nat) : Int))) (by kernel_rfl) (Runs.un (op := .neg) (by kernel_rfl) (run_neg32 (a := (r &&& 1)) (by omega))) (d := (some 7)) (by kernel_rfl) rfl ?_
 have hb4 : 2197175160 &&& (neg32 (r &&& 1)) < 4294967296 := and32_lt (by omega)
 refine Ops.go (v := (Value.int IntKind.u32 ((2197175160 &&& (neg32 (r &&& 1)) : Nat) : Int))) (by kernel_rfl) (Runs.int (op := .and) (t := 114) (by kernel_rfl) (run_and32 (a := 2197175160) (b := (neg32 (r &&& 1))) (by omega) (by omega))) (d := (some 8)) (by kernel_rfl) rfl ?_
 have hb5 : (r / 2) ^^^ (2197175160 &&& (neg32 (r &&& 1))) < 4294967296 := xor32_lt (by omega) (by omega)
 refine Ops.go (v := (Value.int IntKind.u32 (((r / 2) ^^^ (2197175160 &&& (neg32 (r &&& 1))) : Nat) : Int))) (by kernel_rfl) (Runs.int (op := .xor) (t := 114) (by kernel_rfl) (run_xor32 (a := (r / 2)) (b := (2197175160 &&& (neg32 (r &&& 1)))) (by omega) (by omega))) (d := (some 9)) (by kernel_rfl) rfl ?_
 refine og 1 [(2, (Value.int IntKind.u32 (((r / 2) ^^^ (2197175160 &&& (neg32 (r &&& 1))) : Nat) : Int)))] 8 ?_
 refine od ?_
 refine q_ret (by kernel_rfl) ?_
 refine ⟨(Value.int IntKind.u32 (((r / 2) ^^^ (2197175160 &&& (neg32 (r &&& 1))) : Nat) : Int)), retv_tmp rfl rfl, ?_⟩
 exact ⟨rfl, rfl⟩

theorem More_calls (w : World) (A : Option Addr) (c s : Nat) (bs : List UInt8) (hs : s < 4294967296) (hv : RdB w (.slice A bs.length c) bs) (hl : bs.length ≤ 140737488351232) : Calls Tryz.prog 107 ⟨[(Value.int IntKind.u32 ((s : Nat) : Int)), (Value.slice A bs.length c)]⟩ w (fun e w' => e = .returned (.int .u32 ((crcMore s bs : Nat) : Int)) ∧ Keeps none_ w w') := by
 have K0 : Keeps none_ w w := Keeps.refl w
 refine q_calls Tryz.func107 (by kernel_rfl) (by kernel_rfl) ?_
 refine qs ?_
 refine qg ?_
 refine og 1 [(0, (Value.int IntKind.u32 ((s : Nat) : Int))), (1, (Value.slice A bs.length c)), (4, (Value.int IntKind.u32 0))] 1 ?_
 refine od ?_
 refine qs ?_
 refine qg ?_
 refine og 1 [(1, (Value.slice A bs.length c)), (4, (Value.int IntKind.u32 0)), (8, (Value.int IntKind.u32 ((s : Nat) : Int)))] 1 ?_
 have hb1 : 4294967295 ^^^ s < 4294967296 := xor32_lt (by omega) (by omega)
 refine Ops.go (v := (Value.int IntKind.u32 ((4294967295 ^^^ s : Nat) : Int))) (by kernel_rfl) (Runs.un (op := .xor) (by kernel_rfl) (run_not32 (a := s) (by omega))) (d := (some 9)) (by kernel_rfl) rfl ?_
 refine og 1 [(1, (Value.slice A bs.length c)), (4, (Value.int IntKind.u32 0)), (5, (Value.int IntKind.u32 ((4294967295 ^^^ s : Nat) : Int)))] 3 ?_
 refine od ?_
 refine qs ?_
 refine qs ?_
 refine qg ?_
 refine og 3 [(4, (Value.int IntKind.u32 0)), (5, (Value.int IntKind.u32 ((4294967295 ^^^ s : Nat) : Int))), (10, (Value.slice A bs.length c)), (11, (i64 ((bs.length : Nat) : Int))), (12, (i64 0))] 3 ?_
 refine od ?_
 refine q_block (id := 0) (by kernel_rfl) ?_
 refine q_keep (R := [(4, (Value.int IntKind.u32 0)), (5, (Value.int IntKind.u32 ((4294967295 ^^^ s : Nat) : Int))), (10, (Value.slice A bs.length c)), (11, (i64 ((bs.length : Nat) : Int))), (12, (i64 0))]) (by kernel_rfl) ?_
 refine q_loop (fun (gs : Nat × Nat) L (wx : World) => match gs with | (i, r) => L = [(4, (Value.int IntKind.u32 0)), (5, (Value.int IntKind.u32 ((r : Nat) : Int))), (10, (Value.slice A bs.length c)), (11, (i64 ((bs.length : Nat) : Int))), (12, (i64 ((i : Nat) : Int)))] ∧ r = (bs.take i).foldl crcByte (4294967295 ^^^ s) ∧ r < 4294967296 ∧ i ≤ bs.length ∧ Keeps none_ w wx) (fun (gs : Nat × Nat) => match gs with | (i, r) => bs.length - i) (0, 4294967295 ^^^ s) (by kernel_rfl) ⟨rfl, rfl, (xor32_lt (by omega) hs), (by omega), K0⟩ ?_
 clear K0
 rintro ⟨i, r⟩ _ w2 ⟨rfl, hE, hr, hil, K3⟩
 refine qs ?_
 refine qg ?_
 refine og 1 [(4, (Value.int IntKind.u32 0)), (5, (Value.int IntKind.u32 ((r : Nat) : Int))), (10, (Value.slice A bs.length c)), (11, (i64 ((bs.length : Nat) : Int))), (12, (i64 ((i : Nat) : Int))), (13, (Value.bool (decide (((i : Nat) : Int) < ((bs.length : Nat) : Int)))))] 1 ?_
 refine od ?_
 refine qs ?_
 refine q_cond (o := .tmp 13) (b := (decide (((i : Nat) : Int) < ((bs.length : Nat) : Int)))) (by kernel_rfl) rfl (fun h4 => ?_) (fun h4 => ?_)
 ·rw [h4]
  have p5 : ((i : Nat) : Int) < ((bs.length : Nat) : Int) := of_decide_eq_true h4
  obtain ⟨x, lb, lo, hx, hA, hLd⟩ := RdB.at (P := Tryz.prog) (t := 5) hv (k := i) (by kernel_rfl) (by omega)
  have hx256 : x.toNat < 256 := x.toNat_lt
  refine q_skip (by kernel_rfl) ?_
  refine qs ?_
  refine q_block (id := 1) (by kernel_rfl) ?_
  refine qs ?_
  refine qg ?_
  refine Ops.go (by kernel_rfl) (Runs.ixSliceE (k := IntKind.i64) (t := 22) (len := bs.length) (cap := c) (s := 1) (off' := lo + i) (i := ((i : Nat) : Int)) hA (by kernel_rfl) (by kernel_rfl) (by omega) (by omega) (by omega)) (d := (some 14)) (by kernel_rfl) rfl ?_
  refine Ops.go (v := (Value.int IntKind.u8 ((x.toNat : Nat) : Int))) (by kernel_rfl) (Runs.load (t := 5) (a := ⟨lb, lo + i, none⟩) (by kernel_rfl) (hLd _ _ K3 (fun h => h))) (d := (some 15)) (by kernel_rfl) rfl ?_
  refine og 1 [(4, (Value.int IntKind.u32 0)), (5, (Value.int IntKind.u32 ((r : Nat) : Int))), (7, (Value.int IntKind.u8 ((x.toNat : Nat) : Int))), (10, (Value.slice A bs.length c)), (11, (i64 ((bs.length : Nat) : Int))), (12, (i64 ((i : Nat) : Int))), (13, (Value.bool true))] 3 ?_
  refine od ?_
  refine qs ?_
  refine qg ?_
  refine og 3 [(4, (Value.int IntKind.u32 0)), (5, (Value.int IntKind.u32 ((r : Nat) : Int))), (7, (Value.int IntKind.u8 ((x.toNat : Nat) : Int))), (10, (Value.slice A bs.length c)), (11, (i64 ((bs.length : Nat) : Int))), (12, (i64 ((i : Nat) : Int))), (13, (Value.bool true)), (16, (Value.int IntKind.u32 ((r : Nat) : Int))), (18, (Value.int IntKind.u32 (IntKind.u32.wrap (((x.toNat : Nat) : Int)))))] 3 ?_
  have e6 : IntKind.u32.wrap (((x.toNat : Nat) : Int)) = ((x.toNat : Nat) : Int) := wrap_u32 (by omega) (by omega)
  rw [e6]
  have hb7 : r ^^^ x.toNat < 4294967296 := xor32_lt (by omega) (by omega)
  refine Ops.go (v := (Value.int IntKind.u32 ((r ^^^ x.toNat : Nat) : Int))) (by kernel_rfl) (Runs.int (op := .xor) (t := 114) (by kernel_rfl) (run_xor32 (a := r) (b := x.toNat) (by omega) (by omega))) (d := (some 19)) (by kernel_rfl) rfl ?_
  refine og 1 [(4, (Value.int IntKind.u32 0)), (5, (Value.int IntKind.u32 ((r ^^^ x.toNat : Nat) : Int))), (7, (Value.int IntKind.u8 ((x.toNat : Nat) : Int))), (10, (Value.slice A bs.length c)), (11, (i64 ((bs.length : Nat) : Int))), (12, (i64 ((i : Nat) : Int))), (13, (Value.bool true))] 5 ?_
  refine od ?_
  refine qs ?_
  refine qg ?_
  refine og 1 [(4, (Value.int IntKind.u32 0)), (5, (Value.int IntKind.u32 ((r ^^^ x.toNat : Nat) : Int))), (7, (Value.int IntKind.u8 ((x.toNat : Nat) : Int))), (10, (Value.slice A bs.length c)), (11, (i64 ((bs.length : Nat) : Int))), (12, (i64 ((i : Nat) : Int))), (13, (Value.bool true)), (20, (i64 0))] 1 ?_
  refine od ?_
  refine q_block (id := 2) (by kernel_rfl) ?_
  refine q_keep (R := [(4, (Value.int IntKind.u32 0)), (5, (Value.int IntKind.u32 ((r ^^^ x.toNat : Nat) : Int))), (7, (Value.int IntKind.u8 ((x.toNat : Nat) : Int))), (10, (Value.slice A bs.length c)), (11, (i64 ((bs.length : Nat) : Int))), (12, (i64 ((i : Nat) : Int))), (13, (Value.bool true)), (20, (i64 0))]) (by kernel_rfl) ?_
  refine q_loop (fun (gs : Nat × Nat) L (wx : World) => match gs with | (k, q) => L = [(4, (Value.int IntKind.u32 0)), (5, (Value.int IntKind.u32 ((q : Nat) : Int))), (7, (Value.int IntKind.u8 ((x.toNat : Nat) : Int))), (10, (Value.slice A bs.length c)), (11, (i64 ((bs.length : Nat) : Int))), (12, (i64 ((i : Nat) : Int))), (13, (Value.bool true)), (20, (i64 ((k : Nat) : Int)))] ∧ q = shiftN k (r ^^^ x.toNat) ∧ q < 4294967296 ∧ k ≤ 8 ∧ Keeps none_ w wx) (fun (gs : Nat × Nat) => match gs with | (k, q) => 8 - k) (0, r ^^^ x.toNat) (by kernel_rfl) ⟨rfl, rfl, (xor32_lt hr (by omega)), (by omega), K3⟩ ?_
  clear K3
  rintro ⟨k, q⟩ _ w8 ⟨rfl, hq, hq2, hk, K9⟩
  refine qs ?_
  refine qg ?_
  refine og 1 [(4, (Value.int IntKind.u32 0)), (5, (Value.int IntKind.u32 ((q : Nat) : Int))), (7, (Value.int IntKind.u8 ((x.toNat : Nat) : Int))), (10, (Value.slice A bs.length c)), (11, (i64 ((bs.length : Nat) : Int))), (12, (i64 ((i : Nat) : Int))), (13, (Value.bool true)), (20, (i64 ((k : Nat) : Int))), (21, (Value.bool (decide (((k : Nat) : Int) < 8))))] 1 ?_
  refine od ?_
  refine qs ?_
  refine q_cond (o := .tmp 21) (b := (decide (((k : Nat) : Int) < 8))) (by kernel_rfl) rfl (fun h10 => ?_) (fun h10 => ?_)
  ·rw [h10]
   have p11 : ((k : Nat) : Int) < 8 := of_decide_eq_true h10
   refine q_skip (by kernel_rfl) ?_
   refine qs ?_
   refine q_block (id := 3) (by kernel_rfl) ?_
   refine qg ?_
   refine og 1 [(4, (Value.int IntKind.u32 0)), (5, (Value.int IntKind.u32 ((q : Nat) : Int))), (7, (Value.int IntKind.u8 ((x.toNat : Nat) : Int))), (10, (Value.slice A bs.length c)), (11, (i64 ((bs.length : Nat) : Int))), (12, (i64 ((i : Nat) : Int))), (13, (Value.bool true)), (20, (i64 ((k : Nat) : Int))), (21, (Value.bool true)), (22, (Value.int IntKind.u32 ((q : Nat) : Int)))] 1 ?_
   refine Ops.call (by kernel_rfl) (d := (some 23)) (by kernel_rfl) (shifted_calls _ q (by omega)) ?_
   rintro _ _ ⟨rfl, rfl⟩
   refine ⟨_, _, rfl, rfl, ?_⟩
   refine og 1 [(4, (Value.int IntKind.u32 0)), (5, (Value.int IntKind.u32 ((shiftB q : Nat) : Int))), (7, (Value.int IntKind.u8 ((x.toNat : Nat) : Int))), (10, (Value.slice A bs.length c)), (11, (i64 ((bs.length : Nat) : Int))), (12, (i64 ((i : Nat) : Int))), (13, (Value.bool true)), (20, (i64 ((k : Nat) : Int))), (21, (Value.bool true))] 3 ?_
   refine od ?_
   refine qg ?_
   refine og 1 [(4, (Value.int IntKind.u32 0)), (5, (Value.int IntKind.u32 ((shiftB q : Nat) : Int))), (7, (Value.int IntKind.u8 ((x.toNat : Nat) : Int))), (10, (Value.slice A bs.length c)), (11, (i64 ((bs.length : Nat) : Int))), (12, (i64 ((i : Nat) : Int))), (13, (Value.bool true)), (20, (i64 ((k : Nat) : Int))), (21, (Value.bool true)), (24, (i64 (IntKind.i64.wrap (((k : Nat) : Int) + 1))))] 1 ?_
   have e12 : IntKind.i64.wrap (((k : Nat) : Int) + 1) = ((k + 1 : Nat) : Int) := by rw [wrap_i64 (by omega) (by omega)]; omega
   rw [e12]
   clear e12
   refine og 1 [(4, (Value.int IntKind.u32 0)), (5, (Value.int IntKind.u32 ((shiftB q : Nat) : Int))), (7, (Value.int IntKind.u8 ((x.toNat : Nat) : Int))), (10, (Value.slice A bs.length c)), (11, (i64 ((bs.length : Nat) : Int))), (12, (i64 ((i : Nat) : Int))), (13, (Value.bool true)), (20, (i64 ((k + 1 : Nat) : Int))), (21, (Value.bool true))] 2 ?_
   refine Ops.keep (R := [(4, (Value.int IntKind.u32 0)), (5, (Value.int IntKind.u32 ((shiftB q : Nat) : Int))), (7, (Value.int IntKind.u8 ((x.toNat : Nat) : Int))), (10, (Value.slice A bs.length c)), (11, (i64 ((bs.length : Nat) : Int))), (12, (i64 ((i : Nat) : Int))), (13, (Value.bool true)), (20, (i64 ((k + 1 : Nat) : Int)))]) (by kernel_rfl) ?_
   refine od ?_
   exact ⟨(k + 1, shiftB q), ⟨rfl, (by rw [hq]; rfl), (shiftB_lt hq2), (by omega), K9⟩, (show 8 - (k + 1) < 8 - k from by omega)⟩
  ·rw [h10]
   have p13 : ¬ (((k : Nat) : Int) < 8) := of_decide_eq_false h10
   refine q_exit (id := 2) (by kernel_rfl) ?_
   refine qg ?_
   refine og 1 [(4, (Value.int IntKind.u32 0)), (5, (Value.int IntKind.u32 ((q : Nat) : Int))), (7, (Value.int IntKind.u8 ((x.toNat : Nat) : Int))), (10, (Value.slice A bs.length c)), (11, (i64 ((bs.length : Nat) : Int))), (12, (i64 ((i : Nat) : Int))), (13, (Value.bool true)), (20, (i64 ((k : Nat) : Int))), (21, (Value.bool false)), (25, (i64 (IntKind.i64.wrap (((i : Nat) : Int) + 1))))] 1 ?_
   have e14 : IntKind.i64.wrap (((i : Nat) : Int) + 1) = ((i + 1 : Nat) : Int) := by rw [wrap_i64 (by omega) (by omega)]; omega
   rw [e14]
   clear e14
   refine og 1 [(4, (Value.int IntKind.u32 0)), (5, (Value.int IntKind.u32 ((q : Nat) : Int))), (7, (Value.int IntKind.u8 ((x.toNat : Nat) : Int))), (10, (Value.slice A bs.length c)), (11, (i64 ((bs.length : Nat) : Int))), (12, (i64 ((i + 1 : Nat) : Int))), (13, (Value.bool true)), (20, (i64 ((k : Nat) : Int))), (21, (Value.bool false))] 2 ?_
   refine Ops.keep (R := [(4, (Value.int IntKind.u32 0)), (5, (Value.int IntKind.u32 ((q : Nat) : Int))), (10, (Value.slice A bs.length c)), (11, (i64 ((bs.length : Nat) : Int))), (12, (i64 ((i + 1 : Nat) : Int)))]) (by kernel_rfl) ?_
   refine od ?_
   exact ⟨(i + 1, q), ⟨rfl, (by rw [fold_take hx, ← hE, hq, show k = 8 from by omega]; rfl), hq2, (by omega), K9⟩, (show bs.length - (i + 1) < bs.length - i from by omega)⟩
 ·rw [h4]
  have p15 : ¬ (((i : Nat) : Int) < ((bs.length : Nat) : Int)) := of_decide_eq_false h4
  refine q_exit (id := 0) (by kernel_rfl) ?_
  refine qs ?_
  refine qg ?_
  refine og 1 [(4, (Value.int IntKind.u32 0)), (26, (Value.int IntKind.u32 ((r : Nat) : Int)))] 1 ?_
  have hb16 : 4294967295 ^^^ r < 4294967296 := xor32_lt (by omega) (by omega)
  refine Ops.go (v := (Value.int IntKind.u32 ((4294967295 ^^^ r : Nat) : Int))) (by kernel_rfl) (Runs.un (op := .xor) (by kernel_rfl) (run_not32 (a := r) (by omega))) (d := (some 27)) (by kernel_rfl) rfl ?_
  refine og 1 [(4, (Value.int IntKind.u32 ((4294967295 ^^^ r : Nat) : Int)))] 3 ?_
  refine od ?_
  refine q_ret (by kernel_rfl) ?_
  refine ⟨(Value.int IntKind.u32 ((4294967295 ^^^ r : Nat) : Int)), retv_tmp rfl rfl, ?_⟩
  have e : 4294967295 ^^^ r = crcMore s bs := by rw [hE, show i = bs.length from by omega, List.take_length]; rfl
  exact ⟨by rw [e], K3⟩

theorem More_any (w : World) (v : Value) (s : Nat) (bs : List UInt8) (hs : s < 4294967296) (hv : RdB w v bs) (hl : bs.length ≤ 140737488351232) : Calls Tryz.prog 107 ⟨[.int .u32 ((s : Nat) : Int), v]⟩ w (fun e w' => e = .returned (.int .u32 ((crcMore s bs : Nat) : Int)) ∧ Keeps none_ w w') := by
 obtain ⟨A, c, rfl⟩ := hv.form
 exact More_calls w A c s bs hs hv hl

theorem Sum_calls (w : World) (v : Value) (bs : List UInt8) (hv : RdB w v bs) (hl : bs.length ≤ 140737488351232) : Calls Tryz.prog 90 ⟨[v]⟩ w (fun e w' => e = .returned (.int .u32 ((crcMore 0 bs : Nat) : Int)) ∧ Keeps none_ w w') := by
 have K0 : Keeps none_ w w := Keeps.refl w
 refine q_calls Tryz.func90 (by kernel_rfl) (by kernel_rfl) ?_
 refine qs ?_
 refine qg ?_
 refine og 1 [(0, v), (2, (Value.int IntKind.u32 0))] 1 ?_
 refine od ?_
 refine qs ?_
 refine qg ?_
 refine og 1 [(2, (Value.int IntKind.u32 0)), (3, v)] 1 ?_
 refine Ops.call (by kernel_rfl) (d := (some 4)) (by kernel_rfl) (More_any _ v 0 bs (by omega) (hv.keep0 (by omega) K0) (by omega)) ?_
 rintro _ w1 ⟨rfl, K2⟩
 refine ⟨_, _, rfl, rfl, ?_⟩
 replace K0 := K0.t0 K2
 clear K2
 refine og 1 [(2, (Value.int IntKind.u32 ((crcMore 0 bs : Nat) : Int)))] 3 ?_
 refine od ?_
 refine q_ret (by kernel_rfl) ?_
 refine ⟨(Value.int IntKind.u32 ((crcMore 0 bs : Nat) : Int)), retv_tmp rfl rfl, ?_⟩
 exact ⟨rfl, K0⟩
end Go.Proofs.YtooginpgclcldaaGreatDoor
