/- codec: writers -/
import Derived.Test.YtnepjfnkaigakaaProg
import Derived.Test.YtnepjfnkaigakaaLibBytes
set_option linter.unusedVariables false
namespace Go.Proofs.Ytnepjfnkaigakaa
open Go.Q Go.RowKit
theorem tyB : ElemTy Try.prog 23 5 1 1 := elemTy (by kernel_rfl)

theorem Clip_calls (w : World) (A : Option Addr) (n c : Nat) (hnc : n ≤ c)  : Calls Try.prog 56 ⟨[(Value.slice A n c)]⟩ w (fun e w' => e = .returned (.slice A n n) ∧ w = w') := by
  have K0 : Keeps none_ w w := Keeps.refl w
  refine q_calls Try.func56 (by kernel_rfl) (by kernel_rfl) ?_
  refine q_seq (by kernel_rfl) ?_
  refine q_region (by kernel_rfl) ?_
  refine Ops.regs 1 [(0, (Value.slice A n c)), (2, (Value.slice none 0 0))] (j := 1) (by kernel_rfl) (by kernel_rfl) ?_
  refine Ops.done (by kernel_rfl) ?_
  refine q_seq (by kernel_rfl) ?_
  refine q_region (by kernel_rfl) ?_
  refine Ops.regs 5 [(2, (Value.slice none 0 0)), (3, (Value.slice A n c)), (5, (i64 ((n : Nat) : Int))), (7, (i64 ((n : Nat) : Int)))] (j := 5) (by kernel_rfl) (by kernel_rfl) ?_
  have hcut := run_cut (sz := 1) (P := Try.prog) (w := w) (t := 23) (A := A) (n := n) (c := c) 0 n n (lo := none) (hi := some (i64 ((n : Nat) : Int))) (mx := some (i64 ((n : Nat) : Int))) tyB.slice (by kernel_rfl) (.inl ⟨rfl, rfl⟩) (.inr ⟨_, rfl⟩) (.inr ⟨_, rfl⟩) (by omega) (by omega) (by omega)
  have hA : (if n = 0 then A else Option.map (fun q => Addr.add q (0 * 1)) A) = A := by cases A <;> simp [Addr.add]
  rw [hA, Nat.sub_zero] at hcut
  refine Ops.go (v := (Value.slice A n n)) (by kernel_rfl) (Runs.slice (by kernel_rfl) hcut) (d := (some 8)) (by kernel_rfl) rfl ?_
  clear hcut hA
  refine Ops.regs 1 [(2, (Value.slice A n n))] (j := 7) (by kernel_rfl) (by kernel_rfl) ?_
  refine Ops.done (by kernel_rfl) ?_
  refine q_ret (by kernel_rfl) ?_
  refine ⟨(Value.slice A n n), retv_tmp rfl rfl, ?_⟩
  exact ⟨rfl, rfl⟩

theorem Uint_calls (w : World) (v : Value) (xs : List UInt8) (m0 : Nat) (hv : RdB w v xs) (hm0 : m0 < 18446744073709551616) (hl : xs.length ≤ 140737488351232) : Calls Try.prog 12 ⟨[v, (Value.int IntKind.u64 ((m0 : Nat) : Int))]⟩ w (fun e w' => ∃ v', e = .returned v' ∧ Keeps none_ w w' ∧ OwnB w' w.heap.size 5 v' (xs ++ uv m0)) := by
  obtain ⟨A, c, rfl⟩ := hv.form
  have hsl := hv.slice
  have K0 : Keeps none_ w w := Keeps.refl w
  refine q_calls Try.func12 (by kernel_rfl) (by kernel_rfl) ?_
  refine q_seq (by kernel_rfl) ?_
  refine q_region (by kernel_rfl) ?_
  refine Ops.regs 1 [(0, (Value.slice A xs.length c)), (1, (Value.int IntKind.u64 ((m0 : Nat) : Int))), (4, (Value.slice none 0 0))] (j := 1) (by kernel_rfl) (by kernel_rfl) ?_
  refine Ops.done (by kernel_rfl) ?_
  refine q_seq (by kernel_rfl) ?_
  refine q_region (by kernel_rfl) ?_
  refine Ops.regs 1 [(0, (Value.slice A xs.length c)), (1, (Value.int IntKind.u64 ((m0 : Nat) : Int))), (4, (Value.slice none 0 0)), (5, (Value.slice A xs.length c))] (j := 1) (by kernel_rfl) (by kernel_rfl) ?_
  refine Ops.call (by kernel_rfl) (d := (some 6)) (by kernel_rfl) (Clip_calls _ A xs.length c (by omega)) ?_
  rintro _ _ ⟨rfl, rfl⟩
  refine ⟨_, _, rfl, rfl, ?_⟩
  refine Ops.regs 1 [(0, (Value.slice A xs.length xs.length)), (1, (Value.int IntKind.u64 ((m0 : Nat) : Int))), (4, (Value.slice none 0 0))] (j := 3) (by kernel_rfl) (by kernel_rfl) ?_
  refine Ops.done (by kernel_rfl) ?_
  refine q_seq (by kernel_rfl) ?_
  refine q_block (id := 0) (by kernel_rfl) ?_
  refine q_keep (R := [(0, (Value.slice A xs.length xs.length)), (1, (Value.int IntKind.u64 ((m0 : Nat) : Int))), (4, (Value.slice none 0 0))]) (by kernel_rfl) ?_
  refine q_loop (fun (gs : Value × Nat × (List UInt8)) L (wx : World) => match gs with | (v, m, ys) => L = [(0, v), (1, (Value.int IntKind.u64 ((m : Nat) : Int))), (4, (Value.slice none 0 0))] ∧ Wr wx w.heap.size 5 v ys ∧ ys ++ uv m = xs ++ uv m0 ∧ m < 18446744073709551616 ∧ Keeps none_ w wx) (fun (gs : Value × Nat × (List UInt8)) => match gs with | (v, m, ys) => m) (.slice A xs.length xs.length, m0, xs) (by kernel_rfl) ⟨rfl, .inl ⟨A, rfl, hv.clip⟩, rfl, hm0, K0⟩ ?_
  clear K0
  rintro ⟨v, m, ys⟩ _ w1 ⟨rfl, hW, hE, hm, K2⟩
  have hlen := congrArg List.length hE
  simp only [List.length_append] at hlen
  have hu := uv_length_10 hm0
  have hp := uv_pos m
  refine q_seq (by kernel_rfl) ?_
  refine q_seq (by kernel_rfl) ?_
  refine q_region (by kernel_rfl) ?_
  refine Ops.regs 2 [(0, v), (1, (Value.int IntKind.u64 ((m : Nat) : Int))), (4, (Value.slice none 0 0)), (8, (Value.bool (decide (((m : Nat) : Int) > 127))))] (j := 2) (by kernel_rfl) (by kernel_rfl) ?_
  refine Ops.done (by kernel_rfl) ?_
  refine q_cond (o := .tmp 8) (b := (decide (((m : Nat) : Int) > 127))) (by kernel_rfl) rfl (fun h3 => ?_) (fun h3 => ?_)
  · rw [h3]
    have p4 : ((m : Nat) : Int) > 127 := of_decide_eq_true h3
    refine q_skip (by kernel_rfl) ?_
    refine q_seq (by kernel_rfl) ?_
    refine q_block (id := 1) (by kernel_rfl) ?_
    refine q_region (by kernel_rfl) ?_
    refine Ops.regs 3 [(0, v), (1, (Value.int IntKind.u64 ((m : Nat) : Int))), (4, (Value.slice none 0 0)), (8, (Value.bool true)), (11, v), (13, (Value.int IntKind.u8 (IntKind.u8.wrap ((m : Nat) : Int))))] (j := 3) (by kernel_rfl) (by kernel_rfl) ?_
    have e5 : IntKind.u8.wrap ((m : Nat) : Int) = ((m % 256 : Nat) : Int) := u8_wrap m
    rw [e5]
    clear e5
    refine Ops.go (v := (Value.int IntKind.u8 (((m % 256) % 128 + 128 : Nat) : Int))) (by kernel_rfl) (Runs.int (op := .or) (t := 5) (by kernel_rfl) (run_or128 (by omega))) (d := (some 14)) (by kernel_rfl) rfl ?_
    refine Ops.new (o := rowL [(Value.int IntKind.u8 (((m % 256) % 128 + 128 : Nat) : Int))] 5) (V := fun b => (Value.slice (some ⟨b, 0, none⟩) 1 1)) (by kernel_rfl) (d := (some 15)) (by kernel_rfl) (fun b => rfl) (fun b6 w7 hb8 H9 K10 hs11 => ?_)
    have nb6 : w.heap.size ≤ b6 := by have := K2.size; omega
    have K12 := K2.trans K10 (U := none_) (fun i h1 h2 => h2) (fun i h1 h2 => by exact h2)
    clear K2
    have F13 := hW.keep0 K10
    clear hW
    clear K10 hs11
    obtain ⟨v14, w15, hr16, hO17, K18⟩ := Wr.app (ty := 23) tyB F13 (lit1 (by omega) H9) (by simp) (by (try simp only at *); (try simp only [List.length_append] at *); (try simp only [List.length_cons] at *); (try simp only [List.length_nil] at *); omega) K12.size
    refine Ops.go (v := v14) (by kernel_rfl) (Runs.append (ts := #[23, 23]) (ty := 23) (vs := [v, (Value.slice (some ⟨b6, 0, none⟩) 1 1)]) (by kernel_rfl) hr16) (d := (some 16)) (by kernel_rfl) rfl ?_
    have K19 := Keeps.own2 K12 K18
    clear H9 F13 K12 hr16 K18
    refine Ops.regs 1 [(0, v14), (1, (Value.int IntKind.u64 ((m : Nat) : Int))), (4, (Value.slice none 0 0)), (8, (Value.bool true))] (j := 7) (by kernel_rfl) (by kernel_rfl) ?_
    refine Ops.done (by kernel_rfl) ?_
    refine q_region (by kernel_rfl) ?_
    refine Ops.regs 2 [(0, v14), (1, (Value.int IntKind.u64 ((m : Nat) : Int))), (4, (Value.slice none 0 0)), (8, (Value.bool true)), (10, (Value.int IntKind.u64 ((((m : Nat) : Int)).fdiv 128)))] (j := 2) (by kernel_rfl) (by kernel_rfl) ?_
    have e20 : (((m : Nat) : Int)).fdiv 128 = ((m / 128 : Nat) : Int) := fdiv_nat m 128
    rw [e20]
    clear e20
    refine Ops.regs 1 [(0, v14), (1, (Value.int IntKind.u64 ((m / 128 : Nat) : Int))), (4, (Value.slice none 0 0)), (8, (Value.bool true))] (j := 3) (by kernel_rfl) (by kernel_rfl) ?_
    refine Ops.keep (R := [(0, v14), (1, (Value.int IntKind.u64 ((m / 128 : Nat) : Int))), (4, (Value.slice none 0 0))]) (by kernel_rfl) ?_
    refine Ops.done (by kernel_rfl) ?_
    exact ⟨(v14, m / 128, ys ++ [byte (m % 256 % 128 + 128)]), ⟨rfl, .inr hO17, (by rw [← hE, uv_ge (n := m) (by omega)]; rw [show byte (m % 256 % 128 + 128) = byte (m % 128 + 128) from (by rw [Nat.mod_mod_of_dvd m (by decide)])]; simp), (by omega), K19⟩, (show (m / 128) < m from by omega)⟩
  · rw [h3]
    have p21 : ¬ (((m : Nat) : Int) > 127) := of_decide_eq_false h3
    refine q_exit (id := 0) (by kernel_rfl) ?_
    refine q_seq (by kernel_rfl) ?_
    refine q_region (by kernel_rfl) ?_
    refine Ops.regs 3 [(4, (Value.slice none 0 0)), (17, v), (19, (Value.int IntKind.u8 (IntKind.u8.wrap ((m : Nat) : Int))))] (j := 3) (by kernel_rfl) (by kernel_rfl) ?_
    have e22 : IntKind.u8.wrap ((m : Nat) : Int) = ((m % 256 : Nat) : Int) := u8_wrap m
    rw [e22]
    clear e22
    refine Ops.new (o := rowL [(Value.int IntKind.u8 ((m % 256 : Nat) : Int))] 5) (V := fun b => (Value.slice (some ⟨b, 0, none⟩) 1 1)) (by kernel_rfl) (d := (some 20)) (by kernel_rfl) (fun b => rfl) (fun b23 w24 hb25 H26 K27 hs28 => ?_)
    have nb23 : w.heap.size ≤ b23 := by have := K2.size; omega
    have K29 := K2.trans K27 (U := none_) (fun i h1 h2 => h2) (fun i h1 h2 => by exact h2)
    clear K2
    have F30 := hW.keep0 K27
    clear hW
    clear K27 hs28
    obtain ⟨v31, w32, hr33, hO34, K35⟩ := Wr.app (ty := 23) tyB F30 (lit1 (by omega) H26) (by simp) (by (try simp only at *); (try simp only [List.length_append] at *); (try simp only [List.length_cons] at *); (try simp only [List.length_nil] at *); omega) K29.size
    refine Ops.go (v := v31) (by kernel_rfl) (Runs.append (ts := #[23, 23]) (ty := 23) (vs := [v, (Value.slice (some ⟨b23, 0, none⟩) 1 1)]) (by kernel_rfl) hr33) (d := (some 21)) (by kernel_rfl) rfl ?_
    have K36 := Keeps.own2 K29 K35
    clear H26 F30 K29 hr33 K35
    refine Ops.regs 1 [(4, v31)] (j := 6) (by kernel_rfl) (by kernel_rfl) ?_
    refine Ops.done (by kernel_rfl) ?_
    refine q_ret (by kernel_rfl) ?_
    refine ⟨v31, retv_tmp rfl rfl, ?_⟩
    refine ⟨_, rfl, K36, ?_⟩
    have hfin : ys ++ [byte (m % 256)] = xs ++ uv m0 := by rw [← hE, uv_lt (by omega)]; rw [show m % 256 = m from (by omega)]
    rw [hfin] at hO34
    exact hO34

theorem RUint_calls (w : World) (v : Value) (xs : List UInt8) (m0 : Nat) (hv : RdB w v xs) (hm0 : m0 < 18446744073709551616) (hl : xs.length ≤ 140737488351232) : Calls Try.prog 25 ⟨[v, (Value.int IntKind.u64 ((m0 : Nat) : Int))]⟩ w (fun e w' => ∃ v', e = .returned v' ∧ Keeps none_ w w' ∧ OwnB w' w.heap.size 5 v' (xs ++ uv m0)) := by
  have hnil : OwnB w w.heap.size 5 (.slice none 0 0) [] := World.ownsRow_nil _ _ _ _
  have K0 : Keeps none_ w w := Keeps.refl w
  refine q_calls Try.func25 (by kernel_rfl) (by kernel_rfl) ?_
  refine q_seq (by kernel_rfl) ?_
  refine q_region (by kernel_rfl) ?_
  refine Ops.regs 1 [(0, v), (1, (Value.int IntKind.u64 ((m0 : Nat) : Int))), (4, (Value.slice none 0 0))] (j := 1) (by kernel_rfl) (by kernel_rfl) ?_
  refine Ops.done (by kernel_rfl) ?_
  refine q_seq (by kernel_rfl) ?_
  refine q_region (by kernel_rfl) ?_
  refine Ops.regs 1 [(0, v), (1, (Value.int IntKind.u64 ((m0 : Nat) : Int))), (4, (Value.slice none 0 0)), (5, (Value.slice none 0 0))] (j := 1) (by kernel_rfl) (by kernel_rfl) ?_
  refine Ops.done (by kernel_rfl) ?_
  refine q_seq (by kernel_rfl) ?_
  refine q_region (by kernel_rfl) ?_
  refine Ops.regs 2 [(1, (Value.int IntKind.u64 ((m0 : Nat) : Int))), (4, (Value.slice none 0 0)), (5, (Value.slice none 0 0)), (6, (Value.slice none 0 0)), (7, v)] (j := 2) (by kernel_rfl) (by kernel_rfl) ?_
  obtain ⟨v1, w2, hr3, hO4, K5⟩ := OwnB.app (ty := 23) tyB hnil (hv.keep0 (by omega) K0) (by (try simp only at *); (try simp only [List.length_append] at *); (try simp only [List.length_cons] at *); (try simp only [List.length_nil] at *); omega) K0.size
  refine Ops.go (v := v1) (by kernel_rfl) (Runs.append (ts := #[23, 23]) (ty := 23) (vs := [(Value.slice none 0 0), v]) (by kernel_rfl) hr3) (d := (some 8)) (by kernel_rfl) rfl ?_
  have K6 := Keeps.own2 K0 K5
  clear hnil K0 hr3 K5
  refine Ops.regs 1 [(1, (Value.int IntKind.u64 ((m0 : Nat) : Int))), (4, (Value.slice none 0 0)), (5, v1)] (j := 4) (by kernel_rfl) (by kernel_rfl) ?_
  refine Ops.done (by kernel_rfl) ?_
  refine q_seq (by kernel_rfl) ?_
  refine q_block (id := 0) (by kernel_rfl) ?_
  refine q_keep (R := [(1, (Value.int IntKind.u64 ((m0 : Nat) : Int))), (4, (Value.slice none 0 0)), (5, v1)]) (by kernel_rfl) ?_
  refine q_loop (fun (gs : Value × Nat × (List UInt8)) L (wx : World) => match gs with | (v, m, ys) => L = [(1, (Value.int IntKind.u64 ((m : Nat) : Int))), (4, (Value.slice none 0 0)), (5, v)] ∧ OwnB wx w.heap.size 5 v ys ∧ ys ++ uv m = xs ++ uv m0 ∧ m < 18446744073709551616 ∧ Keeps none_ w wx) (fun (gs : Value × Nat × (List UInt8)) => match gs with | (v, m, ys) => m) (v1, m0, xs) (by kernel_rfl) ⟨rfl, hO4, rfl, hm0, K6⟩ ?_
  clear hO4 K6
  rintro ⟨v, m, ys⟩ _ w7 ⟨rfl, hW, hE, hm, K8⟩
  have hlen := congrArg List.length hE
  simp only [List.length_append] at hlen
  have hu := uv_length_10 hm0
  have hp := uv_pos m
  refine q_seq (by kernel_rfl) ?_
  refine q_seq (by kernel_rfl) ?_
  refine q_region (by kernel_rfl) ?_
  refine Ops.regs 2 [(1, (Value.int IntKind.u64 ((m : Nat) : Int))), (4, (Value.slice none 0 0)), (5, v), (10, (Value.bool (decide (((m : Nat) : Int) ≥ 128))))] (j := 2) (by kernel_rfl) (by kernel_rfl) ?_
  refine Ops.done (by kernel_rfl) ?_
  refine q_cond (o := .tmp 10) (b := (decide (((m : Nat) : Int) ≥ 128))) (by kernel_rfl) rfl (fun h9 => ?_) (fun h9 => ?_)
  · rw [h9]
    have p10 : ((m : Nat) : Int) ≥ 128 := of_decide_eq_true h9
    refine q_skip (by kernel_rfl) ?_
    refine q_block (id := 1) (by kernel_rfl) ?_
    refine q_seq (by kernel_rfl) ?_
    refine q_region (by kernel_rfl) ?_
    refine Ops.regs 3 [(1, (Value.int IntKind.u64 ((m : Nat) : Int))), (4, (Value.slice none 0 0)), (5, v), (10, (Value.bool true)), (11, v), (13, (Value.int IntKind.u64 ((((m : Nat) : Int)).tmod 128)))] (j := 3) (by kernel_rfl) (by kernel_rfl) ?_
    have e11 : (((m : Nat) : Int)).tmod 128 = ((m % 128 : Nat) : Int) := tmod_nat m 128
    rw [e11]
    clear e11
    refine Ops.regs 1 [(1, (Value.int IntKind.u64 ((m : Nat) : Int))), (4, (Value.slice none 0 0)), (5, v), (10, (Value.bool true)), (11, v), (14, (Value.int IntKind.u8 (IntKind.u8.wrap ((m % 128 : Nat) : Int))))] (j := 4) (by kernel_rfl) (by kernel_rfl) ?_
    have e12 : IntKind.u8.wrap ((m % 128 : Nat) : Int) = ((m % 128 : Nat) : Int) := wrap_u8 (by omega) (by omega)
    rw [e12]
    clear e12
    refine Ops.regs 1 [(1, (Value.int IntKind.u64 ((m : Nat) : Int))), (4, (Value.slice none 0 0)), (5, v), (10, (Value.bool true)), (11, v), (15, (Value.int IntKind.u8 (IntKind.u8.wrap (((m % 128 : Nat) : Int) + 128))))] (j := 5) (by kernel_rfl) (by kernel_rfl) ?_
    have e13 : IntKind.u8.wrap (((m % 128 : Nat) : Int) + 128) = (((m % 128) + 128 : Nat) : Int) := by rw [wrap_u8 (by omega) (by omega)]; omega
    rw [e13]
    clear e13
    refine Ops.new (o := rowL [(Value.int IntKind.u8 (((m % 128) + 128 : Nat) : Int))] 5) (V := fun b => (Value.slice (some ⟨b, 0, none⟩) 1 1)) (by kernel_rfl) (d := (some 16)) (by kernel_rfl) (fun b => rfl) (fun b14 w15 hb16 H17 K18 hs19 => ?_)
    have nb14 : w.heap.size ≤ b14 := by have := K8.size; omega
    have ob20 : ∀ i, (v).ownBlock = some i → i < b14 := fun i hi => by have := (World.ownsRow.lt hW i hi).2; omega
    have K21 := K8.trans K18 (U := none_) (fun i h1 h2 => h2) (fun i h1 h2 => by exact h2)
    clear K8
    have F22 := own_keep0 hW K18
    clear hW
    clear K18 hs19
    obtain ⟨v23, w24, hr25, hO26, K27⟩ := OwnB.app (ty := 23) tyB F22 (lit1 (by omega) H17) (by (try simp only at *); (try simp only [List.length_append] at *); (try simp only [List.length_cons] at *); (try simp only [List.length_nil] at *); omega) K21.size
    refine Ops.go (v := v23) (by kernel_rfl) (Runs.append (ts := #[23, 23]) (ty := 23) (vs := [v, (Value.slice (some ⟨b14, 0, none⟩) 1 1)]) (by kernel_rfl) hr25) (d := (some 17)) (by kernel_rfl) rfl ?_
    have K28 := Keeps.own2 K21 K27
    clear H17 F22 K21 hr25 K27
    refine Ops.regs 1 [(1, (Value.int IntKind.u64 ((m : Nat) : Int))), (4, (Value.slice none 0 0)), (5, v23), (10, (Value.bool true))] (j := 8) (by kernel_rfl) (by kernel_rfl) ?_
    refine Ops.done (by kernel_rfl) ?_
    refine q_region (by kernel_rfl) ?_
    refine Ops.regs 2 [(1, (Value.int IntKind.u64 ((m : Nat) : Int))), (4, (Value.slice none 0 0)), (5, v23), (10, (Value.bool true)), (19, (Value.int IntKind.u64 (IntKind.u64.wrap ((((m : Nat) : Int)).tdiv 128))))] (j := 2) (by kernel_rfl) (by kernel_rfl) ?_
    have e29 : IntKind.u64.wrap ((((m : Nat) : Int)).tdiv 128) = ((m / 128 : Nat) : Int) := (congrArg (IntKind.u64.wrap ·) (tdiv_nat m 128)).trans (wrap_u64 (by omega) (by omega))
    rw [e29]
    clear e29
    refine Ops.regs 1 [(1, (Value.int IntKind.u64 ((m / 128 : Nat) : Int))), (4, (Value.slice none 0 0)), (5, v23), (10, (Value.bool true))] (j := 3) (by kernel_rfl) (by kernel_rfl) ?_
    refine Ops.keep (R := [(1, (Value.int IntKind.u64 ((m / 128 : Nat) : Int))), (4, (Value.slice none 0 0)), (5, v23)]) (by kernel_rfl) ?_
    refine Ops.done (by kernel_rfl) ?_
    exact ⟨(v23, m / 128, ys ++ [byte (m % 128 + 128)]), ⟨rfl, hO26, (by rw [← hE, uv_ge (n := m) (by omega)]; simp), (by omega), K28⟩, (show (m / 128) < m from by omega)⟩
  · rw [h9]
    have p30 : ¬ (((m : Nat) : Int) ≥ 128) := of_decide_eq_false h9
    refine q_exit (id := 0) (by kernel_rfl) ?_
    refine q_seq (by kernel_rfl) ?_
    refine q_region (by kernel_rfl) ?_
    refine Ops.regs 3 [(4, (Value.slice none 0 0)), (5, v), (20, v), (22, (Value.int IntKind.u8 (IntKind.u8.wrap ((m : Nat) : Int))))] (j := 3) (by kernel_rfl) (by kernel_rfl) ?_
    have e31 : IntKind.u8.wrap ((m : Nat) : Int) = ((m % 256 : Nat) : Int) := u8_wrap m
    rw [e31]
    clear e31
    refine Ops.new (o := rowL [(Value.int IntKind.u8 ((m % 256 : Nat) : Int))] 5) (V := fun b => (Value.slice (some ⟨b, 0, none⟩) 1 1)) (by kernel_rfl) (d := (some 23)) (by kernel_rfl) (fun b => rfl) (fun b32 w33 hb34 H35 K36 hs37 => ?_)
    have nb32 : w.heap.size ≤ b32 := by have := K8.size; omega
    have ob38 : ∀ i, (v).ownBlock = some i → i < b32 := fun i hi => by have := (World.ownsRow.lt hW i hi).2; omega
    have K39 := K8.trans K36 (U := none_) (fun i h1 h2 => h2) (fun i h1 h2 => by exact h2)
    clear K8
    have F40 := own_keep0 hW K36
    clear hW
    clear K36 hs37
    obtain ⟨v41, w42, hr43, hO44, K45⟩ := OwnB.app (ty := 23) tyB F40 (lit1 (by omega) H35) (by (try simp only at *); (try simp only [List.length_append] at *); (try simp only [List.length_cons] at *); (try simp only [List.length_nil] at *); omega) K39.size
    refine Ops.go (v := v41) (by kernel_rfl) (Runs.append (ts := #[23, 23]) (ty := 23) (vs := [v, (Value.slice (some ⟨b32, 0, none⟩) 1 1)]) (by kernel_rfl) hr43) (d := (some 24)) (by kernel_rfl) rfl ?_
    have K46 := Keeps.own2 K39 K45
    clear H35 F40 K39 hr43 K45
    refine Ops.regs 1 [(4, (Value.slice none 0 0)), (5, v41)] (j := 6) (by kernel_rfl) (by kernel_rfl) ?_
    refine Ops.done (by kernel_rfl) ?_
    refine q_seq (by kernel_rfl) ?_
    refine q_region (by kernel_rfl) ?_
    refine Ops.regs 2 [(4, v41)] (j := 2) (by kernel_rfl) (by kernel_rfl) ?_
    refine Ops.done (by kernel_rfl) ?_
    refine q_ret (by kernel_rfl) ?_
    refine ⟨v41, retv_tmp rfl rfl, ?_⟩
    refine ⟨_, rfl, K46, ?_⟩
    have hfin : ys ++ [byte (m % 256)] = xs ++ uv m0 := by rw [← hE, uv_lt (by omega)]; rw [show m % 256 = m from (by omega)]
    rw [hfin] at hO44
    exact hO44
end Go.Proofs.Ytnepjfnkaigakaa
