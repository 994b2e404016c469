/- codec: numbers written, scanned; readers on both sides -/
import Derived.Test.YtnepjfnkaigakaaProg
import Derived.Test.YtnepjfnkaigakaaLC
set_option linter.unusedVariables false
namespace Go.Proofs.Ytnepjfnkaigakaa
open Go.Q Go.RowKit
theorem tyB : ElemTy Try.prog 23 5 1 1 := elemTy (by kernel_rfl)

theorem Clip_calls (w : World) (A : Option Addr) (n c : Nat) (hnc : n ≤ c)  : Calls Try.prog 56 ⟨[(Value.slice A n c)]⟩ w (fun e w' => e = .returned (.slice A n n) ∧ w = w') := by
  have K0 : Keeps none_ w w := Keeps.refl w
  refine q_calls Try.func56 (by kernel_rfl) (by kernel_rfl) ?_
  refine q_seq (by kernel_rfl) ?_
  refine q_region (by kernel_rfl) ?_
  refine Ops.regs 1 [(0, (Value.slice A n c)), (2, (Value.slice none 0 0))] (j := 1) (by kernel_rfl) (by kernel_rfl) ?_
  refine Ops.done (by kernel_rfl) ?_
  refine q_seq (by kernel_rfl) ?_
  refine q_region (by kernel_rfl) ?_
  refine Ops.regs 5 [(2, (Value.slice none 0 0)), (3, (Value.slice A n c)), (5, (i64 ((n : Nat) : Int))), (7, (i64 ((n : Nat) : Int)))] (j := 5) (by kernel_rfl) (by kernel_rfl) ?_
  have hcut := run_cut (sz := 1) (P := Try.prog) (w := w) (t := 23) (A := A) (n := n) (c := c) 0 n n (lo := none) (hi := some (i64 ((n : Nat) : Int))) (mx := some (i64 ((n : Nat) : Int))) tyB.slice (by kernel_rfl) (.inl ⟨rfl, rfl⟩) (.inr ⟨_, rfl⟩) (.inr ⟨_, rfl⟩) (by omega) (by omega) (by omega)
  have hA : (if n = 0 then A else Option.map (fun q => Addr.add q (0 * 1)) A) = A := by cases A <;> simp [Addr.add]
  rw [hA, Nat.sub_zero] at hcut
  refine Ops.go (v := (Value.slice A n n)) (by kernel_rfl) (Runs.slice (by kernel_rfl) hcut) (d := (some 8)) (by kernel_rfl) rfl ?_
  clear hcut hA
  refine Ops.regs 1 [(2, (Value.slice A n n))] (j := 7) (by kernel_rfl) (by kernel_rfl) ?_
  refine Ops.done (by kernel_rfl) ?_
  refine q_ret (by kernel_rfl) ?_
  refine ⟨(Value.slice A n n), retv_tmp rfl rfl, ?_⟩
  exact ⟨rfl, rfl⟩

theorem Uint_calls (w : World) (v : Value) (xs : List UInt8) (m0 : Nat) (hv : RdB w v xs) (hm0 : m0 < 18446744073709551616) (hl : xs.length ≤ 140737488351232) : Calls Try.prog 12 ⟨[v, (Value.int IntKind.u64 ((m0 : Nat) : Int))]⟩ w (fun e w' => ∃ v', e = .returned v' ∧ Keeps none_ w w' ∧ OwnB w' w.heap.size 5 v' (xs ++ uv m0)) := by
  obtain ⟨A, c, rfl⟩ := hv.form
  have hsl := hv.slice
  have K0 : Keeps none_ w w := Keeps.refl w
  refine q_calls Try.func12 (by kernel_rfl) (by kernel_rfl) ?_
  refine q_seq (by kernel_rfl) ?_
  refine q_region (by kernel_rfl) ?_
  refine Ops.regs 1 [(0, (Value.slice A xs.length c)), (1, (Value.int IntKind.u64 ((m0 : Nat) : Int))), (4, (Value.slice none 0 0))] (j := 1) (by kernel_rfl) (by kernel_rfl) ?_
  refine Ops.done (by kernel_rfl) ?_
  refine q_seq (by kernel_rfl) ?_
  refine q_region (by kernel_rfl) ?_
  refine Ops.regs 1 [(0, (Value.slice A xs.length c)), (1, (Value.int IntKind.u64 ((m0 : Nat) : Int))), (4, (Value.slice none 0 0)), (5, (Value.slice A xs.length c))] (j := 1) (by kernel_rfl) (by kernel_rfl) ?_
  refine Ops.call (by kernel_rfl) (d := (some 6)) (by kernel_rfl) (Clip_calls _ A xs.length c (by omega)) ?_
  rintro _ _ ⟨rfl, rfl⟩
  refine ⟨_, _, rfl, rfl, ?_⟩
  refine Ops.regs 1 [(0, (Value.slice A xs.length xs.length)), (1, (Value.int IntKind.u64 ((m0 : Nat) : Int))), (4, (Value.slice none 0 0))] (j := 3) (by kernel_rfl) (by kernel_rfl) ?_
  refine Ops.done (by kernel_rfl) ?_
  refine q_seq (by kernel_rfl) ?_
  refine q_block (id := 0) (by kernel_rfl) ?_
  refine q_keep (R := [(0, (Value.slice A xs.length xs.length)), (1, (Value.int IntKind.u64 ((m0 : Nat) : Int))), (4, (Value.slice none 0 0))]) (by kernel_rfl) ?_
  refine q_loop (fun (gs : Value × Nat × (List UInt8)) L (wx : World) => match gs with | (v, m, ys) => L = [(0, v), (1, (Value.int IntKind.u64 ((m : Nat) : Int))), (4, (Value.slice none 0 0))] ∧ Wr wx w.heap.size 5 v ys ∧ ys ++ uv m = xs ++ uv m0 ∧ m < 18446744073709551616 ∧ Keeps none_ w wx) (fun (gs : Value × Nat × (List UInt8)) => match gs with | (v, m, ys) => m) (.slice A xs.length xs.length, m0, xs) (by kernel_rfl) ⟨rfl, .inl ⟨A, rfl, hv.clip⟩, rfl, hm0, K0⟩ ?_
  clear K0
  rintro ⟨v, m, ys⟩ _ w1 ⟨rfl, hW, hE, hm, K2⟩
  have hlen := congrArg List.length hE
  simp only [List.length_append] at hlen
  have hu := uv_length_10 hm0
  have hp := uv_pos m
  refine q_seq (by kernel_rfl) ?_
  refine q_seq (by kernel_rfl) ?_
  refine q_region (by kernel_rfl) ?_
  refine Ops.regs 2 [(0, v), (1, (Value.int IntKind.u64 ((m : Nat) : Int))), (4, (Value.slice none 0 0)), (8, (Value.bool (decide (((m : Nat) : Int) > 127))))] (j := 2) (by kernel_rfl) (by kernel_rfl) ?_
  refine Ops.done (by kernel_rfl) ?_
  refine q_cond (o := .tmp 8) (b := (decide (((m : Nat) : Int) > 127))) (by kernel_rfl) rfl (fun h3 => ?_) (fun h3 => ?_)
  · rw [h3]
    have p4 : ((m : Nat) : Int) > 127 := of_decide_eq_true h3
    refine q_skip (by kernel_rfl) ?_
    refine q_seq (by kernel_rfl) ?_
    refine q_block (id := 1) (by kernel_rfl) ?_
    refine q_region (by kernel_rfl) ?_
    refine Ops.regs 3 [(0, v), (1, (Value.int IntKind.u64 ((m : Nat) : Int))), (4, (Value.slice none 0 0)), (8, (Value.bool true)), (11, v), (13, (Value.int IntKind.u8 (IntKind.u8.wrap ((m : Nat) : Int))))] (j := 3) (by kernel_rfl) (by kernel_rfl) ?_
    have e5 : IntKind.u8.wrap ((m : Nat) : Int) = ((m % 256 : Nat) : Int) := u8_wrap m
    rw [e5]
    clear e5
    refine Ops.go (v := (Value.int IntKind.u8 (((m % 256) % 128 + 128 : Nat) : Int))) (by kernel_rfl) (Runs.int (op := .or) (t := 5) (by kernel_rfl) (run_or128 (by omega))) (d := (some 14)) (by kernel_rfl) rfl ?_
    refine Ops.new (o := rowL [(Value.int IntKind.u8 (((m % 256) % 128 + 128 : Nat) : Int))] 5) (V := fun b => (Value.slice (some ⟨b, 0, none⟩) 1 1)) (by kernel_rfl) (d := (some 15)) (by kernel_rfl) (fun b => rfl) (fun b6 w7 hb8 H9 K10 hs11 => ?_)
    have nb6 : w.heap.size ≤ b6 := by have := K2.size; omega
    have K12 := K2.trans K10 (U := none_) (fun i h1 h2 => h2) (fun i h1 h2 => by exact h2)
    clear K2
    have F13 := hW.keep0 K10
    clear hW
    clear K10 hs11
    obtain ⟨v14, w15, hr16, hO17, K18⟩ := Wr.app (ty := 23) tyB F13 (lit1 (by omega) H9) (by simp) (by (try simp only at *); (try simp only [List.length_append] at *); (try simp only [List.length_cons] at *); (try simp only [List.length_nil] at *); omega) K12.size
    refine Ops.go (v := v14) (by kernel_rfl) (Runs.append (ts := #[23, 23]) (ty := 23) (vs := [v, (Value.slice (some ⟨b6, 0, none⟩) 1 1)]) (by kernel_rfl) hr16) (d := (some 16)) (by kernel_rfl) rfl ?_
    have K19 := Keeps.own2 K12 K18
    clear H9 F13 K12 hr16 K18
    refine Ops.regs 1 [(0, v14), (1, (Value.int IntKind.u64 ((m : Nat) : Int))), (4, (Value.slice none 0 0)), (8, (Value.bool true))] (j := 7) (by kernel_rfl) (by kernel_rfl) ?_
    refine Ops.done (by kernel_rfl) ?_
    refine q_region (by kernel_rfl) ?_
    refine Ops.regs 2 [(0, v14), (1, (Value.int IntKind.u64 ((m : Nat) : Int))), (4, (Value.slice none 0 0)), (8, (Value.bool true)), (10, (Value.int IntKind.u64 ((((m : Nat) : Int)).fdiv 128)))] (j := 2) (by kernel_rfl) (by kernel_rfl) ?_
    have e20 : (((m : Nat) : Int)).fdiv 128 = ((m / 128 : Nat) : Int) := fdiv_nat m 128
    rw [e20]
    clear e20
    refine Ops.regs 1 [(0, v14), (1, (Value.int IntKind.u64 ((m / 128 : Nat) : Int))), (4, (Value.slice none 0 0)), (8, (Value.bool true))] (j := 3) (by kernel_rfl) (by kernel_rfl) ?_
    refine Ops.keep (R := [(0, v14), (1, (Value.int IntKind.u64 ((m / 128 : Nat) : Int))), (4, (Value.slice none 0 0))]) (by kernel_rfl) ?_
    refine Ops.done (by kernel_rfl) ?_
    exact ⟨(v14, m / 128, ys ++ [byte (m % 256 % 128 + 128)]), ⟨rfl, .inr hO17, (by rw [← hE, uv_ge (n := m) (by omega)]; rw [show byte (m % 256 % 128 + 128) = byte (m % 128 + 128) from (by rw [Nat.mod_mod_of_dvd m (by decide)])]; simp), (by omega), K19⟩, (show (m / 128) < m from by omega)⟩
  · rw [h3]
    have p21 : ¬ (((m : Nat) : Int) > 127) := of_decide_eq_false h3
    refine q_exit (id := 0) (by kernel_rfl) ?_
    refine q_seq (by kernel_rfl) ?_
    refine q_region (by kernel_rfl) ?_
    refine Ops.regs 3 [(4, (Value.slice none 0 0)), (17, v), (19, (Value.int IntKind.u8 (IntKind.u8.wrap ((m : Nat) : Int))))] (j := 3) (by kernel_rfl) (by kernel_rfl) ?_
    have e22 : IntKind.u8.wrap ((m : Nat) : Int) = ((m % 256 : Nat) : Int) := u8_wrap m
    rw [e22]
    clear e22
    refine Ops.new (o := rowL [(Value.int IntKind.u8 ((m % 256 : Nat) : Int))] 5) (V := fun b => (Value.slice (some ⟨b, 0, none⟩) 1 1)) (by kernel_rfl) (d := (some 20)) (by kernel_rfl) (fun b => rfl) (fun b23 w24 hb25 H26 K27 hs28 => ?_)
    have nb23 : w.heap.size ≤ b23 := by have := K2.size; omega
    have K29 := K2.trans K27 (U := none_) (fun i h1 h2 => h2) (fun i h1 h2 => by exact h2)
    clear K2
    have F30 := hW.keep0 K27
    clear hW
    clear K27 hs28
    obtain ⟨v31, w32, hr33, hO34, K35⟩ := Wr.app (ty := 23) tyB F30 (lit1 (by omega) H26) (by simp) (by (try simp only at *); (try simp only [List.length_append] at *); (try simp only [List.length_cons] at *); (try simp only [List.length_nil] at *); omega) K29.size
    refine Ops.go (v := v31) (by kernel_rfl) (Runs.append (ts := #[23, 23]) (ty := 23) (vs := [v, (Value.slice (some ⟨b23, 0, none⟩) 1 1)]) (by kernel_rfl) hr33) (d := (some 21)) (by kernel_rfl) rfl ?_
    have K36 := Keeps.own2 K29 K35
    clear H26 F30 K29 hr33 K35
    refine Ops.regs 1 [(4, v31)] (j := 6) (by kernel_rfl) (by kernel_rfl) ?_
    refine Ops.done (by kernel_rfl) ?_
    refine q_ret (by kernel_rfl) ?_
    refine ⟨v31, retv_tmp rfl rfl, ?_⟩
    refine ⟨_, rfl, K36, ?_⟩
    have hfin : ys ++ [byte (m % 256)] = xs ++ uv m0 := by rw [← hE, uv_lt (by omega)]; rw [show m % 256 = m from (by omega)]
    rw [hfin] at hO34
    exact hO34

theorem RUint_calls (w : World) (v : Value) (xs : List UInt8) (m0 : Nat) (hv : RdB w v xs) (hm0 : m0 < 18446744073709551616) (hl : xs.length ≤ 140737488351232) : Calls Try.prog 25 ⟨[v, (Value.int IntKind.u64 ((m0 : Nat) : Int))]⟩ w (fun e w' => ∃ v', e = .returned v' ∧ Keeps none_ w w' ∧ OwnB w' w.heap.size 5 v' (xs ++ uv m0)) := by
  have hnil : OwnB w w.heap.size 5 (.slice none 0 0) [] := World.ownsRow_nil _ _ _ _
  have K0 : Keeps none_ w w := Keeps.refl w
  refine q_calls Try.func25 (by kernel_rfl) (by kernel_rfl) ?_
  refine q_seq (by kernel_rfl) ?_
  refine q_region (by kernel_rfl) ?_
  refine Ops.regs 1 [(0, v), (1, (Value.int IntKind.u64 ((m0 : Nat) : Int))), (4, (Value.slice none 0 0))] (j := 1) (by kernel_rfl) (by kernel_rfl) ?_
  refine Ops.done (by kernel_rfl) ?_
  refine q_seq (by kernel_rfl) ?_
  refine q_region (by kernel_rfl) ?_
  refine Ops.regs 1 [(0, v), (1, (Value.int IntKind.u64 ((m0 : Nat) : Int))), (4, (Value.slice none 0 0)), (5, (Value.slice none 0 0))] (j := 1) (by kernel_rfl) (by kernel_rfl) ?_
  refine Ops.done (by kernel_rfl) ?_
  refine q_seq (by kernel_rfl) ?_
  refine q_region (by kernel_rfl) ?_
  refine Ops.regs 2 [(1, (Value.int IntKind.u64 ((m0 : Nat) : Int))), (4, (Value.slice none 0 0)), (5, (Value.slice none 0 0)), (6, (Value.slice none 0 0)), (7, v)] (j := 2) (by kernel_rfl) (by kernel_rfl) ?_
  obtain ⟨v1, w2, hr3, hO4, K5⟩ := OwnB.app (ty := 23) tyB hnil (hv.keep0 (by omega) K0) (by (try simp only at *); (try simp only [List.length_append] at *); (try simp only [List.length_cons] at *); (try simp only [List.length_nil] at *); omega) K0.size
  refine Ops.go (v := v1) (by kernel_rfl) (Runs.append (ts := #[23, 23]) (ty := 23) (vs := [(Value.slice none 0 0), v]) (by kernel_rfl) hr3) (d := (some 8)) (by kernel_rfl) rfl ?_
  have K6 := Keeps.own2 K0 K5
  clear hnil K0 hr3 K5
  refine Ops.regs 1 [(1, (Value.int IntKind.u64 ((m0 : Nat) : Int))), (4, (Value.slice none 0 0)), (5, v1)] (j := 4) (by kernel_rfl) (by kernel_rfl) ?_
  refine Ops.done (by kernel_rfl) ?_
  refine q_seq (by kernel_rfl) ?_
  refine q_block (id := 0) (by kernel_rfl) ?_
  refine q_keep (R := [(1, (Value.int IntKind.u64 ((m0 : Nat) : Int))), (4, (Value.slice none 0 0)), (5, v1)]) (by kernel_rfl) ?_
  refine q_loop (fun (gs : Value × Nat × (List UInt8)) L (wx : World) => match gs with | (v, m, ys) => L = [(1, (Value.int IntKind.u64 ((m : Nat) : Int))), (4, (Value.slice none 0 0)), (5, v)] ∧ OwnB wx w.heap.size 5 v ys ∧ ys ++ uv m = xs ++ uv m0 ∧ m < 18446744073709551616 ∧ Keeps none_ w wx) (fun (gs : Value × Nat × (List UInt8)) => match gs with | (v, m, ys) => m) (v1, m0, xs) (by kernel_rfl) ⟨rfl, hO4, rfl, hm0, K6⟩ ?_
  clear hO4 K6
  rintro ⟨v, m, ys⟩ _ w7 ⟨rfl, hW, hE, hm, K8⟩
  have hlen := congrArg List.length hE
  simp only [List.length_append] at hlen
  have hu := uv_length_10 hm0
  have hp := uv_pos m
  refine q_seq (by kernel_rfl) ?_
  refine q_seq (by kernel_rfl) ?_
  refine q_region (by kernel_rfl) ?_
  refine Ops.regs 2 [(1, (Value.int IntKind.u64 ((m : Nat) : Int))), (4, (Value.slice none 0 0)), (5, v), (10, (Value.bool (decide (((m : Nat) : Int) ≥ 128))))] (j := 2) (by kernel_rfl) (by kernel_rfl) ?_
  refine Ops.done (by kernel_rfl) ?_
  refine q_cond (o := .tmp 10) (b := (decide (((m : Nat) : Int) ≥ 128))) (by kernel_rfl) rfl (fun h9 => ?_) (fun h9 => ?_)
  · rw [h9]
    have p10 : ((m : Nat) : Int) ≥ 128 := of_decide_eq_true h9
    refine q_skip (by kernel_rfl) ?_
    refine q_block (id := 1) (by kernel_rfl) ?_
    refine q_seq (by kernel_rfl) ?_
    refine q_region (by kernel_rfl) ?_
    refine Ops.regs 3 [(1, (Value.int IntKind.u64 ((m : Nat) : Int))), (4, (Value.slice none 0 0)), (5, v), (10, (Value.bool true)), (11, v), (13, (Value.int IntKind.u64 ((((m : Nat) : Int)).tmod 128)))] (j := 3) (by kernel_rfl) (by kernel_rfl) ?_
    have e11 : (((m : Nat) : Int)).tmod 128 = ((m % 128 : Nat) : Int) := tmod_nat m 128
    rw [e11]
    clear e11
    refine Ops.regs 1 [(1, (Value.int IntKind.u64 ((m : Nat) : Int))), (4, (Value.slice none 0 0)), (5, v), (10, (Value.bool true)), (11, v), (14, (Value.int IntKind.u8 (IntKind.u8.wrap ((m % 128 : Nat) : Int))))] (j := 4) (by kernel_rfl) (by kernel_rfl) ?_
    have e12 : IntKind.u8.wrap ((m % 128 : Nat) : Int) = ((m % 128 : Nat) : Int) := wrap_u8 (by omega) (by omega)
    rw [e12]
    clear e12
    refine Ops.regs 1 [(1, (Value.int IntKind.u64 ((m : Nat) : Int))), (4, (Value.slice none 0 0)), (5, v), (10, (Value.bool true)), (11, v), (15, (Value.int IntKind.u8 (IntKind.u8.wrap (((m % 128 : Nat) : Int) + 128))))] (j := 5) (by kernel_rfl) (by kernel_rfl) ?_
    have e13 : IntKind.u8.wrap (((m % 128 : Nat) : Int) + 128) = (((m % 128) + 128 : Nat) : Int) := by rw [wrap_u8 (by omega) (by omega)]; omega
    rw [e13]
    clear e13
    refine Ops.new (o := rowL [(Value.int IntKind.u8 (((m % 128) + 128 : Nat) : Int))] 5) (V := fun b => (Value.slice (some ⟨b, 0, none⟩) 1 1)) (by kernel_rfl) (d := (some 16)) (by kernel_rfl) (fun b => rfl) (fun b14 w15 hb16 H17 K18 hs19 => ?_)
    have nb14 : w.heap.size ≤ b14 := by have := K8.size; omega
    have ob20 : ∀ i, (v).ownBlock = some i → i < b14 := fun i hi => by have := (World.ownsRow.lt hW i hi).2; omega
    have K21 := K8.trans K18 (U := none_) (fun i h1 h2 => h2) (fun i h1 h2 => by exact h2)
    clear K8
    have F22 := own_keep0 hW K18
    clear hW
    clear K18 hs19
    obtain ⟨v23, w24, hr25, hO26, K27⟩ := OwnB.app (ty := 23) tyB F22 (lit1 (by omega) H17) (by (try simp only at *); (try simp only [List.length_append] at *); (try simp only [List.length_cons] at *); (try simp only [List.length_nil] at *); omega) K21.size
    refine Ops.go (v := v23) (by kernel_rfl) (Runs.append (ts := #[23, 23]) (ty := 23) (vs := [v, (Value.slice (some ⟨b14, 0, none⟩) 1 1)]) (by kernel_rfl) hr25) (d := (some 17)) (by kernel_rfl) rfl ?_
    have K28 := Keeps.own2 K21 K27
    clear H17 F22 K21 hr25 K27
    refine Ops.regs 1 [(1, (Value.int IntKind.u64 ((m : Nat) : Int))), (4, (Value.slice none 0 0)), (5, v23), (10, (Value.bool true))] (j := 8) (by kernel_rfl) (by kernel_rfl) ?_
    refine Ops.done (by kernel_rfl) ?_
    refine q_region (by kernel_rfl) ?_
    refine Ops.regs 2 [(1, (Value.int IntKind.u64 ((m : Nat) : Int))), (4, (Value.slice none 0 0)), (5, v23), (10, (Value.bool true)), (19, (Value.int IntKind.u64 (IntKind.u64.wrap ((((m : Nat) : Int)).tdiv 128))))] (j := 2) (by kernel_rfl) (by kernel_rfl) ?_
    have e29 : IntKind.u64.wrap ((((m : Nat) : Int)).tdiv 128) = ((m / 128 : Nat) : Int) := (congrArg (IntKind.u64.wrap ·) (tdiv_nat m 128)).trans (wrap_u64 (by omega) (by omega))
    rw [e29]
    clear e29
    refine Ops.regs 1 [(1, (Value.int IntKind.u64 ((m / 128 : Nat) : Int))), (4, (Value.slice none 0 0)), (5, v23), (10, (Value.bool true))] (j := 3) (by kernel_rfl) (by kernel_rfl) ?_
    refine Ops.keep (R := [(1, (Value.int IntKind.u64 ((m / 128 : Nat) : Int))), (4, (Value.slice none 0 0)), (5, v23)]) (by kernel_rfl) ?_
    refine Ops.done (by kernel_rfl) ?_
    exact ⟨(v23, m / 128, ys ++ [byte (m % 128 + 128)]), ⟨rfl, hO26, (by rw [← hE, uv_ge (n := m) (by omega)]; simp), (by omega), K28⟩, (show (m / 128) < m from by omega)⟩
  · rw [h9]
    have p30 : ¬ (((m : Nat) : Int) ≥ 128) := of_decide_eq_false h9
    refine q_exit (id := 0) (by kernel_rfl) ?_
    refine q_seq (by kernel_rfl) ?_
    refine q_region (by kernel_rfl) ?_
    refine Ops.regs 3 [(4, (Value.slice none 0 0)), (5, v), (20, v), (22, (Value.int IntKind.u8 (IntKind.u8.wrap ((m : Nat) : Int))))] (j := 3) (by kernel_rfl) (by kernel_rfl) ?_
    have e31 : IntKind.u8.wrap ((m : Nat) : Int) = ((m % 256 : Nat) : Int) := u8_wrap m
    rw [e31]
    clear e31
    refine Ops.new (o := rowL [(Value.int IntKind.u8 ((m % 256 : Nat) : Int))] 5) (V := fun b => (Value.slice (some ⟨b, 0, none⟩) 1 1)) (by kernel_rfl) (d := (some 23)) (by kernel_rfl) (fun b => rfl) (fun b32 w33 hb34 H35 K36 hs37 => ?_)
    have nb32 : w.heap.size ≤ b32 := by have := K8.size; omega
    have ob38 : ∀ i, (v).ownBlock = some i → i < b32 := fun i hi => by have := (World.ownsRow.lt hW i hi).2; omega
    have K39 := K8.trans K36 (U := none_) (fun i h1 h2 => h2) (fun i h1 h2 => by exact h2)
    clear K8
    have F40 := own_keep0 hW K36
    clear hW
    clear K36 hs37
    obtain ⟨v41, w42, hr43, hO44, K45⟩ := OwnB.app (ty := 23) tyB F40 (lit1 (by omega) H35) (by (try simp only at *); (try simp only [List.length_append] at *); (try simp only [List.length_cons] at *); (try simp only [List.length_nil] at *); omega) K39.size
    refine Ops.go (v := v41) (by kernel_rfl) (Runs.append (ts := #[23, 23]) (ty := 23) (vs := [v, (Value.slice (some ⟨b32, 0, none⟩) 1 1)]) (by kernel_rfl) hr43) (d := (some 24)) (by kernel_rfl) rfl ?_
    have K46 := Keeps.own2 K39 K45
    clear H35 F40 K39 hr43 K45
    refine Ops.regs 1 [(4, (Value.slice none 0 0)), (5, v41)] (j := 6) (by kernel_rfl) (by kernel_rfl) ?_
    refine Ops.done (by kernel_rfl) ?_
    refine q_seq (by kernel_rfl) ?_
    refine q_region (by kernel_rfl) ?_
    refine Ops.regs 2 [(4, v41)] (j := 2) (by kernel_rfl) (by kernel_rfl) ?_
    refine Ops.done (by kernel_rfl) ?_
    refine q_ret (by kernel_rfl) ?_
    refine ⟨v41, retv_tmp rfl rfl, ?_⟩
    refine ⟨_, rfl, K46, ?_⟩
    have hfin : ys ++ [byte (m % 256)] = xs ++ uv m0 := by rw [← hE, uv_lt (by omega)]; rw [show m % 256 = m from (by omega)]
    rw [hfin] at hO44
    exact hO44

theorem Int_calls (w : World) (v : Value) (xs : List UInt8) (n : Int) (hv : RdB w v xs) (hn : -9223372036854775808 ≤ n ∧ n ≤ 9223372036854775807) (hl : xs.length ≤ 140737488351232) : Calls Try.prog 26 ⟨[v, (i64 n)]⟩ w (fun e w' => ∃ v', e = .returned v' ∧ Keeps none_ w w' ∧ OwnB w' w.heap.size 5 v' (xs ++ iv n)) := by
  have hz := zz_lt hn
  have hz1 := zz_neg n
  have hz2 := zz_pos n
  have K0 : Keeps none_ w w := Keeps.refl w
  refine q_calls Try.func26 (by kernel_rfl) (by kernel_rfl) ?_
  refine q_seq (by kernel_rfl) ?_
  refine q_region (by kernel_rfl) ?_
  refine Ops.regs 1 [(0, v), (1, (i64 n)), (4, (Value.slice none 0 0))] (j := 1) (by kernel_rfl) (by kernel_rfl) ?_
  refine Ops.done (by kernel_rfl) ?_
  refine q_seq (by kernel_rfl) ?_
  refine q_region (by kernel_rfl) ?_
  refine Ops.regs 7 [(4, (Value.slice none 0 0)), (5, v), (8, (Value.int IntKind.u64 (IntKind.u64.wrap ((IntKind.u64.wrap n) * 2)))), (11, (Value.int IntKind.u64 (IntKind.u64.wrap ((n).fdiv 9223372036854775808))))] (j := 7) (by kernel_rfl) (by kernel_rfl) ?_
  refine Ops.go (v := (Value.int IntKind.u64 ((zz n : Nat) : Int))) (by kernel_rfl) (Runs.int (op := .xor) (t := 22) (by kernel_rfl) (run_zigzag hn)) (d := (some 12)) (by kernel_rfl) rfl ?_
  refine Ops.call (by kernel_rfl) (d := (some 13)) (by kernel_rfl) (Uint_calls _ v xs (zz n) (hv.keep0 (by omega) K0) (by omega) (by (try simp only at *); (try simp only [List.length_append] at *); (try simp only [List.length_cons] at *); (try simp only [List.length_nil] at *); omega)) ?_
  rintro _ w3 ⟨v2, rfl, K4, hO5⟩
  have O6 := own_base hO5 K0.size
  clear hO5
  have hL1 := uv_length_10 (n := zz n) (by omega)
  refine ⟨_, _, rfl, rfl, ?_⟩
  have K7 := K0.trans K4 (U := none_) (fun i h1 h2 => h2) (fun i h1 h2 => by exact h2)
  clear K0
  clear K4
  refine Ops.regs 1 [(4, v2)] (j := 10) (by kernel_rfl) (by kernel_rfl) ?_
  refine Ops.done (by kernel_rfl) ?_
  refine q_ret (by kernel_rfl) ?_
  refine ⟨v2, retv_tmp rfl rfl, ?_⟩
  exact ⟨_, rfl, K7, O6⟩

theorem RInt_calls (w : World) (v : Value) (xs : List UInt8) (n : Int) (hv : RdB w v xs) (hn : -9223372036854775808 ≤ n ∧ n ≤ 9223372036854775807) (hl : xs.length ≤ 140737488351232) : Calls Try.prog 27 ⟨[v, (i64 n)]⟩ w (fun e w' => ∃ v', e = .returned v' ∧ Keeps none_ w w' ∧ OwnB w' w.heap.size 5 v' (xs ++ iv n)) := by
  have hz := zz_lt hn
  have hz1 := zz_neg n
  have hz2 := zz_pos n
  have K0 : Keeps none_ w w := Keeps.refl w
  refine q_calls Try.func27 (by kernel_rfl) (by kernel_rfl) ?_
  refine q_seq (by kernel_rfl) ?_
  refine q_region (by kernel_rfl) ?_
  refine Ops.regs 1 [(0, v), (1, (i64 n)), (4, (Value.slice none 0 0))] (j := 1) (by kernel_rfl) (by kernel_rfl) ?_
  refine Ops.done (by kernel_rfl) ?_
  refine q_seq (by kernel_rfl) ?_
  refine q_seq (by kernel_rfl) ?_
  refine q_region (by kernel_rfl) ?_
  refine Ops.regs 2 [(0, v), (1, (i64 n)), (4, (Value.slice none 0 0)), (6, (Value.bool (decide (n < 0))))] (j := 2) (by kernel_rfl) (by kernel_rfl) ?_
  refine Ops.done (by kernel_rfl) ?_
  refine q_cond (o := .tmp 6) (b := (decide (n < 0))) (by kernel_rfl) rfl (fun h1 => ?_) (fun h1 => ?_)
  · rw [h1]
    have p2 : n < 0 := of_decide_eq_true h1
    refine q_seq (by kernel_rfl) ?_
    refine q_region (by kernel_rfl) ?_
    refine Ops.regs 3 [(0, v), (1, (i64 n)), (4, (Value.slice none 0 0)), (7, v), (9, (i64 (IntKind.i64.wrap (n + 1))))] (j := 3) (by kernel_rfl) (by kernel_rfl) ?_
    have e3 : IntKind.i64.wrap (n + 1) = n + 1 := wrap_i64 (by omega) (by omega)
    rw [e3]
    refine Ops.regs 1 [(0, v), (1, (i64 n)), (4, (Value.slice none 0 0)), (7, v), (10, (i64 (IntKind.i64.wrap (0 - (n + 1)))))] (j := 4) (by kernel_rfl) (by kernel_rfl) ?_
    have e4 : IntKind.i64.wrap (0 - (n + 1)) = 0 - (n + 1) := wrap_i64 (by omega) (by omega)
    rw [e4]
    refine Ops.regs 1 [(0, v), (1, (i64 n)), (4, (Value.slice none 0 0)), (7, v), (11, (Value.int IntKind.u64 (IntKind.u64.wrap (0 - (n + 1)))))] (j := 5) (by kernel_rfl) (by kernel_rfl) ?_
    have e5 : IntKind.u64.wrap (0 - (n + 1)) = 0 - (n + 1) := wrap_u64 (by omega) (by omega)
    rw [e5]
    refine Ops.regs 1 [(0, v), (1, (i64 n)), (4, (Value.slice none 0 0)), (7, v), (12, (Value.int IntKind.u64 (IntKind.u64.wrap (2 * (0 - (n + 1))))))] (j := 6) (by kernel_rfl) (by kernel_rfl) ?_
    have e6 : IntKind.u64.wrap (2 * (0 - (n + 1))) = 2 * (0 - (n + 1)) := wrap_u64 (by omega) (by omega)
    rw [e6]
    refine Ops.regs 1 [(0, v), (1, (i64 n)), (4, (Value.slice none 0 0)), (7, v), (13, (Value.int IntKind.u64 (IntKind.u64.wrap ((2 * (0 - (n + 1))) + 1))))] (j := 7) (by kernel_rfl) (by kernel_rfl) ?_
    have e7 : IntKind.u64.wrap ((2 * (0 - (n + 1))) + 1) = ((zz n : Nat) : Int) := by rw [wrap_u64 (by omega) (by omega)]; omega
    rw [e7]
    refine Ops.call (by kernel_rfl) (d := (some 14)) (by kernel_rfl) (RUint_calls _ v xs (zz n) (hv.keep0 (by omega) K0) (by omega) (by (try simp only at *); (try simp only [List.length_append] at *); (try simp only [List.length_cons] at *); (try simp only [List.length_nil] at *); omega)) ?_
    rintro _ w10 ⟨v9, rfl, K11, hO12⟩
    have O13 := own_base hO12 K0.size
    clear hO12
    have hL8 := uv_length_10 (n := zz n) (by omega)
    refine ⟨_, _, rfl, rfl, ?_⟩
    have K14 := K0.trans K11 (U := none_) (fun i h1 h2 => h2) (fun i h1 h2 => by exact h2)
    clear K0
    clear K11
    refine Ops.regs 1 [(0, v), (1, (i64 n)), (4, v9)] (j := 9) (by kernel_rfl) (by kernel_rfl) ?_
    refine Ops.done (by kernel_rfl) ?_
    refine q_ret (by kernel_rfl) ?_
    refine ⟨v9, retv_tmp rfl rfl, ?_⟩
    exact ⟨_, rfl, K14, O13⟩
  · rw [h1]
    have p15 : ¬ (n < 0) := of_decide_eq_false h1
    refine q_skip (by kernel_rfl) ?_
    refine q_seq (by kernel_rfl) ?_
    refine q_region (by kernel_rfl) ?_
    refine Ops.regs 3 [(4, (Value.slice none 0 0)), (15, v), (17, (Value.int IntKind.u64 (IntKind.u64.wrap (n))))] (j := 3) (by kernel_rfl) (by kernel_rfl) ?_
    have e16 : IntKind.u64.wrap (n) = n := wrap_u64 (by omega) (by omega)
    rw [e16]
    refine Ops.regs 1 [(4, (Value.slice none 0 0)), (15, v), (18, (Value.int IntKind.u64 (IntKind.u64.wrap (2 * n))))] (j := 4) (by kernel_rfl) (by kernel_rfl) ?_
    have e17 : IntKind.u64.wrap (2 * n) = ((zz n : Nat) : Int) := by rw [wrap_u64 (by omega) (by omega)]; omega
    rw [e17]
    refine Ops.call (by kernel_rfl) (d := (some 19)) (by kernel_rfl) (RUint_calls _ v xs (zz n) (hv.keep0 (by omega) K0) (by omega) (by (try simp only at *); (try simp only [List.length_append] at *); (try simp only [List.length_cons] at *); (try simp only [List.length_nil] at *); omega)) ?_
    rintro _ w20 ⟨v19, rfl, K21, hO22⟩
    have O23 := own_base hO22 K0.size
    clear hO22
    have hL18 := uv_length_10 (n := zz n) (by omega)
    refine ⟨_, _, rfl, rfl, ?_⟩
    have K24 := K0.trans K21 (U := none_) (fun i h1 h2 => h2) (fun i h1 h2 => by exact h2)
    clear K0
    clear K21
    refine Ops.regs 1 [(4, v19)] (j := 6) (by kernel_rfl) (by kernel_rfl) ?_
    refine Ops.done (by kernel_rfl) ?_
    refine q_ret (by kernel_rfl) ?_
    refine ⟨v19, retv_tmp rfl rfl, ?_⟩
    exact ⟨_, rfl, K24, O23⟩

theorem scan_calls (w : World) (A : Option Addr) (c : Nat) (bs : List UInt8) (hv : RdB w (.slice A bs.length c) bs) (hl : bs.length ≤ 140737488351232) : Calls Try.prog 59 ⟨[(Value.slice A bs.length c)]⟩ w (fun e w' => e = .returned (.tuple #[.int .u64 (((scanB bs).1 : Nat) : Int), i64 (((scanB bs).2.1 : Nat) : Int), i64 (scanB bs).2.2]) ∧ Keeps none_ w w') := by
  have K0 : Keeps none_ w w := Keeps.refl w
  refine q_calls Try.func59 (by kernel_rfl) (by kernel_rfl) ?_
  refine q_seq (by kernel_rfl) ?_
  refine q_region (by kernel_rfl) ?_
  refine Ops.regs 3 [(0, (Value.slice A bs.length c)), (2, (Value.int IntKind.u64 0)), (3, (i64 0)), (4, (i64 0))] (j := 3) (by kernel_rfl) (by kernel_rfl) ?_
  refine Ops.done (by kernel_rfl) ?_
  refine q_scope (by kernel_rfl) ?_
  refine q_seq (by kernel_rfl) ?_
  refine q_region (by kernel_rfl) ?_
  refine Ops.regs 2 [(0, (Value.slice A bs.length c)), (2, (Value.int IntKind.u64 0)), (3, (i64 0)), (4, (i64 0)), (5, (Value.int IntKind.u64 0)), (6, (i64 10))] (j := 2) (by kernel_rfl) (by kernel_rfl) ?_
  refine Ops.done (by kernel_rfl) ?_
  refine q_seq (by kernel_rfl) ?_
  refine q_region (by kernel_rfl) ?_
  refine Ops.regs 1 [(0, (Value.slice A bs.length c)), (2, (Value.int IntKind.u64 0)), (3, (i64 0)), (4, (i64 0)), (5, (Value.int IntKind.u64 0)), (6, (i64 10)), (7, (i64 0))] (j := 1) (by kernel_rfl) (by kernel_rfl) ?_
  refine Ops.done (by kernel_rfl) ?_
  refine q_seq (by kernel_rfl) ?_
  refine q_label (by kernel_rfl) ?_
  refine q_seq (by kernel_rfl) ?_
  refine q_seq (by kernel_rfl) ?_
  refine q_region (by kernel_rfl) ?_
  refine Ops.regs 3 [(2, (Value.int IntKind.u64 0)), (3, (i64 0)), (4, (i64 0)), (5, (Value.int IntKind.u64 0)), (6, (i64 10)), (7, (i64 0)), (10, (Value.slice A bs.length c)), (11, (i64 ((bs.length : Nat) : Int))), (12, (i64 0))] (j := 3) (by kernel_rfl) (by kernel_rfl) ?_
  refine Ops.done (by kernel_rfl) ?_
  refine q_block (id := 0) (by kernel_rfl) ?_
  refine q_keep (R := [(2, (Value.int IntKind.u64 0)), (3, (i64 0)), (4, (i64 0)), (5, (Value.int IntKind.u64 0)), (6, (i64 10)), (7, (i64 0)), (10, (Value.slice A bs.length c)), (11, (i64 ((bs.length : Nat) : Int))), (12, (i64 0))]) (by kernel_rfl) ?_
  refine q_loop (fun (gs : Nat × Nat) L (wx : World) => match gs with | (i, n) => L = [(2, (Value.int IntKind.u64 0)), (3, (i64 0)), (4, (i64 0)), (5, (Value.int IntKind.u64 ((n : Nat) : Int))), (6, (i64 10)), (7, (i64 0)), (10, (Value.slice A bs.length c)), (11, (i64 ((bs.length : Nat) : Int))), (12, (i64 ((i : Nat) : Int)))] ∧ scanA (bs.drop i) i n = scanB bs ∧ i ≤ 9 ∧ i ≤ bs.length ∧ n < p7 i ∧ Keeps none_ w wx) (fun (gs : Nat × Nat) => match gs with | (i, n) => bs.length - i) (0, 0) (by kernel_rfl) ⟨rfl, rfl, (by omega), (by omega), (p7_pos 0), K0⟩ ?_
  clear K0
  rintro ⟨i, n⟩ _ w1 ⟨rfl, hE, hi, hil, hn, K2⟩
  refine q_seq (by kernel_rfl) ?_
  refine q_region (by kernel_rfl) ?_
  refine Ops.regs 1 [(2, (Value.int IntKind.u64 0)), (3, (i64 0)), (4, (i64 0)), (5, (Value.int IntKind.u64 ((n : Nat) : Int))), (6, (i64 10)), (7, (i64 0)), (10, (Value.slice A bs.length c)), (11, (i64 ((bs.length : Nat) : Int))), (12, (i64 ((i : Nat) : Int))), (13, (Value.bool (decide (((i : Nat) : Int) < ((bs.length : Nat) : Int)))))] (j := 1) (by kernel_rfl) (by kernel_rfl) ?_
  refine Ops.done (by kernel_rfl) ?_
  refine q_seq (by kernel_rfl) ?_
  refine q_cond (o := .tmp 13) (b := (decide (((i : Nat) : Int) < ((bs.length : Nat) : Int)))) (by kernel_rfl) rfl (fun h3 => ?_) (fun h3 => ?_)
  · rw [h3]
    have p4 : ((i : Nat) : Int) < ((bs.length : Nat) : Int) := of_decide_eq_true h3
    obtain ⟨x, lb, lo, hx, hA, hLd⟩ := RdB.at (P := Try.prog) (t := 5) hv (k := i) (by kernel_rfl) (by omega)
    have hx256 : x.toNat < 256 := x.toNat_lt
    refine q_skip (by kernel_rfl) ?_
    refine q_seq (by kernel_rfl) ?_
    refine q_block (id := 1) (by kernel_rfl) ?_
    refine q_seq (by kernel_rfl) ?_
    refine q_region (by kernel_rfl) ?_
    refine Ops.regs 1 [(2, (Value.int IntKind.u64 0)), (3, (i64 0)), (4, (i64 0)), (5, (Value.int IntKind.u64 ((n : Nat) : Int))), (6, (i64 10)), (7, (i64 0)), (10, (Value.slice A bs.length c)), (11, (i64 ((bs.length : Nat) : Int))), (12, (i64 ((i : Nat) : Int))), (13, (Value.bool true)), (14, (i64 ((i : Nat) : Int)))] (j := 1) (by kernel_rfl) (by kernel_rfl) ?_
    refine Ops.go (by kernel_rfl) (Runs.ixSliceE (k := IntKind.i64) (t := 23) (len := bs.length) (cap := c) (s := 1) (off' := lo + i) (i := ((i : Nat) : Int)) hA (by kernel_rfl) (by kernel_rfl) (by omega) (by omega) (by omega)) (d := (some 15)) (by kernel_rfl) rfl ?_
    refine Ops.go (v := (Value.int IntKind.u8 ((x.toNat : Nat) : Int))) (by kernel_rfl) (Runs.load (t := 5) (a := ⟨lb, lo + i, none⟩) (by kernel_rfl) (hLd _ _ K2 (fun h => h))) (d := (some 16)) (by kernel_rfl) rfl ?_
    refine Ops.regs 2 [(2, (Value.int IntKind.u64 0)), (3, (i64 0)), (4, (i64 0)), (5, (Value.int IntKind.u64 ((n : Nat) : Int))), (6, (i64 10)), (7, (i64 0)), (8, (i64 ((i : Nat) : Int))), (9, (Value.int IntKind.u8 ((x.toNat : Nat) : Int))), (10, (Value.slice A bs.length c)), (11, (i64 ((bs.length : Nat) : Int))), (12, (i64 ((i : Nat) : Int))), (13, (Value.bool true))] (j := 5) (by kernel_rfl) (by kernel_rfl) ?_
    refine Ops.done (by kernel_rfl) ?_
    refine q_seq (by kernel_rfl) ?_
    refine q_seq (by kernel_rfl) ?_
    refine q_region (by kernel_rfl) ?_
    refine Ops.regs 3 [(2, (Value.int IntKind.u64 0)), (3, (i64 0)), (4, (i64 0)), (5, (Value.int IntKind.u64 ((n : Nat) : Int))), (6, (i64 10)), (7, (i64 0)), (8, (i64 ((i : Nat) : Int))), (9, (Value.int IntKind.u8 ((x.toNat : Nat) : Int))), (10, (Value.slice A bs.length c)), (11, (i64 ((bs.length : Nat) : Int))), (12, (i64 ((i : Nat) : Int))), (13, (Value.bool true)), (19, (Value.bool (((i : Nat) : Int) == 9)))] (j := 3) (by kernel_rfl) (by kernel_rfl) ?_
    refine Ops.split (((i : Nat) : Int) == 9) (fun h5 => ?_) (fun h5 => ?_)
    · rw [h5]
      have p6 : ((i : Nat) : Int) = 9 := of_beq_t h5
      refine Ops.regs 4 [(2, (Value.int IntKind.u64 0)), (3, (i64 0)), (4, (i64 0)), (5, (Value.int IntKind.u64 ((n : Nat) : Int))), (6, (i64 10)), (7, (i64 0)), (8, (i64 ((i : Nat) : Int))), (9, (Value.int IntKind.u8 ((x.toNat : Nat) : Int))), (10, (Value.slice A bs.length c)), (11, (i64 ((bs.length : Nat) : Int))), (12, (i64 ((i : Nat) : Int))), (13, (Value.bool true)), (23, (Value.bool (decide (((x.toNat : Nat) : Int) > 1))))] (j := 7) (by kernel_rfl) (by kernel_rfl) ?_
      refine Ops.split (decide (((x.toNat : Nat) : Int) > 1)) (fun h7 => ?_) (fun h7 => ?_)
      · rw [h7]
        have p8 : ((x.toNat : Nat) : Int) > 1 := of_decide_eq_true h7
        refine Ops.regs 7 [(2, (Value.int IntKind.u64 0)), (3, (i64 0)), (4, (i64 0)), (5, (Value.int IntKind.u64 ((n : Nat) : Int))), (6, (i64 10)), (7, (i64 0)), (8, (i64 ((i : Nat) : Int))), (9, (Value.int IntKind.u8 ((x.toNat : Nat) : Int))), (10, (Value.slice A bs.length c)), (11, (i64 ((bs.length : Nat) : Int))), (12, (i64 ((i : Nat) : Int))), (13, (Value.bool true)), (30, (Value.bool true))] (j := 14) (by kernel_rfl) (by kernel_rfl) ?_
        refine Ops.done (by kernel_rfl) ?_
        refine q_then (o := .tmp 30) (by kernel_rfl) rfl ?_
        refine q_seq (by kernel_rfl) ?_
        refine q_region (by kernel_rfl) ?_
        refine Ops.regs 1 [(2, (Value.int IntKind.u64 0)), (3, (i64 0)), (4, (i64 0)), (5, (Value.int IntKind.u64 ((n : Nat) : Int))), (6, (i64 11)), (7, (i64 0)), (8, (i64 ((i : Nat) : Int))), (9, (Value.int IntKind.u8 ((x.toNat : Nat) : Int))), (10, (Value.slice A bs.length c)), (11, (i64 ((bs.length : Nat) : Int))), (12, (i64 ((i : Nat) : Int))), (13, (Value.bool true)), (30, (Value.bool true))] (j := 1) (by kernel_rfl) (by kernel_rfl) ?_
        refine Ops.done (by kernel_rfl) ?_
        refine q_exit (id := 0) (by kernel_rfl) ?_
        refine q_seq (by kernel_rfl) ?_
        refine q_region (by kernel_rfl) ?_
        refine Ops.regs 6 [(2, (Value.int IntKind.u64 ((n : Nat) : Int))), (3, (i64 0)), (4, (i64 11))] (j := 6) (by kernel_rfl) (by kernel_rfl) ?_
        refine Ops.done (by kernel_rfl) ?_
        refine q_ret (by kernel_rfl) ?_
        refine ⟨(Value.tuple #[(Value.int IntKind.u64 ((n : Nat) : Int)), (i64 0), (i64 11)]), retv_tmp3 rfl rfl rfl rfl, ?_⟩
        have e : scanB bs = (n, 0, 11) := by rw [← hE]; first | (exfalso; omega) | (rw [hx, scanA_bad (by omega)]; done) | (rw [hx, scanA_end (by omega) (by omega)]; done) | (rw [show i = bs.length from by omega, List.drop_length]; rfl)
        exact ⟨by first | (rw [e]; done) | (rw [e]; rfl), K2⟩
      · rw [h7]
        have p9 : ¬ (((x.toNat : Nat) : Int) > 1) := of_decide_eq_false h7
        refine Ops.regs 3 [(2, (Value.int IntKind.u64 0)), (3, (i64 0)), (4, (i64 0)), (5, (Value.int IntKind.u64 ((n : Nat) : Int))), (6, (i64 10)), (7, (i64 0)), (8, (i64 ((i : Nat) : Int))), (9, (Value.int IntKind.u8 ((x.toNat : Nat) : Int))), (10, (Value.slice A bs.length c)), (11, (i64 ((bs.length : Nat) : Int))), (12, (i64 ((i : Nat) : Int))), (13, (Value.bool true)), (23, (Value.bool false)), (26, (Value.bool (decide (((i : Nat) : Int) > 0))))] (j := 10) (by kernel_rfl) (by kernel_rfl) ?_
        refine Ops.split (decide (((i : Nat) : Int) > 0)) (fun h10 => ?_) (fun h10 => ?_)
        · rw [h10]
          have p11 : ((i : Nat) : Int) > 0 := of_decide_eq_true h10
          refine Ops.regs 4 [(2, (Value.int IntKind.u64 0)), (3, (i64 0)), (4, (i64 0)), (5, (Value.int IntKind.u64 ((n : Nat) : Int))), (6, (i64 10)), (7, (i64 0)), (8, (i64 ((i : Nat) : Int))), (9, (Value.int IntKind.u8 ((x.toNat : Nat) : Int))), (10, (Value.slice A bs.length c)), (11, (i64 ((bs.length : Nat) : Int))), (12, (i64 ((i : Nat) : Int))), (13, (Value.bool true)), (30, (Value.bool (((x.toNat : Nat) : Int) == 0)))] (j := 14) (by kernel_rfl) (by kernel_rfl) ?_
          refine Ops.done (by kernel_rfl) ?_
          refine q_cond (o := .tmp 30) (b := (((x.toNat : Nat) : Int) == 0)) (by kernel_rfl) rfl (fun h12 => ?_) (fun h12 => ?_)
          · rw [h12]
            have p13 : ((x.toNat : Nat) : Int) = 0 := of_beq_t h12
            refine q_seq (by kernel_rfl) ?_
            refine q_region (by kernel_rfl) ?_
            refine Ops.regs 1 [(2, (Value.int IntKind.u64 0)), (3, (i64 0)), (4, (i64 0)), (5, (Value.int IntKind.u64 ((n : Nat) : Int))), (6, (i64 11)), (7, (i64 0)), (8, (i64 ((i : Nat) : Int))), (9, (Value.int IntKind.u8 ((x.toNat : Nat) : Int))), (10, (Value.slice A bs.length c)), (11, (i64 ((bs.length : Nat) : Int))), (12, (i64 ((i : Nat) : Int))), (13, (Value.bool true)), (30, (Value.bool true))] (j := 1) (by kernel_rfl) (by kernel_rfl) ?_
            refine Ops.done (by kernel_rfl) ?_
            refine q_exit (id := 0) (by kernel_rfl) ?_
            refine q_seq (by kernel_rfl) ?_
            refine q_region (by kernel_rfl) ?_
            refine Ops.regs 6 [(2, (Value.int IntKind.u64 ((n : Nat) : Int))), (3, (i64 0)), (4, (i64 11))] (j := 6) (by kernel_rfl) (by kernel_rfl) ?_
            refine Ops.done (by kernel_rfl) ?_
            refine q_ret (by kernel_rfl) ?_
            refine ⟨(Value.tuple #[(Value.int IntKind.u64 ((n : Nat) : Int)), (i64 0), (i64 11)]), retv_tmp3 rfl rfl rfl rfl, ?_⟩
            have e : scanB bs = (n, 0, 11) := by rw [← hE]; first | (exfalso; omega) | (rw [hx, scanA_bad (by omega)]; done) | (rw [hx, scanA_end (by omega) (by omega)]; done) | (rw [show i = bs.length from by omega, List.drop_length]; rfl)
            exact ⟨by first | (rw [e]; done) | (rw [e]; rfl), K2⟩
          · rw [h12]
            have p14 : ¬ (((x.toNat : Nat) : Int) = 0) := of_beq_f h12
            refine q_skip (by kernel_rfl) ?_
            refine q_seq (by kernel_rfl) ?_
            refine q_region (by kernel_rfl) ?_
            refine Ops.regs 2 [(2, (Value.int IntKind.u64 0)), (3, (i64 0)), (4, (i64 0)), (5, (Value.int IntKind.u64 ((n : Nat) : Int))), (6, (i64 10)), (7, (i64 0)), (8, (i64 ((i : Nat) : Int))), (9, (Value.int IntKind.u8 ((x.toNat : Nat) : Int))), (10, (Value.slice A bs.length c)), (11, (i64 ((bs.length : Nat) : Int))), (12, (i64 ((i : Nat) : Int))), (13, (Value.bool true)), (30, (Value.bool false)), (31, (Value.int IntKind.u64 ((n : Nat) : Int))), (32, (Value.int IntKind.u8 ((x.toNat : Nat) : Int)))] (j := 2) (by kernel_rfl) (by kernel_rfl) ?_
            refine Ops.go (v := (Value.int IntKind.u8 ((x.toNat % 128 : Nat) : Int))) (by kernel_rfl) (Runs.int (op := .and) (t := 5) (by kernel_rfl) (run_and127 (by omega))) (d := (some 33)) (by kernel_rfl) rfl ?_
            refine Ops.regs 1 [(2, (Value.int IntKind.u64 0)), (3, (i64 0)), (4, (i64 0)), (5, (Value.int IntKind.u64 ((n : Nat) : Int))), (6, (i64 10)), (7, (i64 0)), (8, (i64 ((i : Nat) : Int))), (9, (Value.int IntKind.u8 ((x.toNat : Nat) : Int))), (10, (Value.slice A bs.length c)), (11, (i64 ((bs.length : Nat) : Int))), (12, (i64 ((i : Nat) : Int))), (13, (Value.bool true)), (30, (Value.bool false)), (31, (Value.int IntKind.u64 ((n : Nat) : Int))), (34, (Value.int IntKind.u64 (IntKind.u64.wrap (((x.toNat % 128 : Nat) : Int)))))] (j := 4) (by kernel_rfl) (by kernel_rfl) ?_
            have e15 : IntKind.u64.wrap (((x.toNat % 128 : Nat) : Int)) = ((x.toNat % 128 : Nat) : Int) := wrap_u64 (by omega) (by omega)
            rw [e15]
            refine Ops.regs 2 [(2, (Value.int IntKind.u64 0)), (3, (i64 0)), (4, (i64 0)), (5, (Value.int IntKind.u64 ((n : Nat) : Int))), (6, (i64 10)), (7, (i64 0)), (8, (i64 ((i : Nat) : Int))), (9, (Value.int IntKind.u8 ((x.toNat : Nat) : Int))), (10, (Value.slice A bs.length c)), (11, (i64 ((bs.length : Nat) : Int))), (12, (i64 ((i : Nat) : Int))), (13, (Value.bool true)), (30, (Value.bool false)), (31, (Value.int IntKind.u64 ((n : Nat) : Int))), (34, (Value.int IntKind.u64 ((x.toNat % 128 : Nat) : Int))), (36, (i64 (IntKind.i64.wrap (7 * ((i : Nat) : Int)))))] (j := 6) (by kernel_rfl) (by kernel_rfl) ?_
            have e16 : IntKind.i64.wrap (7 * ((i : Nat) : Int)) = ((7 * i : Nat) : Int) := by rw [wrap_i64 (by omega) (by omega)]; omega
            rw [e16]
            clear e16
            have hr := scan_round (c := x) hi hn (by omega)
            refine Ops.go (v := (Value.int IntKind.u64 ((x.toNat % 128 * p7 i : Nat) : Int))) (by kernel_rfl) (Runs.int (op := .shl) (t := 22) (by kernel_rfl) (run_shl7 (k := IntKind.i64) (i := i) (s := ((7 * i : Nat) : Int)) (by omega) (by omega) hr.1)) (d := (some 37)) (by kernel_rfl) rfl ?_
            refine Ops.go (v := (Value.int IntKind.u64 ((n + x.toNat % 128 * p7 i : Nat) : Int))) (by kernel_rfl) (Runs.int (op := .or) (t := 22) (by kernel_rfl) (run_or7 hn hr.2.1)) (d := (some 38)) (by kernel_rfl) rfl ?_
            refine Ops.regs 1 [(2, (Value.int IntKind.u64 0)), (3, (i64 0)), (4, (i64 0)), (5, (Value.int IntKind.u64 ((n + x.toNat % 128 * p7 i : Nat) : Int))), (6, (i64 10)), (7, (i64 0)), (8, (i64 ((i : Nat) : Int))), (9, (Value.int IntKind.u8 ((x.toNat : Nat) : Int))), (10, (Value.slice A bs.length c)), (11, (i64 ((bs.length : Nat) : Int))), (12, (i64 ((i : Nat) : Int))), (13, (Value.bool true)), (30, (Value.bool false))] (j := 9) (by kernel_rfl) (by kernel_rfl) ?_
            refine Ops.done (by kernel_rfl) ?_
            refine q_seq (by kernel_rfl) ?_
            refine q_region (by kernel_rfl) ?_
            refine Ops.regs 2 [(2, (Value.int IntKind.u64 0)), (3, (i64 0)), (4, (i64 0)), (5, (Value.int IntKind.u64 ((n + x.toNat % 128 * p7 i : Nat) : Int))), (6, (i64 10)), (7, (i64 0)), (8, (i64 ((i : Nat) : Int))), (9, (Value.int IntKind.u8 ((x.toNat : Nat) : Int))), (10, (Value.slice A bs.length c)), (11, (i64 ((bs.length : Nat) : Int))), (12, (i64 ((i : Nat) : Int))), (13, (Value.bool true)), (30, (Value.bool false)), (40, (Value.bool (decide (((x.toNat : Nat) : Int) < 128))))] (j := 2) (by kernel_rfl) (by kernel_rfl) ?_
            refine Ops.done (by kernel_rfl) ?_
            refine q_cond (o := .tmp 40) (b := (decide (((x.toNat : Nat) : Int) < 128))) (by kernel_rfl) rfl (fun h17 => ?_) (fun h17 => ?_)
            · rw [h17]
              have p18 : ((x.toNat : Nat) : Int) < 128 := of_decide_eq_true h17
              refine q_seq (by kernel_rfl) ?_
              refine q_region (by kernel_rfl) ?_
              refine Ops.regs 2 [(2, (Value.int IntKind.u64 0)), (3, (i64 0)), (4, (i64 0)), (5, (Value.int IntKind.u64 ((n + x.toNat % 128 * p7 i : Nat) : Int))), (6, (i64 10)), (7, (i64 0)), (8, (i64 ((i : Nat) : Int))), (9, (Value.int IntKind.u8 ((x.toNat : Nat) : Int))), (10, (Value.slice A bs.length c)), (11, (i64 ((bs.length : Nat) : Int))), (12, (i64 ((i : Nat) : Int))), (13, (Value.bool true)), (30, (Value.bool false)), (40, (Value.bool true)), (42, (i64 (IntKind.i64.wrap (((i : Nat) : Int) + 1))))] (j := 2) (by kernel_rfl) (by kernel_rfl) ?_
              have e19 : IntKind.i64.wrap (((i : Nat) : Int) + 1) = ((i + 1 : Nat) : Int) := by rw [wrap_i64 (by omega) (by omega)]; omega
              rw [e19]
              clear e19
              refine Ops.regs 2 [(2, (Value.int IntKind.u64 0)), (3, (i64 0)), (4, (i64 0)), (5, (Value.int IntKind.u64 ((n + x.toNat % 128 * p7 i : Nat) : Int))), (6, (i64 0)), (7, (i64 ((i + 1 : Nat) : Int))), (8, (i64 ((i : Nat) : Int))), (9, (Value.int IntKind.u8 ((x.toNat : Nat) : Int))), (10, (Value.slice A bs.length c)), (11, (i64 ((bs.length : Nat) : Int))), (12, (i64 ((i : Nat) : Int))), (13, (Value.bool true)), (30, (Value.bool false)), (40, (Value.bool true))] (j := 4) (by kernel_rfl) (by kernel_rfl) ?_
              refine Ops.done (by kernel_rfl) ?_
              refine q_exit (id := 0) (by kernel_rfl) ?_
              refine q_seq (by kernel_rfl) ?_
              refine q_region (by kernel_rfl) ?_
              refine Ops.regs 6 [(2, (Value.int IntKind.u64 ((n + x.toNat % 128 * p7 i : Nat) : Int))), (3, (i64 ((i + 1 : Nat) : Int))), (4, (i64 0))] (j := 6) (by kernel_rfl) (by kernel_rfl) ?_
              refine Ops.done (by kernel_rfl) ?_
              refine q_ret (by kernel_rfl) ?_
              refine ⟨(Value.tuple #[(Value.int IntKind.u64 ((n + x.toNat % 128 * p7 i : Nat) : Int)), (i64 ((i + 1 : Nat) : Int)), (i64 0)]), retv_tmp3 rfl rfl rfl rfl, ?_⟩
              have e : scanB bs = (n + x.toNat % 128 * p7 i, i + 1, 0) := by rw [← hE]; first | (exfalso; omega) | (rw [hx, scanA_bad (by omega)]; done) | (rw [hx, scanA_end (by omega) (by omega)]; done) | (rw [show i = bs.length from by omega, List.drop_length]; rfl)
              exact ⟨by first | (rw [e]; done) | (rw [e]; rfl), K2⟩
            · rw [h17]
              have p20 : ¬ (((x.toNat : Nat) : Int) < 128) := of_decide_eq_false h17
              refine q_skip (by kernel_rfl) ?_
              refine q_region (by kernel_rfl) ?_
              refine Ops.regs 1 [(2, (Value.int IntKind.u64 0)), (3, (i64 0)), (4, (i64 0)), (5, (Value.int IntKind.u64 ((n + x.toNat % 128 * p7 i : Nat) : Int))), (6, (i64 10)), (7, (i64 0)), (8, (i64 ((i : Nat) : Int))), (9, (Value.int IntKind.u8 ((x.toNat : Nat) : Int))), (10, (Value.slice A bs.length c)), (11, (i64 ((bs.length : Nat) : Int))), (12, (i64 ((i : Nat) : Int))), (13, (Value.bool true)), (30, (Value.bool false)), (40, (Value.bool false)), (43, (i64 (IntKind.i64.wrap (((i : Nat) : Int) + 1))))] (j := 1) (by kernel_rfl) (by kernel_rfl) ?_
              have e21 : IntKind.i64.wrap (((i : Nat) : Int) + 1) = ((i + 1 : Nat) : Int) := by rw [wrap_i64 (by omega) (by omega)]; omega
              rw [e21]
              clear e21
              refine Ops.regs 1 [(2, (Value.int IntKind.u64 0)), (3, (i64 0)), (4, (i64 0)), (5, (Value.int IntKind.u64 ((n + x.toNat % 128 * p7 i : Nat) : Int))), (6, (i64 10)), (7, (i64 0)), (8, (i64 ((i : Nat) : Int))), (9, (Value.int IntKind.u8 ((x.toNat : Nat) : Int))), (10, (Value.slice A bs.length c)), (11, (i64 ((bs.length : Nat) : Int))), (12, (i64 ((i + 1 : Nat) : Int))), (13, (Value.bool true)), (30, (Value.bool false)), (40, (Value.bool false))] (j := 2) (by kernel_rfl) (by kernel_rfl) ?_
              refine Ops.keep (R := [(2, (Value.int IntKind.u64 0)), (3, (i64 0)), (4, (i64 0)), (5, (Value.int IntKind.u64 ((n + x.toNat % 128 * p7 i : Nat) : Int))), (6, (i64 10)), (7, (i64 0)), (10, (Value.slice A bs.length c)), (11, (i64 ((bs.length : Nat) : Int))), (12, (i64 ((i + 1 : Nat) : Int)))]) (by kernel_rfl) ?_
              refine Ops.done (by kernel_rfl) ?_
              exact ⟨(i + 1, n + x.toNat % 128 * p7 i), ⟨rfl, (by rw [← hE, hx, scanA_more (by omega) (by omega)]), (by omega), (by omega), (hr.2.2 (by omega)), K2⟩, (show bs.length - (i + 1) < bs.length - i from by omega)⟩
        · rw [h10]
          have p22 : ¬ (((i : Nat) : Int) > 0) := of_decide_eq_false h10
          refine Ops.regs 4 [(2, (Value.int IntKind.u64 0)), (3, (i64 0)), (4, (i64 0)), (5, (Value.int IntKind.u64 ((n : Nat) : Int))), (6, (i64 10)), (7, (i64 0)), (8, (i64 ((i : Nat) : Int))), (9, (Value.int IntKind.u8 ((x.toNat : Nat) : Int))), (10, (Value.slice A bs.length c)), (11, (i64 ((bs.length : Nat) : Int))), (12, (i64 ((i : Nat) : Int))), (13, (Value.bool true)), (30, (Value.bool false))] (j := 14) (by kernel_rfl) (by kernel_rfl) ?_
          refine Ops.done (by kernel_rfl) ?_
          refine q_else (o := .tmp 30) (by kernel_rfl) rfl ?_
          refine q_skip (by kernel_rfl) ?_
          refine q_seq (by kernel_rfl) ?_
          refine q_region (by kernel_rfl) ?_
          refine Ops.regs 2 [(2, (Value.int IntKind.u64 0)), (3, (i64 0)), (4, (i64 0)), (5, (Value.int IntKind.u64 ((n : Nat) : Int))), (6, (i64 10)), (7, (i64 0)), (8, (i64 ((i : Nat) : Int))), (9, (Value.int IntKind.u8 ((x.toNat : Nat) : Int))), (10, (Value.slice A bs.length c)), (11, (i64 ((bs.length : Nat) : Int))), (12, (i64 ((i : Nat) : Int))), (13, (Value.bool true)), (30, (Value.bool false)), (31, (Value.int IntKind.u64 ((n : Nat) : Int))), (32, (Value.int IntKind.u8 ((x.toNat : Nat) : Int)))] (j := 2) (by kernel_rfl) (by kernel_rfl) ?_
          refine Ops.go (v := (Value.int IntKind.u8 ((x.toNat % 128 : Nat) : Int))) (by kernel_rfl) (Runs.int (op := .and) (t := 5) (by kernel_rfl) (run_and127 (by omega))) (d := (some 33)) (by kernel_rfl) rfl ?_
          refine Ops.regs 1 [(2, (Value.int IntKind.u64 0)), (3, (i64 0)), (4, (i64 0)), (5, (Value.int IntKind.u64 ((n : Nat) : Int))), (6, (i64 10)), (7, (i64 0)), (8, (i64 ((i : Nat) : Int))), (9, (Value.int IntKind.u8 ((x.toNat : Nat) : Int))), (10, (Value.slice A bs.length c)), (11, (i64 ((bs.length : Nat) : Int))), (12, (i64 ((i : Nat) : Int))), (13, (Value.bool true)), (30, (Value.bool false)), (31, (Value.int IntKind.u64 ((n : Nat) : Int))), (34, (Value.int IntKind.u64 (IntKind.u64.wrap (((x.toNat % 128 : Nat) : Int)))))] (j := 4) (by kernel_rfl) (by kernel_rfl) ?_
          have e23 : IntKind.u64.wrap (((x.toNat % 128 : Nat) : Int)) = ((x.toNat % 128 : Nat) : Int) := wrap_u64 (by omega) (by omega)
          rw [e23]
          refine Ops.regs 2 [(2, (Value.int IntKind.u64 0)), (3, (i64 0)), (4, (i64 0)), (5, (Value.int IntKind.u64 ((n : Nat) : Int))), (6, (i64 10)), (7, (i64 0)), (8, (i64 ((i : Nat) : Int))), (9, (Value.int IntKind.u8 ((x.toNat : Nat) : Int))), (10, (Value.slice A bs.length c)), (11, (i64 ((bs.length : Nat) : Int))), (12, (i64 ((i : Nat) : Int))), (13, (Value.bool true)), (30, (Value.bool false)), (31, (Value.int IntKind.u64 ((n : Nat) : Int))), (34, (Value.int IntKind.u64 ((x.toNat % 128 : Nat) : Int))), (36, (i64 (IntKind.i64.wrap (7 * ((i : Nat) : Int)))))] (j := 6) (by kernel_rfl) (by kernel_rfl) ?_
          have e24 : IntKind.i64.wrap (7 * ((i : Nat) : Int)) = ((7 * i : Nat) : Int) := by rw [wrap_i64 (by omega) (by omega)]; omega
          rw [e24]
          clear e24
          have hr := scan_round (c := x) hi hn (by omega)
          refine Ops.go (v := (Value.int IntKind.u64 ((x.toNat % 128 * p7 i : Nat) : Int))) (by kernel_rfl) (Runs.int (op := .shl) (t := 22) (by kernel_rfl) (run_shl7 (k := IntKind.i64) (i := i) (s := ((7 * i : Nat) : Int)) (by omega) (by omega) hr.1)) (d := (some 37)) (by kernel_rfl) rfl ?_
          refine Ops.go (v := (Value.int IntKind.u64 ((n + x.toNat % 128 * p7 i : Nat) : Int))) (by kernel_rfl) (Runs.int (op := .or) (t := 22) (by kernel_rfl) (run_or7 hn hr.2.1)) (d := (some 38)) (by kernel_rfl) rfl ?_
          refine Ops.regs 1 [(2, (Value.int IntKind.u64 0)), (3, (i64 0)), (4, (i64 0)), (5, (Value.int IntKind.u64 ((n + x.toNat % 128 * p7 i : Nat) : Int))), (6, (i64 10)), (7, (i64 0)), (8, (i64 ((i : Nat) : Int))), (9, (Value.int IntKind.u8 ((x.toNat : Nat) : Int))), (10, (Value.slice A bs.length c)), (11, (i64 ((bs.length : Nat) : Int))), (12, (i64 ((i : Nat) : Int))), (13, (Value.bool true)), (30, (Value.bool false))] (j := 9) (by kernel_rfl) (by kernel_rfl) ?_
          refine Ops.done (by kernel_rfl) ?_
          refine q_seq (by kernel_rfl) ?_
          refine q_region (by kernel_rfl) ?_
          refine Ops.regs 2 [(2, (Value.int IntKind.u64 0)), (3, (i64 0)), (4, (i64 0)), (5, (Value.int IntKind.u64 ((n + x.toNat % 128 * p7 i : Nat) : Int))), (6, (i64 10)), (7, (i64 0)), (8, (i64 ((i : Nat) : Int))), (9, (Value.int IntKind.u8 ((x.toNat : Nat) : Int))), (10, (Value.slice A bs.length c)), (11, (i64 ((bs.length : Nat) : Int))), (12, (i64 ((i : Nat) : Int))), (13, (Value.bool true)), (30, (Value.bool false)), (40, (Value.bool (decide (((x.toNat : Nat) : Int) < 128))))] (j := 2) (by kernel_rfl) (by kernel_rfl) ?_
          refine Ops.done (by kernel_rfl) ?_
          refine q_cond (o := .tmp 40) (b := (decide (((x.toNat : Nat) : Int) < 128))) (by kernel_rfl) rfl (fun h25 => ?_) (fun h25 => ?_)
          · rw [h25]
            have p26 : ((x.toNat : Nat) : Int) < 128 := of_decide_eq_true h25
            refine q_seq (by kernel_rfl) ?_
            refine q_region (by kernel_rfl) ?_
            refine Ops.regs 2 [(2, (Value.int IntKind.u64 0)), (3, (i64 0)), (4, (i64 0)), (5, (Value.int IntKind.u64 ((n + x.toNat % 128 * p7 i : Nat) : Int))), (6, (i64 10)), (7, (i64 0)), (8, (i64 ((i : Nat) : Int))), (9, (Value.int IntKind.u8 ((x.toNat : Nat) : Int))), (10, (Value.slice A bs.length c)), (11, (i64 ((bs.length : Nat) : Int))), (12, (i64 ((i : Nat) : Int))), (13, (Value.bool true)), (30, (Value.bool false)), (40, (Value.bool true)), (42, (i64 (IntKind.i64.wrap (((i : Nat) : Int) + 1))))] (j := 2) (by kernel_rfl) (by kernel_rfl) ?_
            have e27 : IntKind.i64.wrap (((i : Nat) : Int) + 1) = ((i + 1 : Nat) : Int) := by rw [wrap_i64 (by omega) (by omega)]; omega
            rw [e27]
            clear e27
            refine Ops.regs 2 [(2, (Value.int IntKind.u64 0)), (3, (i64 0)), (4, (i64 0)), (5, (Value.int IntKind.u64 ((n + x.toNat % 128 * p7 i : Nat) : Int))), (6, (i64 0)), (7, (i64 ((i + 1 : Nat) : Int))), (8, (i64 ((i : Nat) : Int))), (9, (Value.int IntKind.u8 ((x.toNat : Nat) : Int))), (10, (Value.slice A bs.length c)), (11, (i64 ((bs.length : Nat) : Int))), (12, (i64 ((i : Nat) : Int))), (13, (Value.bool true)), (30, (Value.bool false)), (40, (Value.bool true))] (j := 4) (by kernel_rfl) (by kernel_rfl) ?_
            refine Ops.done (by kernel_rfl) ?_
            refine q_exit (id := 0) (by kernel_rfl) ?_
            refine q_seq (by kernel_rfl) ?_
            refine q_region (by kernel_rfl) ?_
            refine Ops.regs 6 [(2, (Value.int IntKind.u64 ((n + x.toNat % 128 * p7 i : Nat) : Int))), (3, (i64 ((i + 1 : Nat) : Int))), (4, (i64 0))] (j := 6) (by kernel_rfl) (by kernel_rfl) ?_
            refine Ops.done (by kernel_rfl) ?_
            refine q_ret (by kernel_rfl) ?_
            refine ⟨(Value.tuple #[(Value.int IntKind.u64 ((n + x.toNat % 128 * p7 i : Nat) : Int)), (i64 ((i + 1 : Nat) : Int)), (i64 0)]), retv_tmp3 rfl rfl rfl rfl, ?_⟩
            have e : scanB bs = (n + x.toNat % 128 * p7 i, i + 1, 0) := by rw [← hE]; first | (exfalso; omega) | (rw [hx, scanA_bad (by omega)]; done) | (rw [hx, scanA_end (by omega) (by omega)]; done) | (rw [show i = bs.length from by omega, List.drop_length]; rfl)
            exact ⟨by first | (rw [e]; done) | (rw [e]; rfl), K2⟩
          · rw [h25]
            have p28 : ¬ (((x.toNat : Nat) : Int) < 128) := of_decide_eq_false h25
            refine q_skip (by kernel_rfl) ?_
            refine q_region (by kernel_rfl) ?_
            refine Ops.regs 1 [(2, (Value.int IntKind.u64 0)), (3, (i64 0)), (4, (i64 0)), (5, (Value.int IntKind.u64 ((n + x.toNat % 128 * p7 i : Nat) : Int))), (6, (i64 10)), (7, (i64 0)), (8, (i64 ((i : Nat) : Int))), (9, (Value.int IntKind.u8 ((x.toNat : Nat) : Int))), (10, (Value.slice A bs.length c)), (11, (i64 ((bs.length : Nat) : Int))), (12, (i64 ((i : Nat) : Int))), (13, (Value.bool true)), (30, (Value.bool false)), (40, (Value.bool false)), (43, (i64 (IntKind.i64.wrap (((i : Nat) : Int) + 1))))] (j := 1) (by kernel_rfl) (by kernel_rfl) ?_
            have e29 : IntKind.i64.wrap (((i : Nat) : Int) + 1) = ((i + 1 : Nat) : Int) := by rw [wrap_i64 (by omega) (by omega)]; omega
            rw [e29]
            clear e29
            refine Ops.regs 1 [(2, (Value.int IntKind.u64 0)), (3, (i64 0)), (4, (i64 0)), (5, (Value.int IntKind.u64 ((n + x.toNat % 128 * p7 i : Nat) : Int))), (6, (i64 10)), (7, (i64 0)), (8, (i64 ((i : Nat) : Int))), (9, (Value.int IntKind.u8 ((x.toNat : Nat) : Int))), (10, (Value.slice A bs.length c)), (11, (i64 ((bs.length : Nat) : Int))), (12, (i64 ((i + 1 : Nat) : Int))), (13, (Value.bool true)), (30, (Value.bool false)), (40, (Value.bool false))] (j := 2) (by kernel_rfl) (by kernel_rfl) ?_
            refine Ops.keep (R := [(2, (Value.int IntKind.u64 0)), (3, (i64 0)), (4, (i64 0)), (5, (Value.int IntKind.u64 ((n + x.toNat % 128 * p7 i : Nat) : Int))), (6, (i64 10)), (7, (i64 0)), (10, (Value.slice A bs.length c)), (11, (i64 ((bs.length : Nat) : Int))), (12, (i64 ((i + 1 : Nat) : Int)))]) (by kernel_rfl) ?_
            refine Ops.done (by kernel_rfl) ?_
            exact ⟨(i + 1, n + x.toNat % 128 * p7 i), ⟨rfl, (by rw [← hE, hx, scanA_more (by omega) (by omega)]), (by omega), (by omega), (hr.2.2 (by omega)), K2⟩, (show bs.length - (i + 1) < bs.length - i from by omega)⟩
    · rw [h5]
      have p30 : ¬ (((i : Nat) : Int) = 9) := of_beq_f h5
      refine Ops.regs 7 [(2, (Value.int IntKind.u64 0)), (3, (i64 0)), (4, (i64 0)), (5, (Value.int IntKind.u64 ((n : Nat) : Int))), (6, (i64 10)), (7, (i64 0)), (8, (i64 ((i : Nat) : Int))), (9, (Value.int IntKind.u8 ((x.toNat : Nat) : Int))), (10, (Value.slice A bs.length c)), (11, (i64 ((bs.length : Nat) : Int))), (12, (i64 ((i : Nat) : Int))), (13, (Value.bool true)), (23, (Value.bool false)), (26, (Value.bool (decide (((i : Nat) : Int) > 0))))] (j := 10) (by kernel_rfl) (by kernel_rfl) ?_
      refine Ops.split (decide (((i : Nat) : Int) > 0)) (fun h31 => ?_) (fun h31 => ?_)
      · rw [h31]
        have p32 : ((i : Nat) : Int) > 0 := of_decide_eq_true h31
        refine Ops.regs 4 [(2, (Value.int IntKind.u64 0)), (3, (i64 0)), (4, (i64 0)), (5, (Value.int IntKind.u64 ((n : Nat) : Int))), (6, (i64 10)), (7, (i64 0)), (8, (i64 ((i : Nat) : Int))), (9, (Value.int IntKind.u8 ((x.toNat : Nat) : Int))), (10, (Value.slice A bs.length c)), (11, (i64 ((bs.length : Nat) : Int))), (12, (i64 ((i : Nat) : Int))), (13, (Value.bool true)), (30, (Value.bool (((x.toNat : Nat) : Int) == 0)))] (j := 14) (by kernel_rfl) (by kernel_rfl) ?_
        refine Ops.done (by kernel_rfl) ?_
        refine q_cond (o := .tmp 30) (b := (((x.toNat : Nat) : Int) == 0)) (by kernel_rfl) rfl (fun h33 => ?_) (fun h33 => ?_)
        · rw [h33]
          have p34 : ((x.toNat : Nat) : Int) = 0 := of_beq_t h33
          refine q_seq (by kernel_rfl) ?_
          refine q_region (by kernel_rfl) ?_
          refine Ops.regs 1 [(2, (Value.int IntKind.u64 0)), (3, (i64 0)), (4, (i64 0)), (5, (Value.int IntKind.u64 ((n : Nat) : Int))), (6, (i64 11)), (7, (i64 0)), (8, (i64 ((i : Nat) : Int))), (9, (Value.int IntKind.u8 ((x.toNat : Nat) : Int))), (10, (Value.slice A bs.length c)), (11, (i64 ((bs.length : Nat) : Int))), (12, (i64 ((i : Nat) : Int))), (13, (Value.bool true)), (30, (Value.bool true))] (j := 1) (by kernel_rfl) (by kernel_rfl) ?_
          refine Ops.done (by kernel_rfl) ?_
          refine q_exit (id := 0) (by kernel_rfl) ?_
          refine q_seq (by kernel_rfl) ?_
          refine q_region (by kernel_rfl) ?_
          refine Ops.regs 6 [(2, (Value.int IntKind.u64 ((n : Nat) : Int))), (3, (i64 0)), (4, (i64 11))] (j := 6) (by kernel_rfl) (by kernel_rfl) ?_
          refine Ops.done (by kernel_rfl) ?_
          refine q_ret (by kernel_rfl) ?_
          refine ⟨(Value.tuple #[(Value.int IntKind.u64 ((n : Nat) : Int)), (i64 0), (i64 11)]), retv_tmp3 rfl rfl rfl rfl, ?_⟩
          have e : scanB bs = (n, 0, 11) := by rw [← hE]; first | (exfalso; omega) | (rw [hx, scanA_bad (by omega)]; done) | (rw [hx, scanA_end (by omega) (by omega)]; done) | (rw [show i = bs.length from by omega, List.drop_length]; rfl)
          exact ⟨by first | (rw [e]; done) | (rw [e]; rfl), K2⟩
        · rw [h33]
          have p35 : ¬ (((x.toNat : Nat) : Int) = 0) := of_beq_f h33
          refine q_skip (by kernel_rfl) ?_
          refine q_seq (by kernel_rfl) ?_
          refine q_region (by kernel_rfl) ?_
          refine Ops.regs 2 [(2, (Value.int IntKind.u64 0)), (3, (i64 0)), (4, (i64 0)), (5, (Value.int IntKind.u64 ((n : Nat) : Int))), (6, (i64 10)), (7, (i64 0)), (8, (i64 ((i : Nat) : Int))), (9, (Value.int IntKind.u8 ((x.toNat : Nat) : Int))), (10, (Value.slice A bs.length c)), (11, (i64 ((bs.length : Nat) : Int))), (12, (i64 ((i : Nat) : Int))), (13, (Value.bool true)), (30, (Value.bool false)), (31, (Value.int IntKind.u64 ((n : Nat) : Int))), (32, (Value.int IntKind.u8 ((x.toNat : Nat) : Int)))] (j := 2) (by kernel_rfl) (by kernel_rfl) ?_
          refine Ops.go (v := (Value.int IntKind.u8 ((x.toNat % 128 : Nat) : Int))) (by kernel_rfl) (Runs.int (op := .and) (t := 5) (by kernel_rfl) (run_and127 (by omega))) (d := (some 33)) (by kernel_rfl) rfl ?_
          refine Ops.regs 1 [(2, (Value.int IntKind.u64 0)), (3, (i64 0)), (4, (i64 0)), (5, (Value.int IntKind.u64 ((n : Nat) : Int))), (6, (i64 10)), (7, (i64 0)), (8, (i64 ((i : Nat) : Int))), (9, (Value.int IntKind.u8 ((x.toNat : Nat) : Int))), (10, (Value.slice A bs.length c)), (11, (i64 ((bs.length : Nat) : Int))), (12, (i64 ((i : Nat) : Int))), (13, (Value.bool true)), (30, (Value.bool false)), (31, (Value.int IntKind.u64 ((n : Nat) : Int))), (34, (Value.int IntKind.u64 (IntKind.u64.wrap (((x.toNat % 128 : Nat) : Int)))))] (j := 4) (by kernel_rfl) (by kernel_rfl) ?_
          have e36 : IntKind.u64.wrap (((x.toNat % 128 : Nat) : Int)) = ((x.toNat % 128 : Nat) : Int) := wrap_u64 (by omega) (by omega)
          rw [e36]
          refine Ops.regs 2 [(2, (Value.int IntKind.u64 0)), (3, (i64 0)), (4, (i64 0)), (5, (Value.int IntKind.u64 ((n : Nat) : Int))), (6, (i64 10)), (7, (i64 0)), (8, (i64 ((i : Nat) : Int))), (9, (Value.int IntKind.u8 ((x.toNat : Nat) : Int))), (10, (Value.slice A bs.length c)), (11, (i64 ((bs.length : Nat) : Int))), (12, (i64 ((i : Nat) : Int))), (13, (Value.bool true)), (30, (Value.bool false)), (31, (Value.int IntKind.u64 ((n : Nat) : Int))), (34, (Value.int IntKind.u64 ((x.toNat % 128 : Nat) : Int))), (36, (i64 (IntKind.i64.wrap (7 * ((i : Nat) : Int)))))] (j := 6) (by kernel_rfl) (by kernel_rfl) ?_
          have e37 : IntKind.i64.wrap (7 * ((i : Nat) : Int)) = ((7 * i : Nat) : Int) := by rw [wrap_i64 (by omega) (by omega)]; omega
          rw [e37]
          clear e37
          have hr := scan_round (c := x) hi hn (by omega)
          refine Ops.go (v := (Value.int IntKind.u64 ((x.toNat % 128 * p7 i : Nat) : Int))) (by kernel_rfl) (Runs.int (op := .shl) (t := 22) (by kernel_rfl) (run_shl7 (k := IntKind.i64) (i := i) (s := ((7 * i : Nat) : Int)) (by omega) (by omega) hr.1)) (d := (some 37)) (by kernel_rfl) rfl ?_
          refine Ops.go (v := (Value.int IntKind.u64 ((n + x.toNat % 128 * p7 i : Nat) : Int))) (by kernel_rfl) (Runs.int (op := .or) (t := 22) (by kernel_rfl) (run_or7 hn hr.2.1)) (d := (some 38)) (by kernel_rfl) rfl ?_
          refine Ops.regs 1 [(2, (Value.int IntKind.u64 0)), (3, (i64 0)), (4, (i64 0)), (5, (Value.int IntKind.u64 ((n + x.toNat % 128 * p7 i : Nat) : Int))), (6, (i64 10)), (7, (i64 0)), (8, (i64 ((i : Nat) : Int))), (9, (Value.int IntKind.u8 ((x.toNat : Nat) : Int))), (10, (Value.slice A bs.length c)), (11, (i64 ((bs.length : Nat) : Int))), (12, (i64 ((i : Nat) : Int))), (13, (Value.bool true)), (30, (Value.bool false))] (j := 9) (by kernel_rfl) (by kernel_rfl) ?_
          refine Ops.done (by kernel_rfl) ?_
          refine q_seq (by kernel_rfl) ?_
          refine q_region (by kernel_rfl) ?_
          refine Ops.regs 2 [(2, (Value.int IntKind.u64 0)), (3, (i64 0)), (4, (i64 0)), (5, (Value.int IntKind.u64 ((n + x.toNat % 128 * p7 i : Nat) : Int))), (6, (i64 10)), (7, (i64 0)), (8, (i64 ((i : Nat) : Int))), (9, (Value.int IntKind.u8 ((x.toNat : Nat) : Int))), (10, (Value.slice A bs.length c)), (11, (i64 ((bs.length : Nat) : Int))), (12, (i64 ((i : Nat) : Int))), (13, (Value.bool true)), (30, (Value.bool false)), (40, (Value.bool (decide (((x.toNat : Nat) : Int) < 128))))] (j := 2) (by kernel_rfl) (by kernel_rfl) ?_
          refine Ops.done (by kernel_rfl) ?_
          refine q_cond (o := .tmp 40) (b := (decide (((x.toNat : Nat) : Int) < 128))) (by kernel_rfl) rfl (fun h38 => ?_) (fun h38 => ?_)
          · rw [h38]
            have p39 : ((x.toNat : Nat) : Int) < 128 := of_decide_eq_true h38
            refine q_seq (by kernel_rfl) ?_
            refine q_region (by kernel_rfl) ?_
            refine Ops.regs 2 [(2, (Value.int IntKind.u64 0)), (3, (i64 0)), (4, (i64 0)), (5, (Value.int IntKind.u64 ((n + x.toNat % 128 * p7 i : Nat) : Int))), (6, (i64 10)), (7, (i64 0)), (8, (i64 ((i : Nat) : Int))), (9, (Value.int IntKind.u8 ((x.toNat : Nat) : Int))), (10, (Value.slice A bs.length c)), (11, (i64 ((bs.length : Nat) : Int))), (12, (i64 ((i : Nat) : Int))), (13, (Value.bool true)), (30, (Value.bool false)), (40, (Value.bool true)), (42, (i64 (IntKind.i64.wrap (((i : Nat) : Int) + 1))))] (j := 2) (by kernel_rfl) (by kernel_rfl) ?_
            have e40 : IntKind.i64.wrap (((i : Nat) : Int) + 1) = ((i + 1 : Nat) : Int) := by rw [wrap_i64 (by omega) (by omega)]; omega
            rw [e40]
            clear e40
            refine Ops.regs 2 [(2, (Value.int IntKind.u64 0)), (3, (i64 0)), (4, (i64 0)), (5, (Value.int IntKind.u64 ((n + x.toNat % 128 * p7 i : Nat) : Int))), (6, (i64 0)), (7, (i64 ((i + 1 : Nat) : Int))), (8, (i64 ((i : Nat) : Int))), (9, (Value.int IntKind.u8 ((x.toNat : Nat) : Int))), (10, (Value.slice A bs.length c)), (11, (i64 ((bs.length : Nat) : Int))), (12, (i64 ((i : Nat) : Int))), (13, (Value.bool true)), (30, (Value.bool false)), (40, (Value.bool true))] (j := 4) (by kernel_rfl) (by kernel_rfl) ?_
            refine Ops.done (by kernel_rfl) ?_
            refine q_exit (id := 0) (by kernel_rfl) ?_
            refine q_seq (by kernel_rfl) ?_
            refine q_region (by kernel_rfl) ?_
            refine Ops.regs 6 [(2, (Value.int IntKind.u64 ((n + x.toNat % 128 * p7 i : Nat) : Int))), (3, (i64 ((i + 1 : Nat) : Int))), (4, (i64 0))] (j := 6) (by kernel_rfl) (by kernel_rfl) ?_
            refine Ops.done (by kernel_rfl) ?_
            refine q_ret (by kernel_rfl) ?_
            refine ⟨(Value.tuple #[(Value.int IntKind.u64 ((n + x.toNat % 128 * p7 i : Nat) : Int)), (i64 ((i + 1 : Nat) : Int)), (i64 0)]), retv_tmp3 rfl rfl rfl rfl, ?_⟩
            have e : scanB bs = (n + x.toNat % 128 * p7 i, i + 1, 0) := by rw [← hE]; first | (exfalso; omega) | (rw [hx, scanA_bad (by omega)]; done) | (rw [hx, scanA_end (by omega) (by omega)]; done) | (rw [show i = bs.length from by omega, List.drop_length]; rfl)
            exact ⟨by first | (rw [e]; done) | (rw [e]; rfl), K2⟩
          · rw [h38]
            have p41 : ¬ (((x.toNat : Nat) : Int) < 128) := of_decide_eq_false h38
            refine q_skip (by kernel_rfl) ?_
            refine q_region (by kernel_rfl) ?_
            refine Ops.regs 1 [(2, (Value.int IntKind.u64 0)), (3, (i64 0)), (4, (i64 0)), (5, (Value.int IntKind.u64 ((n + x.toNat % 128 * p7 i : Nat) : Int))), (6, (i64 10)), (7, (i64 0)), (8, (i64 ((i : Nat) : Int))), (9, (Value.int IntKind.u8 ((x.toNat : Nat) : Int))), (10, (Value.slice A bs.length c)), (11, (i64 ((bs.length : Nat) : Int))), (12, (i64 ((i : Nat) : Int))), (13, (Value.bool true)), (30, (Value.bool false)), (40, (Value.bool false)), (43, (i64 (IntKind.i64.wrap (((i : Nat) : Int) + 1))))] (j := 1) (by kernel_rfl) (by kernel_rfl) ?_
            have e42 : IntKind.i64.wrap (((i : Nat) : Int) + 1) = ((i + 1 : Nat) : Int) := by rw [wrap_i64 (by omega) (by omega)]; omega
            rw [e42]
            clear e42
            refine Ops.regs 1 [(2, (Value.int IntKind.u64 0)), (3, (i64 0)), (4, (i64 0)), (5, (Value.int IntKind.u64 ((n + x.toNat % 128 * p7 i : Nat) : Int))), (6, (i64 10)), (7, (i64 0)), (8, (i64 ((i : Nat) : Int))), (9, (Value.int IntKind.u8 ((x.toNat : Nat) : Int))), (10, (Value.slice A bs.length c)), (11, (i64 ((bs.length : Nat) : Int))), (12, (i64 ((i + 1 : Nat) : Int))), (13, (Value.bool true)), (30, (Value.bool false)), (40, (Value.bool false))] (j := 2) (by kernel_rfl) (by kernel_rfl) ?_
            refine Ops.keep (R := [(2, (Value.int IntKind.u64 0)), (3, (i64 0)), (4, (i64 0)), (5, (Value.int IntKind.u64 ((n + x.toNat % 128 * p7 i : Nat) : Int))), (6, (i64 10)), (7, (i64 0)), (10, (Value.slice A bs.length c)), (11, (i64 ((bs.length : Nat) : Int))), (12, (i64 ((i + 1 : Nat) : Int)))]) (by kernel_rfl) ?_
            refine Ops.done (by kernel_rfl) ?_
            exact ⟨(i + 1, n + x.toNat % 128 * p7 i), ⟨rfl, (by rw [← hE, hx, scanA_more (by omega) (by omega)]), (by omega), (by omega), (hr.2.2 (by omega)), K2⟩, (show bs.length - (i + 1) < bs.length - i from by omega)⟩
      · rw [h31]
        have p43 : ¬ (((i : Nat) : Int) > 0) := of_decide_eq_false h31
        refine Ops.regs 4 [(2, (Value.int IntKind.u64 0)), (3, (i64 0)), (4, (i64 0)), (5, (Value.int IntKind.u64 ((n : Nat) : Int))), (6, (i64 10)), (7, (i64 0)), (8, (i64 ((i : Nat) : Int))), (9, (Value.int IntKind.u8 ((x.toNat : Nat) : Int))), (10, (Value.slice A bs.length c)), (11, (i64 ((bs.length : Nat) : Int))), (12, (i64 ((i : Nat) : Int))), (13, (Value.bool true)), (30, (Value.bool false))] (j := 14) (by kernel_rfl) (by kernel_rfl) ?_
        refine Ops.done (by kernel_rfl) ?_
        refine q_else (o := .tmp 30) (by kernel_rfl) rfl ?_
        refine q_skip (by kernel_rfl) ?_
        refine q_seq (by kernel_rfl) ?_
        refine q_region (by kernel_rfl) ?_
        refine Ops.regs 2 [(2, (Value.int IntKind.u64 0)), (3, (i64 0)), (4, (i64 0)), (5, (Value.int IntKind.u64 ((n : Nat) : Int))), (6, (i64 10)), (7, (i64 0)), (8, (i64 ((i : Nat) : Int))), (9, (Value.int IntKind.u8 ((x.toNat : Nat) : Int))), (10, (Value.slice A bs.length c)), (11, (i64 ((bs.length : Nat) : Int))), (12, (i64 ((i : Nat) : Int))), (13, (Value.bool true)), (30, (Value.bool false)), (31, (Value.int IntKind.u64 ((n : Nat) : Int))), (32, (Value.int IntKind.u8 ((x.toNat : Nat) : Int)))] (j := 2) (by kernel_rfl) (by kernel_rfl) ?_
        refine Ops.go (v := (Value.int IntKind.u8 ((x.toNat % 128 : Nat) : Int))) (by kernel_rfl) (Runs.int (op := .and) (t := 5) (by kernel_rfl) (run_and127 (by omega))) (d := (some 33)) (by kernel_rfl) rfl ?_
        refine Ops.regs 1 [(2, (Value.int IntKind.u64 0)), (3, (i64 0)), (4, (i64 0)), (5, (Value.int IntKind.u64 ((n : Nat) : Int))), (6, (i64 10)), (7, (i64 0)), (8, (i64 ((i : Nat) : Int))), (9, (Value.int IntKind.u8 ((x.toNat : Nat) : Int))), (10, (Value.slice A bs.length c)), (11, (i64 ((bs.length : Nat) : Int))), (12, (i64 ((i : Nat) : Int))), (13, (Value.bool true)), (30, (Value.bool false)), (31, (Value.int IntKind.u64 ((n : Nat) : Int))), (34, (Value.int IntKind.u64 (IntKind.u64.wrap (((x.toNat % 128 : Nat) : Int)))))] (j := 4) (by kernel_rfl) (by kernel_rfl) ?_
        have e44 : IntKind.u64.wrap (((x.toNat % 128 : Nat) : Int)) = ((x.toNat % 128 : Nat) : Int) := wrap_u64 (by omega) (by omega)
        rw [e44]
        refine Ops.regs 2 [(2, (Value.int IntKind.u64 0)), (3, (i64 0)), (4, (i64 0)), (5, (Value.int IntKind.u64 ((n : Nat) : Int))), (6, (i64 10)), (7, (i64 0)), (8, (i64 ((i : Nat) : Int))), (9, (Value.int IntKind.u8 ((x.toNat : Nat) : Int))), (10, (Value.slice A bs.length c)), (11, (i64 ((bs.length : Nat) : Int))), (12, (i64 ((i : Nat) : Int))), (13, (Value.bool true)), (30, (Value.bool false)), (31, (Value.int IntKind.u64 ((n : Nat) : Int))), (34, (Value.int IntKind.u64 ((x.toNat % 128 : Nat) : Int))), (36, (i64 (IntKind.i64.wrap (7 * ((i : Nat) : Int)))))] (j := 6) (by kernel_rfl) (by kernel_rfl) ?_
        have e45 : IntKind.i64.wrap (7 * ((i : Nat) : Int)) = ((7 * i : Nat) : Int) := by rw [wrap_i64 (by omega) (by omega)]; omega
        rw [e45]
        clear e45
        have hr := scan_round (c := x) hi hn (by omega)
        refine Ops.go (v := (Value.int IntKind.u64 ((x.toNat % 128 * p7 i : Nat) : Int))) (by kernel_rfl) (Runs.int (op := .shl) (t := 22) (by kernel_rfl) (run_shl7 (k := IntKind.i64) (i := i) (s := ((7 * i : Nat) : Int)) (by omega) (by omega) hr.1)) (d := (some 37)) (by kernel_rfl) rfl ?_
        refine Ops.go (v := (Value.int IntKind.u64 ((n + x.toNat % 128 * p7 i : Nat) : Int))) (by kernel_rfl) (Runs.int (op := .or) (t := 22) (by kernel_rfl) (run_or7 hn hr.2.1)) (d := (some 38)) (by kernel_rfl) rfl ?_
        refine Ops.regs 1 [(2, (Value.int IntKind.u64 0)), (3, (i64 0)), (4, (i64 0)), (5, (Value.int IntKind.u64 ((n + x.toNat % 128 * p7 i : Nat) : Int))), (6, (i64 10)), (7, (i64 0)), (8, (i64 ((i : Nat) : Int))), (9, (Value.int IntKind.u8 ((x.toNat : Nat) : Int))), (10, (Value.slice A bs.length c)), (11, (i64 ((bs.length : Nat) : Int))), (12, (i64 ((i : Nat) : Int))), (13, (Value.bool true)), (30, (Value.bool false))] (j := 9) (by kernel_rfl) (by kernel_rfl) ?_
        refine Ops.done (by kernel_rfl) ?_
        refine q_seq (by kernel_rfl) ?_
        refine q_region (by kernel_rfl) ?_
        refine Ops.regs 2 [(2, (Value.int IntKind.u64 0)), (3, (i64 0)), (4, (i64 0)), (5, (Value.int IntKind.u64 ((n + x.toNat % 128 * p7 i : Nat) : Int))), (6, (i64 10)), (7, (i64 0)), (8, (i64 ((i : Nat) : Int))), (9, (Value.int IntKind.u8 ((x.toNat : Nat) : Int))), (10, (Value.slice A bs.length c)), (11, (i64 ((bs.length : Nat) : Int))), (12, (i64 ((i : Nat) : Int))), (13, (Value.bool true)), (30, (Value.bool false)), (40, (Value.bool (decide (((x.toNat : Nat) : Int) < 128))))] (j := 2) (by kernel_rfl) (by kernel_rfl) ?_
        refine Ops.done (by kernel_rfl) ?_
        refine q_cond (o := .tmp 40) (b := (decide (((x.toNat : Nat) : Int) < 128))) (by kernel_rfl) rfl (fun h46 => ?_) (fun h46 => ?_)
        · rw [h46]
          have p47 : ((x.toNat : Nat) : Int) < 128 := of_decide_eq_true h46
          refine q_seq (by kernel_rfl) ?_
          refine q_region (by kernel_rfl) ?_
          refine Ops.regs 2 [(2, (Value.int IntKind.u64 0)), (3, (i64 0)), (4, (i64 0)), (5, (Value.int IntKind.u64 ((n + x.toNat % 128 * p7 i : Nat) : Int))), (6, (i64 10)), (7, (i64 0)), (8, (i64 ((i : Nat) : Int))), (9, (Value.int IntKind.u8 ((x.toNat : Nat) : Int))), (10, (Value.slice A bs.length c)), (11, (i64 ((bs.length : Nat) : Int))), (12, (i64 ((i : Nat) : Int))), (13, (Value.bool true)), (30, (Value.bool false)), (40, (Value.bool true)), (42, (i64 (IntKind.i64.wrap (((i : Nat) : Int) + 1))))] (j := 2) (by kernel_rfl) (by kernel_rfl) ?_
          have e48 : IntKind.i64.wrap (((i : Nat) : Int) + 1) = ((i + 1 : Nat) : Int) := by rw [wrap_i64 (by omega) (by omega)]; omega
          rw [e48]
          clear e48
          refine Ops.regs 2 [(2, (Value.int IntKind.u64 0)), (3, (i64 0)), (4, (i64 0)), (5, (Value.int IntKind.u64 ((n + x.toNat % 128 * p7 i : Nat) : Int))), (6, (i64 0)), (7, (i64 ((i + 1 : Nat) : Int))), (8, (i64 ((i : Nat) : Int))), (9, (Value.int IntKind.u8 ((x.toNat : Nat) : Int))), (10, (Value.slice A bs.length c)), (11, (i64 ((bs.length : Nat) : Int))), (12, (i64 ((i : Nat) : Int))), (13, (Value.bool true)), (30, (Value.bool false)), (40, (Value.bool true))] (j := 4) (by kernel_rfl) (by kernel_rfl) ?_
          refine Ops.done (by kernel_rfl) ?_
          refine q_exit (id := 0) (by kernel_rfl) ?_
          refine q_seq (by kernel_rfl) ?_
          refine q_region (by kernel_rfl) ?_
          refine Ops.regs 6 [(2, (Value.int IntKind.u64 ((n + x.toNat % 128 * p7 i : Nat) : Int))), (3, (i64 ((i + 1 : Nat) : Int))), (4, (i64 0))] (j := 6) (by kernel_rfl) (by kernel_rfl) ?_
          refine Ops.done (by kernel_rfl) ?_
          refine q_ret (by kernel_rfl) ?_
          refine ⟨(Value.tuple #[(Value.int IntKind.u64 ((n + x.toNat % 128 * p7 i : Nat) : Int)), (i64 ((i + 1 : Nat) : Int)), (i64 0)]), retv_tmp3 rfl rfl rfl rfl, ?_⟩
          have e : scanB bs = (n + x.toNat % 128 * p7 i, i + 1, 0) := by rw [← hE]; first | (exfalso; omega) | (rw [hx, scanA_bad (by omega)]; done) | (rw [hx, scanA_end (by omega) (by omega)]; done) | (rw [show i = bs.length from by omega, List.drop_length]; rfl)
          exact ⟨by first | (rw [e]; done) | (rw [e]; rfl), K2⟩
        · rw [h46]
          have p49 : ¬ (((x.toNat : Nat) : Int) < 128) := of_decide_eq_false h46
          refine q_skip (by kernel_rfl) ?_
          refine q_region (by kernel_rfl) ?_
          refine Ops.regs 1 [(2, (Value.int IntKind.u64 0)), (3, (i64 0)), (4, (i64 0)), (5, (Value.int IntKind.u64 ((n + x.toNat % 128 * p7 i : Nat) : Int))), (6, (i64 10)), (7, (i64 0)), (8, (i64 ((i : Nat) : Int))), (9, (Value.int IntKind.u8 ((x.toNat : Nat) : Int))), (10, (Value.slice A bs.length c)), (11, (i64 ((bs.length : Nat) : Int))), (12, (i64 ((i : Nat) : Int))), (13, (Value.bool true)), (30, (Value.bool false)), (40, (Value.bool false)), (43, (i64 (IntKind.i64.wrap (((i : Nat) : Int) + 1))))] (j := 1) (by kernel_rfl) (by kernel_rfl) ?_
          have e50 : IntKind.i64.wrap (((i : Nat) : Int) + 1) = ((i + 1 : Nat) : Int) := by rw [wrap_i64 (by omega) (by omega)]; omega
          rw [e50]
          clear e50
          refine Ops.regs 1 [(2, (Value.int IntKind.u64 0)), (3, (i64 0)), (4, (i64 0)), (5, (Value.int IntKind.u64 ((n + x.toNat % 128 * p7 i : Nat) : Int))), (6, (i64 10)), (7, (i64 0)), (8, (i64 ((i : Nat) : Int))), (9, (Value.int IntKind.u8 ((x.toNat : Nat) : Int))), (10, (Value.slice A bs.length c)), (11, (i64 ((bs.length : Nat) : Int))), (12, (i64 ((i + 1 : Nat) : Int))), (13, (Value.bool true)), (30, (Value.bool false)), (40, (Value.bool false))] (j := 2) (by kernel_rfl) (by kernel_rfl) ?_
          refine Ops.keep (R := [(2, (Value.int IntKind.u64 0)), (3, (i64 0)), (4, (i64 0)), (5, (Value.int IntKind.u64 ((n + x.toNat % 128 * p7 i : Nat) : Int))), (6, (i64 10)), (7, (i64 0)), (10, (Value.slice A bs.length c)), (11, (i64 ((bs.length : Nat) : Int))), (12, (i64 ((i + 1 : Nat) : Int)))]) (by kernel_rfl) ?_
          refine Ops.done (by kernel_rfl) ?_
          exact ⟨(i + 1, n + x.toNat % 128 * p7 i), ⟨rfl, (by rw [← hE, hx, scanA_more (by omega) (by omega)]), (by omega), (by omega), (hr.2.2 (by omega)), K2⟩, (show bs.length - (i + 1) < bs.length - i from by omega)⟩
  · rw [h3]
    have p51 : ¬ (((i : Nat) : Int) < ((bs.length : Nat) : Int)) := of_decide_eq_false h3
    refine q_exit (id := 0) (by kernel_rfl) ?_
    refine q_seq (by kernel_rfl) ?_
    refine q_region (by kernel_rfl) ?_
    refine Ops.regs 6 [(2, (Value.int IntKind.u64 ((n : Nat) : Int))), (3, (i64 0)), (4, (i64 10))] (j := 6) (by kernel_rfl) (by kernel_rfl) ?_
    refine Ops.done (by kernel_rfl) ?_
    refine q_ret (by kernel_rfl) ?_
    refine ⟨(Value.tuple #[(Value.int IntKind.u64 ((n : Nat) : Int)), (i64 0), (i64 10)]), retv_tmp3 rfl rfl rfl rfl, ?_⟩
    have e : scanB bs = (n, 0, 10) := by rw [← hE]; first | (exfalso; omega) | (rw [hx, scanA_bad (by omega)]; done) | (rw [hx, scanA_end (by omega) (by omega)]; done) | (rw [show i = bs.length from by omega, List.drop_length]; rfl)
    exact ⟨by first | (rw [e]; done) | (rw [e]; rfl), K2⟩

theorem ok_calls (w : World) (b : Nat) (A : Option Addr) (c : Nat) (r : Rdr) (hok : r.Ok) (H0 : Has w b (rowL (rdrL A c r) 88)) (hR : RdO w A c r.bs) (hne : ∀ g o s, A = some ⟨g, o, s⟩ → g ≠ b) : Calls Try.prog 58 ⟨[(Value.pointer (some ⟨b, 0, none⟩))]⟩ w (fun e w' => e = .returned (.bool (r.why == 0)) ∧ Keeps none_ w w') := by
  have hpos := hok.pos
  have hlen := hok.len
  have hsc := r.scan_le
  have hdl : (r.bs.drop r.pos).length = r.bs.length - r.pos := List.length_drop
  have hcap := hR.1.slice
  have Hb := H0.lt
  have K0 : Keeps none_ w w := Keeps.refl w
  refine q_calls Try.func58 (by kernel_rfl) (by kernel_rfl) ?_
  refine q_seq (by kernel_rfl) ?_
  refine q_region (by kernel_rfl) ?_
  refine Ops.regs 1 [(0, (Value.pointer (some ⟨b, 0, none⟩))), (2, (Value.bool false))] (j := 1) (by kernel_rfl) (by kernel_rfl) ?_
  refine Ops.done (by kernel_rfl) ?_
  refine q_seq (by kernel_rfl) ?_
  refine q_region (by kernel_rfl) ?_
  refine Ops.regs 6 [(2, (Value.bool false)), (5, (Value.bool true)), (8, (Value.pointer (some ⟨b, 2, none⟩)))] (j := 6) (by kernel_rfl) (by kernel_rfl) ?_
  refine Ops.go (v := (i64 r.why)) (by kernel_rfl) (Runs.load (t := 28) (a := ⟨b, 2, none⟩) (by kernel_rfl) (H0.loads (by kernel_rfl))) (d := (some 9)) (by kernel_rfl) rfl ?_
  refine Ops.regs 3 [(2, (Value.bool (r.why == 0)))] (j := 10) (by kernel_rfl) (by kernel_rfl) ?_
  refine Ops.done (by kernel_rfl) ?_
  refine q_ret (by kernel_rfl) ?_
  refine ⟨(Value.bool (r.why == 0)), retv_tmp rfl rfl, ?_⟩
  exact ⟨rfl, K0⟩

theorem left_calls (w : World) (b : Nat) (A : Option Addr) (c : Nat) (r : Rdr) (hok : r.Ok) (H0 : Has w b (rowL (rdrL A c r) 88)) (hR : RdO w A c r.bs) (hne : ∀ g o s, A = some ⟨g, o, s⟩ → g ≠ b) : Calls Try.prog 60 ⟨[(Value.pointer (some ⟨b, 0, none⟩))]⟩ w (fun e w' => ∃ A2 c2, e = .returned (.slice A2 (r.bs.drop r.pos).length c2) ∧ Keeps none_ w w' ∧ RdB w' (.slice A2 (r.bs.drop r.pos).length c2) (r.bs.drop r.pos) ∧ (∀ g o s, A2 = some ⟨g, o, s⟩ → ∃ o2 s2, A = some ⟨g, o2, s2⟩)) := by
  have hpos := hok.pos
  have hlen := hok.len
  have hsc := r.scan_le
  have hdl : (r.bs.drop r.pos).length = r.bs.length - r.pos := List.length_drop
  have hcap := hR.1.slice
  have Hb := H0.lt
  have K0 : Keeps none_ w w := Keeps.refl w
  refine q_calls Try.func60 (by kernel_rfl) (by kernel_rfl) ?_
  refine q_seq (by kernel_rfl) ?_
  refine q_region (by kernel_rfl) ?_
  refine Ops.regs 1 [(0, (Value.pointer (some ⟨b, 0, none⟩))), (2, (Value.slice none 0 0))] (j := 1) (by kernel_rfl) (by kernel_rfl) ?_
  refine Ops.done (by kernel_rfl) ?_
  refine q_seq (by kernel_rfl) ?_
  refine q_draw (fun wz => Keeps none_ w wz) 10 (by kernel_rfl) (by kernel_rfl) (by kernel_rfl) (fun w1 K2 _ _ => ⟨K2, ?_⟩)
  have K3 := K0.trans K2 (U := none_) (fun i h1 h2 => h2) (fun i h1 h2 => by exact h2)
  clear K0
  have H4 := H0.keep K2 (fun h => h)
  clear H0
  have F5 := RdO.keep0 hR K2
  clear hR
  refine Dr.strong (S' := (fun wz => Keeps none_ w1 wz)) (Keeps.refl w1) (fun wz hx => K2.trans hx (fun i _ h => h) (fun _ _ h => h)) ?_
  clear K2
  refine Dr.takes (fuel' := 7) (is' := [2, 1, 0]) [0, 1, 2] [(0, (Value.pointer (some ⟨b, 0, none⟩))), (2, (Value.slice none 0 0)), (5, (Value.pointer (some ⟨b, 0, none⟩)))] (by kernel_rfl) rfl (by kernel_rfl) ?_
  refine Dr.take (i := 3) (v := (Value.slice A r.bs.length c)) (by kernel_rfl) (by kernel_rfl) (fun wz hS => Runs.load (t := 23) (a := ⟨b, 0, none⟩) (by kernel_rfl) ((H4.keep hS (fun h => h)).loads (by kernel_rfl))) (d := (some 6)) (by kernel_rfl) rfl ?_
  refine Dr.takes (fuel' := 3) (is' := [6, 5, 4, 3, 2, 1, 0]) [4, 5, 6] [(2, (Value.slice none 0 0)), (6, (Value.slice A r.bs.length c)), (9, (Value.pointer (some ⟨b, 1, none⟩)))] (by kernel_rfl) rfl (by kernel_rfl) ?_
  refine Dr.take (i := 7) (v := (i64 ((r.pos : Nat) : Int))) (by kernel_rfl) (by kernel_rfl) (fun wz hS => Runs.load (t := 3) (a := ⟨b, 1, none⟩) (by kernel_rfl) ((H4.keep hS (fun h => h)).loads (by kernel_rfl))) (d := (some 10)) (by kernel_rfl) rfl ?_
  refine Dr.take (i := 8) (v := (Value.slice (if c = r.pos then A else Option.map (fun q => Addr.add q (r.pos * 1)) A) (r.bs.length - r.pos) (c - r.pos))) (by kernel_rfl) (by kernel_rfl) (fun wz hS => Runs.slice (by kernel_rfl) (run_cut (sz := 1) (t := 23) (A := A) (n := r.bs.length) (c := c) r.pos r.bs.length c (lo := some (i64 ((r.pos : Nat) : Int))) (hi := none) (mx := none) tyB.slice (by kernel_rfl) (.inr ⟨_, rfl⟩) (.inl ⟨rfl, rfl, rfl⟩) (.inl ⟨rfl, rfl⟩) (by omega) (by omega) (by omega))) (d := (some 11)) (by kernel_rfl) rfl ?_
  refine Dr.takes (fuel' := 0) (is' := [9, 8, 7, 6, 5, 4, 3, 2, 1, 0]) [9] [(2, (Value.slice (if c = r.pos then A else Option.map (fun q => Addr.add q (r.pos * 1)) A) (r.bs.length - r.pos) (c - r.pos)))] (by kernel_rfl) rfl (by kernel_rfl) ?_
  refine Dr.done (by kernel_rfl) ?_
  refine q_ret (by kernel_rfl) ?_
  refine ⟨(Value.slice (if c = r.pos then A else Option.map (fun q => Addr.add q (r.pos * 1)) A) (r.bs.length - r.pos) (c - r.pos)), retv_tmp rfl rfl, ?_⟩
  have hD := RdB.drop F5.1 hpos
  exact ⟨_, _, by rw [hdl], K3, by rw [hdl]; exact hD, fun g o s h => cut_block h⟩

theorem RdUint_calls (w : World) (b : Nat) (A : Option Addr) (c : Nat) (r : Rdr) (hok : r.Ok) (H0 : Has w b (rowL (rdrL A c r) 88)) (hR : RdO w A c r.bs) (hne : ∀ g o s, A = some ⟨g, o, s⟩ → g ≠ b) : Calls Try.prog 14 ⟨[(Value.pointer (some ⟨b, 0, none⟩))]⟩ w (fun e w' => e = .returned (.int .u64 ((r.uint.1 : Nat) : Int)) ∧ Keeps (fun i => i = b) w w' ∧ Has w' b (rowL (rdrL A c r.uint.2) 88)) := by
  have hpos := hok.pos
  have hlen := hok.len
  have hsc := r.scan_le
  have hdl : (r.bs.drop r.pos).length = r.bs.length - r.pos := List.length_drop
  have hcap := hR.1.slice
  have Hb := H0.lt
  have K0 : Keeps (fun i => i = b) w w := (Keeps.refl w).mono (fun _ _ h => h.elim)
  refine q_calls Try.func14 (by kernel_rfl) (by kernel_rfl) ?_
  refine q_seq (by kernel_rfl) ?_
  refine q_region (by kernel_rfl) ?_
  refine Ops.regs 1 [(0, (Value.pointer (some ⟨b, 0, none⟩))), (2, (Value.int IntKind.u64 0))] (j := 1) (by kernel_rfl) (by kernel_rfl) ?_
  refine Ops.done (by kernel_rfl) ?_
  refine q_seq (by kernel_rfl) ?_
  refine q_seq (by kernel_rfl) ?_
  refine q_region (by kernel_rfl) ?_
  refine Ops.regs 1 [(0, (Value.pointer (some ⟨b, 0, none⟩))), (2, (Value.int IntKind.u64 0)), (6, (Value.pointer (some ⟨b, 0, none⟩)))] (j := 1) (by kernel_rfl) (by kernel_rfl) ?_
  refine Ops.call (by kernel_rfl) (d := (some 7)) (by kernel_rfl) (ok_calls _ b A c r hok H0 hR hne) ?_
  rintro _ w1 ⟨rfl, K2⟩
  refine ⟨_, _, rfl, rfl, ?_⟩
  have K3 := K0.trans K2 (U := (fun i => i = b)) (fun i h1 h2 => h2) (fun i h1 h2 => by exact h2.elim)
  clear K0
  have H4 := H0.keep K2 (fun h => h)
  clear H0
  have F5 := RdO.keep0 hR K2
  clear hR
  clear K2
  refine Ops.regs 1 [(0, (Value.pointer (some ⟨b, 0, none⟩))), (2, (Value.int IntKind.u64 0)), (8, (Value.bool (!(r.why == 0))))] (j := 3) (by kernel_rfl) (by kernel_rfl) ?_
  refine Ops.done (by kernel_rfl) ?_
  refine q_cond (o := .tmp 8) (b := (!(r.why == 0))) (by kernel_rfl) rfl (fun h6 => ?_) (fun h6 => ?_)
  · rw [h6]
    have p7 : ¬ (r.why = 0) := of_beq_f (bnot_true h6)
    refine q_seq (by kernel_rfl) ?_
    refine q_region (by kernel_rfl) ?_
    refine Ops.regs 1 [(0, (Value.pointer (some ⟨b, 0, none⟩))), (2, (Value.int IntKind.u64 0))] (j := 1) (by kernel_rfl) (by kernel_rfl) ?_
    refine Ops.done (by kernel_rfl) ?_
    refine q_ret (by kernel_rfl) ?_
    refine ⟨(Value.int IntKind.u64 0), retv_tmp rfl rfl, ?_⟩
    have e : r.uint = (0, ⟨r.bs, r.pos, r.why⟩) := by unfold Rdr.uint; (repeat' split) <;> first | (exfalso; omega) | rfl | (rw [show (scanB (r.bs.drop r.pos)).2.2 = r.why from by omega])
    exact ⟨by first | (rw [e]; done) | (rw [e]; rfl), K3, by rw [e]; exact H4⟩
  · rw [h6]
    have p8 : r.why = 0 := of_beq_t (bnot_false h6)
    refine q_skip (by kernel_rfl) ?_
    refine q_seq (by kernel_rfl) ?_
    refine q_region (by kernel_rfl) ?_
    refine Ops.regs 1 [(0, (Value.pointer (some ⟨b, 0, none⟩))), (2, (Value.int IntKind.u64 0)), (10, (Value.pointer (some ⟨b, 0, none⟩)))] (j := 1) (by kernel_rfl) (by kernel_rfl) ?_
    refine Ops.call (by kernel_rfl) (d := (some 11)) (by kernel_rfl) (left_calls _ b A c r hok H4 F5 hne) ?_
    rintro _ w9 ⟨A11, c12, rfl, K10, h13, hlb14⟩
    refine ⟨_, _, rfl, rfl, ?_⟩
    have K15 := K3.trans K10 (U := (fun i => i = b)) (fun i h1 h2 => h2) (fun i h1 h2 => by exact h2.elim)
    clear K3
    have H16 := H4.keep K10 (fun h => h)
    clear H4
    have F17 := RdO.keep0 F5 K10
    clear F5
    clear K10
    refine Ops.call (by kernel_rfl) (d := (some 12)) (by kernel_rfl) (scan_calls _ A11 c12 (r.bs.drop r.pos) h13 (by omega)) ?_
    rintro _ w18 ⟨rfl, K19⟩
    refine ⟨_, _, rfl, rfl, ?_⟩
    have K20 := K15.trans K19 (U := (fun i => i = b)) (fun i h1 h2 => h2) (fun i h1 h2 => by exact h2.elim)
    clear K15
    have H21 := H16.keep K19 (fun h => h)
    clear H16
    have F22 := RdO.keep0 F17 K19
    clear F17
    have F23 := (Rd.keep0 (by omega) h13 K19)
    clear h13
    clear K19
    refine Ops.regs 7 [(0, (Value.pointer (some ⟨b, 0, none⟩))), (2, (Value.int IntKind.u64 0)), (3, (Value.int IntKind.u64 (((scanB (r.bs.drop r.pos)).1 : Nat) : Int))), (4, (i64 (((scanB (r.bs.drop r.pos)).2.1 : Nat) : Int))), (5, (i64 ((scanB (r.bs.drop r.pos)).2.2)))] (j := 10) (by kernel_rfl) (by kernel_rfl) ?_
    refine Ops.done (by kernel_rfl) ?_
    refine q_seq (by kernel_rfl) ?_
    refine q_seq (by kernel_rfl) ?_
    refine q_region (by kernel_rfl) ?_
    refine Ops.regs 4 [(0, (Value.pointer (some ⟨b, 0, none⟩))), (2, (Value.int IntKind.u64 0)), (3, (Value.int IntKind.u64 (((scanB (r.bs.drop r.pos)).1 : Nat) : Int))), (4, (i64 (((scanB (r.bs.drop r.pos)).2.1 : Nat) : Int))), (5, (i64 ((scanB (r.bs.drop r.pos)).2.2))), (17, (i64 ((scanB (r.bs.drop r.pos)).2.2))), (19, (Value.pointer (some ⟨b, 2, none⟩)))] (j := 4) (by kernel_rfl) (by kernel_rfl) ?_
    refine Ops.put (t := 28) (b := b) (off := 2) (v := (i64 ((scanB (r.bs.drop r.pos)).2.2))) (ys := [(Value.slice A r.bs.length c), (i64 ((r.pos : Nat) : Int)), (i64 ((scanB (r.bs.drop r.pos)).2.2))]) (by kernel_rfl) (by kernel_rfl) H21 (by kernel_rfl) (d := none) (by kernel_rfl) rfl (fun w24 H25 K26 => ?_)
    clear H21
    have K27 := K20.trans K26 (U := (fun i => i = b)) (fun i h1 h2 => h2) (fun i h1 h2 => by have h2 : i = b := h2; show i = b; omega)
    clear K20
    have F28 := RdO.keep F22 K26 (fun i _ _ hi hs => by have hs : i = b := hs; have := hne i _ _ hi; omega)
    clear F22
    clear F23
    clear K26
    refine Ops.done (by kernel_rfl) ?_
    refine q_seq (by kernel_rfl) ?_
    refine q_region (by kernel_rfl) ?_
    refine Ops.regs 2 [(0, (Value.pointer (some ⟨b, 0, none⟩))), (2, (Value.int IntKind.u64 0)), (3, (Value.int IntKind.u64 (((scanB (r.bs.drop r.pos)).1 : Nat) : Int))), (4, (i64 (((scanB (r.bs.drop r.pos)).2.1 : Nat) : Int))), (21, (Value.bool (((scanB (r.bs.drop r.pos)).2.2) != 0)))] (j := 2) (by kernel_rfl) (by kernel_rfl) ?_
    refine Ops.done (by kernel_rfl) ?_
    refine q_cond (o := .tmp 21) (b := (((scanB (r.bs.drop r.pos)).2.2) != 0)) (by kernel_rfl) rfl (fun h29 => ?_) (fun h29 => ?_)
    · rw [h29]
      have p30 : ¬ ((scanB (r.bs.drop r.pos)).2.2 = 0) := of_bne_t h29
      refine q_seq (by kernel_rfl) ?_
      refine q_region (by kernel_rfl) ?_
      refine Ops.regs 1 [(0, (Value.pointer (some ⟨b, 0, none⟩))), (2, (Value.int IntKind.u64 0)), (3, (Value.int IntKind.u64 (((scanB (r.bs.drop r.pos)).1 : Nat) : Int))), (4, (i64 (((scanB (r.bs.drop r.pos)).2.1 : Nat) : Int)))] (j := 1) (by kernel_rfl) (by kernel_rfl) ?_
      refine Ops.done (by kernel_rfl) ?_
      refine q_ret (by kernel_rfl) ?_
      refine ⟨(Value.int IntKind.u64 0), retv_tmp rfl rfl, ?_⟩
      have e : r.uint = (0, ⟨r.bs, r.pos, (scanB (r.bs.drop r.pos)).2.2⟩) := by unfold Rdr.uint; (repeat' split) <;> first | (exfalso; omega) | rfl | (rw [show (scanB (r.bs.drop r.pos)).2.2 = r.why from by omega])
      exact ⟨by first | (rw [e]; done) | (rw [e]; rfl), K27, by rw [e]; exact H25⟩
    · rw [h29]
      have p31 : (scanB (r.bs.drop r.pos)).2.2 = 0 := of_bne_f h29
      refine q_skip (by kernel_rfl) ?_
      refine q_seq (by kernel_rfl) ?_
      refine q_region (by kernel_rfl) ?_
      refine Ops.regs 3 [(2, (Value.int IntKind.u64 0)), (3, (Value.int IntKind.u64 (((scanB (r.bs.drop r.pos)).1 : Nat) : Int))), (4, (i64 (((scanB (r.bs.drop r.pos)).2.1 : Nat) : Int))), (22, (Value.pointer (some ⟨b, 0, none⟩))), (24, (Value.pointer (some ⟨b, 1, none⟩)))] (j := 3) (by kernel_rfl) (by kernel_rfl) ?_
      refine Ops.go (v := (i64 ((r.pos : Nat) : Int))) (by kernel_rfl) (Runs.load (t := 3) (a := ⟨b, 1, none⟩) (by kernel_rfl) (H25.loads (by kernel_rfl))) (d := (some 25)) (by kernel_rfl) rfl ?_
      refine Ops.regs 2 [(2, (Value.int IntKind.u64 0)), (3, (Value.int IntKind.u64 (((scanB (r.bs.drop r.pos)).1 : Nat) : Int))), (22, (Value.pointer (some ⟨b, 0, none⟩))), (27, (i64 (IntKind.i64.wrap (((r.pos : Nat) : Int) + (((scanB (r.bs.drop r.pos)).2.1 : Nat) : Int)))))] (j := 6) (by kernel_rfl) (by kernel_rfl) ?_
      have e32 : IntKind.i64.wrap (((r.pos : Nat) : Int) + (((scanB (r.bs.drop r.pos)).2.1 : Nat) : Int)) = ((r.pos + ((scanB (r.bs.drop r.pos)).2.1) : Nat) : Int) := by rw [wrap_i64 (by omega) (by omega)]; omega
      rw [e32]
      clear e32
      refine Ops.regs 2 [(2, (Value.int IntKind.u64 0)), (3, (Value.int IntKind.u64 (((scanB (r.bs.drop r.pos)).1 : Nat) : Int))), (27, (i64 ((r.pos + ((scanB (r.bs.drop r.pos)).2.1) : Nat) : Int))), (29, (Value.pointer (some ⟨b, 1, none⟩)))] (j := 8) (by kernel_rfl) (by kernel_rfl) ?_
      refine Ops.put (t := 3) (b := b) (off := 1) (v := (i64 ((r.pos + ((scanB (r.bs.drop r.pos)).2.1) : Nat) : Int))) (ys := [(Value.slice A r.bs.length c), (i64 ((r.pos + ((scanB (r.bs.drop r.pos)).2.1) : Nat) : Int)), (i64 ((scanB (r.bs.drop r.pos)).2.2))]) (by kernel_rfl) (by kernel_rfl) H25 (by kernel_rfl) (d := none) (by kernel_rfl) rfl (fun w33 H34 K35 => ?_)
      clear H25
      have K36 := K27.trans K35 (U := (fun i => i = b)) (fun i h1 h2 => h2) (fun i h1 h2 => by have h2 : i = b := h2; show i = b; omega)
      clear K27
      have F37 := RdO.keep F28 K35 (fun i _ _ hi hs => by have hs : i = b := hs; have := hne i _ _ hi; omega)
      clear F28
      clear K35
      refine Ops.done (by kernel_rfl) ?_
      refine q_seq (by kernel_rfl) ?_
      refine q_region (by kernel_rfl) ?_
      refine Ops.regs 2 [(2, (Value.int IntKind.u64 (((scanB (r.bs.drop r.pos)).1 : Nat) : Int)))] (j := 2) (by kernel_rfl) (by kernel_rfl) ?_
      refine Ops.done (by kernel_rfl) ?_
      refine q_ret (by kernel_rfl) ?_
      refine ⟨(Value.int IntKind.u64 (((scanB (r.bs.drop r.pos)).1 : Nat) : Int)), retv_tmp rfl rfl, ?_⟩
      have e : r.uint = ((scanB (r.bs.drop r.pos)).1, ⟨r.bs, r.pos + ((scanB (r.bs.drop r.pos)).2.1), (scanB (r.bs.drop r.pos)).2.2⟩) := by unfold Rdr.uint; (repeat' split) <;> first | (exfalso; omega) | rfl | (rw [show (scanB (r.bs.drop r.pos)).2.2 = r.why from by omega])
      exact ⟨by first | (rw [e]; done) | (rw [e]; rfl), K36, by rw [e]; exact H34⟩

theorem RdInt_calls (w : World) (b : Nat) (A : Option Addr) (c : Nat) (r : Rdr) (hok : r.Ok) (H0 : Has w b (rowL (rdrL A c r) 88)) (hR : RdO w A c r.bs) (hne : ∀ g o s, A = some ⟨g, o, s⟩ → g ≠ b) : Calls Try.prog 47 ⟨[(Value.pointer (some ⟨b, 0, none⟩))]⟩ w (fun e w' => e = .returned (i64 r.int.1) ∧ Keeps (fun i => i = b) w w' ∧ Has w' b (rowL (rdrL A c r.int.2) 88)) := by
  have hpos := hok.pos
  have hlen := hok.len
  have hsc := r.scan_le
  have hdl : (r.bs.drop r.pos).length = r.bs.length - r.pos := List.length_drop
  have hcap := hR.1.slice
  have Hb := H0.lt
  have K0 : Keeps (fun i => i = b) w w := (Keeps.refl w).mono (fun _ _ h => h.elim)
  refine q_calls Try.func47 (by kernel_rfl) (by kernel_rfl) ?_
  refine q_seq (by kernel_rfl) ?_
  refine q_region (by kernel_rfl) ?_
  refine Ops.regs 1 [(0, (Value.pointer (some ⟨b, 0, none⟩))), (2, (i64 0))] (j := 1) (by kernel_rfl) (by kernel_rfl) ?_
  refine Ops.done (by kernel_rfl) ?_
  refine q_seq (by kernel_rfl) ?_
  refine q_region (by kernel_rfl) ?_
  refine Ops.regs 1 [(2, (i64 0)), (4, (Value.pointer (some ⟨b, 0, none⟩)))] (j := 1) (by kernel_rfl) (by kernel_rfl) ?_
  refine Ops.call (by kernel_rfl) (d := (some 5)) (by kernel_rfl) (RdUint_calls _ b A c r hok H0 hR hne) ?_
  rintro _ w1 ⟨rfl, K2, H3⟩
  have hok4 := Rdr.Ok.uint hok
  have hu5 := Rdr.uint_lt r
  refine ⟨_, _, rfl, rfl, ?_⟩
  have K6 := K0.trans K2 (U := (fun i => i = b)) (fun i h1 h2 => h2) (fun i h1 h2 => by have h2 : i = b := h2; show i = b; omega)
  clear K0
  have F7 := RdO.keep hR K2 (fun i _ _ hi hs => by have hs : i = b := hs; have := hne i _ _ hi; omega)
  clear hR
  clear K2
  have F8 : RdO w1 A c (r.uint.2).bs := by rw [Rdr.uint_bs]; exact F7
  clear F7
  refine Ops.regs 1 [(2, (i64 0)), (3, (Value.int IntKind.u64 ((r.uint.1 : Nat) : Int)))] (j := 3) (by kernel_rfl) (by kernel_rfl) ?_
  refine Ops.done (by kernel_rfl) ?_
  refine q_seq (by kernel_rfl) ?_
  refine q_region (by kernel_rfl) ?_
  refine Ops.regs 2 [(2, (i64 0)), (3, (Value.int IntKind.u64 ((r.uint.1 : Nat) : Int))), (7, (Value.int IntKind.u64 ((((r.uint.1 : Nat) : Int)).fdiv 2)))] (j := 2) (by kernel_rfl) (by kernel_rfl) ?_
  have e9 : (((r.uint.1 : Nat) : Int)).fdiv 2 = ((r.uint.1 / 2 : Nat) : Int) := fdiv_nat r.uint.1 2
  rw [e9]
  clear e9
  refine Ops.regs 1 [(2, (i64 0)), (3, (Value.int IntKind.u64 ((r.uint.1 : Nat) : Int))), (8, (i64 (IntKind.i64.wrap (((r.uint.1 / 2 : Nat) : Int)))))] (j := 3) (by kernel_rfl) (by kernel_rfl) ?_
  have e10 : IntKind.i64.wrap (((r.uint.1 / 2 : Nat) : Int)) = ((r.uint.1 / 2 : Nat) : Int) := wrap_i64 (by omega) (by omega)
  rw [e10]
  refine Ops.regs 1 [(2, (i64 0)), (8, (i64 ((r.uint.1 / 2 : Nat) : Int))), (9, (Value.int IntKind.u64 ((r.uint.1 : Nat) : Int)))] (j := 4) (by kernel_rfl) (by kernel_rfl) ?_
  refine Ops.go (v := (Value.int IntKind.u64 ((r.uint.1 % 2 : Nat) : Int))) (by kernel_rfl) (Runs.int (op := .and) (t := 22) (by kernel_rfl) (run_and1 (by omega))) (d := (some 10)) (by kernel_rfl) rfl ?_
  refine Ops.regs 1 [(2, (i64 0)), (8, (i64 ((r.uint.1 / 2 : Nat) : Int))), (11, (i64 (IntKind.i64.wrap (((r.uint.1 % 2 : Nat) : Int)))))] (j := 6) (by kernel_rfl) (by kernel_rfl) ?_
  have e11 : IntKind.i64.wrap (((r.uint.1 % 2 : Nat) : Int)) = ((r.uint.1 % 2 : Nat) : Int) := wrap_i64 (by omega) (by omega)
  rw [e11]
  refine Ops.regs 1 [(2, (i64 0)), (8, (i64 ((r.uint.1 / 2 : Nat) : Int))), (12, (i64 (IntKind.i64.wrap (0 - ((r.uint.1 % 2 : Nat) : Int)))))] (j := 7) (by kernel_rfl) (by kernel_rfl) ?_
  have e12 : IntKind.i64.wrap (0 - ((r.uint.1 % 2 : Nat) : Int)) = 0 - ((r.uint.1 % 2 : Nat) : Int) := wrap_i64 (by omega) (by omega)
  rw [e12]
  refine Ops.go (v := (i64 (unzz r.uint.1))) (by kernel_rfl) (Runs.int (op := .xor) (t := 2) (by kernel_rfl) (run_unzz (by omega))) (d := (some 13)) (by kernel_rfl) rfl ?_
  refine Ops.regs 1 [(2, (i64 (unzz r.uint.1)))] (j := 9) (by kernel_rfl) (by kernel_rfl) ?_
  refine Ops.done (by kernel_rfl) ?_
  refine q_ret (by kernel_rfl) ?_
  refine ⟨(i64 (unzz r.uint.1)), retv_tmp rfl rfl, ?_⟩
  exact ⟨rfl, K6, H3⟩

theorem RdEnd_calls (w : World) (b : Nat) (A : Option Addr) (c : Nat) (r : Rdr) (hok : r.Ok) (H0 : Has w b (rowL (rdrL A c r) 88)) (hR : RdO w A c r.bs) (hne : ∀ g o s, A = some ⟨g, o, s⟩ → g ≠ b) : Calls Try.prog 15 ⟨[(Value.pointer (some ⟨b, 0, none⟩))]⟩ w (fun e w' => e = .returned (i64 r.end_) ∧ Keeps none_ w w') := by
  have hpos := hok.pos
  have hlen := hok.len
  have hsc := r.scan_le
  have hdl : (r.bs.drop r.pos).length = r.bs.length - r.pos := List.length_drop
  have hcap := hR.1.slice
  have Hb := H0.lt
  have K0 : Keeps none_ w w := Keeps.refl w
  refine q_calls Try.func15 (by kernel_rfl) (by kernel_rfl) ?_
  refine q_seq (by kernel_rfl) ?_
  refine q_region (by kernel_rfl) ?_
  refine Ops.regs 1 [(0, (Value.pointer (some ⟨b, 0, none⟩))), (2, (i64 0))] (j := 1) (by kernel_rfl) (by kernel_rfl) ?_
  refine Ops.done (by kernel_rfl) ?_
  refine q_seq (by kernel_rfl) ?_
  refine q_block (id := 0) (by kernel_rfl) ?_
  refine q_seq (by kernel_rfl) ?_
  refine q_region (by kernel_rfl) ?_
  refine Ops.regs 3 [(0, (Value.pointer (some ⟨b, 0, none⟩))), (2, (i64 0)), (3, (Value.bool false))] (j := 3) (by kernel_rfl) (by kernel_rfl) ?_
  refine Ops.done (by kernel_rfl) ?_
  refine q_else (o := .tmp 3) (by kernel_rfl) rfl ?_
  refine q_seq (by kernel_rfl) ?_
  refine q_region (by kernel_rfl) ?_
  refine Ops.regs 3 [(0, (Value.pointer (some ⟨b, 0, none⟩))), (2, (i64 0)), (9, (Value.pointer (some ⟨b, 2, none⟩)))] (j := 3) (by kernel_rfl) (by kernel_rfl) ?_
  refine Ops.go (v := (i64 r.why)) (by kernel_rfl) (Runs.load (t := 28) (a := ⟨b, 2, none⟩) (by kernel_rfl) (H0.loads (by kernel_rfl))) (d := (some 10)) (by kernel_rfl) rfl ?_
  refine Ops.regs 2 [(0, (Value.pointer (some ⟨b, 0, none⟩))), (2, (i64 0)), (12, (Value.bool (r.why == 0)))] (j := 6) (by kernel_rfl) (by kernel_rfl) ?_
  refine Ops.split (r.why == 0) (fun h1 => ?_) (fun h1 => ?_)
  · rw [h1]
    have p2 : r.why = 0 := of_beq_t h1
    refine Ops.regs 1 [(0, (Value.pointer (some ⟨b, 0, none⟩))), (2, (i64 0)), (12, (Value.bool true)), (13, (Value.pointer (some ⟨b, 0, none⟩)))] (j := 7) (by kernel_rfl) (by kernel_rfl) ?_
    refine Ops.call (by kernel_rfl) (d := (some 14)) (by kernel_rfl) (left_calls _ b A c r hok H0 hR hne) ?_
    rintro _ w3 ⟨A5, c6, rfl, K4, h7, hlb8⟩
    refine ⟨_, _, rfl, rfl, ?_⟩
    have K9 := K0.trans K4 (U := none_) (fun i h1 h2 => h2) (fun i h1 h2 => by exact h2)
    clear K0
    have H10 := H0.keep K4 (fun h => h)
    clear H0
    have F11 := RdO.keep0 hR K4
    clear hR
    clear K4
    refine Ops.regs 4 [(0, (Value.pointer (some ⟨b, 0, none⟩))), (2, (i64 0)), (6, (Value.bool (decide ((((r.bs.drop r.pos).length : Nat) : Int) > 0))))] (j := 12) (by kernel_rfl) (by kernel_rfl) ?_
    refine Ops.done (by kernel_rfl) ?_
    refine q_cond (o := .tmp 6) (b := (decide ((((r.bs.drop r.pos).length : Nat) : Int) > 0))) (by kernel_rfl) rfl (fun h12 => ?_) (fun h12 => ?_)
    · rw [h12]
      have p13 : (((r.bs.drop r.pos).length : Nat) : Int) > 0 := of_decide_eq_true h12
      refine q_seq (by kernel_rfl) ?_
      refine q_region (by kernel_rfl) ?_
      refine Ops.regs 1 [(0, (Value.pointer (some ⟨b, 0, none⟩))), (2, (i64 11))] (j := 1) (by kernel_rfl) (by kernel_rfl) ?_
      refine Ops.done (by kernel_rfl) ?_
      refine q_ret (by kernel_rfl) ?_
      refine ⟨(i64 11), retv_tmp rfl rfl, ?_⟩
      have e : r.end_ = 11 := by unfold Rdr.end_; (split <;> first | (exfalso; omega) | rfl | omega)
      exact ⟨by rw [e], K9⟩
    · rw [h12]
      have p14 : ¬ ((((r.bs.drop r.pos).length : Nat) : Int) > 0) := of_decide_eq_false h12
      refine q_skip (by kernel_rfl) ?_
      refine q_seq (by kernel_rfl) ?_
      refine q_region (by kernel_rfl) ?_
      refine Ops.regs 3 [(2, (i64 0)), (20, (Value.pointer (some ⟨b, 2, none⟩)))] (j := 3) (by kernel_rfl) (by kernel_rfl) ?_
      refine Ops.go (v := (i64 r.why)) (by kernel_rfl) (Runs.load (t := 28) (a := ⟨b, 2, none⟩) (by kernel_rfl) (H10.loads (by kernel_rfl))) (d := (some 21)) (by kernel_rfl) rfl ?_
      refine Ops.regs 1 [(2, (i64 r.why))] (j := 5) (by kernel_rfl) (by kernel_rfl) ?_
      refine Ops.done (by kernel_rfl) ?_
      refine q_ret (by kernel_rfl) ?_
      refine ⟨(i64 r.why), retv_tmp rfl rfl, ?_⟩
      have e : r.end_ = r.why := by unfold Rdr.end_; (split <;> first | (exfalso; omega) | rfl | omega)
      exact ⟨by rw [e], K9⟩
  · rw [h1]
    have p15 : ¬ (r.why = 0) := of_beq_f h1
    refine Ops.regs 6 [(0, (Value.pointer (some ⟨b, 0, none⟩))), (2, (i64 0)), (6, (Value.bool false))] (j := 12) (by kernel_rfl) (by kernel_rfl) ?_
    refine Ops.done (by kernel_rfl) ?_
    refine q_else (o := .tmp 6) (by kernel_rfl) rfl ?_
    refine q_skip (by kernel_rfl) ?_
    refine q_seq (by kernel_rfl) ?_
    refine q_region (by kernel_rfl) ?_
    refine Ops.regs 3 [(2, (i64 0)), (20, (Value.pointer (some ⟨b, 2, none⟩)))] (j := 3) (by kernel_rfl) (by kernel_rfl) ?_
    refine Ops.go (v := (i64 r.why)) (by kernel_rfl) (Runs.load (t := 28) (a := ⟨b, 2, none⟩) (by kernel_rfl) (H0.loads (by kernel_rfl))) (d := (some 21)) (by kernel_rfl) rfl ?_
    refine Ops.regs 1 [(2, (i64 r.why))] (j := 5) (by kernel_rfl) (by kernel_rfl) ?_
    refine Ops.done (by kernel_rfl) ?_
    refine q_ret (by kernel_rfl) ?_
    refine ⟨(i64 r.why), retv_tmp rfl rfl, ?_⟩
    have e : r.end_ = r.why := by unfold Rdr.end_; (split <;> first | (exfalso; omega) | rfl | omega)
    exact ⟨by rw [e], K0⟩

theorem Clone_nil (w : World) (n c : Nat) (bs : List UInt8) (hv : RdB w (.slice none n c) bs) : Calls Try.prog 57 ⟨[(Value.slice none n c)]⟩ w (fun e w' => ∃ v', e = .returned v' ∧ Keeps none_ w w' ∧ OwnB w' w.heap.size 5 v' (bs)) := by
  have K0 : Keeps none_ w w := Keeps.refl w
  have hz : [] = bs := hv.none_nil.symm
  refine q_calls Try.func57 (by kernel_rfl) (by kernel_rfl) ?_
  refine q_seq (by kernel_rfl) ?_
  refine q_region (by kernel_rfl) ?_
  refine Ops.regs 1 [(0, (Value.slice none n c)), (2, (Value.slice none 0 0))] (j := 1) (by kernel_rfl) (by kernel_rfl) ?_
  refine Ops.done (by kernel_rfl) ?_
  refine q_seq (by kernel_rfl) ?_
  refine q_seq (by kernel_rfl) ?_
  refine q_region (by kernel_rfl) ?_
  refine Ops.regs 2 [(0, (Value.slice none n c)), (2, (Value.slice none 0 0)), (4, (Value.bool true))] (j := 2) (by kernel_rfl) (by kernel_rfl) ?_
  refine Ops.done (by kernel_rfl) ?_
  refine q_then (o := .tmp 4) (by kernel_rfl) rfl ?_
  refine q_seq (by kernel_rfl) ?_
  refine q_region (by kernel_rfl) ?_
  refine Ops.regs 1 [(0, (Value.slice none n c)), (2, (Value.slice none 0 0))] (j := 1) (by kernel_rfl) (by kernel_rfl) ?_
  refine Ops.done (by kernel_rfl) ?_
  refine q_ret (by kernel_rfl) ?_
  refine ⟨(Value.slice none 0 0), retv_tmp rfl rfl, ?_⟩
  exact ⟨_, rfl, K0, hz ▸ World.ownsRow_nil _ _ _ _⟩

theorem Clone_some (w : World) (a : Addr) (c : Nat) (bs : List UInt8) (hv : RdB w (.slice (some a) bs.length c) bs) (hl : bs.length ≤ 140737488351232) : Calls Try.prog 57 ⟨[(Value.slice (some a) bs.length c)]⟩ w (fun e w' => ∃ v', e = .returned v' ∧ Keeps none_ w w' ∧ OwnB w' w.heap.size 5 v' (bs)) := by
  have K0 : Keeps none_ w w := Keeps.refl w
  refine q_calls Try.func57 (by kernel_rfl) (by kernel_rfl) ?_
  refine q_seq (by kernel_rfl) ?_
  refine q_region (by kernel_rfl) ?_
  refine Ops.regs 1 [(0, (Value.slice (some a) bs.length c)), (2, (Value.slice none 0 0))] (j := 1) (by kernel_rfl) (by kernel_rfl) ?_
  refine Ops.done (by kernel_rfl) ?_
  refine q_seq (by kernel_rfl) ?_
  refine q_seq (by kernel_rfl) ?_
  refine q_region (by kernel_rfl) ?_
  refine Ops.regs 2 [(0, (Value.slice (some a) bs.length c)), (2, (Value.slice none 0 0)), (4, (Value.bool false))] (j := 2) (by kernel_rfl) (by kernel_rfl) ?_
  refine Ops.done (by kernel_rfl) ?_
  refine q_else (o := .tmp 4) (by kernel_rfl) rfl ?_
  refine q_skip (by kernel_rfl) ?_
  refine q_seq (by kernel_rfl) ?_
  refine q_region (by kernel_rfl) ?_
  refine Ops.new (o := rowL [] 5) (V := fun b => (Value.slice (some ⟨b, 0, none⟩) 0 0)) (by kernel_rfl) (d := (some 5)) (by kernel_rfl) (fun b => rfl) (fun b1 w2 hb3 H4 K5 hs6 => ?_)
  have nb1 : w.heap.size ≤ b1 := by have := K0.size; omega
  have K7 := K0.trans K5 (U := none_) (fun i h1 h2 => h2) (fun i h1 h2 => by exact h2)
  clear K0
  clear K5 hs6
  refine Ops.regs 1 [(2, (Value.slice none 0 0)), (5, (Value.slice (some ⟨b1, 0, none⟩) 0 0)), (6, (Value.slice (some a) bs.length c))] (j := 2) (by kernel_rfl) (by kernel_rfl) ?_
  have hE8 : OwnB w2 w.heap.size 5 (Value.slice (some ⟨b1, 0, none⟩) 0 0) [] := own_empty H4 nb1
  obtain ⟨v9, w10, hr11, hO12, K13⟩ := OwnB.app (ty := 23) tyB hE8 (hv.keep0 (by omega) K7) (by (try simp only at *); (try simp only [List.length_append] at *); (try simp only [List.length_cons] at *); (try simp only [List.length_nil] at *); omega) K7.size
  refine Ops.go (v := v9) (by kernel_rfl) (Runs.append (ts := #[23, 23]) (ty := 23) (vs := [(Value.slice (some ⟨b1, 0, none⟩) 0 0), (Value.slice (some a) bs.length c)]) (by kernel_rfl) hr11) (d := (some 7)) (by kernel_rfl) rfl ?_
  have K14 := Keeps.own2 K7 K13
  clear H4 hE8 K7 hr11 K13
  refine Ops.regs 1 [(2, v9)] (j := 4) (by kernel_rfl) (by kernel_rfl) ?_
  refine Ops.done (by kernel_rfl) ?_
  refine q_ret (by kernel_rfl) ?_
  refine ⟨v9, retv_tmp rfl rfl, ?_⟩
  exact ⟨_, rfl, K14, hO12⟩

theorem Clone_calls (w : World) (v : Value) (bs : List UInt8) (hv : RdB w v bs) (hl : bs.length ≤ 140737488351232) : Calls Try.prog 57 ⟨[v]⟩ w (fun e w' => ∃ v', e = .returned v' ∧ Keeps none_ w w' ∧ OwnB w' w.heap.size 5 v' (bs)) := by
  obtain ⟨A, c, rfl⟩ := hv.form
  cases A with
  | none => exact Clone_nil w _ c bs hv
  | some a => exact Clone_some w a c bs hv hl

theorem NewReader_calls (w : World) (v : Value) (bs : List UInt8) (hv : RdB w v bs) (hl : bs.length ≤ 140737488351232) : Calls Try.prog 13 ⟨[v]⟩ w (fun e w' => ∃ b A c, e = .returned (.pointer (some ⟨b, 0, none⟩)) ∧ w.heap.size ≤ b ∧ Keeps none_ w w' ∧ Has w' b (rowL (rdrL A c ⟨bs, 0, 0⟩) 88) ∧ RdO w' A c bs ∧ (∀ g o s, A = some ⟨g, o, s⟩ → g ≠ b) ∧ (∀ g o s, A = some ⟨g, o, s⟩ → w.heap.size ≤ g)) := by
  have K0 : Keeps none_ w w := Keeps.refl w
  refine q_calls Try.func13 (by kernel_rfl) (by kernel_rfl) ?_
  refine q_seq (by kernel_rfl) ?_
  refine q_region (by kernel_rfl) ?_
  refine Ops.regs 1 [(0, v), (2, (Value.pointer none))] (j := 1) (by kernel_rfl) (by kernel_rfl) ?_
  refine Ops.done (by kernel_rfl) ?_
  refine q_seq (by kernel_rfl) ?_
  refine q_region (by kernel_rfl) ?_
  refine Ops.regs 1 [(2, (Value.pointer none)), (3, v)] (j := 1) (by kernel_rfl) (by kernel_rfl) ?_
  refine Ops.call (by kernel_rfl) (d := (some 4)) (by kernel_rfl) (Clone_calls _ v bs (hv.keep0 (by omega) K0) (by omega)) ?_
  rintro _ w2 ⟨v1, rfl, K3, hO4⟩
  obtain ⟨A5, c6, rfl, hr7, hge8⟩ := OwnB.rdo hO4
  have hszhr7 := K0.size
  clear hO4
  refine ⟨_, _, rfl, rfl, ?_⟩
  have K9 := K0.trans K3 (U := none_) (fun i h1 h2 => h2) (fun i h1 h2 => by exact h2)
  clear K0
  clear K3
  refine Ops.regs 1 [(2, (Value.pointer none)), (5, (agg [(Value.slice A5 bs.length c6), (i64 0), (i64 0)]))] (j := 3) (by kernel_rfl) (by kernel_rfl) ?_
  refine Ops.new (o := rowL [(Value.slice A5 bs.length c6), (i64 0), (i64 0)] 88) (V := fun b => (Value.pointer (some ⟨b, 0, none⟩))) (by kernel_rfl) (d := (some 6)) (by kernel_rfl) (fun b => rfl) (fun b10 w11 hb12 H13 K14 hs15 => ?_)
  have nb10 : w.heap.size ≤ b10 := by have := K9.size; omega
  have ob16 : ∀ i o s, A5 = some ⟨i, o, s⟩ → i ≠ b10 := fun i o s hi => by have := hr7.2 i o s hi; omega
  have K17 := K9.trans K14 (U := none_) (fun i h1 h2 => h2) (fun i h1 h2 => by exact h2)
  clear K9
  have F18 := RdO.keep0 hr7 K14
  clear hr7
  clear K14 hs15
  refine Ops.regs 1 [(2, (Value.pointer (some ⟨b10, 0, none⟩)))] (j := 5) (by kernel_rfl) (by kernel_rfl) ?_
  refine Ops.done (by kernel_rfl) ?_
  refine q_ret (by kernel_rfl) ?_
  refine ⟨(Value.pointer (some ⟨b10, 0, none⟩)), retv_tmp rfl rfl, ?_⟩
  exact ⟨b10, A5, c6, rfl, nb10, K17, H13, F18, ob16, fun g o s hi => by have := hge8 g o s hi; omega⟩

theorem RRUint_calls (w : World) (b : Nat) (A : Option Addr) (c : Nat) (r : Rdr) (hok : r.Ok) (H0 : Has w b (rowL (rdrL A c r) 72)) (hR : RdO w A c r.bs) (hne : ∀ g o s, A = some ⟨g, o, s⟩ → g ≠ b) : Calls Try.prog 68 ⟨[(Value.pointer (some ⟨b, 0, none⟩))]⟩ w (fun e w' => e = .returned (.int .u64 ((r.uint.1 : Nat) : Int)) ∧ Keeps (fun i => i = b) w w' ∧ Has w' b (rowL (rdrL A c r.uint.2) 72)) := by
  have hR0 := hR
  have hpos := hok.pos
  have hlen := hok.len
  have hsc := r.scan_le
  have hdl : (r.bs.drop r.pos).length = r.bs.length - r.pos := List.length_drop
  have hcap := hR.1.slice
  have Hb := H0.lt
  have K0 : Keeps (fun i => i = b) w w := (Keeps.refl w).mono (fun _ _ h => h.elim)
  refine q_calls Try.func68 (by kernel_rfl) (by kernel_rfl) ?_
  refine q_seq (by kernel_rfl) ?_
  refine q_region (by kernel_rfl) ?_
  refine Ops.regs 1 [(0, (Value.pointer (some ⟨b, 0, none⟩))), (2, (Value.int IntKind.u64 0))] (j := 1) (by kernel_rfl) (by kernel_rfl) ?_
  refine Ops.done (by kernel_rfl) ?_
  refine q_seq (by kernel_rfl) ?_
  refine q_seq (by kernel_rfl) ?_
  refine q_region (by kernel_rfl) ?_
  refine Ops.regs 3 [(0, (Value.pointer (some ⟨b, 0, none⟩))), (2, (Value.int IntKind.u64 0)), (8, (Value.pointer (some ⟨b, 2, none⟩)))] (j := 3) (by kernel_rfl) (by kernel_rfl) ?_
  refine Ops.go (v := (i64 r.why)) (by kernel_rfl) (Runs.load (t := 28) (a := ⟨b, 2, none⟩) (by kernel_rfl) (H0.loads (by kernel_rfl))) (d := (some 9)) (by kernel_rfl) rfl ?_
  refine Ops.regs 1 [(0, (Value.pointer (some ⟨b, 0, none⟩))), (2, (Value.int IntKind.u64 0)), (10, (Value.bool (r.why != 0)))] (j := 5) (by kernel_rfl) (by kernel_rfl) ?_
  refine Ops.done (by kernel_rfl) ?_
  refine q_cond (o := .tmp 10) (b := (r.why != 0)) (by kernel_rfl) rfl (fun h1 => ?_) (fun h1 => ?_)
  · rw [h1]
    have p2 : ¬ (r.why = 0) := of_bne_t h1
    refine q_seq (by kernel_rfl) ?_
    refine q_region (by kernel_rfl) ?_
    refine Ops.regs 1 [(0, (Value.pointer (some ⟨b, 0, none⟩))), (2, (Value.int IntKind.u64 0))] (j := 1) (by kernel_rfl) (by kernel_rfl) ?_
    refine Ops.done (by kernel_rfl) ?_
    refine q_ret (by kernel_rfl) ?_
    refine ⟨(Value.int IntKind.u64 0), retv_tmp rfl rfl, ?_⟩
    have e := uint_stay (r := r) (by omega)
    exact ⟨by first | (rw [e]; done) | (rw [e]; rfl), K0, by rw [e]; exact H0⟩
  · rw [h1]
    have p3 : r.why = 0 := of_bne_f h1
    refine q_skip (by kernel_rfl) ?_
    refine q_seq (by kernel_rfl) ?_
    refine q_region (by kernel_rfl) ?_
    refine Ops.regs 1 [(0, (Value.pointer (some ⟨b, 0, none⟩))), (2, (Value.int IntKind.u64 0)), (3, (Value.int IntKind.u64 0))] (j := 1) (by kernel_rfl) (by kernel_rfl) ?_
    refine Ops.done (by kernel_rfl) ?_
    refine q_seq (by kernel_rfl) ?_
    refine q_seq (by kernel_rfl) ?_
    refine q_region (by kernel_rfl) ?_
    refine Ops.regs 1 [(0, (Value.pointer (some ⟨b, 0, none⟩))), (2, (Value.int IntKind.u64 0)), (3, (Value.int IntKind.u64 0)), (4, (i64 0))] (j := 1) (by kernel_rfl) (by kernel_rfl) ?_
    refine Ops.done (by kernel_rfl) ?_
    refine q_block (id := 0) (by kernel_rfl) ?_
    refine q_keep (R := [(0, (Value.pointer (some ⟨b, 0, none⟩))), (3, (Value.int IntKind.u64 0)), (4, (i64 0))]) (by kernel_rfl) ?_
    refine q_loop (fun (gs : Nat × Nat) L (wx : World) => match gs with | (i, n) => L = [(0, (Value.pointer (some ⟨b, 0, none⟩))), (3, (Value.int IntKind.u64 ((n : Nat) : Int))), (4, (i64 ((i : Nat) : Int)))] ∧ scanA (r.bs.drop (r.pos + i)) i n = scanB (r.bs.drop r.pos) ∧ i ≤ 9 ∧ r.pos + i ≤ r.bs.length ∧ n < p7 i ∧ Keeps (fun i => i = b) w wx ∧ Has wx b (rowL [(Value.slice A r.bs.length c), (i64 ((r.pos : Nat) : Int)), (i64 r.why)] 72)) (fun (gs : Nat × Nat) => match gs with | (i, n) => 10 - i) (0, 0) (by kernel_rfl) ⟨rfl, rfl, (by omega), (by omega), (p7_pos 0), K0, H0⟩ ?_
    clear H0 hR K0
    rintro ⟨i, n⟩ _ w4 ⟨rfl, hE, hi, hil, hn, K5, H6⟩
    refine q_seq (by kernel_rfl) ?_
    refine q_seq (by kernel_rfl) ?_
    refine q_region (by kernel_rfl) ?_
    refine Ops.regs 2 [(0, (Value.pointer (some ⟨b, 0, none⟩))), (3, (Value.int IntKind.u64 ((n : Nat) : Int))), (4, (i64 ((i : Nat) : Int))), (12, (Value.bool (decide (((i : Nat) : Int) < 10))))] (j := 2) (by kernel_rfl) (by kernel_rfl) ?_
    refine Ops.done (by kernel_rfl) ?_
    have h7 : (decide (((i : Nat) : Int) < 10)) = true := decide_eq_true (by omega)
    rw [h7]
    refine q_then (o := .tmp 12) (by kernel_rfl) rfl ?_
    refine q_skip (by kernel_rfl) ?_
    refine q_seq (by kernel_rfl) ?_
    refine q_block (id := 1) (by kernel_rfl) ?_
    refine q_seq (by kernel_rfl) ?_
    refine q_seq (by kernel_rfl) ?_
    refine q_draw (fun wz => Keeps none_ w4 wz) 12 (by kernel_rfl) (by kernel_rfl) (by kernel_rfl) (fun w8 K9 _ _ => ⟨K9, ?_⟩)
    have K10 := K5.trans K9 (U := (fun i => i = b)) (fun i h1 h2 => h2) (fun i h1 h2 => by exact h2.elim)
    clear K5
    have H11 := H6.keep K9 (fun h => h)
    clear H6
    refine Dr.strong (S' := (fun wz => Keeps none_ w8 wz)) (Keeps.refl w8) (fun wz hx => K9.trans hx (fun i _ h => h) (fun _ _ h => h)) ?_
    clear K9
    refine Dr.takes (fuel' := 9) (is' := [2, 1, 0]) [0, 1, 2] [(0, (Value.pointer (some ⟨b, 0, none⟩))), (3, (Value.int IntKind.u64 ((n : Nat) : Int))), (4, (i64 ((i : Nat) : Int))), (12, (Value.bool true)), (17, (Value.pointer (some ⟨b, 1, none⟩)))] (by kernel_rfl) rfl (by kernel_rfl) ?_
    refine Dr.take (i := 3) (v := (i64 ((r.pos : Nat) : Int))) (by kernel_rfl) (by kernel_rfl) (fun wz hS => Runs.load (t := 3) (a := ⟨b, 1, none⟩) (by kernel_rfl) ((H11.keep hS (fun h => h)).loads (by kernel_rfl))) (d := (some 18)) (by kernel_rfl) rfl ?_
    refine Dr.takes (fuel' := 6) (is' := [5, 4, 3, 2, 1, 0]) [4, 5] [(0, (Value.pointer (some ⟨b, 0, none⟩))), (3, (Value.int IntKind.u64 ((n : Nat) : Int))), (4, (i64 ((i : Nat) : Int))), (12, (Value.bool true)), (20, (i64 (IntKind.i64.wrap (((r.pos : Nat) : Int) + ((i : Nat) : Int)))))] (by kernel_rfl) rfl (by kernel_rfl) ?_
    have e12 : IntKind.i64.wrap (((r.pos : Nat) : Int) + ((i : Nat) : Int)) = ((r.pos + i : Nat) : Int) := by rw [wrap_i64 (by omega) (by omega)]; omega
    rw [e12]
    clear e12
    refine Dr.takes (fuel' := 3) (is' := [8, 7, 6, 5, 4, 3, 2, 1, 0]) [6, 7, 8] [(0, (Value.pointer (some ⟨b, 0, none⟩))), (3, (Value.int IntKind.u64 ((n : Nat) : Int))), (4, (i64 ((i : Nat) : Int))), (12, (Value.bool true)), (20, (i64 ((r.pos + i : Nat) : Int))), (23, (Value.pointer (some ⟨b, 0, none⟩)))] (by kernel_rfl) rfl (by kernel_rfl) ?_
    refine Dr.take (i := 9) (v := (Value.slice A r.bs.length c)) (by kernel_rfl) (by kernel_rfl) (fun wz hS => Runs.load (t := 23) (a := ⟨b, 0, none⟩) (by kernel_rfl) ((H11.keep hS (fun h => h)).loads (by kernel_rfl))) (d := (some 24)) (by kernel_rfl) rfl ?_
    refine Dr.takes (fuel' := 0) (is' := [11, 10, 9, 8, 7, 6, 5, 4, 3, 2, 1, 0]) [10, 11] [(0, (Value.pointer (some ⟨b, 0, none⟩))), (3, (Value.int IntKind.u64 ((n : Nat) : Int))), (4, (i64 ((i : Nat) : Int))), (12, (Value.bool true)), (26, (Value.bool (decide (((r.pos + i : Nat) : Int) ≥ ((r.bs.length : Nat) : Int)))))] (by kernel_rfl) rfl (by kernel_rfl) ?_
    refine Dr.done (by kernel_rfl) ?_
    refine q_cond (o := .tmp 26) (b := (decide (((r.pos + i : Nat) : Int) ≥ ((r.bs.length : Nat) : Int)))) (by kernel_rfl) rfl (fun h13 => ?_) (fun h13 => ?_)
    · rw [h13]
      have p14 : ((r.pos + i : Nat) : Int) ≥ ((r.bs.length : Nat) : Int) := of_decide_eq_true h13
      refine q_seq (by kernel_rfl) ?_
      refine q_region (by kernel_rfl) ?_
      refine Ops.regs 3 [(0, (Value.pointer (some ⟨b, 0, none⟩))), (3, (Value.int IntKind.u64 ((n : Nat) : Int))), (4, (i64 ((i : Nat) : Int))), (12, (Value.bool true)), (26, (Value.bool true)), (29, (Value.pointer (some ⟨b, 2, none⟩)))] (j := 3) (by kernel_rfl) (by kernel_rfl) ?_
      refine Ops.put (t := 28) (b := b) (off := 2) (v := (i64 10)) (ys := [(Value.slice A r.bs.length c), (i64 ((r.pos : Nat) : Int)), (i64 10)]) (by kernel_rfl) (by kernel_rfl) H11 (by kernel_rfl) (d := none) (by kernel_rfl) rfl (fun w15 H16 K17 => ?_)
      clear H11
      have K18 := K10.trans K17 (U := (fun i => i = b)) (fun i h1 h2 => h2) (fun i h1 h2 => by have h2 : i = b := h2; show i = b; omega)
      clear K10
      clear K17
      refine Ops.done (by kernel_rfl) ?_
      refine q_seq (by kernel_rfl) ?_
      refine q_region (by kernel_rfl) ?_
      refine Ops.regs 1 [(0, (Value.pointer (some ⟨b, 0, none⟩))), (2, (Value.int IntKind.u64 0)), (3, (Value.int IntKind.u64 ((n : Nat) : Int))), (4, (i64 ((i : Nat) : Int))), (12, (Value.bool true)), (26, (Value.bool true))] (j := 1) (by kernel_rfl) (by kernel_rfl) ?_
      refine Ops.done (by kernel_rfl) ?_
      refine q_ret (by kernel_rfl) ?_
      refine ⟨(Value.int IntKind.u64 0), retv_tmp rfl rfl, ?_⟩
      have es : scanB (r.bs.drop r.pos) = (n, 0, 10) := by rw [← hE, List.drop_eq_nil_of_le (by omega)]; rfl
      have e := uint_bad (by omega) es (by decide)
      exact ⟨by first | (rw [e]; done) | (rw [e]; rfl), K18, by rw [e]; exact H16⟩
    · rw [h13]
      have p19 : ¬ (((r.pos + i : Nat) : Int) ≥ ((r.bs.length : Nat) : Int)) := of_decide_eq_false h13
      obtain ⟨x, lb, lo, hx, hA, hLd⟩ := RdB.at (P := Try.prog) (t := 5) hR0.1 (k := r.pos + i) (by kernel_rfl) (by omega)
      have hx256 : x.toNat < 256 := x.toNat_lt
      have hlb : lb ≠ b := hne _ _ _ hA
      refine q_skip (by kernel_rfl) ?_
      refine q_seq (by kernel_rfl) ?_
      refine q_draw (fun wz => Keeps none_ w8 wz) 13 (by kernel_rfl) (by kernel_rfl) (by kernel_rfl) (fun w20 K21 _ _ => ⟨K21, ?_⟩)
      have K22 := K10.trans K21 (U := (fun i => i = b)) (fun i h1 h2 => h2) (fun i h1 h2 => by exact h2.elim)
      clear K10
      have H23 := H11.keep K21 (fun h => h)
      clear H11
      refine Dr.strong (S' := (fun wz => Keeps none_ w20 wz)) (Keeps.refl w20) (fun wz hx => K21.trans hx (fun i _ h => h) (fun _ _ h => h)) ?_
      clear K21
      refine Dr.takes (fuel' := 10) (is' := [2, 1, 0]) [0, 1, 2] [(0, (Value.pointer (some ⟨b, 0, none⟩))), (3, (Value.int IntKind.u64 ((n : Nat) : Int))), (4, (i64 ((i : Nat) : Int))), (12, (Value.bool true)), (26, (Value.bool false)), (32, (Value.pointer (some ⟨b, 0, none⟩)))] (by kernel_rfl) rfl (by kernel_rfl) ?_
      refine Dr.take (i := 3) (v := (Value.slice A r.bs.length c)) (by kernel_rfl) (by kernel_rfl) (fun wz hS => Runs.load (t := 23) (a := ⟨b, 0, none⟩) (by kernel_rfl) ((H23.keep hS (fun h => h)).loads (by kernel_rfl))) (d := (some 33)) (by kernel_rfl) rfl ?_
      refine Dr.takes (fuel' := 6) (is' := [6, 5, 4, 3, 2, 1, 0]) [4, 5, 6] [(0, (Value.pointer (some ⟨b, 0, none⟩))), (3, (Value.int IntKind.u64 ((n : Nat) : Int))), (4, (i64 ((i : Nat) : Int))), (12, (Value.bool true)), (26, (Value.bool false)), (33, (Value.slice A r.bs.length c)), (36, (Value.pointer (some ⟨b, 1, none⟩)))] (by kernel_rfl) rfl (by kernel_rfl) ?_
      refine Dr.take (i := 7) (v := (i64 ((r.pos : Nat) : Int))) (by kernel_rfl) (by kernel_rfl) (fun wz hS => Runs.load (t := 3) (a := ⟨b, 1, none⟩) (by kernel_rfl) ((H23.keep hS (fun h => h)).loads (by kernel_rfl))) (d := (some 37)) (by kernel_rfl) rfl ?_
      refine Dr.takes (fuel' := 3) (is' := [9, 8, 7, 6, 5, 4, 3, 2, 1, 0]) [8, 9] [(0, (Value.pointer (some ⟨b, 0, none⟩))), (3, (Value.int IntKind.u64 ((n : Nat) : Int))), (4, (i64 ((i : Nat) : Int))), (12, (Value.bool true)), (26, (Value.bool false)), (33, (Value.slice A r.bs.length c)), (39, (i64 (IntKind.i64.wrap (((r.pos : Nat) : Int) + ((i : Nat) : Int)))))] (by kernel_rfl) rfl (by kernel_rfl) ?_
      have e24 : IntKind.i64.wrap (((r.pos : Nat) : Int) + ((i : Nat) : Int)) = ((r.pos + i : Nat) : Int) := by rw [wrap_i64 (by omega) (by omega)]; omega
      rw [e24]
      clear e24
      refine Dr.take (i := 10) (v := (Value.pointer (some ⟨lb, lo + (r.pos + i), none⟩))) (by kernel_rfl) (by kernel_rfl) (fun wz hS => Runs.ixSliceE (k := IntKind.i64) (t := 23) (len := r.bs.length) (cap := c) (s := 1) (off' := lo + (r.pos + i)) (i := ((r.pos + i : Nat) : Int)) hA (by kernel_rfl) (by kernel_rfl) (by omega) (by omega) (by omega)) (d := (some 40)) (by kernel_rfl) rfl ?_
      refine Dr.take (i := 11) (v := (Value.int IntKind.u8 ((x.toNat : Nat) : Int))) (by kernel_rfl) (by kernel_rfl) (fun wz hS => Runs.load (t := 5) (a := ⟨lb, lo + (r.pos + i), none⟩) (by kernel_rfl) (hLd _ _ (K22.trans hS (fun _ _ h => h) (fun i h1 h2 => h2.elim)) (fun h => by have h : lb = b := h; omega))) (d := (some 41)) (by kernel_rfl) rfl ?_
      refine Dr.takes (fuel' := 0) (is' := [12, 11, 10, 9, 8, 7, 6, 5, 4, 3, 2, 1, 0]) [12] [(0, (Value.pointer (some ⟨b, 0, none⟩))), (3, (Value.int IntKind.u64 ((n : Nat) : Int))), (4, (i64 ((i : Nat) : Int))), (5, (Value.int IntKind.u8 ((x.toNat : Nat) : Int))), (12, (Value.bool true)), (26, (Value.bool false))] (by kernel_rfl) rfl (by kernel_rfl) ?_
      refine Dr.done (by kernel_rfl) ?_
      refine q_seq (by kernel_rfl) ?_
      refine q_seq (by kernel_rfl) ?_
      refine q_region (by kernel_rfl) ?_
      refine Ops.regs 3 [(0, (Value.pointer (some ⟨b, 0, none⟩))), (3, (Value.int IntKind.u64 ((n : Nat) : Int))), (4, (i64 ((i : Nat) : Int))), (5, (Value.int IntKind.u8 ((x.toNat : Nat) : Int))), (12, (Value.bool true)), (26, (Value.bool false)), (44, (Value.bool (((i : Nat) : Int) == 9)))] (j := 3) (by kernel_rfl) (by kernel_rfl) ?_
      refine Ops.split (((i : Nat) : Int) == 9) (fun h25 => ?_) (fun h25 => ?_)
      · rw [h25]
        have p26 : ((i : Nat) : Int) = 9 := of_beq_t h25
        refine Ops.regs 4 [(0, (Value.pointer (some ⟨b, 0, none⟩))), (3, (Value.int IntKind.u64 ((n : Nat) : Int))), (4, (i64 ((i : Nat) : Int))), (5, (Value.int IntKind.u8 ((x.toNat : Nat) : Int))), (12, (Value.bool true)), (26, (Value.bool false)), (48, (Value.bool (decide (((x.toNat : Nat) : Int) > 1))))] (j := 7) (by kernel_rfl) (by kernel_rfl) ?_
        refine Ops.split (decide (((x.toNat : Nat) : Int) > 1)) (fun h27 => ?_) (fun h27 => ?_)
        · rw [h27]
          have p28 : ((x.toNat : Nat) : Int) > 1 := of_decide_eq_true h27
          refine Ops.regs 7 [(0, (Value.pointer (some ⟨b, 0, none⟩))), (3, (Value.int IntKind.u64 ((n : Nat) : Int))), (4, (i64 ((i : Nat) : Int))), (5, (Value.int IntKind.u8 ((x.toNat : Nat) : Int))), (12, (Value.bool true)), (26, (Value.bool false)), (55, (Value.bool true))] (j := 14) (by kernel_rfl) (by kernel_rfl) ?_
          refine Ops.done (by kernel_rfl) ?_
          refine q_then (o := .tmp 55) (by kernel_rfl) rfl ?_
          refine q_seq (by kernel_rfl) ?_
          refine q_region (by kernel_rfl) ?_
          refine Ops.regs 3 [(0, (Value.pointer (some ⟨b, 0, none⟩))), (3, (Value.int IntKind.u64 ((n : Nat) : Int))), (4, (i64 ((i : Nat) : Int))), (5, (Value.int IntKind.u8 ((x.toNat : Nat) : Int))), (12, (Value.bool true)), (26, (Value.bool false)), (55, (Value.bool true)), (58, (Value.pointer (some ⟨b, 2, none⟩)))] (j := 3) (by kernel_rfl) (by kernel_rfl) ?_
          refine Ops.put (t := 28) (b := b) (off := 2) (v := (i64 11)) (ys := [(Value.slice A r.bs.length c), (i64 ((r.pos : Nat) : Int)), (i64 11)]) (by kernel_rfl) (by kernel_rfl) H23 (by kernel_rfl) (d := none) (by kernel_rfl) rfl (fun w29 H30 K31 => ?_)
          clear H23
          have K32 := K22.trans K31 (U := (fun i => i = b)) (fun i h1 h2 => h2) (fun i h1 h2 => by have h2 : i = b := h2; show i = b; omega)
          clear K22
          clear K31
          refine Ops.done (by kernel_rfl) ?_
          refine q_seq (by kernel_rfl) ?_
          refine q_region (by kernel_rfl) ?_
          refine Ops.regs 1 [(0, (Value.pointer (some ⟨b, 0, none⟩))), (2, (Value.int IntKind.u64 0)), (3, (Value.int IntKind.u64 ((n : Nat) : Int))), (4, (i64 ((i : Nat) : Int))), (5, (Value.int IntKind.u8 ((x.toNat : Nat) : Int))), (12, (Value.bool true)), (26, (Value.bool false)), (55, (Value.bool true))] (j := 1) (by kernel_rfl) (by kernel_rfl) ?_
          refine Ops.done (by kernel_rfl) ?_
          refine q_ret (by kernel_rfl) ?_
          refine ⟨(Value.int IntKind.u64 0), retv_tmp rfl rfl, ?_⟩
          have es : scanB (r.bs.drop r.pos) = (n, 0, 11) := by rw [← hE, hx, scanA_bad (by omega)]
          have e := uint_bad (by omega) es (by decide)
          exact ⟨by first | (rw [e]; done) | (rw [e]; rfl), K32, by rw [e]; exact H30⟩
        · rw [h27]
          have p33 : ¬ (((x.toNat : Nat) : Int) > 1) := of_decide_eq_false h27
          refine Ops.regs 3 [(0, (Value.pointer (some ⟨b, 0, none⟩))), (3, (Value.int IntKind.u64 ((n : Nat) : Int))), (4, (i64 ((i : Nat) : Int))), (5, (Value.int IntKind.u8 ((x.toNat : Nat) : Int))), (12, (Value.bool true)), (26, (Value.bool false)), (48, (Value.bool false)), (51, (Value.bool (decide (((i : Nat) : Int) > 0))))] (j := 10) (by kernel_rfl) (by kernel_rfl) ?_
          refine Ops.split (decide (((i : Nat) : Int) > 0)) (fun h34 => ?_) (fun h34 => ?_)
          · rw [h34]
            have p35 : ((i : Nat) : Int) > 0 := of_decide_eq_true h34
            refine Ops.regs 4 [(0, (Value.pointer (some ⟨b, 0, none⟩))), (3, (Value.int IntKind.u64 ((n : Nat) : Int))), (4, (i64 ((i : Nat) : Int))), (5, (Value.int IntKind.u8 ((x.toNat : Nat) : Int))), (12, (Value.bool true)), (26, (Value.bool false)), (55, (Value.bool (((x.toNat : Nat) : Int) == 0)))] (j := 14) (by kernel_rfl) (by kernel_rfl) ?_
            refine Ops.done (by kernel_rfl) ?_
            refine q_cond (o := .tmp 55) (b := (((x.toNat : Nat) : Int) == 0)) (by kernel_rfl) rfl (fun h36 => ?_) (fun h36 => ?_)
            · rw [h36]
              have p37 : ((x.toNat : Nat) : Int) = 0 := of_beq_t h36
              refine q_seq (by kernel_rfl) ?_
              refine q_region (by kernel_rfl) ?_
              refine Ops.regs 3 [(0, (Value.pointer (some ⟨b, 0, none⟩))), (3, (Value.int IntKind.u64 ((n : Nat) : Int))), (4, (i64 ((i : Nat) : Int))), (5, (Value.int IntKind.u8 ((x.toNat : Nat) : Int))), (12, (Value.bool true)), (26, (Value.bool false)), (55, (Value.bool true)), (58, (Value.pointer (some ⟨b, 2, none⟩)))] (j := 3) (by kernel_rfl) (by kernel_rfl) ?_
              refine Ops.put (t := 28) (b := b) (off := 2) (v := (i64 11)) (ys := [(Value.slice A r.bs.length c), (i64 ((r.pos : Nat) : Int)), (i64 11)]) (by kernel_rfl) (by kernel_rfl) H23 (by kernel_rfl) (d := none) (by kernel_rfl) rfl (fun w38 H39 K40 => ?_)
              clear H23
              have K41 := K22.trans K40 (U := (fun i => i = b)) (fun i h1 h2 => h2) (fun i h1 h2 => by have h2 : i = b := h2; show i = b; omega)
              clear K22
              clear K40
              refine Ops.done (by kernel_rfl) ?_
              refine q_seq (by kernel_rfl) ?_
              refine q_region (by kernel_rfl) ?_
              refine Ops.regs 1 [(0, (Value.pointer (some ⟨b, 0, none⟩))), (2, (Value.int IntKind.u64 0)), (3, (Value.int IntKind.u64 ((n : Nat) : Int))), (4, (i64 ((i : Nat) : Int))), (5, (Value.int IntKind.u8 ((x.toNat : Nat) : Int))), (12, (Value.bool true)), (26, (Value.bool false)), (55, (Value.bool true))] (j := 1) (by kernel_rfl) (by kernel_rfl) ?_
              refine Ops.done (by kernel_rfl) ?_
              refine q_ret (by kernel_rfl) ?_
              refine ⟨(Value.int IntKind.u64 0), retv_tmp rfl rfl, ?_⟩
              have es : scanB (r.bs.drop r.pos) = (n, 0, 11) := by rw [← hE, hx, scanA_bad (by omega)]
              have e := uint_bad (by omega) es (by decide)
              exact ⟨by first | (rw [e]; done) | (rw [e]; rfl), K41, by rw [e]; exact H39⟩
            · rw [h36]
              have p42 : ¬ (((x.toNat : Nat) : Int) = 0) := of_beq_f h36
              refine q_skip (by kernel_rfl) ?_
              refine q_seq (by kernel_rfl) ?_
              refine q_region (by kernel_rfl) ?_
              refine Ops.regs 3 [(0, (Value.pointer (some ⟨b, 0, none⟩))), (3, (Value.int IntKind.u64 ((n : Nat) : Int))), (4, (i64 ((i : Nat) : Int))), (5, (Value.int IntKind.u8 ((x.toNat : Nat) : Int))), (12, (Value.bool true)), (26, (Value.bool false)), (55, (Value.bool false)), (59, (Value.int IntKind.u64 ((n : Nat) : Int))), (61, (Value.int IntKind.u8 ((((x.toNat : Nat) : Int)).tmod 128)))] (j := 3) (by kernel_rfl) (by kernel_rfl) ?_
              have e43 : (((x.toNat : Nat) : Int)).tmod 128 = ((x.toNat % 128 : Nat) : Int) := tmod_nat x.toNat 128
              rw [e43]
              clear e43
              refine Ops.regs 1 [(0, (Value.pointer (some ⟨b, 0, none⟩))), (3, (Value.int IntKind.u64 ((n : Nat) : Int))), (4, (i64 ((i : Nat) : Int))), (5, (Value.int IntKind.u8 ((x.toNat : Nat) : Int))), (12, (Value.bool true)), (26, (Value.bool false)), (55, (Value.bool false)), (59, (Value.int IntKind.u64 ((n : Nat) : Int))), (62, (Value.int IntKind.u64 (IntKind.u64.wrap (((x.toNat % 128 : Nat) : Int)))))] (j := 4) (by kernel_rfl) (by kernel_rfl) ?_
              have e44 : IntKind.u64.wrap (((x.toNat % 128 : Nat) : Int)) = ((x.toNat % 128 : Nat) : Int) := wrap_u64 (by omega) (by omega)
              rw [e44]
              refine Ops.regs 2 [(0, (Value.pointer (some ⟨b, 0, none⟩))), (3, (Value.int IntKind.u64 ((n : Nat) : Int))), (4, (i64 ((i : Nat) : Int))), (5, (Value.int IntKind.u8 ((x.toNat : Nat) : Int))), (12, (Value.bool true)), (26, (Value.bool false)), (55, (Value.bool false)), (59, (Value.int IntKind.u64 ((n : Nat) : Int))), (62, (Value.int IntKind.u64 ((x.toNat % 128 : Nat) : Int))), (64, (i64 (IntKind.i64.wrap (7 * ((i : Nat) : Int)))))] (j := 6) (by kernel_rfl) (by kernel_rfl) ?_
              have e45 : IntKind.i64.wrap (7 * ((i : Nat) : Int)) = ((7 * i : Nat) : Int) := by rw [wrap_i64 (by omega) (by omega)]; omega
              rw [e45]
              clear e45
              refine Ops.regs 1 [(0, (Value.pointer (some ⟨b, 0, none⟩))), (3, (Value.int IntKind.u64 ((n : Nat) : Int))), (4, (i64 ((i : Nat) : Int))), (5, (Value.int IntKind.u8 ((x.toNat : Nat) : Int))), (12, (Value.bool true)), (26, (Value.bool false)), (55, (Value.bool false)), (59, (Value.int IntKind.u64 ((n : Nat) : Int))), (62, (Value.int IntKind.u64 ((x.toNat % 128 : Nat) : Int))), (65, (Value.int IntKind.u64 (IntKind.u64.wrap (((7 * i : Nat) : Int)))))] (j := 7) (by kernel_rfl) (by kernel_rfl) ?_
              have e46 : IntKind.u64.wrap (((7 * i : Nat) : Int)) = ((7 * i : Nat) : Int) := wrap_u64 (by omega) (by omega)
              rw [e46]
              have hr := scan_round (c := x) hi hn (by omega)
              refine Ops.go (v := (Value.int IntKind.u64 ((x.toNat % 128 * p7 i : Nat) : Int))) (by kernel_rfl) (Runs.int (op := .shl) (t := 22) (by kernel_rfl) (run_shl7 (k := IntKind.u64) (i := i) (s := ((7 * i : Nat) : Int)) (by omega) (by omega) hr.1)) (d := (some 66)) (by kernel_rfl) rfl ?_
              refine Ops.go (v := (Value.int IntKind.u64 ((n + x.toNat % 128 * p7 i : Nat) : Int))) (by kernel_rfl) (Runs.int (op := .or) (t := 22) (by kernel_rfl) (run_or7 hn hr.2.1)) (d := (some 67)) (by kernel_rfl) rfl ?_
              refine Ops.regs 1 [(0, (Value.pointer (some ⟨b, 0, none⟩))), (3, (Value.int IntKind.u64 ((n + x.toNat % 128 * p7 i : Nat) : Int))), (4, (i64 ((i : Nat) : Int))), (5, (Value.int IntKind.u8 ((x.toNat : Nat) : Int))), (12, (Value.bool true)), (26, (Value.bool false)), (55, (Value.bool false))] (j := 10) (by kernel_rfl) (by kernel_rfl) ?_
              refine Ops.done (by kernel_rfl) ?_
              refine q_seq (by kernel_rfl) ?_
              refine q_region (by kernel_rfl) ?_
              refine Ops.regs 2 [(0, (Value.pointer (some ⟨b, 0, none⟩))), (3, (Value.int IntKind.u64 ((n + x.toNat % 128 * p7 i : Nat) : Int))), (4, (i64 ((i : Nat) : Int))), (5, (Value.int IntKind.u8 ((x.toNat : Nat) : Int))), (12, (Value.bool true)), (26, (Value.bool false)), (55, (Value.bool false)), (69, (Value.bool (decide (((x.toNat : Nat) : Int) < 128))))] (j := 2) (by kernel_rfl) (by kernel_rfl) ?_
              refine Ops.done (by kernel_rfl) ?_
              refine q_cond (o := .tmp 69) (b := (decide (((x.toNat : Nat) : Int) < 128))) (by kernel_rfl) rfl (fun h47 => ?_) (fun h47 => ?_)
              · rw [h47]
                have p48 : ((x.toNat : Nat) : Int) < 128 := of_decide_eq_true h47
                refine q_seq (by kernel_rfl) ?_
                refine q_region (by kernel_rfl) ?_
                refine Ops.regs 4 [(0, (Value.pointer (some ⟨b, 0, none⟩))), (3, (Value.int IntKind.u64 ((n + x.toNat % 128 * p7 i : Nat) : Int))), (4, (i64 ((i : Nat) : Int))), (5, (Value.int IntKind.u8 ((x.toNat : Nat) : Int))), (12, (Value.bool true)), (26, (Value.bool false)), (55, (Value.bool false)), (69, (Value.bool true)), (70, (Value.pointer (some ⟨b, 0, none⟩))), (73, (Value.pointer (some ⟨b, 1, none⟩)))] (j := 4) (by kernel_rfl) (by kernel_rfl) ?_
                refine Ops.go (v := (i64 ((r.pos : Nat) : Int))) (by kernel_rfl) (Runs.load (t := 3) (a := ⟨b, 1, none⟩) (by kernel_rfl) (H23.loads (by kernel_rfl))) (d := (some 74)) (by kernel_rfl) rfl ?_
                refine Ops.regs 2 [(0, (Value.pointer (some ⟨b, 0, none⟩))), (3, (Value.int IntKind.u64 ((n + x.toNat % 128 * p7 i : Nat) : Int))), (4, (i64 ((i : Nat) : Int))), (5, (Value.int IntKind.u8 ((x.toNat : Nat) : Int))), (12, (Value.bool true)), (26, (Value.bool false)), (55, (Value.bool false)), (69, (Value.bool true)), (70, (Value.pointer (some ⟨b, 0, none⟩))), (76, (i64 (IntKind.i64.wrap (((r.pos : Nat) : Int) + ((i : Nat) : Int)))))] (j := 7) (by kernel_rfl) (by kernel_rfl) ?_
                have e49 : IntKind.i64.wrap (((r.pos : Nat) : Int) + ((i : Nat) : Int)) = ((r.pos + i : Nat) : Int) := by rw [wrap_i64 (by omega) (by omega)]; omega
                rw [e49]
                clear e49
                refine Ops.regs 1 [(0, (Value.pointer (some ⟨b, 0, none⟩))), (3, (Value.int IntKind.u64 ((n + x.toNat % 128 * p7 i : Nat) : Int))), (4, (i64 ((i : Nat) : Int))), (5, (Value.int IntKind.u8 ((x.toNat : Nat) : Int))), (12, (Value.bool true)), (26, (Value.bool false)), (55, (Value.bool false)), (69, (Value.bool true)), (70, (Value.pointer (some ⟨b, 0, none⟩))), (77, (i64 (IntKind.i64.wrap (((r.pos + i : Nat) : Int) + 1))))] (j := 8) (by kernel_rfl) (by kernel_rfl) ?_
                have e50 : IntKind.i64.wrap (((r.pos + i : Nat) : Int) + 1) = (((r.pos + i) + 1 : Nat) : Int) := by rw [wrap_i64 (by omega) (by omega)]; omega
                rw [e50]
                clear e50
                refine Ops.regs 2 [(0, (Value.pointer (some ⟨b, 0, none⟩))), (3, (Value.int IntKind.u64 ((n + x.toNat % 128 * p7 i : Nat) : Int))), (4, (i64 ((i : Nat) : Int))), (5, (Value.int IntKind.u8 ((x.toNat : Nat) : Int))), (12, (Value.bool true)), (26, (Value.bool false)), (55, (Value.bool false)), (69, (Value.bool true)), (77, (i64 (((r.pos + i) + 1 : Nat) : Int))), (79, (Value.pointer (some ⟨b, 1, none⟩)))] (j := 10) (by kernel_rfl) (by kernel_rfl) ?_
                refine Ops.put (t := 3) (b := b) (off := 1) (v := (i64 (((r.pos + i) + 1 : Nat) : Int))) (ys := [(Value.slice A r.bs.length c), (i64 (((r.pos + i) + 1 : Nat) : Int)), (i64 r.why)]) (by kernel_rfl) (by kernel_rfl) H23 (by kernel_rfl) (d := none) (by kernel_rfl) rfl (fun w51 H52 K53 => ?_)
                clear H23
                have K54 := K22.trans K53 (U := (fun i => i = b)) (fun i h1 h2 => h2) (fun i h1 h2 => by have h2 : i = b := h2; show i = b; omega)
                clear K22
                clear K53
                refine Ops.done (by kernel_rfl) ?_
                refine q_seq (by kernel_rfl) ?_
                refine q_region (by kernel_rfl) ?_
                refine Ops.regs 2 [(0, (Value.pointer (some ⟨b, 0, none⟩))), (2, (Value.int IntKind.u64 ((n + x.toNat % 128 * p7 i : Nat) : Int))), (3, (Value.int IntKind.u64 ((n + x.toNat % 128 * p7 i : Nat) : Int))), (4, (i64 ((i : Nat) : Int))), (5, (Value.int IntKind.u8 ((x.toNat : Nat) : Int))), (12, (Value.bool true)), (26, (Value.bool false)), (55, (Value.bool false)), (69, (Value.bool true))] (j := 2) (by kernel_rfl) (by kernel_rfl) ?_
                refine Ops.done (by kernel_rfl) ?_
                refine q_ret (by kernel_rfl) ?_
                refine ⟨(Value.int IntKind.u64 ((n + x.toNat % 128 * p7 i : Nat) : Int)), retv_tmp rfl rfl, ?_⟩
                have es : scanB (r.bs.drop r.pos) = (n + x.toNat % 128 * p7 i, i + 1, 0) := by rw [← hE, hx]; exact scanA_end (by omega) (by omega)
                have e := uint_good (by omega) es
                exact ⟨by first | (rw [e]; done) | (rw [e]; rfl), K54, by rw [e]; exact H52⟩
              · rw [h47]
                have p55 : ¬ (((x.toNat : Nat) : Int) < 128) := of_decide_eq_false h47
                refine q_skip (by kernel_rfl) ?_
                refine q_region (by kernel_rfl) ?_
                refine Ops.regs 2 [(0, (Value.pointer (some ⟨b, 0, none⟩))), (3, (Value.int IntKind.u64 ((n + x.toNat % 128 * p7 i : Nat) : Int))), (4, (i64 ((i : Nat) : Int))), (5, (Value.int IntKind.u8 ((x.toNat : Nat) : Int))), (12, (Value.bool true)), (14, (i64 (IntKind.i64.wrap (((i : Nat) : Int) + 1)))), (26, (Value.bool false)), (55, (Value.bool false)), (69, (Value.bool false))] (j := 2) (by kernel_rfl) (by kernel_rfl) ?_
                have e56 : IntKind.i64.wrap (((i : Nat) : Int) + 1) = ((i + 1 : Nat) : Int) := by rw [wrap_i64 (by omega) (by omega)]; omega
                rw [e56]
                clear e56
                refine Ops.regs 1 [(0, (Value.pointer (some ⟨b, 0, none⟩))), (3, (Value.int IntKind.u64 ((n + x.toNat % 128 * p7 i : Nat) : Int))), (4, (i64 ((i + 1 : Nat) : Int))), (5, (Value.int IntKind.u8 ((x.toNat : Nat) : Int))), (12, (Value.bool true)), (26, (Value.bool false)), (55, (Value.bool false)), (69, (Value.bool false))] (j := 3) (by kernel_rfl) (by kernel_rfl) ?_
                refine Ops.keep (R := [(0, (Value.pointer (some ⟨b, 0, none⟩))), (3, (Value.int IntKind.u64 ((n + x.toNat % 128 * p7 i : Nat) : Int))), (4, (i64 ((i + 1 : Nat) : Int)))]) (by kernel_rfl) ?_
                refine Ops.done (by kernel_rfl) ?_
                exact ⟨(i + 1, n + x.toNat % 128 * p7 i), ⟨rfl, ((show scanA (r.bs.drop (r.pos + i)) i n = scanA (r.bs.drop (r.pos + i + 1)) (i + 1) (n + x.toNat % 128 * p7 i) from by rw [hx, scanA_more (by omega) (by omega)]).symm.trans hE), (by omega), (by omega), (hr.2.2 (by omega)), K22, H23⟩, (show 10 - (i + 1) < 10 - i from by omega)⟩
          · rw [h34]
            have p57 : ¬ (((i : Nat) : Int) > 0) := of_decide_eq_false h34
            refine Ops.regs 4 [(0, (Value.pointer (some ⟨b, 0, none⟩))), (3, (Value.int IntKind.u64 ((n : Nat) : Int))), (4, (i64 ((i : Nat) : Int))), (5, (Value.int IntKind.u8 ((x.toNat : Nat) : Int))), (12, (Value.bool true)), (26, (Value.bool false)), (55, (Value.bool false))] (j := 14) (by kernel_rfl) (by kernel_rfl) ?_
            refine Ops.done (by kernel_rfl) ?_
            refine q_else (o := .tmp 55) (by kernel_rfl) rfl ?_
            refine q_skip (by kernel_rfl) ?_
            refine q_seq (by kernel_rfl) ?_
            refine q_region (by kernel_rfl) ?_
            refine Ops.regs 3 [(0, (Value.pointer (some ⟨b, 0, none⟩))), (3, (Value.int IntKind.u64 ((n : Nat) : Int))), (4, (i64 ((i : Nat) : Int))), (5, (Value.int IntKind.u8 ((x.toNat : Nat) : Int))), (12, (Value.bool true)), (26, (Value.bool false)), (55, (Value.bool false)), (59, (Value.int IntKind.u64 ((n : Nat) : Int))), (61, (Value.int IntKind.u8 ((((x.toNat : Nat) : Int)).tmod 128)))] (j := 3) (by kernel_rfl) (by kernel_rfl) ?_
            have e58 : (((x.toNat : Nat) : Int)).tmod 128 = ((x.toNat % 128 : Nat) : Int) := tmod_nat x.toNat 128
            rw [e58]
            clear e58
            refine Ops.regs 1 [(0, (Value.pointer (some ⟨b, 0, none⟩))), (3, (Value.int IntKind.u64 ((n : Nat) : Int))), (4, (i64 ((i : Nat) : Int))), (5, (Value.int IntKind.u8 ((x.toNat : Nat) : Int))), (12, (Value.bool true)), (26, (Value.bool false)), (55, (Value.bool false)), (59, (Value.int IntKind.u64 ((n : Nat) : Int))), (62, (Value.int IntKind.u64 (IntKind.u64.wrap (((x.toNat % 128 : Nat) : Int)))))] (j := 4) (by kernel_rfl) (by kernel_rfl) ?_
            have e59 : IntKind.u64.wrap (((x.toNat % 128 : Nat) : Int)) = ((x.toNat % 128 : Nat) : Int) := wrap_u64 (by omega) (by omega)
            rw [e59]
            refine Ops.regs 2 [(0, (Value.pointer (some ⟨b, 0, none⟩))), (3, (Value.int IntKind.u64 ((n : Nat) : Int))), (4, (i64 ((i : Nat) : Int))), (5, (Value.int IntKind.u8 ((x.toNat : Nat) : Int))), (12, (Value.bool true)), (26, (Value.bool false)), (55, (Value.bool false)), (59, (Value.int IntKind.u64 ((n : Nat) : Int))), (62, (Value.int IntKind.u64 ((x.toNat % 128 : Nat) : Int))), (64, (i64 (IntKind.i64.wrap (7 * ((i : Nat) : Int)))))] (j := 6) (by kernel_rfl) (by kernel_rfl) ?_
            have e60 : IntKind.i64.wrap (7 * ((i : Nat) : Int)) = ((7 * i : Nat) : Int) := by rw [wrap_i64 (by omega) (by omega)]; omega
            rw [e60]
            clear e60
            refine Ops.regs 1 [(0, (Value.pointer (some ⟨b, 0, none⟩))), (3, (Value.int IntKind.u64 ((n : Nat) : Int))), (4, (i64 ((i : Nat) : Int))), (5, (Value.int IntKind.u8 ((x.toNat : Nat) : Int))), (12, (Value.bool true)), (26, (Value.bool false)), (55, (Value.bool false)), (59, (Value.int IntKind.u64 ((n : Nat) : Int))), (62, (Value.int IntKind.u64 ((x.toNat % 128 : Nat) : Int))), (65, (Value.int IntKind.u64 (IntKind.u64.wrap (((7 * i : Nat) : Int)))))] (j := 7) (by kernel_rfl) (by kernel_rfl) ?_
            have e61 : IntKind.u64.wrap (((7 * i : Nat) : Int)) = ((7 * i : Nat) : Int) := wrap_u64 (by omega) (by omega)
            rw [e61]
            have hr := scan_round (c := x) hi hn (by omega)
            refine Ops.go (v := (Value.int IntKind.u64 ((x.toNat % 128 * p7 i : Nat) : Int))) (by kernel_rfl) (Runs.int (op := .shl) (t := 22) (by kernel_rfl) (run_shl7 (k := IntKind.u64) (i := i) (s := ((7 * i : Nat) : Int)) (by omega) (by omega) hr.1)) (d := (some 66)) (by kernel_rfl) rfl ?_
            refine Ops.go (v := (Value.int IntKind.u64 ((n + x.toNat % 128 * p7 i : Nat) : Int))) (by kernel_rfl) (Runs.int (op := .or) (t := 22) (by kernel_rfl) (run_or7 hn hr.2.1)) (d := (some 67)) (by kernel_rfl) rfl ?_
            refine Ops.regs 1 [(0, (Value.pointer (some ⟨b, 0, none⟩))), (3, (Value.int IntKind.u64 ((n + x.toNat % 128 * p7 i : Nat) : Int))), (4, (i64 ((i : Nat) : Int))), (5, (Value.int IntKind.u8 ((x.toNat : Nat) : Int))), (12, (Value.bool true)), (26, (Value.bool false)), (55, (Value.bool false))] (j := 10) (by kernel_rfl) (by kernel_rfl) ?_
            refine Ops.done (by kernel_rfl) ?_
            refine q_seq (by kernel_rfl) ?_
            refine q_region (by kernel_rfl) ?_
            refine Ops.regs 2 [(0, (Value.pointer (some ⟨b, 0, none⟩))), (3, (Value.int IntKind.u64 ((n + x.toNat % 128 * p7 i : Nat) : Int))), (4, (i64 ((i : Nat) : Int))), (5, (Value.int IntKind.u8 ((x.toNat : Nat) : Int))), (12, (Value.bool true)), (26, (Value.bool false)), (55, (Value.bool false)), (69, (Value.bool (decide (((x.toNat : Nat) : Int) < 128))))] (j := 2) (by kernel_rfl) (by kernel_rfl) ?_
            refine Ops.done (by kernel_rfl) ?_
            refine q_cond (o := .tmp 69) (b := (decide (((x.toNat : Nat) : Int) < 128))) (by kernel_rfl) rfl (fun h62 => ?_) (fun h62 => ?_)
            · rw [h62]
              have p63 : ((x.toNat : Nat) : Int) < 128 := of_decide_eq_true h62
              refine q_seq (by kernel_rfl) ?_
              refine q_region (by kernel_rfl) ?_
              refine Ops.regs 4 [(0, (Value.pointer (some ⟨b, 0, none⟩))), (3, (Value.int IntKind.u64 ((n + x.toNat % 128 * p7 i : Nat) : Int))), (4, (i64 ((i : Nat) : Int))), (5, (Value.int IntKind.u8 ((x.toNat : Nat) : Int))), (12, (Value.bool true)), (26, (Value.bool false)), (55, (Value.bool false)), (69, (Value.bool true)), (70, (Value.pointer (some ⟨b, 0, none⟩))), (73, (Value.pointer (some ⟨b, 1, none⟩)))] (j := 4) (by kernel_rfl) (by kernel_rfl) ?_
              refine Ops.go (v := (i64 ((r.pos : Nat) : Int))) (by kernel_rfl) (Runs.load (t := 3) (a := ⟨b, 1, none⟩) (by kernel_rfl) (H23.loads (by kernel_rfl))) (d := (some 74)) (by kernel_rfl) rfl ?_
              refine Ops.regs 2 [(0, (Value.pointer (some ⟨b, 0, none⟩))), (3, (Value.int IntKind.u64 ((n + x.toNat % 128 * p7 i : Nat) : Int))), (4, (i64 ((i : Nat) : Int))), (5, (Value.int IntKind.u8 ((x.toNat : Nat) : Int))), (12, (Value.bool true)), (26, (Value.bool false)), (55, (Value.bool false)), (69, (Value.bool true)), (70, (Value.pointer (some ⟨b, 0, none⟩))), (76, (i64 (IntKind.i64.wrap (((r.pos : Nat) : Int) + ((i : Nat) : Int)))))] (j := 7) (by kernel_rfl) (by kernel_rfl) ?_
              have e64 : IntKind.i64.wrap (((r.pos : Nat) : Int) + ((i : Nat) : Int)) = ((r.pos + i : Nat) : Int) := by rw [wrap_i64 (by omega) (by omega)]; omega
              rw [e64]
              clear e64
              refine Ops.regs 1 [(0, (Value.pointer (some ⟨b, 0, none⟩))), (3, (Value.int IntKind.u64 ((n + x.toNat % 128 * p7 i : Nat) : Int))), (4, (i64 ((i : Nat) : Int))), (5, (Value.int IntKind.u8 ((x.toNat : Nat) : Int))), (12, (Value.bool true)), (26, (Value.bool false)), (55, (Value.bool false)), (69, (Value.bool true)), (70, (Value.pointer (some ⟨b, 0, none⟩))), (77, (i64 (IntKind.i64.wrap (((r.pos + i : Nat) : Int) + 1))))] (j := 8) (by kernel_rfl) (by kernel_rfl) ?_
              have e65 : IntKind.i64.wrap (((r.pos + i : Nat) : Int) + 1) = (((r.pos + i) + 1 : Nat) : Int) := by rw [wrap_i64 (by omega) (by omega)]; omega
              rw [e65]
              clear e65
              refine Ops.regs 2 [(0, (Value.pointer (some ⟨b, 0, none⟩))), (3, (Value.int IntKind.u64 ((n + x.toNat % 128 * p7 i : Nat) : Int))), (4, (i64 ((i : Nat) : Int))), (5, (Value.int IntKind.u8 ((x.toNat : Nat) : Int))), (12, (Value.bool true)), (26, (Value.bool false)), (55, (Value.bool false)), (69, (Value.bool true)), (77, (i64 (((r.pos + i) + 1 : Nat) : Int))), (79, (Value.pointer (some ⟨b, 1, none⟩)))] (j := 10) (by kernel_rfl) (by kernel_rfl) ?_
              refine Ops.put (t := 3) (b := b) (off := 1) (v := (i64 (((r.pos + i) + 1 : Nat) : Int))) (ys := [(Value.slice A r.bs.length c), (i64 (((r.pos + i) + 1 : Nat) : Int)), (i64 r.why)]) (by kernel_rfl) (by kernel_rfl) H23 (by kernel_rfl) (d := none) (by kernel_rfl) rfl (fun w66 H67 K68 => ?_)
              clear H23
              have K69 := K22.trans K68 (U := (fun i => i = b)) (fun i h1 h2 => h2) (fun i h1 h2 => by have h2 : i = b := h2; show i = b; omega)
              clear K22
              clear K68
              refine Ops.done (by kernel_rfl) ?_
              refine q_seq (by kernel_rfl) ?_
              refine q_region (by kernel_rfl) ?_
              refine Ops.regs 2 [(0, (Value.pointer (some ⟨b, 0, none⟩))), (2, (Value.int IntKind.u64 ((n + x.toNat % 128 * p7 i : Nat) : Int))), (3, (Value.int IntKind.u64 ((n + x.toNat % 128 * p7 i : Nat) : Int))), (4, (i64 ((i : Nat) : Int))), (5, (Value.int IntKind.u8 ((x.toNat : Nat) : Int))), (12, (Value.bool true)), (26, (Value.bool false)), (55, (Value.bool false)), (69, (Value.bool true))] (j := 2) (by kernel_rfl) (by kernel_rfl) ?_
              refine Ops.done (by kernel_rfl) ?_
              refine q_ret (by kernel_rfl) ?_
              refine ⟨(Value.int IntKind.u64 ((n + x.toNat % 128 * p7 i : Nat) : Int)), retv_tmp rfl rfl, ?_⟩
              have es : scanB (r.bs.drop r.pos) = (n + x.toNat % 128 * p7 i, i + 1, 0) := by rw [← hE, hx]; exact scanA_end (by omega) (by omega)
              have e := uint_good (by omega) es
              exact ⟨by first | (rw [e]; done) | (rw [e]; rfl), K69, by rw [e]; exact H67⟩
            · rw [h62]
              have p70 : ¬ (((x.toNat : Nat) : Int) < 128) := of_decide_eq_false h62
              refine q_skip (by kernel_rfl) ?_
              refine q_region (by kernel_rfl) ?_
              refine Ops.regs 2 [(0, (Value.pointer (some ⟨b, 0, none⟩))), (3, (Value.int IntKind.u64 ((n + x.toNat % 128 * p7 i : Nat) : Int))), (4, (i64 ((i : Nat) : Int))), (5, (Value.int IntKind.u8 ((x.toNat : Nat) : Int))), (12, (Value.bool true)), (14, (i64 (IntKind.i64.wrap (((i : Nat) : Int) + 1)))), (26, (Value.bool false)), (55, (Value.bool false)), (69, (Value.bool false))] (j := 2) (by kernel_rfl) (by kernel_rfl) ?_
              have e71 : IntKind.i64.wrap (((i : Nat) : Int) + 1) = ((i + 1 : Nat) : Int) := by rw [wrap_i64 (by omega) (by omega)]; omega
              rw [e71]
              clear e71
              refine Ops.regs 1 [(0, (Value.pointer (some ⟨b, 0, none⟩))), (3, (Value.int IntKind.u64 ((n + x.toNat % 128 * p7 i : Nat) : Int))), (4, (i64 ((i + 1 : Nat) : Int))), (5, (Value.int IntKind.u8 ((x.toNat : Nat) : Int))), (12, (Value.bool true)), (26, (Value.bool false)), (55, (Value.bool false)), (69, (Value.bool false))] (j := 3) (by kernel_rfl) (by kernel_rfl) ?_
              refine Ops.keep (R := [(0, (Value.pointer (some ⟨b, 0, none⟩))), (3, (Value.int IntKind.u64 ((n + x.toNat % 128 * p7 i : Nat) : Int))), (4, (i64 ((i + 1 : Nat) : Int)))]) (by kernel_rfl) ?_
              refine Ops.done (by kernel_rfl) ?_
              exact ⟨(i + 1, n + x.toNat % 128 * p7 i), ⟨rfl, ((show scanA (r.bs.drop (r.pos + i)) i n = scanA (r.bs.drop (r.pos + i + 1)) (i + 1) (n + x.toNat % 128 * p7 i) from by rw [hx, scanA_more (by omega) (by omega)]).symm.trans hE), (by omega), (by omega), (hr.2.2 (by omega)), K22, H23⟩, (show 10 - (i + 1) < 10 - i from by omega)⟩
      · rw [h25]
        have p72 : ¬ (((i : Nat) : Int) = 9) := of_beq_f h25
        refine Ops.regs 7 [(0, (Value.pointer (some ⟨b, 0, none⟩))), (3, (Value.int IntKind.u64 ((n : Nat) : Int))), (4, (i64 ((i : Nat) : Int))), (5, (Value.int IntKind.u8 ((x.toNat : Nat) : Int))), (12, (Value.bool true)), (26, (Value.bool false)), (48, (Value.bool false)), (51, (Value.bool (decide (((i : Nat) : Int) > 0))))] (j := 10) (by kernel_rfl) (by kernel_rfl) ?_
        refine Ops.split (decide (((i : Nat) : Int) > 0)) (fun h73 => ?_) (fun h73 => ?_)
        · rw [h73]
          have p74 : ((i : Nat) : Int) > 0 := of_decide_eq_true h73
          refine Ops.regs 4 [(0, (Value.pointer (some ⟨b, 0, none⟩))), (3, (Value.int IntKind.u64 ((n : Nat) : Int))), (4, (i64 ((i : Nat) : Int))), (5, (Value.int IntKind.u8 ((x.toNat : Nat) : Int))), (12, (Value.bool true)), (26, (Value.bool false)), (55, (Value.bool (((x.toNat : Nat) : Int) == 0)))] (j := 14) (by kernel_rfl) (by kernel_rfl) ?_
          refine Ops.done (by kernel_rfl) ?_
          refine q_cond (o := .tmp 55) (b := (((x.toNat : Nat) : Int) == 0)) (by kernel_rfl) rfl (fun h75 => ?_) (fun h75 => ?_)
          · rw [h75]
            have p76 : ((x.toNat : Nat) : Int) = 0 := of_beq_t h75
            refine q_seq (by kernel_rfl) ?_
            refine q_region (by kernel_rfl) ?_
            refine Ops.regs 3 [(0, (Value.pointer (some ⟨b, 0, none⟩))), (3, (Value.int IntKind.u64 ((n : Nat) : Int))), (4, (i64 ((i : Nat) : Int))), (5, (Value.int IntKind.u8 ((x.toNat : Nat) : Int))), (12, (Value.bool true)), (26, (Value.bool false)), (55, (Value.bool true)), (58, (Value.pointer (some ⟨b, 2, none⟩)))] (j := 3) (by kernel_rfl) (by kernel_rfl) ?_
            refine Ops.put (t := 28) (b := b) (off := 2) (v := (i64 11)) (ys := [(Value.slice A r.bs.length c), (i64 ((r.pos : Nat) : Int)), (i64 11)]) (by kernel_rfl) (by kernel_rfl) H23 (by kernel_rfl) (d := none) (by kernel_rfl) rfl (fun w77 H78 K79 => ?_)
            clear H23
            have K80 := K22.trans K79 (U := (fun i => i = b)) (fun i h1 h2 => h2) (fun i h1 h2 => by have h2 : i = b := h2; show i = b; omega)
            clear K22
            clear K79
            refine Ops.done (by kernel_rfl) ?_
            refine q_seq (by kernel_rfl) ?_
            refine q_region (by kernel_rfl) ?_
            refine Ops.regs 1 [(0, (Value.pointer (some ⟨b, 0, none⟩))), (2, (Value.int IntKind.u64 0)), (3, (Value.int IntKind.u64 ((n : Nat) : Int))), (4, (i64 ((i : Nat) : Int))), (5, (Value.int IntKind.u8 ((x.toNat : Nat) : Int))), (12, (Value.bool true)), (26, (Value.bool false)), (55, (Value.bool true))] (j := 1) (by kernel_rfl) (by kernel_rfl) ?_
            refine Ops.done (by kernel_rfl) ?_
            refine q_ret (by kernel_rfl) ?_
            refine ⟨(Value.int IntKind.u64 0), retv_tmp rfl rfl, ?_⟩
            have es : scanB (r.bs.drop r.pos) = (n, 0, 11) := by rw [← hE, hx, scanA_bad (by omega)]
            have e := uint_bad (by omega) es (by decide)
            exact ⟨by first | (rw [e]; done) | (rw [e]; rfl), K80, by rw [e]; exact H78⟩
          · rw [h75]
            have p81 : ¬ (((x.toNat : Nat) : Int) = 0) := of_beq_f h75
            refine q_skip (by kernel_rfl) ?_
            refine q_seq (by kernel_rfl) ?_
            refine q_region (by kernel_rfl) ?_
            refine Ops.regs 3 [(0, (Value.pointer (some ⟨b, 0, none⟩))), (3, (Value.int IntKind.u64 ((n : Nat) : Int))), (4, (i64 ((i : Nat) : Int))), (5, (Value.int IntKind.u8 ((x.toNat : Nat) : Int))), (12, (Value.bool true)), (26, (Value.bool false)), (55, (Value.bool false)), (59, (Value.int IntKind.u64 ((n : Nat) : Int))), (61, (Value.int IntKind.u8 ((((x.toNat : Nat) : Int)).tmod 128)))] (j := 3) (by kernel_rfl) (by kernel_rfl) ?_
            have e82 : (((x.toNat : Nat) : Int)).tmod 128 = ((x.toNat % 128 : Nat) : Int) := tmod_nat x.toNat 128
            rw [e82]
            clear e82
            refine Ops.regs 1 [(0, (Value.pointer (some ⟨b, 0, none⟩))), (3, (Value.int IntKind.u64 ((n : Nat) : Int))), (4, (i64 ((i : Nat) : Int))), (5, (Value.int IntKind.u8 ((x.toNat : Nat) : Int))), (12, (Value.bool true)), (26, (Value.bool false)), (55, (Value.bool false)), (59, (Value.int IntKind.u64 ((n : Nat) : Int))), (62, (Value.int IntKind.u64 (IntKind.u64.wrap (((x.toNat % 128 : Nat) : Int)))))] (j := 4) (by kernel_rfl) (by kernel_rfl) ?_
            have e83 : IntKind.u64.wrap (((x.toNat % 128 : Nat) : Int)) = ((x.toNat % 128 : Nat) : Int) := wrap_u64 (by omega) (by omega)
            rw [e83]
            refine Ops.regs 2 [(0, (Value.pointer (some ⟨b, 0, none⟩))), (3, (Value.int IntKind.u64 ((n : Nat) : Int))), (4, (i64 ((i : Nat) : Int))), (5, (Value.int IntKind.u8 ((x.toNat : Nat) : Int))), (12, (Value.bool true)), (26, (Value.bool false)), (55, (Value.bool false)), (59, (Value.int IntKind.u64 ((n : Nat) : Int))), (62, (Value.int IntKind.u64 ((x.toNat % 128 : Nat) : Int))), (64, (i64 (IntKind.i64.wrap (7 * ((i : Nat) : Int)))))] (j := 6) (by kernel_rfl) (by kernel_rfl) ?_
            have e84 : IntKind.i64.wrap (7 * ((i : Nat) : Int)) = ((7 * i : Nat) : Int) := by rw [wrap_i64 (by omega) (by omega)]; omega
            rw [e84]
            clear e84
            refine Ops.regs 1 [(0, (Value.pointer (some ⟨b, 0, none⟩))), (3, (Value.int IntKind.u64 ((n : Nat) : Int))), (4, (i64 ((i : Nat) : Int))), (5, (Value.int IntKind.u8 ((x.toNat : Nat) : Int))), (12, (Value.bool true)), (26, (Value.bool false)), (55, (Value.bool false)), (59, (Value.int IntKind.u64 ((n : Nat) : Int))), (62, (Value.int IntKind.u64 ((x.toNat % 128 : Nat) : Int))), (65, (Value.int IntKind.u64 (IntKind.u64.wrap (((7 * i : Nat) : Int)))))] (j := 7) (by kernel_rfl) (by kernel_rfl) ?_
            have e85 : IntKind.u64.wrap (((7 * i : Nat) : Int)) = ((7 * i : Nat) : Int) := wrap_u64 (by omega) (by omega)
            rw [e85]
            have hr := scan_round (c := x) hi hn (by omega)
            refine Ops.go (v := (Value.int IntKind.u64 ((x.toNat % 128 * p7 i : Nat) : Int))) (by kernel_rfl) (Runs.int (op := .shl) (t := 22) (by kernel_rfl) (run_shl7 (k := IntKind.u64) (i := i) (s := ((7 * i : Nat) : Int)) (by omega) (by omega) hr.1)) (d := (some 66)) (by kernel_rfl) rfl ?_
            refine Ops.go (v := (Value.int IntKind.u64 ((n + x.toNat % 128 * p7 i : Nat) : Int))) (by kernel_rfl) (Runs.int (op := .or) (t := 22) (by kernel_rfl) (run_or7 hn hr.2.1)) (d := (some 67)) (by kernel_rfl) rfl ?_
            refine Ops.regs 1 [(0, (Value.pointer (some ⟨b, 0, none⟩))), (3, (Value.int IntKind.u64 ((n + x.toNat % 128 * p7 i : Nat) : Int))), (4, (i64 ((i : Nat) : Int))), (5, (Value.int IntKind.u8 ((x.toNat : Nat) : Int))), (12, (Value.bool true)), (26, (Value.bool false)), (55, (Value.bool false))] (j := 10) (by kernel_rfl) (by kernel_rfl) ?_
            refine Ops.done (by kernel_rfl) ?_
            refine q_seq (by kernel_rfl) ?_
            refine q_region (by kernel_rfl) ?_
            refine Ops.regs 2 [(0, (Value.pointer (some ⟨b, 0, none⟩))), (3, (Value.int IntKind.u64 ((n + x.toNat % 128 * p7 i : Nat) : Int))), (4, (i64 ((i : Nat) : Int))), (5, (Value.int IntKind.u8 ((x.toNat : Nat) : Int))), (12, (Value.bool true)), (26, (Value.bool false)), (55, (Value.bool false)), (69, (Value.bool (decide (((x.toNat : Nat) : Int) < 128))))] (j := 2) (by kernel_rfl) (by kernel_rfl) ?_
            refine Ops.done (by kernel_rfl) ?_
            refine q_cond (o := .tmp 69) (b := (decide (((x.toNat : Nat) : Int) < 128))) (by kernel_rfl) rfl (fun h86 => ?_) (fun h86 => ?_)
            · rw [h86]
              have p87 : ((x.toNat : Nat) : Int) < 128 := of_decide_eq_true h86
              refine q_seq (by kernel_rfl) ?_
              refine q_region (by kernel_rfl) ?_
              refine Ops.regs 4 [(0, (Value.pointer (some ⟨b, 0, none⟩))), (3, (Value.int IntKind.u64 ((n + x.toNat % 128 * p7 i : Nat) : Int))), (4, (i64 ((i : Nat) : Int))), (5, (Value.int IntKind.u8 ((x.toNat : Nat) : Int))), (12, (Value.bool true)), (26, (Value.bool false)), (55, (Value.bool false)), (69, (Value.bool true)), (70, (Value.pointer (some ⟨b, 0, none⟩))), (73, (Value.pointer (some ⟨b, 1, none⟩)))] (j := 4) (by kernel_rfl) (by kernel_rfl) ?_
              refine Ops.go (v := (i64 ((r.pos : Nat) : Int))) (by kernel_rfl) (Runs.load (t := 3) (a := ⟨b, 1, none⟩) (by kernel_rfl) (H23.loads (by kernel_rfl))) (d := (some 74)) (by kernel_rfl) rfl ?_
              refine Ops.regs 2 [(0, (Value.pointer (some ⟨b, 0, none⟩))), (3, (Value.int IntKind.u64 ((n + x.toNat % 128 * p7 i : Nat) : Int))), (4, (i64 ((i : Nat) : Int))), (5, (Value.int IntKind.u8 ((x.toNat : Nat) : Int))), (12, (Value.bool true)), (26, (Value.bool false)), (55, (Value.bool false)), (69, (Value.bool true)), (70, (Value.pointer (some ⟨b, 0, none⟩))), (76, (i64 (IntKind.i64.wrap (((r.pos : Nat) : Int) + ((i : Nat) : Int)))))] (j := 7) (by kernel_rfl) (by kernel_rfl) ?_
              have e88 : IntKind.i64.wrap (((r.pos : Nat) : Int) + ((i : Nat) : Int)) = ((r.pos + i : Nat) : Int) := by rw [wrap_i64 (by omega) (by omega)]; omega
              rw [e88]
              clear e88
              refine Ops.regs 1 [(0, (Value.pointer (some ⟨b, 0, none⟩))), (3, (Value.int IntKind.u64 ((n + x.toNat % 128 * p7 i : Nat) : Int))), (4, (i64 ((i : Nat) : Int))), (5, (Value.int IntKind.u8 ((x.toNat : Nat) : Int))), (12, (Value.bool true)), (26, (Value.bool false)), (55, (Value.bool false)), (69, (Value.bool true)), (70, (Value.pointer (some ⟨b, 0, none⟩))), (77, (i64 (IntKind.i64.wrap (((r.pos + i : Nat) : Int) + 1))))] (j := 8) (by kernel_rfl) (by kernel_rfl) ?_
              have e89 : IntKind.i64.wrap (((r.pos + i : Nat) : Int) + 1) = (((r.pos + i) + 1 : Nat) : Int) := by rw [wrap_i64 (by omega) (by omega)]; omega
              rw [e89]
              clear e89
              refine Ops.regs 2 [(0, (Value.pointer (some ⟨b, 0, none⟩))), (3, (Value.int IntKind.u64 ((n + x.toNat % 128 * p7 i : Nat) : Int))), (4, (i64 ((i : Nat) : Int))), (5, (Value.int IntKind.u8 ((x.toNat : Nat) : Int))), (12, (Value.bool true)), (26, (Value.bool false)), (55, (Value.bool false)), (69, (Value.bool true)), (77, (i64 (((r.pos + i) + 1 : Nat) : Int))), (79, (Value.pointer (some ⟨b, 1, none⟩)))] (j := 10) (by kernel_rfl) (by kernel_rfl) ?_
              refine Ops.put (t := 3) (b := b) (off := 1) (v := (i64 (((r.pos + i) + 1 : Nat) : Int))) (ys := [(Value.slice A r.bs.length c), (i64 (((r.pos + i) + 1 : Nat) : Int)), (i64 r.why)]) (by kernel_rfl) (by kernel_rfl) H23 (by kernel_rfl) (d := none) (by kernel_rfl) rfl (fun w90 H91 K92 => ?_)
              clear H23
              have K93 := K22.trans K92 (U := (fun i => i = b)) (fun i h1 h2 => h2) (fun i h1 h2 => by have h2 : i = b := h2; show i = b; omega)
              clear K22
              clear K92
              refine Ops.done (by kernel_rfl) ?_
              refine q_seq (by kernel_rfl) ?_
              refine q_region (by kernel_rfl) ?_
              refine Ops.regs 2 [(0, (Value.pointer (some ⟨b, 0, none⟩))), (2, (Value.int IntKind.u64 ((n + x.toNat % 128 * p7 i : Nat) : Int))), (3, (Value.int IntKind.u64 ((n + x.toNat % 128 * p7 i : Nat) : Int))), (4, (i64 ((i : Nat) : Int))), (5, (Value.int IntKind.u8 ((x.toNat : Nat) : Int))), (12, (Value.bool true)), (26, (Value.bool false)), (55, (Value.bool false)), (69, (Value.bool true))] (j := 2) (by kernel_rfl) (by kernel_rfl) ?_
              refine Ops.done (by kernel_rfl) ?_
              refine q_ret (by kernel_rfl) ?_
              refine ⟨(Value.int IntKind.u64 ((n + x.toNat % 128 * p7 i : Nat) : Int)), retv_tmp rfl rfl, ?_⟩
              have es : scanB (r.bs.drop r.pos) = (n + x.toNat % 128 * p7 i, i + 1, 0) := by rw [← hE, hx]; exact scanA_end (by omega) (by omega)
              have e := uint_good (by omega) es
              exact ⟨by first | (rw [e]; done) | (rw [e]; rfl), K93, by rw [e]; exact H91⟩
            · rw [h86]
              have p94 : ¬ (((x.toNat : Nat) : Int) < 128) := of_decide_eq_false h86
              refine q_skip (by kernel_rfl) ?_
              refine q_region (by kernel_rfl) ?_
              refine Ops.regs 2 [(0, (Value.pointer (some ⟨b, 0, none⟩))), (3, (Value.int IntKind.u64 ((n + x.toNat % 128 * p7 i : Nat) : Int))), (4, (i64 ((i : Nat) : Int))), (5, (Value.int IntKind.u8 ((x.toNat : Nat) : Int))), (12, (Value.bool true)), (14, (i64 (IntKind.i64.wrap (((i : Nat) : Int) + 1)))), (26, (Value.bool false)), (55, (Value.bool false)), (69, (Value.bool false))] (j := 2) (by kernel_rfl) (by kernel_rfl) ?_
              have e95 : IntKind.i64.wrap (((i : Nat) : Int) + 1) = ((i + 1 : Nat) : Int) := by rw [wrap_i64 (by omega) (by omega)]; omega
              rw [e95]
              clear e95
              refine Ops.regs 1 [(0, (Value.pointer (some ⟨b, 0, none⟩))), (3, (Value.int IntKind.u64 ((n + x.toNat % 128 * p7 i : Nat) : Int))), (4, (i64 ((i + 1 : Nat) : Int))), (5, (Value.int IntKind.u8 ((x.toNat : Nat) : Int))), (12, (Value.bool true)), (26, (Value.bool false)), (55, (Value.bool false)), (69, (Value.bool false))] (j := 3) (by kernel_rfl) (by kernel_rfl) ?_
              refine Ops.keep (R := [(0, (Value.pointer (some ⟨b, 0, none⟩))), (3, (Value.int IntKind.u64 ((n + x.toNat % 128 * p7 i : Nat) : Int))), (4, (i64 ((i + 1 : Nat) : Int)))]) (by kernel_rfl) ?_
              refine Ops.done (by kernel_rfl) ?_
              exact ⟨(i + 1, n + x.toNat % 128 * p7 i), ⟨rfl, ((show scanA (r.bs.drop (r.pos + i)) i n = scanA (r.bs.drop (r.pos + i + 1)) (i + 1) (n + x.toNat % 128 * p7 i) from by rw [hx, scanA_more (by omega) (by omega)]).symm.trans hE), (by omega), (by omega), (hr.2.2 (by omega)), K22, H23⟩, (show 10 - (i + 1) < 10 - i from by omega)⟩
        · rw [h73]
          have p96 : ¬ (((i : Nat) : Int) > 0) := of_decide_eq_false h73
          refine Ops.regs 4 [(0, (Value.pointer (some ⟨b, 0, none⟩))), (3, (Value.int IntKind.u64 ((n : Nat) : Int))), (4, (i64 ((i : Nat) : Int))), (5, (Value.int IntKind.u8 ((x.toNat : Nat) : Int))), (12, (Value.bool true)), (26, (Value.bool false)), (55, (Value.bool false))] (j := 14) (by kernel_rfl) (by kernel_rfl) ?_
          refine Ops.done (by kernel_rfl) ?_
          refine q_else (o := .tmp 55) (by kernel_rfl) rfl ?_
          refine q_skip (by kernel_rfl) ?_
          refine q_seq (by kernel_rfl) ?_
          refine q_region (by kernel_rfl) ?_
          refine Ops.regs 3 [(0, (Value.pointer (some ⟨b, 0, none⟩))), (3, (Value.int IntKind.u64 ((n : Nat) : Int))), (4, (i64 ((i : Nat) : Int))), (5, (Value.int IntKind.u8 ((x.toNat : Nat) : Int))), (12, (Value.bool true)), (26, (Value.bool false)), (55, (Value.bool false)), (59, (Value.int IntKind.u64 ((n : Nat) : Int))), (61, (Value.int IntKind.u8 ((((x.toNat : Nat) : Int)).tmod 128)))] (j := 3) (by kernel_rfl) (by kernel_rfl) ?_
          have e97 : (((x.toNat : Nat) : Int)).tmod 128 = ((x.toNat % 128 : Nat) : Int) := tmod_nat x.toNat 128
          rw [e97]
          clear e97
          refine Ops.regs 1 [(0, (Value.pointer (some ⟨b, 0, none⟩))), (3, (Value.int IntKind.u64 ((n : Nat) : Int))), (4, (i64 ((i : Nat) : Int))), (5, (Value.int IntKind.u8 ((x.toNat : Nat) : Int))), (12, (Value.bool true)), (26, (Value.bool false)), (55, (Value.bool false)), (59, (Value.int IntKind.u64 ((n : Nat) : Int))), (62, (Value.int IntKind.u64 (IntKind.u64.wrap (((x.toNat % 128 : Nat) : Int)))))] (j := 4) (by kernel_rfl) (by kernel_rfl) ?_
          have e98 : IntKind.u64.wrap (((x.toNat % 128 : Nat) : Int)) = ((x.toNat % 128 : Nat) : Int) := wrap_u64 (by omega) (by omega)
          rw [e98]
          refine Ops.regs 2 [(0, (Value.pointer (some ⟨b, 0, none⟩))), (3, (Value.int IntKind.u64 ((n : Nat) : Int))), (4, (i64 ((i : Nat) : Int))), (5, (Value.int IntKind.u8 ((x.toNat : Nat) : Int))), (12, (Value.bool true)), (26, (Value.bool false)), (55, (Value.bool false)), (59, (Value.int IntKind.u64 ((n : Nat) : Int))), (62, (Value.int IntKind.u64 ((x.toNat % 128 : Nat) : Int))), (64, (i64 (IntKind.i64.wrap (7 * ((i : Nat) : Int)))))] (j := 6) (by kernel_rfl) (by kernel_rfl) ?_
          have e99 : IntKind.i64.wrap (7 * ((i : Nat) : Int)) = ((7 * i : Nat) : Int) := by rw [wrap_i64 (by omega) (by omega)]; omega
          rw [e99]
          clear e99
          refine Ops.regs 1 [(0, (Value.pointer (some ⟨b, 0, none⟩))), (3, (Value.int IntKind.u64 ((n : Nat) : Int))), (4, (i64 ((i : Nat) : Int))), (5, (Value.int IntKind.u8 ((x.toNat : Nat) : Int))), (12, (Value.bool true)), (26, (Value.bool false)), (55, (Value.bool false)), (59, (Value.int IntKind.u64 ((n : Nat) : Int))), (62, (Value.int IntKind.u64 ((x.toNat % 128 : Nat) : Int))), (65, (Value.int IntKind.u64 (IntKind.u64.wrap (((7 * i : Nat) : Int)))))] (j := 7) (by kernel_rfl) (by kernel_rfl) ?_
          have e100 : IntKind.u64.wrap (((7 * i : Nat) : Int)) = ((7 * i : Nat) : Int) := wrap_u64 (by omega) (by omega)
          rw [e100]
          have hr := scan_round (c := x) hi hn (by omega)
          refine Ops.go (v := (Value.int IntKind.u64 ((x.toNat % 128 * p7 i : Nat) : Int))) (by kernel_rfl) (Runs.int (op := .shl) (t := 22) (by kernel_rfl) (run_shl7 (k := IntKind.u64) (i := i) (s := ((7 * i : Nat) : Int)) (by omega) (by omega) hr.1)) (d := (some 66)) (by kernel_rfl) rfl ?_
          refine Ops.go (v := (Value.int IntKind.u64 ((n + x.toNat % 128 * p7 i : Nat) : Int))) (by kernel_rfl) (Runs.int (op := .or) (t := 22) (by kernel_rfl) (run_or7 hn hr.2.1)) (d := (some 67)) (by kernel_rfl) rfl ?_
          refine Ops.regs 1 [(0, (Value.pointer (some ⟨b, 0, none⟩))), (3, (Value.int IntKind.u64 ((n + x.toNat % 128 * p7 i : Nat) : Int))), (4, (i64 ((i : Nat) : Int))), (5, (Value.int IntKind.u8 ((x.toNat : Nat) : Int))), (12, (Value.bool true)), (26, (Value.bool false)), (55, (Value.bool false))] (j := 10) (by kernel_rfl) (by kernel_rfl) ?_
          refine Ops.done (by kernel_rfl) ?_
          refine q_seq (by kernel_rfl) ?_
          refine q_region (by kernel_rfl) ?_
          refine Ops.regs 2 [(0, (Value.pointer (some ⟨b, 0, none⟩))), (3, (Value.int IntKind.u64 ((n + x.toNat % 128 * p7 i : Nat) : Int))), (4, (i64 ((i : Nat) : Int))), (5, (Value.int IntKind.u8 ((x.toNat : Nat) : Int))), (12, (Value.bool true)), (26, (Value.bool false)), (55, (Value.bool false)), (69, (Value.bool (decide (((x.toNat : Nat) : Int) < 128))))] (j := 2) (by kernel_rfl) (by kernel_rfl) ?_
          refine Ops.done (by kernel_rfl) ?_
          refine q_cond (o := .tmp 69) (b := (decide (((x.toNat : Nat) : Int) < 128))) (by kernel_rfl) rfl (fun h101 => ?_) (fun h101 => ?_)
          · rw [h101]
            have p102 : ((x.toNat : Nat) : Int) < 128 := of_decide_eq_true h101
            refine q_seq (by kernel_rfl) ?_
            refine q_region (by kernel_rfl) ?_
            refine Ops.regs 4 [(0, (Value.pointer (some ⟨b, 0, none⟩))), (3, (Value.int IntKind.u64 ((n + x.toNat % 128 * p7 i : Nat) : Int))), (4, (i64 ((i : Nat) : Int))), (5, (Value.int IntKind.u8 ((x.toNat : Nat) : Int))), (12, (Value.bool true)), (26, (Value.bool false)), (55, (Value.bool false)), (69, (Value.bool true)), (70, (Value.pointer (some ⟨b, 0, none⟩))), (73, (Value.pointer (some ⟨b, 1, none⟩)))] (j := 4) (by kernel_rfl) (by kernel_rfl) ?_
            refine Ops.go (v := (i64 ((r.pos : Nat) : Int))) (by kernel_rfl) (Runs.load (t := 3) (a := ⟨b, 1, none⟩) (by kernel_rfl) (H23.loads (by kernel_rfl))) (d := (some 74)) (by kernel_rfl) rfl ?_
            refine Ops.regs 2 [(0, (Value.pointer (some ⟨b, 0, none⟩))), (3, (Value.int IntKind.u64 ((n + x.toNat % 128 * p7 i : Nat) : Int))), (4, (i64 ((i : Nat) : Int))), (5, (Value.int IntKind.u8 ((x.toNat : Nat) : Int))), (12, (Value.bool true)), (26, (Value.bool false)), (55, (Value.bool false)), (69, (Value.bool true)), (70, (Value.pointer (some ⟨b, 0, none⟩))), (76, (i64 (IntKind.i64.wrap (((r.pos : Nat) : Int) + ((i : Nat) : Int)))))] (j := 7) (by kernel_rfl) (by kernel_rfl) ?_
            have e103 : IntKind.i64.wrap (((r.pos : Nat) : Int) + ((i : Nat) : Int)) = ((r.pos + i : Nat) : Int) := by rw [wrap_i64 (by omega) (by omega)]; omega
            rw [e103]
            clear e103
            refine Ops.regs 1 [(0, (Value.pointer (some ⟨b, 0, none⟩))), (3, (Value.int IntKind.u64 ((n + x.toNat % 128 * p7 i : Nat) : Int))), (4, (i64 ((i : Nat) : Int))), (5, (Value.int IntKind.u8 ((x.toNat : Nat) : Int))), (12, (Value.bool true)), (26, (Value.bool false)), (55, (Value.bool false)), (69, (Value.bool true)), (70, (Value.pointer (some ⟨b, 0, none⟩))), (77, (i64 (IntKind.i64.wrap (((r.pos + i : Nat) : Int) + 1))))] (j := 8) (by kernel_rfl) (by kernel_rfl) ?_
            have e104 : IntKind.i64.wrap (((r.pos + i : Nat) : Int) + 1) = (((r.pos + i) + 1 : Nat) : Int) := by rw [wrap_i64 (by omega) (by omega)]; omega
            rw [e104]
            clear e104
            refine Ops.regs 2 [(0, (Value.pointer (some ⟨b, 0, none⟩))), (3, (Value.int IntKind.u64 ((n + x.toNat % 128 * p7 i : Nat) : Int))), (4, (i64 ((i : Nat) : Int))), (5, (Value.int IntKind.u8 ((x.toNat : Nat) : Int))), (12, (Value.bool true)), (26, (Value.bool false)), (55, (Value.bool false)), (69, (Value.bool true)), (77, (i64 (((r.pos + i) + 1 : Nat) : Int))), (79, (Value.pointer (some ⟨b, 1, none⟩)))] (j := 10) (by kernel_rfl) (by kernel_rfl) ?_
            refine Ops.put (t := 3) (b := b) (off := 1) (v := (i64 (((r.pos + i) + 1 : Nat) : Int))) (ys := [(Value.slice A r.bs.length c), (i64 (((r.pos + i) + 1 : Nat) : Int)), (i64 r.why)]) (by kernel_rfl) (by kernel_rfl) H23 (by kernel_rfl) (d := none) (by kernel_rfl) rfl (fun w105 H106 K107 => ?_)
            clear H23
            have K108 := K22.trans K107 (U := (fun i => i = b)) (fun i h1 h2 => h2) (fun i h1 h2 => by have h2 : i = b := h2; show i = b; omega)
            clear K22
            clear K107
            refine Ops.done (by kernel_rfl) ?_
            refine q_seq (by kernel_rfl) ?_
            refine q_region (by kernel_rfl) ?_
            refine Ops.regs 2 [(0, (Value.pointer (some ⟨b, 0, none⟩))), (2, (Value.int IntKind.u64 ((n + x.toNat % 128 * p7 i : Nat) : Int))), (3, (Value.int IntKind.u64 ((n + x.toNat % 128 * p7 i : Nat) : Int))), (4, (i64 ((i : Nat) : Int))), (5, (Value.int IntKind.u8 ((x.toNat : Nat) : Int))), (12, (Value.bool true)), (26, (Value.bool false)), (55, (Value.bool false)), (69, (Value.bool true))] (j := 2) (by kernel_rfl) (by kernel_rfl) ?_
            refine Ops.done (by kernel_rfl) ?_
            refine q_ret (by kernel_rfl) ?_
            refine ⟨(Value.int IntKind.u64 ((n + x.toNat % 128 * p7 i : Nat) : Int)), retv_tmp rfl rfl, ?_⟩
            have es : scanB (r.bs.drop r.pos) = (n + x.toNat % 128 * p7 i, i + 1, 0) := by rw [← hE, hx]; exact scanA_end (by omega) (by omega)
            have e := uint_good (by omega) es
            exact ⟨by first | (rw [e]; done) | (rw [e]; rfl), K108, by rw [e]; exact H106⟩
          · rw [h101]
            have p109 : ¬ (((x.toNat : Nat) : Int) < 128) := of_decide_eq_false h101
            refine q_skip (by kernel_rfl) ?_
            refine q_region (by kernel_rfl) ?_
            refine Ops.regs 2 [(0, (Value.pointer (some ⟨b, 0, none⟩))), (3, (Value.int IntKind.u64 ((n + x.toNat % 128 * p7 i : Nat) : Int))), (4, (i64 ((i : Nat) : Int))), (5, (Value.int IntKind.u8 ((x.toNat : Nat) : Int))), (12, (Value.bool true)), (14, (i64 (IntKind.i64.wrap (((i : Nat) : Int) + 1)))), (26, (Value.bool false)), (55, (Value.bool false)), (69, (Value.bool false))] (j := 2) (by kernel_rfl) (by kernel_rfl) ?_
            have e110 : IntKind.i64.wrap (((i : Nat) : Int) + 1) = ((i + 1 : Nat) : Int) := by rw [wrap_i64 (by omega) (by omega)]; omega
            rw [e110]
            clear e110
            refine Ops.regs 1 [(0, (Value.pointer (some ⟨b, 0, none⟩))), (3, (Value.int IntKind.u64 ((n + x.toNat % 128 * p7 i : Nat) : Int))), (4, (i64 ((i + 1 : Nat) : Int))), (5, (Value.int IntKind.u8 ((x.toNat : Nat) : Int))), (12, (Value.bool true)), (26, (Value.bool false)), (55, (Value.bool false)), (69, (Value.bool false))] (j := 3) (by kernel_rfl) (by kernel_rfl) ?_
            refine Ops.keep (R := [(0, (Value.pointer (some ⟨b, 0, none⟩))), (3, (Value.int IntKind.u64 ((n + x.toNat % 128 * p7 i : Nat) : Int))), (4, (i64 ((i + 1 : Nat) : Int)))]) (by kernel_rfl) ?_
            refine Ops.done (by kernel_rfl) ?_
            exact ⟨(i + 1, n + x.toNat % 128 * p7 i), ⟨rfl, ((show scanA (r.bs.drop (r.pos + i)) i n = scanA (r.bs.drop (r.pos + i + 1)) (i + 1) (n + x.toNat % 128 * p7 i) from by rw [hx, scanA_more (by omega) (by omega)]).symm.trans hE), (by omega), (by omega), (hr.2.2 (by omega)), K22, H23⟩, (show 10 - (i + 1) < 10 - i from by omega)⟩

theorem RRInt_calls (w : World) (b : Nat) (A : Option Addr) (c : Nat) (r : Rdr) (hok : r.Ok) (H0 : Has w b (rowL (rdrL A c r) 72)) (hR : RdO w A c r.bs) (hne : ∀ g o s, A = some ⟨g, o, s⟩ → g ≠ b) : Calls Try.prog 69 ⟨[(Value.pointer (some ⟨b, 0, none⟩))]⟩ w (fun e w' => e = .returned (i64 r.int.1) ∧ Keeps (fun i => i = b) w w' ∧ Has w' b (rowL (rdrL A c r.int.2) 72)) := by
  have hpos := hok.pos
  have hlen := hok.len
  have hsc := r.scan_le
  have hdl : (r.bs.drop r.pos).length = r.bs.length - r.pos := List.length_drop
  have hcap := hR.1.slice
  have Hb := H0.lt
  have K0 : Keeps (fun i => i = b) w w := (Keeps.refl w).mono (fun _ _ h => h.elim)
  refine q_calls Try.func69 (by kernel_rfl) (by kernel_rfl) ?_
  refine q_seq (by kernel_rfl) ?_
  refine q_region (by kernel_rfl) ?_
  refine Ops.regs 1 [(0, (Value.pointer (some ⟨b, 0, none⟩))), (2, (i64 0))] (j := 1) (by kernel_rfl) (by kernel_rfl) ?_
  refine Ops.done (by kernel_rfl) ?_
  refine q_seq (by kernel_rfl) ?_
  refine q_region (by kernel_rfl) ?_
  refine Ops.regs 1 [(2, (i64 0)), (4, (Value.pointer (some ⟨b, 0, none⟩)))] (j := 1) (by kernel_rfl) (by kernel_rfl) ?_
  refine Ops.call (by kernel_rfl) (d := (some 5)) (by kernel_rfl) (RRUint_calls _ b A c r hok H0 hR hne) ?_
  rintro _ w1 ⟨rfl, K2, H3⟩
  have hok4 := Rdr.Ok.uint hok
  have hu5 := Rdr.uint_lt r
  refine ⟨_, _, rfl, rfl, ?_⟩
  have K6 := K0.trans K2 (U := (fun i => i = b)) (fun i h1 h2 => h2) (fun i h1 h2 => by have h2 : i = b := h2; show i = b; omega)
  clear K0
  have F7 := RdO.keep hR K2 (fun i _ _ hi hs => by have hs : i = b := hs; have := hne i _ _ hi; omega)
  clear hR
  clear K2
  have F8 : RdO w1 A c (r.uint.2).bs := by rw [Rdr.uint_bs]; exact F7
  clear F7
  refine Ops.regs 1 [(2, (i64 0)), (3, (Value.int IntKind.u64 ((r.uint.1 : Nat) : Int)))] (j := 3) (by kernel_rfl) (by kernel_rfl) ?_
  refine Ops.done (by kernel_rfl) ?_
  refine q_seq (by kernel_rfl) ?_
  refine q_seq (by kernel_rfl) ?_
  refine q_region (by kernel_rfl) ?_
  refine Ops.regs 2 [(2, (i64 0)), (3, (Value.int IntKind.u64 ((r.uint.1 : Nat) : Int))), (7, (Value.int IntKind.u64 ((((r.uint.1 : Nat) : Int)).tmod 2)))] (j := 2) (by kernel_rfl) (by kernel_rfl) ?_
  have e9 : (((r.uint.1 : Nat) : Int)).tmod 2 = ((r.uint.1 % 2 : Nat) : Int) := tmod_nat r.uint.1 2
  rw [e9]
  clear e9
  refine Ops.regs 1 [(2, (i64 0)), (3, (Value.int IntKind.u64 ((r.uint.1 : Nat) : Int))), (8, (Value.bool (((r.uint.1 % 2 : Nat) : Int) == 1)))] (j := 3) (by kernel_rfl) (by kernel_rfl) ?_
  refine Ops.done (by kernel_rfl) ?_
  refine q_cond (o := .tmp 8) (b := (((r.uint.1 % 2 : Nat) : Int) == 1)) (by kernel_rfl) rfl (fun h10 => ?_) (fun h10 => ?_)
  · rw [h10]
    have p11 : ((r.uint.1 % 2 : Nat) : Int) = 1 := of_beq_t h10
    refine q_seq (by kernel_rfl) ?_
    refine q_region (by kernel_rfl) ?_
    refine Ops.regs 2 [(2, (i64 0)), (3, (Value.int IntKind.u64 ((r.uint.1 : Nat) : Int))), (10, (Value.int IntKind.u64 (IntKind.u64.wrap ((((r.uint.1 : Nat) : Int)).tdiv 2))))] (j := 2) (by kernel_rfl) (by kernel_rfl) ?_
    have e12 : IntKind.u64.wrap ((((r.uint.1 : Nat) : Int)).tdiv 2) = ((r.uint.1 / 2 : Nat) : Int) := (congrArg (IntKind.u64.wrap ·) (tdiv_nat r.uint.1 2)).trans (wrap_u64 (by omega) (by omega))
    rw [e12]
    clear e12
    refine Ops.regs 1 [(2, (i64 0)), (3, (Value.int IntKind.u64 ((r.uint.1 : Nat) : Int))), (11, (i64 (IntKind.i64.wrap (((r.uint.1 / 2 : Nat) : Int)))))] (j := 3) (by kernel_rfl) (by kernel_rfl) ?_
    have e13 : IntKind.i64.wrap (((r.uint.1 / 2 : Nat) : Int)) = ((r.uint.1 / 2 : Nat) : Int) := wrap_i64 (by omega) (by omega)
    rw [e13]
    refine Ops.regs 1 [(2, (i64 0)), (3, (Value.int IntKind.u64 ((r.uint.1 : Nat) : Int))), (12, (i64 (IntKind.i64.wrap (0 - ((r.uint.1 / 2 : Nat) : Int)))))] (j := 4) (by kernel_rfl) (by kernel_rfl) ?_
    have e14 : IntKind.i64.wrap (0 - ((r.uint.1 / 2 : Nat) : Int)) = 0 - ((r.uint.1 / 2 : Nat) : Int) := wrap_i64 (by omega) (by omega)
    rw [e14]
    refine Ops.regs 1 [(2, (i64 0)), (3, (Value.int IntKind.u64 ((r.uint.1 : Nat) : Int))), (13, (i64 (IntKind.i64.wrap ((0 - ((r.uint.1 / 2 : Nat) : Int)) - 1))))] (j := 5) (by kernel_rfl) (by kernel_rfl) ?_
    have e15 : IntKind.i64.wrap ((0 - ((r.uint.1 / 2 : Nat) : Int)) - 1) = (0 - ((r.uint.1 / 2 : Nat) : Int)) - 1 := wrap_i64 (by omega) (by omega)
    rw [e15]
    refine Ops.regs 1 [(2, (i64 ((0 - ((r.uint.1 / 2 : Nat) : Int)) - 1))), (3, (Value.int IntKind.u64 ((r.uint.1 : Nat) : Int)))] (j := 6) (by kernel_rfl) (by kernel_rfl) ?_
    refine Ops.done (by kernel_rfl) ?_
    refine q_ret (by kernel_rfl) ?_
    refine ⟨(i64 ((0 - ((r.uint.1 / 2 : Nat) : Int)) - 1)), retv_tmp rfl rfl, ?_⟩
    have e : r.int.1 = (0 - ((r.uint.1 / 2 : Nat) : Int)) - 1 := by first | exact unzz_odd (by omega) | exact unzz_even (by omega)
    exact ⟨by rw [e], K6, H3⟩
  · rw [h10]
    have p16 : ¬ (((r.uint.1 % 2 : Nat) : Int) = 1) := of_beq_f h10
    refine q_skip (by kernel_rfl) ?_
    refine q_seq (by kernel_rfl) ?_
    refine q_region (by kernel_rfl) ?_
    refine Ops.regs 2 [(2, (i64 0)), (15, (Value.int IntKind.u64 (IntKind.u64.wrap ((((r.uint.1 : Nat) : Int)).tdiv 2))))] (j := 2) (by kernel_rfl) (by kernel_rfl) ?_
    have e17 : IntKind.u64.wrap ((((r.uint.1 : Nat) : Int)).tdiv 2) = ((r.uint.1 / 2 : Nat) : Int) := (congrArg (IntKind.u64.wrap ·) (tdiv_nat r.uint.1 2)).trans (wrap_u64 (by omega) (by omega))
    rw [e17]
    clear e17
    refine Ops.regs 1 [(2, (i64 0)), (16, (i64 (IntKind.i64.wrap (((r.uint.1 / 2 : Nat) : Int)))))] (j := 3) (by kernel_rfl) (by kernel_rfl) ?_
    have e18 : IntKind.i64.wrap (((r.uint.1 / 2 : Nat) : Int)) = ((r.uint.1 / 2 : Nat) : Int) := wrap_i64 (by omega) (by omega)
    rw [e18]
    refine Ops.regs 1 [(2, (i64 ((r.uint.1 / 2 : Nat) : Int)))] (j := 4) (by kernel_rfl) (by kernel_rfl) ?_
    refine Ops.done (by kernel_rfl) ?_
    refine q_ret (by kernel_rfl) ?_
    refine ⟨(i64 ((r.uint.1 / 2 : Nat) : Int)), retv_tmp rfl rfl, ?_⟩
    have e : r.int.1 = ((r.uint.1 / 2 : Nat) : Int) := by first | exact unzz_odd (by omega) | exact unzz_even (by omega)
    exact ⟨by rw [e], K6, H3⟩

theorem RREnd_calls (w : World) (b : Nat) (A : Option Addr) (c : Nat) (r : Rdr) (hok : r.Ok) (H0 : Has w b (rowL (rdrL A c r) 72)) (hR : RdO w A c r.bs) (hne : ∀ g o s, A = some ⟨g, o, s⟩ → g ≠ b) : Calls Try.prog 46 ⟨[(Value.pointer (some ⟨b, 0, none⟩))]⟩ w (fun e w' => e = .returned (i64 r.end_) ∧ Keeps none_ w w') := by
  have hpos := hok.pos
  have hlen := hok.len
  have hsc := r.scan_le
  have hdl : (r.bs.drop r.pos).length = r.bs.length - r.pos := List.length_drop
  have hcap := hR.1.slice
  have Hb := H0.lt
  have K0 : Keeps none_ w w := Keeps.refl w
  refine q_calls Try.func46 (by kernel_rfl) (by kernel_rfl) ?_
  refine q_seq (by kernel_rfl) ?_
  refine q_region (by kernel_rfl) ?_
  refine Ops.regs 1 [(0, (Value.pointer (some ⟨b, 0, none⟩))), (2, (i64 0))] (j := 1) (by kernel_rfl) (by kernel_rfl) ?_
  refine Ops.done (by kernel_rfl) ?_
  refine q_seq (by kernel_rfl) ?_
  refine q_seq (by kernel_rfl) ?_
  refine q_draw (fun wz => Keeps none_ w wz) 17 (by kernel_rfl) (by kernel_rfl) (by kernel_rfl) (fun w1 K2 _ _ => ⟨K2, ?_⟩)
  have K3 := K0.trans K2 (U := none_) (fun i h1 h2 => h2) (fun i h1 h2 => by exact h2)
  clear K0
  have H4 := H0.keep K2 (fun h => h)
  clear H0
  have F5 := RdO.keep0 hR K2
  clear hR
  refine Dr.strong (S' := (fun wz => Keeps none_ w1 wz)) (Keeps.refl w1) (fun wz hx => K2.trans hx (fun i _ h => h) (fun _ _ h => h)) ?_
  clear K2
  refine Dr.takes (fuel' := 14) (is' := [2, 1, 0]) [0, 1, 2] [(0, (Value.pointer (some ⟨b, 0, none⟩))), (2, (i64 0)), (5, (Value.pointer (some ⟨b, 2, none⟩)))] (by kernel_rfl) rfl (by kernel_rfl) ?_
  refine Dr.take (i := 3) (v := (i64 r.why)) (by kernel_rfl) (by kernel_rfl) (fun wz hS => Runs.load (t := 28) (a := ⟨b, 2, none⟩) (by kernel_rfl) ((H4.keep hS (fun h => h)).loads (by kernel_rfl))) (d := (some 6)) (by kernel_rfl) rfl ?_
  refine Dr.takes (fuel' := 11) (is' := [5, 4, 3, 2, 1, 0]) [4, 5] [(0, (Value.pointer (some ⟨b, 0, none⟩))), (2, (i64 0)), (8, (Value.bool (r.why == 0)))] (by kernel_rfl) rfl (by kernel_rfl) ?_
  refine Dr.split (r.why == 0) (fun h6 => ?_) (fun h6 => ?_)
  · rw [h6]
    have p7 : r.why = 0 := of_beq_t h6
    refine Dr.takes (fuel' := 8) (is' := [8, 7, 6, 5, 4, 3, 2, 1, 0]) [6, 7, 8] [(0, (Value.pointer (some ⟨b, 0, none⟩))), (2, (i64 0)), (8, (Value.bool true)), (11, (Value.pointer (some ⟨b, 1, none⟩)))] (by kernel_rfl) rfl (by kernel_rfl) ?_
    refine Dr.take (i := 9) (v := (i64 ((r.pos : Nat) : Int))) (by kernel_rfl) (by kernel_rfl) (fun wz hS => Runs.load (t := 3) (a := ⟨b, 1, none⟩) (by kernel_rfl) ((H4.keep hS (fun h => h)).loads (by kernel_rfl))) (d := (some 12)) (by kernel_rfl) rfl ?_
    refine Dr.takes (fuel' := 4) (is' := [12, 11, 10, 9, 8, 7, 6, 5, 4, 3, 2, 1, 0]) [10, 11, 12] [(0, (Value.pointer (some ⟨b, 0, none⟩))), (2, (i64 0)), (8, (Value.bool true)), (12, (i64 ((r.pos : Nat) : Int))), (15, (Value.pointer (some ⟨b, 0, none⟩)))] (by kernel_rfl) rfl (by kernel_rfl) ?_
    refine Dr.take (i := 13) (v := (Value.slice A r.bs.length c)) (by kernel_rfl) (by kernel_rfl) (fun wz hS => Runs.load (t := 23) (a := ⟨b, 0, none⟩) (by kernel_rfl) ((H4.keep hS (fun h => h)).loads (by kernel_rfl))) (d := (some 16)) (by kernel_rfl) rfl ?_
    refine Dr.takes (fuel' := 0) (is' := [16, 15, 14, 13, 12, 11, 10, 9, 8, 7, 6, 5, 4, 3, 2, 1, 0]) [14, 15, 16] [(0, (Value.pointer (some ⟨b, 0, none⟩))), (2, (i64 0)), (19, (Value.bool (decide (((r.pos : Nat) : Int) < ((r.bs.length : Nat) : Int)))))] (by kernel_rfl) rfl (by kernel_rfl) ?_
    refine Dr.done (by kernel_rfl) ?_
    refine q_cond (o := .tmp 19) (b := (decide (((r.pos : Nat) : Int) < ((r.bs.length : Nat) : Int)))) (by kernel_rfl) rfl (fun h8 => ?_) (fun h8 => ?_)
    · rw [h8]
      have p9 : ((r.pos : Nat) : Int) < ((r.bs.length : Nat) : Int) := of_decide_eq_true h8
      refine q_seq (by kernel_rfl) ?_
      refine q_region (by kernel_rfl) ?_
      refine Ops.regs 1 [(0, (Value.pointer (some ⟨b, 0, none⟩))), (2, (i64 11))] (j := 1) (by kernel_rfl) (by kernel_rfl) ?_
      refine Ops.done (by kernel_rfl) ?_
      refine q_ret (by kernel_rfl) ?_
      refine ⟨(i64 11), retv_tmp rfl rfl, ?_⟩
      have e : r.end_ = 11 := by unfold Rdr.end_; (split <;> first | (exfalso; omega) | rfl | omega)
      exact ⟨by rw [e], K3⟩
    · rw [h8]
      have p10 : ¬ (((r.pos : Nat) : Int) < ((r.bs.length : Nat) : Int)) := of_decide_eq_false h8
      refine q_skip (by kernel_rfl) ?_
      refine q_seq (by kernel_rfl) ?_
      refine q_region (by kernel_rfl) ?_
      refine Ops.regs 3 [(2, (i64 0)), (22, (Value.pointer (some ⟨b, 2, none⟩)))] (j := 3) (by kernel_rfl) (by kernel_rfl) ?_
      refine Ops.go (v := (i64 r.why)) (by kernel_rfl) (Runs.load (t := 28) (a := ⟨b, 2, none⟩) (by kernel_rfl) (H4.loads (by kernel_rfl))) (d := (some 23)) (by kernel_rfl) rfl ?_
      refine Ops.regs 1 [(2, (i64 r.why))] (j := 5) (by kernel_rfl) (by kernel_rfl) ?_
      refine Ops.done (by kernel_rfl) ?_
      refine q_ret (by kernel_rfl) ?_
      refine ⟨(i64 r.why), retv_tmp rfl rfl, ?_⟩
      have e : r.end_ = r.why := by unfold Rdr.end_; (split <;> first | (exfalso; omega) | rfl | omega)
      exact ⟨by rw [e], K3⟩
  · rw [h6]
    have p11 : ¬ (r.why = 0) := of_beq_f h6
    refine Dr.takes (fuel' := 0) (is' := [16, 15, 14, 13, 12, 11, 10, 9, 8, 7, 6, 5, 4, 3, 2, 1, 0]) [6, 7, 8, 9, 10, 11, 12, 13, 14, 15, 16] [(0, (Value.pointer (some ⟨b, 0, none⟩))), (2, (i64 0)), (19, (Value.bool false))] (by kernel_rfl) rfl (by kernel_rfl) ?_
    refine Dr.done (by kernel_rfl) ?_
    refine q_else (o := .tmp 19) (by kernel_rfl) rfl ?_
    refine q_skip (by kernel_rfl) ?_
    refine q_seq (by kernel_rfl) ?_
    refine q_region (by kernel_rfl) ?_
    refine Ops.regs 3 [(2, (i64 0)), (22, (Value.pointer (some ⟨b, 2, none⟩)))] (j := 3) (by kernel_rfl) (by kernel_rfl) ?_
    refine Ops.go (v := (i64 r.why)) (by kernel_rfl) (Runs.load (t := 28) (a := ⟨b, 2, none⟩) (by kernel_rfl) (H4.loads (by kernel_rfl))) (d := (some 23)) (by kernel_rfl) rfl ?_
    refine Ops.regs 1 [(2, (i64 r.why))] (j := 5) (by kernel_rfl) (by kernel_rfl) ?_
    refine Ops.done (by kernel_rfl) ?_
    refine q_ret (by kernel_rfl) ?_
    refine ⟨(i64 r.why), retv_tmp rfl rfl, ?_⟩
    have e : r.end_ = r.why := by unfold Rdr.end_; (split <;> first | (exfalso; omega) | rfl | omega)
    exact ⟨by rw [e], K3⟩

theorem Of_calls (w : World) (v : Value) (bs : List UInt8) (hv : RdB w v bs) (hl : bs.length ≤ 140737488351232) : Calls Try.prog 44 ⟨[v]⟩ w (fun e w' => ∃ b A c, e = .returned (.pointer (some ⟨b, 0, none⟩)) ∧ w.heap.size ≤ b ∧ Keeps none_ w w' ∧ Has w' b (rowL (rdrL A c ⟨bs, 0, 0⟩) 72) ∧ RdO w' A c bs ∧ (∀ g o s, A = some ⟨g, o, s⟩ → g ≠ b) ∧ (∀ g o s, A = some ⟨g, o, s⟩ → w.heap.size ≤ g)) := by
  have K0 : Keeps none_ w w := Keeps.refl w
  refine q_calls Try.func44 (by kernel_rfl) (by kernel_rfl) ?_
  refine q_seq (by kernel_rfl) ?_
  refine q_region (by kernel_rfl) ?_
  refine Ops.regs 1 [(0, v), (2, (Value.pointer none))] (j := 1) (by kernel_rfl) (by kernel_rfl) ?_
  refine Ops.done (by kernel_rfl) ?_
  refine q_seq (by kernel_rfl) ?_
  refine q_region (by kernel_rfl) ?_
  refine Ops.regs 1 [(0, v), (2, (Value.pointer none)), (4, (agg [(Value.slice none 0 0), (i64 0), (i64 0)]))] (j := 1) (by kernel_rfl) (by kernel_rfl) ?_
  refine Ops.new (o := rowL [(Value.slice none 0 0), (i64 0), (i64 0)] 72) (V := fun b => (Value.pointer (some ⟨b, 0, none⟩))) (by kernel_rfl) (d := (some 5)) (by kernel_rfl) (fun b => rfl) (fun b1 w2 hb3 H4 K5 hs6 => ?_)
  have nb1 : w.heap.size ≤ b1 := by have := K0.size; omega
  have K7 := K0.trans K5 (U := none_) (fun i h1 h2 => h2) (fun i h1 h2 => by exact h2)
  clear K0
  clear K5 hs6
  refine Ops.regs 1 [(0, v), (2, (Value.pointer none)), (3, (Value.pointer (some ⟨b1, 0, none⟩)))] (j := 3) (by kernel_rfl) (by kernel_rfl) ?_
  refine Ops.done (by kernel_rfl) ?_
  refine q_seq (by kernel_rfl) ?_
  refine q_region (by kernel_rfl) ?_
  refine Ops.regs 4 [(0, v), (2, (Value.pointer none)), (3, (Value.pointer (some ⟨b1, 0, none⟩))), (6, (Value.pointer (some ⟨b1, 0, none⟩))), (9, (Value.pointer (some ⟨b1, 0, none⟩)))] (j := 4) (by kernel_rfl) (by kernel_rfl) ?_
  refine Ops.go (v := (Value.slice none 0 0)) (by kernel_rfl) (Runs.load (t := 23) (a := ⟨b1, 0, none⟩) (by kernel_rfl) (H4.loads (by kernel_rfl))) (d := (some 10)) (by kernel_rfl) rfl ?_
  refine Ops.regs 1 [(2, (Value.pointer none)), (3, (Value.pointer (some ⟨b1, 0, none⟩))), (6, (Value.pointer (some ⟨b1, 0, none⟩))), (10, (Value.slice none 0 0)), (11, v)] (j := 6) (by kernel_rfl) (by kernel_rfl) ?_
  obtain ⟨v8, w9, hr10, hO11, hK12⟩ := OwnB.app (ty := 23) (base := w2.heap.size) tyB (show OwnB w2 w2.heap.size 5 (.slice none 0 0) [] from World.ownsRow_nil _ _ _ _) (hv.keep0 (by omega) K7) (by simp only [List.length_nil]; omega) (Nat.le_refl _)
  have hO13 : OwnB w9 _ 5 v8 bs := hO11
  obtain ⟨A14, c15, rfl, hrd16, hge17⟩ := OwnB.rdo hO13
  have K18 := Keeps.new hK12
  have hszK18 := K7.size
  have ob19 : ∀ i o s, A14 = some ⟨i, o, s⟩ → i ≠ b1 := fun i o s hi => by have := hge17 i o s hi; have := H4.lt; omega
  refine Ops.go (v := (Value.slice A14 bs.length c15)) (by kernel_rfl) (Runs.append (ts := #[23, 23]) (ty := 23) (vs := [(Value.slice none 0 0), v]) (by kernel_rfl) hr10) (d := (some 12)) (by kernel_rfl) rfl ?_
  have K20 := K7.trans K18 (U := none_) (fun i h1 h2 => h2) (fun i h1 h2 => by exact h2)
  clear K7
  have H21 := H4.keep K18 (fun h => h)
  clear H4
  clear K18 hr10 hK12 hO11 hO13
  refine Ops.regs 2 [(2, (Value.pointer none)), (3, (Value.pointer (some ⟨b1, 0, none⟩))), (12, (Value.slice A14 bs.length c15)), (14, (Value.pointer (some ⟨b1, 0, none⟩)))] (j := 9) (by kernel_rfl) (by kernel_rfl) ?_
  refine Ops.put (t := 23) (b := b1) (off := 0) (v := (Value.slice A14 bs.length c15)) (ys := [(Value.slice A14 bs.length c15), (i64 0), (i64 0)]) (by kernel_rfl) (by kernel_rfl) H21 (by kernel_rfl) (d := none) (by kernel_rfl) rfl (fun w22 H23 K24 => ?_)
  clear H21
  have K25 := K20.trans K24 (U := none_) (fun i h1 h2 => h2) (fun i h1 h2 => by have h2 : i = b1 := h2; exfalso; omega)
  clear K20
  have F26 := RdO.keep hrd16 K24 (fun i _ _ hi hs => by have hs : i = b1 := hs; have := ob19 i _ _ hi; omega)
  clear hrd16
  clear K24
  refine Ops.done (by kernel_rfl) ?_
  refine q_seq (by kernel_rfl) ?_
  refine q_region (by kernel_rfl) ?_
  refine Ops.regs 2 [(2, (Value.pointer (some ⟨b1, 0, none⟩)))] (j := 2) (by kernel_rfl) (by kernel_rfl) ?_
  refine Ops.done (by kernel_rfl) ?_
  refine q_ret (by kernel_rfl) ?_
  refine ⟨(Value.pointer (some ⟨b1, 0, none⟩)), retv_tmp rfl rfl, ?_⟩
  exact ⟨b1, A14, c15, rfl, nb1, K25, H23, F26, ob19, fun g o s hi => by have := hge17 g o s hi; omega⟩
end Go.Proofs.Ytnepjfnkaigakaa
