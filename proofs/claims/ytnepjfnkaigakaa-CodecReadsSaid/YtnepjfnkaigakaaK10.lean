/- codec: texts -/
import Derived.Test.YtnepjfnkaigakaaProg
import Derived.Test.YtnepjfnkaigakaaLibText
import Derived.Test.YtnepjfnkaigakaaK2
set_option linter.unusedVariables false
namespace Go.Proofs.Ytnepjfnkaigakaa
open Go.Q Go.RowKit

theorem Text_calls (w : World) (v : Value) (xs : List UInt8) (ss : List UInt8) (hv : RdB w v xs) (hs : ss.length ≤ 549755813888) (hl : xs.length ≤ 549755813888) : Calls Try.prog 30 ⟨[v, (Value.string (str ss))]⟩ w (fun e w' => ∃ v', e = .returned v' ∧ Keeps none_ w w' ∧ OwnB w' w.heap.size 5 v' (xs ++ tv ss)) := by
  have K0 : Keeps none_ w w := Keeps.refl w
  refine q_calls Try.func30 (by kernel_rfl) (by kernel_rfl) ?_
  refine q_seq (by kernel_rfl) ?_
  refine q_region (by kernel_rfl) ?_
  refine Ops.regs 1 [(0, v), (1, (Value.string (str ss))), (4, (Value.slice none 0 0))] (j := 1) (by kernel_rfl) (by kernel_rfl) ?_
  refine Ops.done (by kernel_rfl) ?_
  refine q_seq (by kernel_rfl) ?_
  refine q_region (by kernel_rfl) ?_
  refine Ops.regs 4 [(1, (Value.string (str ss))), (4, (Value.slice none 0 0)), (5, v), (8, (Value.int IntKind.u64 (IntKind.u64.wrap (((ss.length : Nat) : Int)))))] (j := 4) (by kernel_rfl) (by kernel_rfl) ?_
  have e1 : IntKind.u64.wrap (((ss.length : Nat) : Int)) = ((ss.length : Nat) : Int) := wrap_u64 (by omega) (by omega)
  rw [e1]
  refine Ops.call (by kernel_rfl) (d := (some 9)) (by kernel_rfl) (Uint_calls _ v xs ss.length (hv.keep0 (by omega) K0) (by omega) (by (try simp only at *); (try simp only [List.length_append] at *); (try simp only [List.length_cons] at *); (try simp only [List.length_nil] at *); omega)) ?_
  rintro _ w4 ⟨v3, rfl, K5, hO6⟩
  have O7 := own_base hO6 K0.size
  clear hO6
  have hL2 := uv_length_10 (n := ss.length) (by omega)
  refine ⟨_, _, rfl, rfl, ?_⟩
  have K8 := K0.trans K5 (U := none_) (fun i h1 h2 => h2) (fun i h1 h2 => by exact h2)
  clear K0
  clear K5
  refine Ops.regs 1 [(4, (Value.slice none 0 0)), (9, v3), (10, (Value.string (str ss)))] (j := 6) (by kernel_rfl) (by kernel_rfl) ?_
  obtain ⟨v9, w10, hr11, hO12, K13⟩ := OwnB.appS (t := 23) (u := 9) (ty := 23) (ys := ss) (by kernel_rfl) O7 (by (try simp only at *); (try simp only [List.length_append] at *); (try simp only [List.length_cons] at *); (try simp only [List.length_nil] at *); omega) K8.size
  refine Ops.go (v := v9) (by kernel_rfl) (Runs.append (ts := #[23, 9]) (ty := 23) (vs := [v3, (Value.string (str ss))]) (by kernel_rfl) hr11) (d := (some 11)) (by kernel_rfl) rfl ?_
  have K14 := Keeps.own2 K8 K13
  clear O7 K8 hr11 K13
  refine Ops.regs 1 [(4, v9)] (j := 8) (by kernel_rfl) (by kernel_rfl) ?_
  refine Ops.done (by kernel_rfl) ?_
  refine q_ret (by kernel_rfl) ?_
  refine ⟨v9, retv_tmp rfl rfl, ?_⟩
  have hfin : xs ++ uv ss.length ++ ss = xs ++ tv ss := by simp [tv]
  rw [hfin] at hO12
  exact ⟨_, rfl, K14, hO12⟩

theorem BytesW_calls (w : World) (v : Value) (xs : List UInt8) (B : Option Addr) (d : Nat) (ss : List UInt8) (hv : RdB w v xs) (hp : RdB w (.slice B ss.length d) ss) (hs : ss.length ≤ 549755813888) (hl : xs.length ≤ 549755813888) : Calls Try.prog 28 ⟨[v, (Value.slice B ss.length d)]⟩ w (fun e w' => ∃ v', e = .returned v' ∧ Keeps none_ w w' ∧ OwnB w' w.heap.size 5 v' (xs ++ tv ss)) := by
  have K0 : Keeps none_ w w := Keeps.refl w
  refine q_calls Try.func28 (by kernel_rfl) (by kernel_rfl) ?_
  refine q_seq (by kernel_rfl) ?_
  refine q_region (by kernel_rfl) ?_
  refine Ops.regs 1 [(0, v), (1, (Value.slice B ss.length d)), (4, (Value.slice none 0 0))] (j := 1) (by kernel_rfl) (by kernel_rfl) ?_
  refine Ops.done (by kernel_rfl) ?_
  refine q_seq (by kernel_rfl) ?_
  refine q_region (by kernel_rfl) ?_
  refine Ops.regs 4 [(1, (Value.slice B ss.length d)), (4, (Value.slice none 0 0)), (5, v), (8, (Value.int IntKind.u64 (IntKind.u64.wrap (((ss.length : Nat) : Int)))))] (j := 4) (by kernel_rfl) (by kernel_rfl) ?_
  have e1 : IntKind.u64.wrap (((ss.length : Nat) : Int)) = ((ss.length : Nat) : Int) := wrap_u64 (by omega) (by omega)
  rw [e1]
  refine Ops.call (by kernel_rfl) (d := (some 9)) (by kernel_rfl) (Uint_calls _ v xs ss.length (hv.keep0 (by omega) K0) (by omega) (by (try simp only at *); (try simp only [List.length_append] at *); (try simp only [List.length_cons] at *); (try simp only [List.length_nil] at *); omega)) ?_
  rintro _ w4 ⟨v3, rfl, K5, hO6⟩
  have O7 := own_base hO6 K0.size
  clear hO6
  have hL2 := uv_length_10 (n := ss.length) (by omega)
  refine ⟨_, _, rfl, rfl, ?_⟩
  have K8 := K0.trans K5 (U := none_) (fun i h1 h2 => h2) (fun i h1 h2 => by exact h2)
  clear K0
  clear K5
  refine Ops.regs 1 [(4, (Value.slice none 0 0)), (9, v3), (10, (Value.slice B ss.length d))] (j := 6) (by kernel_rfl) (by kernel_rfl) ?_
  obtain ⟨v9, w10, hr11, hO12, K13⟩ := OwnB.app (ty := 23) tyB O7 (hp.keep0 (by omega) K8) (by (try simp only at *); (try simp only [List.length_append] at *); (try simp only [List.length_cons] at *); (try simp only [List.length_nil] at *); omega) K8.size
  refine Ops.go (v := v9) (by kernel_rfl) (Runs.append (ts := #[23, 23]) (ty := 23) (vs := [v3, (Value.slice B ss.length d)]) (by kernel_rfl) hr11) (d := (some 11)) (by kernel_rfl) rfl ?_
  have K14 := Keeps.own2 K8 K13
  clear O7 K8 hr11 K13
  refine Ops.regs 1 [(4, v9)] (j := 8) (by kernel_rfl) (by kernel_rfl) ?_
  refine Ops.done (by kernel_rfl) ?_
  refine q_ret (by kernel_rfl) ?_
  refine ⟨v9, retv_tmp rfl rfl, ?_⟩
  have hfin : xs ++ uv ss.length ++ ss = xs ++ tv ss := by simp [tv]
  rw [hfin] at hO12
  exact ⟨_, rfl, K14, hO12⟩

theorem RBytesW_calls (w : World) (v : Value) (xs : List UInt8) (B : Option Addr) (d : Nat) (ss : List UInt8) (hv : RdB w v xs) (hp : RdB w (.slice B ss.length d) ss) (hs : ss.length ≤ 549755813888) (hl : xs.length ≤ 549755813888) : Calls Try.prog 64 ⟨[v, (Value.slice B ss.length d)]⟩ w (fun e w' => ∃ v', e = .returned v' ∧ Keeps none_ w w' ∧ OwnB w' w.heap.size 5 v' (xs ++ tv ss)) := by
  have K0 : Keeps none_ w w := Keeps.refl w
  refine q_calls Try.func64 (by kernel_rfl) (by kernel_rfl) ?_
  refine q_seq (by kernel_rfl) ?_
  refine q_region (by kernel_rfl) ?_
  refine Ops.regs 1 [(0, v), (1, (Value.slice B ss.length d)), (4, (Value.slice none 0 0))] (j := 1) (by kernel_rfl) (by kernel_rfl) ?_
  refine Ops.done (by kernel_rfl) ?_
  refine q_seq (by kernel_rfl) ?_
  refine q_region (by kernel_rfl) ?_
  refine Ops.regs 4 [(1, (Value.slice B ss.length d)), (4, (Value.slice none 0 0)), (6, v), (9, (Value.int IntKind.u64 (IntKind.u64.wrap (((ss.length : Nat) : Int)))))] (j := 4) (by kernel_rfl) (by kernel_rfl) ?_
  have e1 : IntKind.u64.wrap (((ss.length : Nat) : Int)) = ((ss.length : Nat) : Int) := wrap_u64 (by omega) (by omega)
  rw [e1]
  refine Ops.call (by kernel_rfl) (d := (some 10)) (by kernel_rfl) (RUint_calls _ v xs ss.length (hv.keep0 (by omega) K0) (by omega) (by (try simp only at *); (try simp only [List.length_append] at *); (try simp only [List.length_cons] at *); (try simp only [List.length_nil] at *); omega)) ?_
  rintro _ w4 ⟨v3, rfl, K5, hO6⟩
  have O7 := own_base hO6 K0.size
  clear hO6
  have hL2 := uv_length_10 (n := ss.length) (by omega)
  refine ⟨_, _, rfl, rfl, ?_⟩
  have K8 := K0.trans K5 (U := none_) (fun i h1 h2 => h2) (fun i h1 h2 => by exact h2)
  clear K0
  clear K5
  refine Ops.regs 1 [(1, (Value.slice B ss.length d)), (4, (Value.slice none 0 0)), (5, v3)] (j := 6) (by kernel_rfl) (by kernel_rfl) ?_
  refine Ops.done (by kernel_rfl) ?_
  refine q_seq (by kernel_rfl) ?_
  refine q_region (by kernel_rfl) ?_
  refine Ops.regs 2 [(4, (Value.slice none 0 0)), (5, v3), (11, v3), (12, (Value.slice B ss.length d))] (j := 2) (by kernel_rfl) (by kernel_rfl) ?_
  obtain ⟨v9, w10, hr11, hO12, K13⟩ := OwnB.app (ty := 23) tyB O7 (hp.keep0 (by omega) K8) (by (try simp only at *); (try simp only [List.length_append] at *); (try simp only [List.length_cons] at *); (try simp only [List.length_nil] at *); omega) K8.size
  refine Ops.go (v := v9) (by kernel_rfl) (Runs.append (ts := #[23, 23]) (ty := 23) (vs := [v3, (Value.slice B ss.length d)]) (by kernel_rfl) hr11) (d := (some 13)) (by kernel_rfl) rfl ?_
  have K14 := Keeps.own2 K8 K13
  clear O7 K8 hr11 K13
  refine Ops.regs 1 [(4, (Value.slice none 0 0)), (5, v9)] (j := 4) (by kernel_rfl) (by kernel_rfl) ?_
  refine Ops.done (by kernel_rfl) ?_
  refine q_seq (by kernel_rfl) ?_
  refine q_region (by kernel_rfl) ?_
  refine Ops.regs 2 [(4, v9)] (j := 2) (by kernel_rfl) (by kernel_rfl) ?_
  refine Ops.done (by kernel_rfl) ?_
  refine q_ret (by kernel_rfl) ?_
  refine ⟨v9, retv_tmp rfl rfl, ?_⟩
  have hfin : xs ++ uv ss.length ++ ss = xs ++ tv ss := by simp [tv]
  rw [hfin] at hO12
  exact ⟨_, rfl, K14, hO12⟩

theorem BoolW_calls (w : World) (v : Value) (xs : List UInt8) (t : Bool) (hv : RdB w v xs) (hl : xs.length ≤ 549755813888) : Calls Try.prog 31 ⟨[v, (Value.bool t)]⟩ w (fun e w' => ∃ v', e = .returned v' ∧ Keeps none_ w w' ∧ OwnB w' w.heap.size 5 v' (xs ++ uv t.toNat)) := by
  have K0 : Keeps none_ w w := Keeps.refl w
  refine q_calls Try.func31 (by kernel_rfl) (by kernel_rfl) ?_
  refine q_seq (by kernel_rfl) ?_
  refine q_region (by kernel_rfl) ?_
  refine Ops.regs 1 [(0, v), (1, (Value.bool t)), (4, (Value.slice none 0 0))] (j := 1) (by kernel_rfl) (by kernel_rfl) ?_
  refine Ops.done (by kernel_rfl) ?_
  refine q_seq (by kernel_rfl) ?_
  refine q_seq (by kernel_rfl) ?_
  refine q_region (by kernel_rfl) ?_
  refine Ops.regs 1 [(0, v), (4, (Value.slice none 0 0)), (5, (Value.bool t))] (j := 1) (by kernel_rfl) (by kernel_rfl) ?_
  refine Ops.done (by kernel_rfl) ?_
  refine q_cond (o := .tmp 5) (b := t) (by kernel_rfl) rfl (fun h1 => ?_) (fun h1 => ?_)
  · rw [h1]
    have p2 : t = true := h1
    refine q_seq (by kernel_rfl) ?_
    refine q_region (by kernel_rfl) ?_
    refine Ops.regs 1 [(0, v), (4, (Value.slice none 0 0)), (6, v)] (j := 1) (by kernel_rfl) (by kernel_rfl) ?_
    refine Ops.call (by kernel_rfl) (d := (some 7)) (by kernel_rfl) (Uint_calls _ v xs 1 (hv.keep0 (by omega) K0) (by omega) (by (try simp only at *); (try simp only [List.length_append] at *); (try simp only [List.length_cons] at *); (try simp only [List.length_nil] at *); omega)) ?_
    rintro _ w5 ⟨v4, rfl, K6, hO7⟩
    have O8 := own_base hO7 K0.size
    clear hO7
    have hL3 := uv_length_10 (n := 1) (by omega)
    refine ⟨_, _, rfl, rfl, ?_⟩
    have K9 := K0.trans K6 (U := none_) (fun i h1 h2 => h2) (fun i h1 h2 => by exact h2)
    clear K0
    clear K6
    refine Ops.regs 1 [(0, v), (4, v4)] (j := 3) (by kernel_rfl) (by kernel_rfl) ?_
    refine Ops.done (by kernel_rfl) ?_
    refine q_ret (by kernel_rfl) ?_
    refine ⟨v4, retv_tmp rfl rfl, ?_⟩
    exact ⟨_, rfl, K9, O8⟩
  · rw [h1]
    have p10 : t = false := h1
    refine q_skip (by kernel_rfl) ?_
    refine q_seq (by kernel_rfl) ?_
    refine q_region (by kernel_rfl) ?_
    refine Ops.regs 1 [(4, (Value.slice none 0 0)), (8, v)] (j := 1) (by kernel_rfl) (by kernel_rfl) ?_
    refine Ops.call (by kernel_rfl) (d := (some 9)) (by kernel_rfl) (Uint_calls _ v xs 0 (hv.keep0 (by omega) K0) (by omega) (by (try simp only at *); (try simp only [List.length_append] at *); (try simp only [List.length_cons] at *); (try simp only [List.length_nil] at *); omega)) ?_
    rintro _ w13 ⟨v12, rfl, K14, hO15⟩
    have O16 := own_base hO15 K0.size
    clear hO15
    have hL11 := uv_length_10 (n := 0) (by omega)
    refine ⟨_, _, rfl, rfl, ?_⟩
    have K17 := K0.trans K14 (U := none_) (fun i h1 h2 => h2) (fun i h1 h2 => by exact h2)
    clear K0
    clear K14
    refine Ops.regs 1 [(4, v12)] (j := 3) (by kernel_rfl) (by kernel_rfl) ?_
    refine Ops.done (by kernel_rfl) ?_
    refine q_ret (by kernel_rfl) ?_
    refine ⟨v12, retv_tmp rfl rfl, ?_⟩
    exact ⟨_, rfl, K17, O16⟩

theorem RBoolW_calls (w : World) (v : Value) (xs : List UInt8) (t : Bool) (hv : RdB w v xs) (hl : xs.length ≤ 549755813888) : Calls Try.prog 32 ⟨[v, (Value.bool t)]⟩ w (fun e w' => ∃ v', e = .returned v' ∧ Keeps none_ w w' ∧ OwnB w' w.heap.size 5 v' (xs ++ uv t.toNat)) := by
  have K0 : Keeps none_ w w := Keeps.refl w
  refine q_calls Try.func32 (by kernel_rfl) (by kernel_rfl) ?_
  refine q_seq (by kernel_rfl) ?_
  refine q_region (by kernel_rfl) ?_
  refine Ops.regs 1 [(0, v), (1, (Value.bool t)), (4, (Value.slice none 0 0))] (j := 1) (by kernel_rfl) (by kernel_rfl) ?_
  refine Ops.done (by kernel_rfl) ?_
  refine q_seq (by kernel_rfl) ?_
  refine q_seq (by kernel_rfl) ?_
  refine q_region (by kernel_rfl) ?_
  refine Ops.regs 1 [(0, v), (4, (Value.slice none 0 0)), (5, (Value.bool t))] (j := 1) (by kernel_rfl) (by kernel_rfl) ?_
  refine Ops.done (by kernel_rfl) ?_
  refine q_cond (o := .tmp 5) (b := t) (by kernel_rfl) rfl (fun h1 => ?_) (fun h1 => ?_)
  · rw [h1]
    have p2 : t = true := h1
    refine q_seq (by kernel_rfl) ?_
    refine q_region (by kernel_rfl) ?_
    refine Ops.regs 1 [(0, v), (4, (Value.slice none 0 0)), (6, v)] (j := 1) (by kernel_rfl) (by kernel_rfl) ?_
    refine Ops.call (by kernel_rfl) (d := (some 7)) (by kernel_rfl) (RUint_calls _ v xs 1 (hv.keep0 (by omega) K0) (by omega) (by (try simp only at *); (try simp only [List.length_append] at *); (try simp only [List.length_cons] at *); (try simp only [List.length_nil] at *); omega)) ?_
    rintro _ w5 ⟨v4, rfl, K6, hO7⟩
    have O8 := own_base hO7 K0.size
    clear hO7
    have hL3 := uv_length_10 (n := 1) (by omega)
    refine ⟨_, _, rfl, rfl, ?_⟩
    have K9 := K0.trans K6 (U := none_) (fun i h1 h2 => h2) (fun i h1 h2 => by exact h2)
    clear K0
    clear K6
    refine Ops.regs 1 [(0, v), (4, v4)] (j := 3) (by kernel_rfl) (by kernel_rfl) ?_
    refine Ops.done (by kernel_rfl) ?_
    refine q_ret (by kernel_rfl) ?_
    refine ⟨v4, retv_tmp rfl rfl, ?_⟩
    exact ⟨_, rfl, K9, O8⟩
  · rw [h1]
    have p10 : t = false := h1
    refine q_skip (by kernel_rfl) ?_
    refine q_seq (by kernel_rfl) ?_
    refine q_region (by kernel_rfl) ?_
    refine Ops.regs 1 [(4, (Value.slice none 0 0)), (8, v)] (j := 1) (by kernel_rfl) (by kernel_rfl) ?_
    refine Ops.call (by kernel_rfl) (d := (some 9)) (by kernel_rfl) (RUint_calls _ v xs 0 (hv.keep0 (by omega) K0) (by omega) (by (try simp only at *); (try simp only [List.length_append] at *); (try simp only [List.length_cons] at *); (try simp only [List.length_nil] at *); omega)) ?_
    rintro _ w13 ⟨v12, rfl, K14, hO15⟩
    have O16 := own_base hO15 K0.size
    clear hO15
    have hL11 := uv_length_10 (n := 0) (by omega)
    refine ⟨_, _, rfl, rfl, ?_⟩
    have K17 := K0.trans K14 (U := none_) (fun i h1 h2 => h2) (fun i h1 h2 => by exact h2)
    clear K0
    clear K14
    refine Ops.regs 1 [(4, v12)] (j := 3) (by kernel_rfl) (by kernel_rfl) ?_
    refine Ops.done (by kernel_rfl) ?_
    refine q_ret (by kernel_rfl) ?_
    refine ⟨v12, retv_tmp rfl rfl, ?_⟩
    exact ⟨_, rfl, K17, O16⟩
end Go.Proofs.Ytnepjfnkaigakaa
