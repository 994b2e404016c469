/- does a letter fit? -/
import Derived.Test.YtlnidnadpdpciaaProg
import Derived.Test.YtlnidnadpdpciaaLU
import Derived.Test.YtlnidnadpdpciaaKA
import Derived.Test.YtlnidnadpdpciaaLX
set_option linter.unusedVariables false
namespace Go.Proofs.Ytlnidnadpdpciaa
open Go.Q Go.RowKit

theorem long_calls (w : World) (s : List UInt8)  : Calls Try.prog 62 ⟨[(Value.string (str s))]⟩ w (fun e w' => ∃ t, e = .returned (.bool t) ∧ (t = true ↔ 65536 < s.length) ∧ w = w') := by
 refine q_calls Try.func62 (by kernel_rfl) (by kernel_rfl) ?_
 refine qs ?_
 refine qg ?_
 refine og 1 [(0, (Value.string (str s))), (2, (Value.bool false))] 1 ?_
 refine od ?_
 refine qs ?_
 refine qg ?_
 refine og 4 [(2, (Value.bool (decide (((s.length : Nat) : Int) > 65536))))] 4 ?_
 refine od ?_
 refine q_ret (by kernel_rfl) ?_
 refine ⟨(Value.bool (decide (((s.length : Nat) : Int) > 65536))), retv_tmp rfl rfl, ?_⟩
 exact ⟨_, rfl, ⟨fun h => by have := of_decide_eq_true h; omega, fun h => decide_eq_true (by omega)⟩, rfl⟩

theorem indexS1 (w : World) (b : Nat) (s0 : List UInt8) (H0 : Has w b (rowL [(Value.string (str s0))] 9)) : Calls Try.prog 81 ⟨[(Value.slice (some ⟨b, 0, none⟩) 1 1), (Value.func (Fn.func 62) ⟨[]⟩ ⟨[]⟩)]⟩ w (fun e w' => ∃ r : Int, e = .returned (i64 r) ∧ (0 ≤ r ↔ 65536 < s0.length) ∧ Keeps none_ w w') := by
 have K0 : Keeps none_ w w := Keeps.refl w
 refine q_calls Try.func81 (by kernel_rfl) (by kernel_rfl) ?_
 refine qs ?_
 refine qg ?_
 refine og 1 [(0, (Value.slice (some ⟨b, 0, none⟩) 1 1)), (1, (Value.func (Fn.func 62) ⟨[]⟩ ⟨[]⟩)), (4, (i64 0))] 1 ?_
 refine od ?_
 refine qs ?_
 refine qs ?_
 refine qg ?_
 refine og 3 [(0, (Value.slice (some ⟨b, 0, none⟩) 1 1)), (1, (Value.func (Fn.func 62) ⟨[]⟩ ⟨[]⟩)), (4, (i64 0)), (7, (i64 1)), (8, (i64 0))] 3 ?_
 refine od ?_
 refine q_block (id := 0) (by kernel_rfl) ?_
 refine q_roll 2 (by kernel_rfl) ?_
 refine roll_step ?_
 refine qs ?_
 refine qg ?_
 refine og 1 [(0, (Value.slice (some ⟨b, 0, none⟩) 1 1)), (1, (Value.func (Fn.func 62) ⟨[]⟩ ⟨[]⟩)), (4, (i64 0)), (7, (i64 1)), (8, (i64 0)), (9, (Value.bool true))] 1 ?_
 refine od ?_
 refine qs ?_
 refine q_then (o := .tmp 9) (by kernel_rfl) rfl ?_
 refine q_skip (by kernel_rfl) ?_
 refine qs ?_
 refine q_block (id := 1) (by kernel_rfl) ?_
 refine qs ?_
 refine qg ?_
 refine og 2 [(0, (Value.slice (some ⟨b, 0, none⟩) 1 1)), (1, (Value.func (Fn.func 62) ⟨[]⟩ ⟨[]⟩)), (4, (i64 0)), (5, (i64 0)), (7, (i64 1)), (8, (i64 0)), (9, (Value.bool true))] 2 ?_
 refine od ?_
 refine qs ?_
 refine qg ?_
 refine og 4 [(0, (Value.slice (some ⟨b, 0, none⟩) 1 1)), (1, (Value.func (Fn.func 62) ⟨[]⟩ ⟨[]⟩)), (4, (i64 0)), (5, (i64 0)), (7, (i64 1)), (8, (i64 0)), (9, (Value.bool true)), (11, (Value.func (Fn.func 62) ⟨[]⟩ ⟨[]⟩)), (14, (ptr b))] 4 ?_
 refine Ops.go (v := (Value.string (str s0))) (by kernel_rfl) (Runs.load (t := 9) (a := ⟨b, 0, none⟩) (by kernel_rfl) (H0.loads (by kernel_rfl))) (d := (some 15)) (by kernel_rfl) rfl ?_
 refine Ops.call (by kernel_rfl) (d := (some 16)) (by kernel_rfl) (long_calls _ s0) ?_
 rintro _ _ ⟨t1, rfl, ht2, rfl⟩
 refine ⟨_, _, rfl, rfl, ?_⟩
 refine od ?_
 refine q_cond (o := .tmp 16) (b := t1) (by kernel_rfl) rfl (fun h3 => ?_) (fun h3 => ?_)
 ·rw [h3]
  have p4 : t1 = true := h3
  refine qs ?_
  refine qg ?_
  refine og 2 [(0, (Value.slice (some ⟨b, 0, none⟩) 1 1)), (1, (Value.func (Fn.func 62) ⟨[]⟩ ⟨[]⟩)), (4, (i64 0)), (5, (i64 0)), (7, (i64 1)), (8, (i64 0)), (9, (Value.bool true)), (16, (Value.bool true))] 2 ?_
  refine od ?_
  refine q_ret (by kernel_rfl) ?_
  refine ⟨(i64 0), retv_tmp rfl rfl, ?_⟩
  have ht1 := h3
  have kt1 := ht2.1 ht1
  exact ⟨_, rfl, by constructor <;> intro _ <;> omega, K0⟩
 ·rw [h3]
  have p5 : t1 = false := h3
  refine q_skip (by kernel_rfl) ?_
  refine qg ?_
  refine og 2 [(0, (Value.slice (some ⟨b, 0, none⟩) 1 1)), (1, (Value.func (Fn.func 62) ⟨[]⟩ ⟨[]⟩)), (4, (i64 0)), (5, (i64 0)), (7, (i64 1)), (8, (i64 1)), (9, (Value.bool true)), (16, (Value.bool false))] 2 ?_
  refine od ?_
  refine roll_step ?_
  refine qs ?_
  refine qg ?_
  refine og 1 [(0, (Value.slice (some ⟨b, 0, none⟩) 1 1)), (1, (Value.func (Fn.func 62) ⟨[]⟩ ⟨[]⟩)), (4, (i64 0)), (5, (i64 0)), (7, (i64 1)), (8, (i64 1)), (9, (Value.bool false)), (16, (Value.bool false))] 1 ?_
  refine od ?_
  refine qs ?_
  refine q_else (o := .tmp 9) (by kernel_rfl) rfl ?_
  refine q_exit (id := 0) (by kernel_rfl) ?_
  refine qs ?_
  refine qg ?_
  refine og 1 [(4, (i64 (-1)))] 1 ?_
  refine od ?_
  refine q_ret (by kernel_rfl) ?_
  refine ⟨(i64 (-1)), retv_tmp rfl rfl, ?_⟩
  have ht1 := h3
  have kt1 : ¬ (65536 < s0.length) := fun q => by have := ht2.2 q; rw [ht1] at this; cases this
  exact ⟨_, rfl, by constructor <;> intro _ <;> omega, K0⟩

theorem containsS1 (w : World) (b : Nat) (s0 : List UInt8) (H0 : Has w b (rowL [(Value.string (str s0))] 9)) : Calls Try.prog 61 ⟨[(Value.slice (some ⟨b, 0, none⟩) 1 1), (Value.func (Fn.func 62) ⟨[]⟩ ⟨[]⟩)]⟩ w (fun e w' => ∃ t, e = .returned (.bool t) ∧ (t = true ↔ 65536 < s0.length) ∧ Keeps none_ w w') := by
 have K0 : Keeps none_ w w := Keeps.refl w
 refine q_calls Try.func61 (by kernel_rfl) (by kernel_rfl) ?_
 refine qs ?_
 refine qg ?_
 refine og 1 [(0, (Value.slice (some ⟨b, 0, none⟩) 1 1)), (1, (Value.func (Fn.func 62) ⟨[]⟩ ⟨[]⟩)), (4, (Value.bool false))] 1 ?_
 refine od ?_
 refine qs ?_
 refine qg ?_
 refine og 2 [(4, (Value.bool false)), (5, (Value.slice (some ⟨b, 0, none⟩) 1 1)), (6, (Value.func (Fn.func 62) ⟨[]⟩ ⟨[]⟩))] 2 ?_
 refine Ops.call (by kernel_rfl) (d := (some 7)) (by kernel_rfl) (indexS1 _ b s0 H0) ?_
 rintro _ w4 ⟨r1, rfl, hr2, K3⟩
 refine ⟨_, _, rfl, rfl, ?_⟩
 replace K0 := K0.t0 K3
 replace H0 := H0.keep K3 (fun h => h)
 clear K3
 refine og 2 [(4, (Value.bool (decide (r1 ≥ 0))))] 5 ?_
 refine od ?_
 refine q_ret (by kernel_rfl) ?_
 refine ⟨(Value.bool (decide (r1 ≥ 0))), retv_tmp rfl rfl, ?_⟩
 exact ⟨_, rfl, ⟨fun h => hr2.1 (of_decide_eq_true h), fun h => decide_eq_true (hr2.2 h)⟩, K0⟩

theorem short1 (w : World) (b : Nat) (s0 : List UInt8) (H0 : Has w b (rowL [(Value.string (str s0))] 9)) : Calls Try.prog 60 ⟨[(Value.slice (some ⟨b, 0, none⟩) 1 1)]⟩ w (fun e w' => ∃ t, e = .returned (.bool t) ∧ (t = true ↔ s0.length ≤ 65536) ∧ Keeps none_ w w') := by
 have K0 : Keeps none_ w w := Keeps.refl w
 refine q_calls Try.func60 (by kernel_rfl) (by kernel_rfl) ?_
 refine qs ?_
 refine qg ?_
 refine og 1 [(0, (Value.slice (some ⟨b, 0, none⟩) 1 1)), (2, (Value.bool false))] 1 ?_
 refine od ?_
 refine qs ?_
 refine qg ?_
 refine og 1 [(2, (Value.bool false)), (3, (Value.slice (some ⟨b, 0, none⟩) 1 1))] 1 ?_
 refine Ops.call (by kernel_rfl) (d := (some 4)) (by kernel_rfl) (containsS1 _ b s0 H0) ?_
 rintro _ w4 ⟨t1, rfl, ht2, K3⟩
 refine ⟨_, _, rfl, rfl, ?_⟩
 replace K0 := K0.t0 K3
 replace H0 := H0.keep K3 (fun h => h)
 clear K3
 refine og 2 [(2, (Value.bool (!t1)))] 4 ?_
 refine od ?_
 refine q_ret (by kernel_rfl) ?_
 refine ⟨(Value.bool (!t1)), retv_tmp rfl rfl, ?_⟩
 exact ⟨_, rfl, by cases hq : t1 <;> (rw [hq] at ht2; simp at ht2 ⊢; omega), K0⟩

theorem indexS3 (w : World) (b : Nat) (s0 : List UInt8) (s1 : List UInt8) (s2 : List UInt8) (H0 : Has w b (rowL [(Value.string (str s0)), (Value.string (str s1)), (Value.string (str s2))] 9)) : Calls Try.prog 81 ⟨[(Value.slice (some ⟨b, 0, none⟩) 3 3), (Value.func (Fn.func 62) ⟨[]⟩ ⟨[]⟩)]⟩ w (fun e w' => ∃ r : Int, e = .returned (i64 r) ∧ (0 ≤ r ↔ 65536 < s0.length ∨ 65536 < s1.length ∨ 65536 < s2.length) ∧ Keeps none_ w w') := by
 have K0 : Keeps none_ w w := Keeps.refl w
 refine q_calls Try.func81 (by kernel_rfl) (by kernel_rfl) ?_
 refine qs ?_
 refine qg ?_
 refine og 1 [(0, (Value.slice (some ⟨b, 0, none⟩) 3 3)), (1, (Value.func (Fn.func 62) ⟨[]⟩ ⟨[]⟩)), (4, (i64 0))] 1 ?_
 refine od ?_
 refine qs ?_
 refine qs ?_
 refine qg ?_
 refine og 3 [(0, (Value.slice (some ⟨b, 0, none⟩) 3 3)), (1, (Value.func (Fn.func 62) ⟨[]⟩ ⟨[]⟩)), (4, (i64 0)), (7, (i64 3)), (8, (i64 0))] 3 ?_
 refine od ?_
 refine q_block (id := 0) (by kernel_rfl) ?_
 refine q_roll 4 (by kernel_rfl) ?_
 refine roll_step ?_
 refine qs ?_
 refine qg ?_
 refine og 1 [(0, (Value.slice (some ⟨b, 0, none⟩) 3 3)), (1, (Value.func (Fn.func 62) ⟨[]⟩ ⟨[]⟩)), (4, (i64 0)), (7, (i64 3)), (8, (i64 0)), (9, (Value.bool true))] 1 ?_
 refine od ?_
 refine qs ?_
 refine q_then (o := .tmp 9) (by kernel_rfl) rfl ?_
 refine q_skip (by kernel_rfl) ?_
 refine qs ?_
 refine q_block (id := 1) (by kernel_rfl) ?_
 refine qs ?_
 refine qg ?_
 refine og 2 [(0, (Value.slice (some ⟨b, 0, none⟩) 3 3)), (1, (Value.func (Fn.func 62) ⟨[]⟩ ⟨[]⟩)), (4, (i64 0)), (5, (i64 0)), (7, (i64 3)), (8, (i64 0)), (9, (Value.bool true))] 2 ?_
 refine od ?_
 refine qs ?_
 refine qg ?_
 refine og 4 [(0, (Value.slice (some ⟨b, 0, none⟩) 3 3)), (1, (Value.func (Fn.func 62) ⟨[]⟩ ⟨[]⟩)), (4, (i64 0)), (5, (i64 0)), (7, (i64 3)), (8, (i64 0)), (9, (Value.bool true)), (11, (Value.func (Fn.func 62) ⟨[]⟩ ⟨[]⟩)), (14, (ptr b))] 4 ?_
 refine Ops.go (v := (Value.string (str s0))) (by kernel_rfl) (Runs.load (t := 9) (a := ⟨b, 0, none⟩) (by kernel_rfl) (H0.loads (by kernel_rfl))) (d := (some 15)) (by kernel_rfl) rfl ?_
 refine Ops.call (by kernel_rfl) (d := (some 16)) (by kernel_rfl) (long_calls _ s0) ?_
 rintro _ _ ⟨t1, rfl, ht2, rfl⟩
 refine ⟨_, _, rfl, rfl, ?_⟩
 refine od ?_
 refine q_cond (o := .tmp 16) (b := t1) (by kernel_rfl) rfl (fun h3 => ?_) (fun h3 => ?_)
 ·rw [h3]
  have p4 : t1 = true := h3
  refine qs ?_
  refine qg ?_
  refine og 2 [(0, (Value.slice (some ⟨b, 0, none⟩) 3 3)), (1, (Value.func (Fn.func 62) ⟨[]⟩ ⟨[]⟩)), (4, (i64 0)), (5, (i64 0)), (7, (i64 3)), (8, (i64 0)), (9, (Value.bool true)), (16, (Value.bool true))] 2 ?_
  refine od ?_
  refine q_ret (by kernel_rfl) ?_
  refine ⟨(i64 0), retv_tmp rfl rfl, ?_⟩
  have ht1 := h3
  have kt1 := ht2.1 ht1
  exact ⟨_, rfl, by constructor <;> intro _ <;> omega, K0⟩
 ·rw [h3]
  have p5 : t1 = false := h3
  refine q_skip (by kernel_rfl) ?_
  refine qg ?_
  refine og 2 [(0, (Value.slice (some ⟨b, 0, none⟩) 3 3)), (1, (Value.func (Fn.func 62) ⟨[]⟩ ⟨[]⟩)), (4, (i64 0)), (5, (i64 0)), (7, (i64 3)), (8, (i64 1)), (9, (Value.bool true)), (16, (Value.bool false))] 2 ?_
  refine od ?_
  refine roll_step ?_
  refine qs ?_
  refine qg ?_
  refine og 1 [(0, (Value.slice (some ⟨b, 0, none⟩) 3 3)), (1, (Value.func (Fn.func 62) ⟨[]⟩ ⟨[]⟩)), (4, (i64 0)), (5, (i64 0)), (7, (i64 3)), (8, (i64 1)), (9, (Value.bool true)), (16, (Value.bool false))] 1 ?_
  refine od ?_
  refine qs ?_
  refine q_then (o := .tmp 9) (by kernel_rfl) rfl ?_
  refine q_skip (by kernel_rfl) ?_
  refine qs ?_
  refine q_block (id := 1) (by kernel_rfl) ?_
  refine qs ?_
  refine qg ?_
  refine og 2 [(0, (Value.slice (some ⟨b, 0, none⟩) 3 3)), (1, (Value.func (Fn.func 62) ⟨[]⟩ ⟨[]⟩)), (4, (i64 0)), (5, (i64 1)), (7, (i64 3)), (8, (i64 1)), (9, (Value.bool true)), (16, (Value.bool false))] 2 ?_
  refine od ?_
  refine qs ?_
  refine qg ?_
  refine og 4 [(0, (Value.slice (some ⟨b, 0, none⟩) 3 3)), (1, (Value.func (Fn.func 62) ⟨[]⟩ ⟨[]⟩)), (4, (i64 0)), (5, (i64 1)), (7, (i64 3)), (8, (i64 1)), (9, (Value.bool true)), (11, (Value.func (Fn.func 62) ⟨[]⟩ ⟨[]⟩)), (14, (Value.pointer (some ⟨b, 1, none⟩))), (16, (Value.bool false))] 4 ?_
  refine Ops.go (v := (Value.string (str s1))) (by kernel_rfl) (Runs.load (t := 9) (a := ⟨b, 1, none⟩) (by kernel_rfl) (H0.loads (by kernel_rfl))) (d := (some 15)) (by kernel_rfl) rfl ?_
  refine Ops.call (by kernel_rfl) (d := (some 16)) (by kernel_rfl) (long_calls _ s1) ?_
  rintro _ _ ⟨t6, rfl, ht7, rfl⟩
  refine ⟨_, _, rfl, rfl, ?_⟩
  refine od ?_
  refine q_cond (o := .tmp 16) (b := t6) (by kernel_rfl) rfl (fun h8 => ?_) (fun h8 => ?_)
  ·rw [h8]
   have p9 : t6 = true := h8
   refine qs ?_
   refine qg ?_
   refine og 2 [(0, (Value.slice (some ⟨b, 0, none⟩) 3 3)), (1, (Value.func (Fn.func 62) ⟨[]⟩ ⟨[]⟩)), (4, (i64 1)), (5, (i64 1)), (7, (i64 3)), (8, (i64 1)), (9, (Value.bool true)), (16, (Value.bool true))] 2 ?_
   refine od ?_
   refine q_ret (by kernel_rfl) ?_
   refine ⟨(i64 1), retv_tmp rfl rfl, ?_⟩
   have ht1 := h3
   have kt1 : ¬ (65536 < s0.length) := fun q => by have := ht2.2 q; rw [ht1] at this; cases this
   have ht6 := h8
   have kt6 := ht7.1 ht6
   exact ⟨_, rfl, by constructor <;> intro _ <;> omega, K0⟩
  ·rw [h8]
   have p10 : t6 = false := h8
   refine q_skip (by kernel_rfl) ?_
   refine qg ?_
   refine og 2 [(0, (Value.slice (some ⟨b, 0, none⟩) 3 3)), (1, (Value.func (Fn.func 62) ⟨[]⟩ ⟨[]⟩)), (4, (i64 0)), (5, (i64 1)), (7, (i64 3)), (8, (i64 2)), (9, (Value.bool true)), (16, (Value.bool false))] 2 ?_
   refine od ?_
   refine roll_step ?_
   refine qs ?_
   refine qg ?_
   refine og 1 [(0, (Value.slice (some ⟨b, 0, none⟩) 3 3)), (1, (Value.func (Fn.func 62) ⟨[]⟩ ⟨[]⟩)), (4, (i64 0)), (5, (i64 1)), (7, (i64 3)), (8, (i64 2)), (9, (Value.bool true)), (16, (Value.bool false))] 1 ?_
   refine od ?_
   refine qs ?_
   refine q_then (o := .tmp 9) (by kernel_rfl) rfl ?_
   refine q_skip (by kernel_rfl) ?_
   refine qs ?_
   refine q_block (id := 1) (by kernel_rfl) ?_
   refine qs ?_
   refine qg ?_
   refine og 2 [(0, (Value.slice (some ⟨b, 0, none⟩) 3 3)), (1, (Value.func (Fn.func 62) ⟨[]⟩ ⟨[]⟩)), (4, (i64 0)), (5, (i64 2)), (7, (i64 3)), (8, (i64 2)), (9, (Value.bool true)), (16, (Value.bool false))] 2 ?_
   refine od ?_
   refine qs ?_
   refine qg ?_
   refine og 4 [(0, (Value.slice (some ⟨b, 0, none⟩) 3 3)), (1, (Value.func (Fn.func 62) ⟨[]⟩ ⟨[]⟩)), (4, (i64 0)), (5, (i64 2)), (7, (i64 3)), (8, (i64 2)), (9, (Value.bool true)), (11, (Value.func (Fn.func 62) ⟨[]⟩ ⟨[]⟩)), (14, (Value.pointer (some ⟨b, 2, none⟩))), (16, (Value.bool false))] 4 ?_
   refine Ops.go (v := (Value.string (str s2))) (by kernel_rfl) (Runs.load (t := 9) (a := ⟨b, 2, none⟩) (by kernel_rfl) (H0.loads (by kernel_rfl))) (d := (some 15)) (by kernel_rfl) rfl ?_
   refine Ops.call (by kernel_rfl) (d := (some 16)) (by kernel_rfl) (long_calls _ s2) ?_
   rintro _ _ ⟨t11, rfl, ht12, rfl⟩
   refine ⟨_, _, rfl, rfl, ?_⟩
   refine od ?_
   refine q_cond (o := .tmp 16) (b := t11) (by kernel_rfl) rfl (fun h13 => ?_) (fun h13 => ?_)
   ·rw [h13]
    have p14 : t11 = true := h13
    refine qs ?_
    refine qg ?_
    refine og 2 [(0, (Value.slice (some ⟨b, 0, none⟩) 3 3)), (1, (Value.func (Fn.func 62) ⟨[]⟩ ⟨[]⟩)), (4, (i64 2)), (5, (i64 2)), (7, (i64 3)), (8, (i64 2)), (9, (Value.bool true)), (16, (Value.bool true))] 2 ?_
    refine od ?_
    refine q_ret (by kernel_rfl) ?_
    refine ⟨(i64 2), retv_tmp rfl rfl, ?_⟩
    have ht1 := h3
    have kt1 : ¬ (65536 < s0.length) := fun q => by have := ht2.2 q; rw [ht1] at this; cases this
    have ht6 := h8
    have kt6 : ¬ (65536 < s1.length) := fun q => by have := ht7.2 q; rw [ht6] at this; cases this
    have ht11 := h13
    have kt11 := ht12.1 ht11
    exact ⟨_, rfl, by constructor <;> intro _ <;> omega, K0⟩
   ·rw [h13]
    have p15 : t11 = false := h13
    refine q_skip (by kernel_rfl) ?_
    refine qg ?_
    refine og 2 [(0, (Value.slice (some ⟨b, 0, none⟩) 3 3)), (1, (Value.func (Fn.func 62) ⟨[]⟩ ⟨[]⟩)), (4, (i64 0)), (5, (i64 2)), (7, (i64 3)), (8, (i64 3)), (9, (Value.bool true)), (16, (Value.bool false))] 2 ?_
    refine od ?_
    refine roll_step ?_
    refine qs ?_
    refine qg ?_
    refine og 1 [(0, (Value.slice (some ⟨b, 0, none⟩) 3 3)), (1, (Value.func (Fn.func 62) ⟨[]⟩ ⟨[]⟩)), (4, (i64 0)), (5, (i64 2)), (7, (i64 3)), (8, (i64 3)), (9, (Value.bool false)), (16, (Value.bool false))] 1 ?_
    refine od ?_
    refine qs ?_
    refine q_else (o := .tmp 9) (by kernel_rfl) rfl ?_
    refine q_exit (id := 0) (by kernel_rfl) ?_
    refine qs ?_
    refine qg ?_
    refine og 1 [(4, (i64 (-1)))] 1 ?_
    refine od ?_
    refine q_ret (by kernel_rfl) ?_
    refine ⟨(i64 (-1)), retv_tmp rfl rfl, ?_⟩
    have ht1 := h3
    have kt1 : ¬ (65536 < s0.length) := fun q => by have := ht2.2 q; rw [ht1] at this; cases this
    have ht6 := h8
    have kt6 : ¬ (65536 < s1.length) := fun q => by have := ht7.2 q; rw [ht6] at this; cases this
    have ht11 := h13
    have kt11 : ¬ (65536 < s2.length) := fun q => by have := ht12.2 q; rw [ht11] at this; cases this
    exact ⟨_, rfl, by constructor <;> intro _ <;> omega, K0⟩

theorem containsS3 (w : World) (b : Nat) (s0 : List UInt8) (s1 : List UInt8) (s2 : List UInt8) (H0 : Has w b (rowL [(Value.string (str s0)), (Value.string (str s1)), (Value.string (str s2))] 9)) : Calls Try.prog 61 ⟨[(Value.slice (some ⟨b, 0, none⟩) 3 3), (Value.func (Fn.func 62) ⟨[]⟩ ⟨[]⟩)]⟩ w (fun e w' => ∃ t, e = .returned (.bool t) ∧ (t = true ↔ 65536 < s0.length ∨ 65536 < s1.length ∨ 65536 < s2.length) ∧ Keeps none_ w w') := by
 have K0 : Keeps none_ w w := Keeps.refl w
 refine q_calls Try.func61 (by kernel_rfl) (by kernel_rfl) ?_
 refine qs ?_
 refine qg ?_
 refine og 1 [(0, (Value.slice (some ⟨b, 0, none⟩) 3 3)), (1, (Value.func (Fn.func 62) ⟨[]⟩ ⟨[]⟩)), (4, (Value.bool false))] 1 ?_
 refine od ?_
 refine qs ?_
 refine qg ?_
 refine og 2 [(4, (Value.bool false)), (5, (Value.slice (some ⟨b, 0, none⟩) 3 3)), (6, (Value.func (Fn.func 62) ⟨[]⟩ ⟨[]⟩))] 2 ?_
 refine Ops.call (by kernel_rfl) (d := (some 7)) (by kernel_rfl) (indexS3 _ b s0 s1 s2 H0) ?_
 rintro _ w4 ⟨r1, rfl, hr2, K3⟩
 refine ⟨_, _, rfl, rfl, ?_⟩
 replace K0 := K0.t0 K3
 replace H0 := H0.keep K3 (fun h => h)
 clear K3
 refine og 2 [(4, (Value.bool (decide (r1 ≥ 0))))] 5 ?_
 refine od ?_
 refine q_ret (by kernel_rfl) ?_
 refine ⟨(Value.bool (decide (r1 ≥ 0))), retv_tmp rfl rfl, ?_⟩
 exact ⟨_, rfl, ⟨fun h => hr2.1 (of_decide_eq_true h), fun h => decide_eq_true (hr2.2 h)⟩, K0⟩

theorem short3 (w : World) (b : Nat) (s0 : List UInt8) (s1 : List UInt8) (s2 : List UInt8) (H0 : Has w b (rowL [(Value.string (str s0)), (Value.string (str s1)), (Value.string (str s2))] 9)) : Calls Try.prog 60 ⟨[(Value.slice (some ⟨b, 0, none⟩) 3 3)]⟩ w (fun e w' => ∃ t, e = .returned (.bool t) ∧ (t = true ↔ s0.length ≤ 65536 ∧ s1.length ≤ 65536 ∧ s2.length ≤ 65536) ∧ Keeps none_ w w') := by
 have K0 : Keeps none_ w w := Keeps.refl w
 refine q_calls Try.func60 (by kernel_rfl) (by kernel_rfl) ?_
 refine qs ?_
 refine qg ?_
 refine og 1 [(0, (Value.slice (some ⟨b, 0, none⟩) 3 3)), (2, (Value.bool false))] 1 ?_
 refine od ?_
 refine qs ?_
 refine qg ?_
 refine og 1 [(2, (Value.bool false)), (3, (Value.slice (some ⟨b, 0, none⟩) 3 3))] 1 ?_
 refine Ops.call (by kernel_rfl) (d := (some 4)) (by kernel_rfl) (containsS3 _ b s0 s1 s2 H0) ?_
 rintro _ w4 ⟨t1, rfl, ht2, K3⟩
 refine ⟨_, _, rfl, rfl, ?_⟩
 replace K0 := K0.t0 K3
 replace H0 := H0.keep K3 (fun h => h)
 clear K3
 refine og 2 [(2, (Value.bool (!t1)))] 4 ?_
 refine od ?_
 refine q_ret (by kernel_rfl) ?_
 refine ⟨(Value.bool (!t1)), retv_tmp rfl rfl, ?_⟩
 exact ⟨_, rfl, by cases hq : t1 <;> (rw [hq] at ht2; simp at ht2 ⊢; omega), K0⟩

theorem longrow_calls (w : World) (b : Nat) (x : RowM) (H0 : Has w b (rowL [(Value.func (Fn.func 60) ⟨[]⟩ ⟨[]⟩)] 106)) : Calls Try.prog 64 ⟨[(agg [(Value.string (str x.name)), (i64 x.amount)]), (ptr b)]⟩ w (fun e w' => ∃ t, e = .returned (.bool t) ∧ (t = true ↔ 65536 < x.name.length) ∧ Keeps none_ w w') := by
 have K0 : Keeps none_ w w := Keeps.refl w
 refine q_calls Try.func64 (by kernel_rfl) (by kernel_rfl) ?_
 refine qs ?_
 refine qg ?_
 refine Ops.new (o := rowL [(Value.string (str x.name)), (i64 x.amount)] 59) (V := fun b => (ptr b)) (by kernel_rfl) (d := (some 2)) (by kernel_rfl) (fun b => rfl) (fun b1 w2 hb3 H4 K5 hs6 => ?_)
 have lb1 : b < b1 := by have := H0.lt; omega
 have nb1 : w.heap.size ≤ b1 := by have := K0.size; omega
 replace K0 := K0.t0 K5
 replace H0 := H0.keep K5 (fun h => h)
 clear K5 hs6
 refine og 1 [(1, (ptr b)), (2, (ptr b1)), (3, (Value.bool false))] 2 ?_
 refine od ?_
 refine qs ?_
 refine qg ?_
 refine Ops.go (v := (Value.func (Fn.func 60) ⟨[]⟩ ⟨[]⟩)) (by kernel_rfl) (Runs.load (t := 106) (a := ⟨b, 0, none⟩) (by kernel_rfl) (H0.loads (by kernel_rfl))) (d := (some 4)) (by kernel_rfl) rfl ?_
 refine og 1 [(3, (Value.bool false)), (4, (Value.func (Fn.func 60) ⟨[]⟩ ⟨[]⟩)), (5, (ptr b1))] 2 ?_
 refine Ops.go (v := (Value.string (str x.name))) (by kernel_rfl) (Runs.load (t := 9) (a := ⟨b1, 0, none⟩) (by kernel_rfl) (H4.loads (by kernel_rfl))) (d := (some 6)) (by kernel_rfl) rfl ?_
 refine Ops.new (o := rowL [(Value.string (str x.name))] 9) (V := fun b => (Value.slice (some ⟨b, 0, none⟩) 1 1)) (by kernel_rfl) (d := (some 7)) (by kernel_rfl) (fun b => rfl) (fun b7 w8 hb9 H10 K11 hs12 => ?_)
 have lb7 : b1 < b7 := by have := H4.lt; omega
 have nb7 : w.heap.size ≤ b7 := by have := K0.size; omega
 replace K0 := K0.t0 K11
 replace H0 := H0.keep K11 (fun h => h)
 replace H4 := H4.keep K11 (fun h => h)
 clear K11 hs12
 refine Ops.call (by kernel_rfl) (d := (some 8)) (by kernel_rfl) (short1 _ b7 x.name H10) ?_
 rintro _ w16 ⟨t13, rfl, ht14, K15⟩
 refine ⟨_, _, rfl, rfl, ?_⟩
 replace K0 := K0.t0 K15
 replace H0 := H0.keep K15 (fun h => h)
 replace H4 := H4.keep K15 (fun h => h)
 replace H10 := H10.keep K15 (fun h => h)
 clear K15
 refine og 2 [(3, (Value.bool (!t13)))] 7 ?_
 refine od ?_
 refine q_ret (by kernel_rfl) ?_
 refine ⟨(Value.bool (!t13)), retv_tmp rfl rfl, ?_⟩
 exact ⟨_, rfl, by cases hq : t13 <;> (rw [hq] at ht14; simp at ht14 ⊢; omega), K0⟩

theorem indexR_calls (w : World) (b : Nat) (A : Option Addr) (c : Nat) (l : List RowM) (H0 : Has w b (rowL [(Value.func (Fn.func 60) ⟨[]⟩ ⟨[]⟩)] 106)) (hA : RdR w (.slice A l.length c) l) : Calls Try.prog 82 ⟨[(Value.slice A l.length c), (Value.func (Fn.func 64) ⟨[]⟩ ⟨[(ptr b)]⟩)]⟩ w (fun e w' => ∃ r : Int, e = .returned (i64 r) ∧ (0 ≤ r ↔ ∃ y ∈ l, 65536 < y.name.length) ∧ Keeps none_ w w') := by
 have hla := (RdT.len RowM.two (by decide) hA).2
 unfold maxLen at hla
 have K0 : Keeps none_ w w := Keeps.refl w
 refine q_calls Try.func82 (by kernel_rfl) (by kernel_rfl) ?_
 refine qs ?_
 refine qg ?_
 refine og 1 [(0, (Value.slice A l.length c)), (1, (Value.func (Fn.func 64) ⟨[]⟩ ⟨[(ptr b)]⟩)), (4, (i64 0))] 1 ?_
 refine od ?_
 refine qs ?_
 refine qs ?_
 refine qg ?_
 refine og 3 [(0, (Value.slice A l.length c)), (1, (Value.func (Fn.func 64) ⟨[]⟩ ⟨[(ptr b)]⟩)), (4, (i64 0)), (7, (i64 ((l.length : Nat) : Int))), (8, (i64 0))] 3 ?_
 refine od ?_
 refine q_block (id := 0) (by kernel_rfl) ?_
 refine q_keep (R := [(0, (Value.slice A l.length c)), (1, (Value.func (Fn.func 64) ⟨[]⟩ ⟨[(ptr b)]⟩)), (7, (i64 ((l.length : Nat) : Int))), (8, (i64 0))]) (by kernel_rfl) ?_
 refine q_loop (fun (i : Nat) L (wx : World) => L = [(0, (Value.slice A l.length c)), (1, (Value.func (Fn.func 64) ⟨[]⟩ ⟨[(ptr b)]⟩)), (7, (i64 ((l.length : Nat) : Int))), (8, (i64 ((i : Nat) : Int)))] ∧ (∀ y ∈ l.take i, y.name.length ≤ 65536) ∧ i ≤ l.length ∧ Keeps none_ w wx ∧ Has wx b (rowL [(Value.func (Fn.func 60) ⟨[]⟩ ⟨[]⟩)] 106)) (fun (i : Nat) => l.length - i) 0 (by kernel_rfl) ⟨rfl, (by simp), Nat.zero_le _, K0, H0⟩ ?_
 clear H0 K0
 rintro i _ w1 ⟨rfl, hE, hi, K2, H3⟩
 refine qs ?_
 refine qg ?_
 refine og 1 [(0, (Value.slice A l.length c)), (1, (Value.func (Fn.func 64) ⟨[]⟩ ⟨[(ptr b)]⟩)), (7, (i64 ((l.length : Nat) : Int))), (8, (i64 ((i : Nat) : Int))), (9, (Value.bool (decide (((i : Nat) : Int) < ((l.length : Nat) : Int)))))] 1 ?_
 refine od ?_
 refine qs ?_
 refine q_cond (o := .tmp 9) (b := (decide (((i : Nat) : Int) < ((l.length : Nat) : Int)))) (by kernel_rfl) rfl (fun h4 => ?_) (fun h4 => ?_)
 ·rw [h4]
  have p5 : ((i : Nat) : Int) < ((l.length : Nat) : Int) := of_decide_eq_true h4
  refine q_skip (by kernel_rfl) ?_
  refine qs ?_
  refine q_block (id := 1) (by kernel_rfl) ?_
  refine qs ?_
  refine qg ?_
  refine og 2 [(0, (Value.slice A l.length c)), (1, (Value.func (Fn.func 64) ⟨[]⟩ ⟨[(ptr b)]⟩)), (5, (i64 ((i : Nat) : Int))), (7, (i64 ((l.length : Nat) : Int))), (8, (i64 ((i : Nat) : Int))), (9, (Value.bool true))] 2 ?_
  refine od ?_
  refine qs ?_
  refine qg ?_
  refine og 3 [(0, (Value.slice A l.length c)), (1, (Value.func (Fn.func 64) ⟨[]⟩ ⟨[(ptr b)]⟩)), (5, (i64 ((i : Nat) : Int))), (7, (i64 ((l.length : Nat) : Int))), (8, (i64 ((i : Nat) : Int))), (9, (Value.bool true)), (11, (Value.func (Fn.func 64) ⟨[]⟩ ⟨[(ptr b)]⟩)), (12, (Value.slice A l.length c)), (13, (i64 ((i : Nat) : Int)))] 3 ?_
  obtain ⟨rb6, ro7, x, hA8, hx9⟩ := RdT.open (Rd.keep0 (by omega) hA K2) rfl (k := i) (by omega)
  have hX := hx9
  refine Ops.go (by kernel_rfl) (Runs.ixSliceE (k := IntKind.i64) (t := 25) (len := l.length) (cap := c) (s := 2) (off' := ro7 + i * 2) (i := ((i : Nat) : Int)) hA8 (by kernel_rfl) (by kernel_rfl) (by omega) (by omega) (by omega)) (d := (some 14)) (by kernel_rfl) rfl ?_
  refine Ops.go (v := (agg [(Value.string (str x.name)), (i64 x.amount)])) (by kernel_rfl) (Runs.load (t := 59) (a := ⟨rb6, ro7 + i * 2, none⟩) (by kernel_rfl) (RdT.ld (f := RowM.cells) (x := x) RowM.two (Rd.keep0 (by omega) hA K2) (by kernel_rfl) (by kernel_rfl) hA8 hx9)) (d := (some 15)) (by kernel_rfl) rfl ?_
  refine Ops.call (by kernel_rfl) (d := (some 16)) (by kernel_rfl) (longrow_calls _ b x H3) ?_
  rintro _ w13 ⟨t10, rfl, ht11, K12⟩
  refine ⟨_, _, rfl, rfl, ?_⟩
  replace K2 := K2.trans K12 (U := none_) (fun i h1 h2 => h2) (fun i h1 h2 => by exact h2)
  replace H3 := H3.keep K12 (fun h => h)
  clear K12
  refine od ?_
  refine q_cond (o := .tmp 16) (b := t10) (by kernel_rfl) rfl (fun h14 => ?_) (fun h14 => ?_)
  ·rw [h14]
   have p15 : t10 = true := h14
   have hxl := ht11.1 h14
   refine qs ?_
   refine qg ?_
   refine og 2 [(0, (Value.slice A l.length c)), (1, (Value.func (Fn.func 64) ⟨[]⟩ ⟨[(ptr b)]⟩)), (4, (i64 ((i : Nat) : Int))), (5, (i64 ((i : Nat) : Int))), (7, (i64 ((l.length : Nat) : Int))), (8, (i64 ((i : Nat) : Int))), (9, (Value.bool true)), (16, (Value.bool true))] 2 ?_
   refine od ?_
   refine q_ret (by kernel_rfl) ?_
   refine ⟨(i64 ((i : Nat) : Int)), retv_tmp rfl rfl, ?_⟩
   exact ⟨_, rfl, ⟨fun _ => ⟨x, List.mem_of_getElem? hX, hxl⟩, fun _ => by omega⟩, K2⟩
  ·rw [h14]
   have p16 : t10 = false := h14
   have hxl : x.name.length ≤ 65536 := Nat.le_of_not_lt fun q => by have := ht11.2 q; rw [h14] at this; cases this
   refine q_skip (by kernel_rfl) ?_
   refine qg ?_
   refine og 1 [(0, (Value.slice A l.length c)), (1, (Value.func (Fn.func 64) ⟨[]⟩ ⟨[(ptr b)]⟩)), (5, (i64 ((i : Nat) : Int))), (7, (i64 ((l.length : Nat) : Int))), (8, (i64 ((i : Nat) : Int))), (9, (Value.bool true)), (16, (Value.bool false)), (18, (i64 (IntKind.i64.wrap (((i : Nat) : Int) + 1))))] 1 ?_
   have e17 : IntKind.i64.wrap (((i : Nat) : Int) + 1) = ((i + 1 : Nat) : Int) := by rw [wrap_i64 (by omega) (by omega)]; omega
   rw [e17]
   clear e17
   refine og 1 [(0, (Value.slice A l.length c)), (1, (Value.func (Fn.func 64) ⟨[]⟩ ⟨[(ptr b)]⟩)), (5, (i64 ((i : Nat) : Int))), (7, (i64 ((l.length : Nat) : Int))), (8, (i64 ((i + 1 : Nat) : Int))), (9, (Value.bool true)), (16, (Value.bool false))] 2 ?_
   refine Ops.keep (R := [(0, (Value.slice A l.length c)), (1, (Value.func (Fn.func 64) ⟨[]⟩ ⟨[(ptr b)]⟩)), (7, (i64 ((l.length : Nat) : Int))), (8, (i64 ((i + 1 : Nat) : Int)))]) (by kernel_rfl) ?_
   refine od ?_
   exact ⟨i + 1, ⟨rfl, (fun y hy => by rw [List.take_succ_eq_append_getElem (by omega), List.mem_append, List.mem_singleton] at hy; rcases hy with hy | hy; (exact hE y hy); (subst hy; rw [(List.getElem?_eq_some_iff.1 hX).2]; exact hxl)), (by omega), K2, H3⟩, (show l.length - (i + 1) < l.length - i from by omega)⟩
 ·rw [h4]
  have p18 : ¬ (((i : Nat) : Int) < ((l.length : Nat) : Int)) := of_decide_eq_false h4
  refine q_exit (id := 0) (by kernel_rfl) ?_
  refine qs ?_
  refine qg ?_
  refine og 1 [(4, (i64 (-1)))] 1 ?_
  refine od ?_
  refine q_ret (by kernel_rfl) ?_
  refine ⟨(i64 (-1)), retv_tmp rfl rfl, ?_⟩
  exact ⟨_, rfl, ⟨fun h => absurd h (by decide), fun ⟨y, hy, hl⟩ => by obtain ⟨q, hq⟩ := List.getElem?_of_mem hy; have hql := (List.getElem?_eq_some_iff.1 hq).1; have := hE y (by rw [List.take_of_length_le (by omega)]; exact hy); omega⟩, K2⟩

theorem containsR_calls (w : World) (b : Nat) (A : Option Addr) (c : Nat) (l : List RowM) (H0 : Has w b (rowL [(Value.func (Fn.func 60) ⟨[]⟩ ⟨[]⟩)] 106)) (hA : RdR w (.slice A l.length c) l) : Calls Try.prog 63 ⟨[(Value.slice A l.length c), (Value.func (Fn.func 64) ⟨[]⟩ ⟨[(ptr b)]⟩)]⟩ w (fun e w' => ∃ t, e = .returned (.bool t) ∧ (t = true ↔ ∃ y ∈ l, 65536 < y.name.length) ∧ Keeps none_ w w') := by
 have K0 : Keeps none_ w w := Keeps.refl w
 refine q_calls Try.func63 (by kernel_rfl) (by kernel_rfl) ?_
 refine qs ?_
 refine qg ?_
 refine og 1 [(0, (Value.slice A l.length c)), (1, (Value.func (Fn.func 64) ⟨[]⟩ ⟨[(ptr b)]⟩)), (4, (Value.bool false))] 1 ?_
 refine od ?_
 refine qs ?_
 refine qg ?_
 refine og 2 [(4, (Value.bool false)), (5, (Value.slice A l.length c)), (6, (Value.func (Fn.func 64) ⟨[]⟩ ⟨[(ptr b)]⟩))] 2 ?_
 refine Ops.call (by kernel_rfl) (d := (some 7)) (by kernel_rfl) (indexR_calls _ b A c l H0 (Rd.keep0 (by omega) hA K0)) ?_
 rintro _ w4 ⟨r1, rfl, hr2, K3⟩
 refine ⟨_, _, rfl, rfl, ?_⟩
 replace K0 := K0.t0 K3
 replace H0 := H0.keep K3 (fun h => h)
 clear K3
 refine og 2 [(4, (Value.bool (decide (r1 ≥ 0))))] 5 ?_
 refine od ?_
 refine q_ret (by kernel_rfl) ?_
 refine ⟨(Value.bool (decide (r1 ≥ 0))), retv_tmp rfl rfl, ?_⟩
 exact ⟨_, rfl, ⟨fun h => hr2.1 (of_decide_eq_true h), fun h => decide_eq_true (hr2.2 h)⟩, K0⟩

theorem fits_calls (w : World) (x : LetP) (V : Option Addr) (c : Nat) (D : Option Addr) (dc : Nat) (hV : RdR w (.slice V x.rep.rows.length c) x.rep.rows) : Calls Try.prog 32 ⟨[(agg [(i64 x.kind), (i64 x.n), (i64 x.group), (i64 x.op.kind), (Value.string (str x.op.frm)), (Value.string (str x.op.to)), (i64 x.op.amount), (Value.string (str x.op.key)), (i64 x.op.slot), (i64 x.op.shard), (i64 x.rep.why), (i64 x.rep.amount), (Value.slice V x.rep.rows.length c), (Value.slice D x.body.length dc)])]⟩ w (fun e w' => ∃ t, e = .returned (.bool t) ∧ (t = true ↔ x.Fits) ∧ Keeps none_ w w') := by
 have K0 : Keeps none_ w w := Keeps.refl w
 refine q_calls Try.func32 (by kernel_rfl) (by kernel_rfl) ?_
 refine qs ?_
 refine qg ?_
 refine Ops.new (o := rowL [(i64 x.kind), (i64 x.n), (i64 x.group), (i64 x.op.kind), (Value.string (str x.op.frm)), (Value.string (str x.op.to)), (i64 x.op.amount), (Value.string (str x.op.key)), (i64 x.op.slot), (i64 x.op.shard), (i64 x.rep.why), (i64 x.rep.amount), (Value.slice V x.rep.rows.length c), (Value.slice D x.body.length dc)] 33) (V := fun b => (ptr b)) (by kernel_rfl) (d := (some 1)) (by kernel_rfl) (fun b => rfl) (fun b1 w2 hb3 H4 K5 hs6 => ?_)
 have nb1 : w.heap.size ≤ b1 := by have := K0.size; omega
 replace K0 := K0.t0 K5
 clear K5 hs6
 refine og 1 [(1, (ptr b1)), (2, (Value.bool false))] 2 ?_
 refine od ?_
 refine qs ?_
 refine qg ?_
 refine Ops.new (o := rowL [Value.nilFunc] 106) (V := fun b => (ptr b)) (by kernel_rfl) (d := (some 3)) (by kernel_rfl) (fun b => rfl) (fun b7 w8 hb9 H10 K11 hs12 => ?_)
 have lb7 : b1 < b7 := by have := H4.lt; omega
 have nb7 : w.heap.size ≤ b7 := by have := K0.size; omega
 replace K0 := K0.t0 K11
 replace H4 := H4.keep K11 (fun h => h)
 clear K11 hs12
 refine Ops.put (t := 106) (b := b7) (off := 0) (v := (Value.func (Fn.func 60) ⟨[]⟩ ⟨[]⟩)) (ys := [(Value.func (Fn.func 60) ⟨[]⟩ ⟨[]⟩)]) (by kernel_rfl) (by kernel_rfl) H10 (by kernel_rfl) (d := none) (by kernel_rfl) rfl (fun w13 H14 K15 => ?_)
 clear H10
 replace K0 := K0.trans K15 (U := none_) (fun i h1 h2 => h2) (fun i h1 h2 => by have h2 : i = b7 := h2; exfalso; omega)
 replace H4 := H4.keep K15 (by intro h; change b1 = b7 at h; omega)
 clear K15
 refine od ?_
 refine qs ?_
 refine qs ?_
 refine qg ?_
 refine og 1 [(1, (ptr b1)), (2, (Value.bool false)), (3, (ptr b7)), (4, (ptr b1))] 1 ?_
 refine Ops.go (v := (i64 x.kind)) (by kernel_rfl) (Runs.load (t := 3) (a := ⟨b1, 0, none⟩) (by kernel_rfl) (H4.loads (by kernel_rfl))) (d := (some 5)) (by kernel_rfl) rfl ?_
 refine od ?_
 refine q_block (id := 0) (by kernel_rfl) ?_
 refine qs ?_
 refine qg ?_
 refine og 2 [(1, (ptr b1)), (2, (Value.bool false)), (3, (ptr b7)), (5, (i64 x.kind)), (6, (Value.bool (x.kind == 2)))] 2 ?_
 refine od ?_
 refine q_cond (o := .tmp 6) (b := (x.kind == 2)) (by kernel_rfl) rfl (fun h16 => ?_) (fun h16 => ?_)
 ·rw [h16]
  have p17 : x.kind = 2 := of_beq_t h16
  refine qs ?_
  refine qg ?_
  refine Ops.go (v := (Value.func (Fn.func 60) ⟨[]⟩ ⟨[]⟩)) (by kernel_rfl) (Runs.load (t := 106) (a := ⟨b7, 0, none⟩) (by kernel_rfl) (H14.loads (by kernel_rfl))) (d := (some 8)) (by kernel_rfl) rfl ?_
  refine og 2 [(1, (ptr b1)), (2, (Value.bool false)), (3, (ptr b7)), (5, (i64 x.kind)), (8, (Value.func (Fn.func 60) ⟨[]⟩ ⟨[]⟩)), (10, (Value.pointer (some ⟨b1, 4, none⟩)))] 3 ?_
  refine Ops.go (v := (Value.string (str x.op.frm))) (by kernel_rfl) (Runs.load (t := 9) (a := ⟨b1, 4, none⟩) (by kernel_rfl) (H4.loads (by kernel_rfl))) (d := (some 11)) (by kernel_rfl) rfl ?_
  refine og 2 [(1, (ptr b1)), (2, (Value.bool false)), (3, (ptr b7)), (5, (i64 x.kind)), (8, (Value.func (Fn.func 60) ⟨[]⟩ ⟨[]⟩)), (11, (Value.string (str x.op.frm))), (13, (Value.pointer (some ⟨b1, 5, none⟩)))] 6 ?_
  refine Ops.go (v := (Value.string (str x.op.to))) (by kernel_rfl) (Runs.load (t := 9) (a := ⟨b1, 5, none⟩) (by kernel_rfl) (H4.loads (by kernel_rfl))) (d := (some 14)) (by kernel_rfl) rfl ?_
  refine og 2 [(1, (ptr b1)), (2, (Value.bool false)), (3, (ptr b7)), (5, (i64 x.kind)), (8, (Value.func (Fn.func 60) ⟨[]⟩ ⟨[]⟩)), (11, (Value.string (str x.op.frm))), (14, (Value.string (str x.op.to))), (16, (Value.pointer (some ⟨b1, 7, none⟩)))] 9 ?_
  refine Ops.go (v := (Value.string (str x.op.key))) (by kernel_rfl) (Runs.load (t := 9) (a := ⟨b1, 7, none⟩) (by kernel_rfl) (H4.loads (by kernel_rfl))) (d := (some 17)) (by kernel_rfl) rfl ?_
  refine Ops.new (o := rowL [(Value.string (str x.op.frm)), (Value.string (str x.op.to)), (Value.string (str x.op.key))] 9) (V := fun b => (Value.slice (some ⟨b, 0, none⟩) 3 3)) (by kernel_rfl) (d := (some 18)) (by kernel_rfl) (fun b => rfl) (fun b18 w19 hb20 H21 K22 hs23 => ?_)
  have lb18 : b7 < b18 := by have := H14.lt; omega
  have nb18 : w.heap.size ≤ b18 := by have := K0.size; omega
  replace K0 := K0.t0 K22
  replace H4 := H4.keep K22 (fun h => h)
  replace H14 := H14.keep K22 (fun h => h)
  clear K22 hs23
  refine Ops.call (by kernel_rfl) (d := (some 19)) (by kernel_rfl) (short3 _ b18 x.op.frm x.op.to x.op.key H21) ?_
  rintro _ w27 ⟨t24, rfl, ht25, K26⟩
  refine ⟨_, _, rfl, rfl, ?_⟩
  replace K0 := K0.t0 K26
  replace H4 := H4.keep K26 (fun h => h)
  replace H14 := H14.keep K26 (fun h => h)
  replace H21 := H21.keep K26 (fun h => h)
  clear K26
  refine og 1 [(1, (ptr b1)), (2, (Value.bool t24)), (3, (ptr b7)), (5, (i64 x.kind))] 13 ?_
  refine od ?_
  refine q_ret (by kernel_rfl) ?_
  refine ⟨(Value.bool t24), retv_tmp rfl rfl, ?_⟩
  exact ⟨_, rfl, ht25.trans ⟨fun h => ⟨fun _ => h, fun q => absurd q (by omega), fun q => absurd (show x.kind = 2 by omega) q⟩, fun h => h.1 (by omega)⟩, K0⟩
 ·rw [h16]
  have p28 : ¬ (x.kind = 2) := of_beq_f h16
  refine qs ?_
  refine qg ?_
  refine og 2 [(1, (ptr b1)), (2, (Value.bool false)), (3, (ptr b7)), (20, (Value.bool (x.kind == 3)))] 2 ?_
  refine od ?_
  refine q_cond (o := .tmp 20) (b := (x.kind == 3)) (by kernel_rfl) rfl (fun h29 => ?_) (fun h29 => ?_)
  ·rw [h29]
   have p30 : x.kind = 3 := of_beq_t h29
   refine qs ?_
   refine qg ?_
   refine og 2 [(1, (ptr b1)), (2, (Value.bool false)), (3, (ptr b7)), (23, (Value.pointer (some ⟨b1, 12, none⟩)))] 2 ?_
   refine Ops.go (v := (Value.slice V x.rep.rows.length c)) (by kernel_rfl) (Runs.load (t := 25) (a := ⟨b1, 12, none⟩) (by kernel_rfl) (H4.loads (by kernel_rfl))) (d := (some 24)) (by kernel_rfl) rfl ?_
   refine og 3 [(1, (ptr b1)), (2, (Value.bool false)), (3, (ptr b7)), (27, (Value.bool (decide (((x.rep.rows.length : Nat) : Int) ≤ 600))))] 6 ?_
   refine Ops.split (decide (((x.rep.rows.length : Nat) : Int) ≤ 600)) (fun h31 => ?_) (fun h31 => ?_)
   ·rw [h31]
    have p32 : ((x.rep.rows.length : Nat) : Int) ≤ 600 := of_decide_eq_true h31
    refine og 2 [(1, (ptr b1)), (2, (Value.bool false)), (3, (ptr b7)), (27, (Value.bool true)), (29, (Value.pointer (some ⟨b1, 12, none⟩)))] 8 ?_
    refine Ops.go (v := (Value.slice V x.rep.rows.length c)) (by kernel_rfl) (Runs.load (t := 25) (a := ⟨b1, 12, none⟩) (by kernel_rfl) (H4.loads (by kernel_rfl))) (d := (some 30)) (by kernel_rfl) rfl ?_
    refine og 1 [(1, (ptr b1)), (2, (Value.bool false)), (27, (Value.bool true)), (30, (Value.slice V x.rep.rows.length c)), (31, (Value.func (Fn.func 64) ⟨[]⟩ ⟨[(ptr b7)]⟩))] 10 ?_
    refine Ops.call (by kernel_rfl) (d := (some 32)) (by kernel_rfl) (containsR_calls _ b7 V c x.rep.rows H14 (Rd.keep0 (by omega) hV K0)) ?_
    rintro _ w36 ⟨t33, rfl, ht34, K35⟩
    refine ⟨_, _, rfl, rfl, ?_⟩
    replace K0 := K0.t0 K35
    replace H4 := H4.keep K35 (fun h => h)
    replace H14 := H14.keep K35 (fun h => h)
    clear K35
    refine og 3 [(1, (ptr b1)), (2, (Value.bool (!t33)))] 14 ?_
    refine od ?_
    refine q_ret (by kernel_rfl) ?_
    refine ⟨(Value.bool (!t33)), retv_tmp rfl rfl, ?_⟩
    exact ⟨_, rfl, ⟨fun h => ⟨fun q => absurd q (by omega), fun _ => ⟨by omega, fun r hr => Nat.le_of_not_lt fun q => by have := ht34.2 ⟨r, hr, q⟩; rw [this] at h; cases h⟩, fun _ q => absurd (show x.kind = 3 by omega) q⟩, fun h => by cases hq : t33; (rfl); (obtain ⟨y, hy, hl⟩ := ht34.1 hq; have := (h.2.1 (by omega)).2 y hy; exfalso; omega)⟩, K0⟩
   ·rw [h31]
    have p37 : ¬ (((x.rep.rows.length : Nat) : Int) ≤ 600) := of_decide_eq_false h31
    refine og 8 [(1, (ptr b1)), (2, (Value.bool false))] 14 ?_
    refine od ?_
    refine q_ret (by kernel_rfl) ?_
    refine ⟨(Value.bool false), retv_tmp rfl rfl, ?_⟩
    exact ⟨false, rfl, ⟨fun h => (by cases h), fun h => by unfold LetP.Fits at h; exfalso; have := h.2.1 (by omega); omega⟩, K0⟩
  ·rw [h29]
   have p38 : ¬ (x.kind = 3) := of_beq_f h29
   refine q_skip (by kernel_rfl) ?_
   refine qs ?_
   refine qg ?_
   refine og 1 [(2, (Value.bool false)), (35, (Value.pointer (some ⟨b1, 13, none⟩)))] 1 ?_
   refine Ops.go (v := (Value.slice D x.body.length dc)) (by kernel_rfl) (Runs.load (t := 28) (a := ⟨b1, 13, none⟩) (by kernel_rfl) (H4.loads (by kernel_rfl))) (d := (some 36)) (by kernel_rfl) rfl ?_
   refine og 3 [(2, (Value.bool (decide (((x.body.length : Nat) : Int) ≤ 65536))))] 5 ?_
   refine od ?_
   refine q_ret (by kernel_rfl) ?_
   refine ⟨(Value.bool (decide (((x.body.length : Nat) : Int) ≤ 65536))), retv_tmp rfl rfl, ?_⟩
   exact ⟨_, rfl, ⟨fun h => ⟨fun q => absurd q (by omega), fun q => absurd q (by omega), fun _ _ => by have := of_decide_eq_true h; omega⟩, fun h => decide_eq_true (by have := h.2.2 (by omega) (by omega); omega)⟩, K0⟩
end Go.Proofs.Ytlnidnadpdpciaa
