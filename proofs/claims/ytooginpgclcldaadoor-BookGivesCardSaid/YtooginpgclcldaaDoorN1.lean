/- chapter 11: BookGives returns true -/
import Derived.Test.YtooginpgclcldaaDoorProg
import Derived.Test.YtooginpgclcldaaDoorKJ
import Derived.Test.YtooginpgclcldaaDoorOD
import Derived.Test.YtooginpgclcldaaDoorLX
set_option linter.unusedVariables false
namespace Go.Proofs.YtooginpgclcldaaDoor
open Go.Q Go.RowKit

set_option maxHeartbeats 4000000 in
theorem Gives_calls (w : World) (a b n : Int) (ha : -9223372036854775808 ≤ a ∧ a ≤ 9223372036854775807) (hb : -9223372036854775808 ≤ b ∧ b ≤ 9223372036854775807) (hn : -9223372036854775808 ≤ n ∧ n ≤ 9223372036854775807) : Calls Tryd.prog 3 ⟨[(i64 a), (i64 b), (i64 n)]⟩ w (fun e w' => e = .returned (.bool true) ∧ Keeps none_ w w') := by
 have K0 : Keeps none_ w w := Keeps.refl w
 refine q_calls Tryd.func3 (by kernel_rfl) (by kernel_rfl) ?_
 refine qs ?_
 refine qg ?_
 refine og 1 [(0, (i64 a)), (1, (i64 b)), (2, (i64 n)), (6, (Value.bool false))] 1 ?_
 refine od ?_
 refine qs ?_
 refine qg ?_
 refine Ops.call (by kernel_rfl) (d := (some 14)) (by kernel_rfl) (New_calls _) ?_
 rintro _ w3 ⟨b1, mb2, rfl, K4, H5, Hm6, hb7, hb8, hb9⟩
 have nb1 : w.heap.size ≤ b1 := by have := K0.size; omega
 have nmb2 : w.heap.size ≤ mb2 := by have := K0.size; omega
 refine ⟨_, _, rfl, rfl, ?_⟩
 replace K0 := K0.t0 K4
 clear K4
 refine og 1 [(0, (i64 a)), (1, (i64 b)), (2, (i64 n)), (6, (Value.bool false)), (7, (ptr b1))] 2 ?_
 refine od ?_
 refine qs ?_
 refine qs ?_
 refine qg ?_
 refine og 2 [(0, (i64 a)), (1, (i64 b)), (2, (i64 n)), (6, (Value.bool false)), (7, (ptr b1)), (16, (Value.bool false))] 2 ?_
 refine od ?_
 refine q_else (o := .tmp 16) (by kernel_rfl) rfl ?_
 refine q_skip (by kernel_rfl) ?_
 refine qs ?_
 refine qs ?_
 refine qg ?_
 refine og 3 [(0, (i64 a)), (1, (i64 b)), (2, (i64 n)), (6, (Value.bool false)), (7, (ptr b1)), (17, (ptr b1)), (19, (agg [(Value.string (str [97])), (i64 a)]))] 3 ?_
 refine Ops.call (by kernel_rfl) (d := (some 20)) (by kernel_rfl) (Put_calls _ b1 mb2 [] ([] : List AccM) [97] a H5 Hm6 (by omega) Book.nil (by omega)) ?_
 rintro _ w11 ⟨m10, rfl, K12, H13, hB14⟩
 have hl15 := hB14.len
 refine ⟨_, _, rfl, rfl, ?_⟩
 replace K0 := K0.trans K12 (U := none_) (fun i h1 h2 => h2) (fun i h1 h2 => by have h2 : i = mb2 := h2; exfalso; omega)
 replace H5 := H5.keep K12 (by intro h; change b1 = mb2 at h; omega)
 clear K12
 refine og 2 [(0, (i64 a)), (1, (i64 b)), (2, (i64 n)), (6, (Value.bool false)), (7, (ptr b1)), (22, (Value.bool ((putE ([] : List AccM) [97] a) != 0)))] 6 ?_
 refine Ops.split ((putE ([] : List AccM) [97] a) != 0) (fun h16 => ?_) (fun h16 => ?_)
 ·rw [h16]
  have p17 : ¬ (putE ([] : List AccM) [97] a = 0) := of_bne_t h16
  have hlow := two_bad1 p17
  refine og 6 [(0, (i64 a)), (1, (i64 b)), (2, (i64 n)), (6, (Value.bool false)), (7, (ptr b1)), (28, (Value.bool true))] 12 ?_
  refine od ?_
  refine q_then (o := .tmp 28) (by kernel_rfl) rfl ?_
  refine qs ?_
  refine qg ?_
  refine og 3 [(0, (i64 a)), (1, (i64 b)), (2, (i64 n)), (6, (Value.bool false)), (7, (ptr b1)), (31, (Value.bool (decide (a < 0))))] 3 ?_
  refine Ops.split (decide (a < 0)) (fun h18 => ?_) (fun h18 => ?_)
  ·rw [h18]
   have p19 : a < 0 := of_decide_eq_true h18
   refine og 4 [(0, (i64 a)), (1, (i64 b)), (2, (i64 n)), (6, (Value.bool false)), (7, (ptr b1)), (35, (Value.bool true))] 7 ?_
   refine Ops.call (by kernel_rfl) (d := (some 36)) (by kernel_rfl) (known_calls _) ?_
   rintro _ w21 ⟨rfl, K20⟩
   refine ⟨_, _, rfl, rfl, ?_⟩
   replace K0 := K0.t0 K20
   replace H5 := H5.keep K20 (fun h => h)
   replace H13 := H13.keep K20 (fun h => h)
   clear K20
   refine og 2 [(0, (i64 a)), (1, (i64 b)), (2, (i64 n)), (6, (Value.bool true)), (7, (ptr b1))] 10 ?_
   refine od ?_
   refine q_ret (by kernel_rfl) ?_
   refine ⟨(Value.bool true), retv_tmp rfl rfl, ?_⟩
   exact ⟨rfl, K0⟩
  ·rw [h18]
   have p22 : ¬ (a < 0) := of_decide_eq_false h18
   refine og 4 [(0, (i64 a)), (1, (i64 b)), (2, (i64 n)), (6, (Value.bool false)), (7, (ptr b1)), (35, (Value.bool (decide (b < 0))))] 7 ?_
   refine Ops.split (decide (b < 0)) (fun h23 => ?_) (fun h23 => ?_)
   ·rw [h23]
    have p24 : b < 0 := of_decide_eq_true h23
    refine Ops.call (by kernel_rfl) (d := (some 36)) (by kernel_rfl) (known_calls _) ?_
    rintro _ w26 ⟨rfl, K25⟩
    refine ⟨_, _, rfl, rfl, ?_⟩
    replace K0 := K0.t0 K25
    replace H5 := H5.keep K25 (fun h => h)
    replace H13 := H13.keep K25 (fun h => h)
    clear K25
    refine og 2 [(0, (i64 a)), (1, (i64 b)), (2, (i64 n)), (6, (Value.bool true)), (7, (ptr b1))] 10 ?_
    refine od ?_
    refine q_ret (by kernel_rfl) ?_
    refine ⟨(Value.bool true), retv_tmp rfl rfl, ?_⟩
    exact ⟨rfl, K0⟩
   ·rw [h23]
    have p27 : ¬ (b < 0) := of_decide_eq_false h23
    refine og 3 [(0, (i64 a)), (1, (i64 b)), (2, (i64 n)), (6, (Value.bool false)), (7, (ptr b1))] 10 ?_
    refine od ?_
    refine q_ret (by kernel_rfl) ?_
    refine ⟨(Value.bool false), retv_tmp rfl rfl, ?_⟩
    exfalso; omega
 ·rw [h16]
  have p28 : putE ([] : List AccM) [97] a = 0 := of_bne_f h16
  refine og 3 [(0, (i64 a)), (1, (i64 b)), (2, (i64 n)), (6, (Value.bool false)), (7, (ptr b1)), (22, (Value.bool false)), (23, (ptr b1)), (25, (agg [(Value.string (str [98])), (i64 b)]))] 9 ?_
  refine Ops.call (by kernel_rfl) (d := (some 26)) (by kernel_rfl) (Put_calls _ b1 mb2 m10 (putS ([] : List AccM) [97] a) [98] b H5 H13 (by omega) hB14 (by omega)) ?_
  rintro _ w30 ⟨m29, rfl, K31, H32, hB33⟩
  have hl34 := hB33.len
  refine ⟨_, _, rfl, rfl, ?_⟩
  replace K0 := K0.trans K31 (U := none_) (fun i h1 h2 => h2) (fun i h1 h2 => by have h2 : i = mb2 := h2; exfalso; omega)
  replace H5 := H5.keep K31 (by intro h; change b1 = mb2 at h; omega)
  clear K31
  refine og 2 [(0, (i64 a)), (1, (i64 b)), (2, (i64 n)), (6, (Value.bool false)), (7, (ptr b1)), (28, (Value.bool ((putE (putS ([] : List AccM) [97] a) [98] b) != 0)))] 12 ?_
  refine od ?_
  refine q_cond (o := .tmp 28) (b := ((putE (putS ([] : List AccM) [97] a) [98] b) != 0)) (by kernel_rfl) rfl (fun h35 => ?_) (fun h35 => ?_)
  ·rw [h35]
   have p36 : ¬ (putE (putS ([] : List AccM) [97] a) [98] b = 0) := of_bne_t h35
   have hlow := two_bad2 p28 p36
   refine qs ?_
   refine qg ?_
   refine og 3 [(0, (i64 a)), (1, (i64 b)), (2, (i64 n)), (6, (Value.bool false)), (7, (ptr b1)), (31, (Value.bool (decide (a < 0))))] 3 ?_
   refine Ops.split (decide (a < 0)) (fun h37 => ?_) (fun h37 => ?_)
   ·rw [h37]
    have p38 : a < 0 := of_decide_eq_true h37
    refine og 4 [(0, (i64 a)), (1, (i64 b)), (2, (i64 n)), (6, (Value.bool false)), (7, (ptr b1)), (35, (Value.bool true))] 7 ?_
    refine Ops.call (by kernel_rfl) (d := (some 36)) (by kernel_rfl) (known_calls _) ?_
    rintro _ w40 ⟨rfl, K39⟩
    refine ⟨_, _, rfl, rfl, ?_⟩
    replace K0 := K0.t0 K39
    replace H5 := H5.keep K39 (fun h => h)
    replace H32 := H32.keep K39 (fun h => h)
    clear K39
    refine og 2 [(0, (i64 a)), (1, (i64 b)), (2, (i64 n)), (6, (Value.bool true)), (7, (ptr b1))] 10 ?_
    refine od ?_
    refine q_ret (by kernel_rfl) ?_
    refine ⟨(Value.bool true), retv_tmp rfl rfl, ?_⟩
    exact ⟨rfl, K0⟩
   ·rw [h37]
    have p41 : ¬ (a < 0) := of_decide_eq_false h37
    refine og 4 [(0, (i64 a)), (1, (i64 b)), (2, (i64 n)), (6, (Value.bool false)), (7, (ptr b1)), (35, (Value.bool (decide (b < 0))))] 7 ?_
    refine Ops.split (decide (b < 0)) (fun h42 => ?_) (fun h42 => ?_)
    ·rw [h42]
     have p43 : b < 0 := of_decide_eq_true h42
     refine Ops.call (by kernel_rfl) (d := (some 36)) (by kernel_rfl) (known_calls _) ?_
     rintro _ w45 ⟨rfl, K44⟩
     refine ⟨_, _, rfl, rfl, ?_⟩
     replace K0 := K0.t0 K44
     replace H5 := H5.keep K44 (fun h => h)
     replace H32 := H32.keep K44 (fun h => h)
     clear K44
     refine og 2 [(0, (i64 a)), (1, (i64 b)), (2, (i64 n)), (6, (Value.bool true)), (7, (ptr b1))] 10 ?_
     refine od ?_
     refine q_ret (by kernel_rfl) ?_
     refine ⟨(Value.bool true), retv_tmp rfl rfl, ?_⟩
     exact ⟨rfl, K0⟩
    ·rw [h42]
     have p46 : ¬ (b < 0) := of_decide_eq_false h42
     refine og 3 [(0, (i64 a)), (1, (i64 b)), (2, (i64 n)), (6, (Value.bool false)), (7, (ptr b1))] 10 ?_
     refine od ?_
     refine q_ret (by kernel_rfl) ?_
     refine ⟨(Value.bool false), retv_tmp rfl rfl, ?_⟩
     exfalso; omega
  ·rw [h35]
   have p47 : putE (putS ([] : List AccM) [97] a) [98] b = 0 := of_bne_f h35
   have htwo := two_put p28 p47
   have ht0 := htwo.2
   have hB48 : Book m29 (twoS a b) := by rw [← htwo.1]; exact hB33
   clear hB33
   refine q_skip (by kernel_rfl) ?_
   refine qs ?_
   refine qg ?_
   refine og 2 [(0, (i64 a)), (1, (i64 b)), (2, (i64 n)), (6, (Value.bool false)), (7, (ptr b1)), (38, (ptr b1)), (39, (i64 n))] 2 ?_
   refine Ops.call (by kernel_rfl) (d := (some 40)) (by kernel_rfl) (Take_calls _ b1 mb2 m29 (twoS a b) [97] n H5 H32 (by omega) hB48 (by omega)) ?_
   rintro _ w50 ⟨m49, rfl, K51, H52, hB53⟩
   have hl54 := hB53.len
   refine ⟨_, _, rfl, rfl, ?_⟩
   replace K0 := K0.trans K51 (U := none_) (fun i h1 h2 => h2) (fun i h1 h2 => by have h2 : i = mb2 := h2; exfalso; omega)
   replace H5 := H5.keep K51 (by intro h; change b1 = mb2 at h; omega)
   clear K51
   refine og 1 [(0, (i64 a)), (1, (i64 b)), (2, (i64 n)), (6, (Value.bool false)), (7, (ptr b1)), (8, (i64 (chgE (takeF n) (twoS a b) [97])))] 4 ?_
   refine od ?_
   refine qs ?_
   refine qs ?_
   refine qg ?_
   refine og 2 [(0, (i64 a)), (1, (i64 b)), (2, (i64 n)), (6, (Value.bool false)), (7, (ptr b1)), (8, (i64 (chgE (takeF n) (twoS a b) [97]))), (42, (Value.bool ((chgE (takeF n) (twoS a b) [97]) == 0)))] 2 ?_
   refine od ?_
   refine q_cond (o := .tmp 42) (b := ((chgE (takeF n) (twoS a b) [97]) == 0)) (by kernel_rfl) rfl (fun h55 => ?_) (fun h55 => ?_)
   ·rw [h55]
    have p56 : chgE (takeF n) (twoS a b) [97] = 0 := of_beq_t h55
    have htk := two_take.1 p56
    have htk1 := htk.1
    have hB57 : Book m49 (twoS (a - n) b) := by rw [← htk.2]; exact hB53
    clear hB53
    refine qs ?_
    refine qg ?_
    refine og 2 [(0, (i64 a)), (1, (i64 b)), (2, (i64 n)), (6, (Value.bool false)), (7, (ptr b1)), (8, (i64 (chgE (takeF n) (twoS a b) [97]))), (43, (ptr b1)), (44, (i64 n))] 2 ?_
    refine Ops.call (by kernel_rfl) (d := (some 45)) (by kernel_rfl) (Add_calls _ b1 mb2 m49 (twoS (a - n) b) [98] n H5 H52 (by omega) hB57 (by omega)) ?_
    rintro _ w59 ⟨m58, rfl, K60, H61, hB62⟩
    have hl63 := hB62.len
    refine ⟨_, _, rfl, rfl, ?_⟩
    replace K0 := K0.trans K60 (U := none_) (fun i h1 h2 => h2) (fun i h1 h2 => by have h2 : i = mb2 := h2; exfalso; omega)
    replace H5 := H5.keep K60 (by intro h; change b1 = mb2 at h; omega)
    clear K60
    refine og 1 [(0, (i64 a)), (1, (i64 b)), (2, (i64 n)), (6, (Value.bool false)), (7, (ptr b1)), (8, (i64 (chgE (takeF n) (twoS a b) [97]))), (9, (i64 (chgE (addF n) (twoS (a - n) b) [98])))] 4 ?_
    refine od ?_
    refine qs ?_
    refine qg ?_
    refine og 2 [(0, (i64 a)), (1, (i64 b)), (2, (i64 n)), (6, (Value.bool false)), (7, (ptr b1)), (8, (i64 (chgE (takeF n) (twoS a b) [97]))), (9, (i64 (chgE (addF n) (twoS (a - n) b) [98]))), (47, (Value.bool ((chgE (addF n) (twoS (a - n) b) [98]) != 0)))] 2 ?_
    refine od ?_
    refine q_cond (o := .tmp 47) (b := ((chgE (addF n) (twoS (a - n) b) [98]) != 0)) (by kernel_rfl) rfl (fun h64 => ?_) (fun h64 => ?_)
    ·rw [h64]
     have p65 : ¬ (chgE (addF n) (twoS (a - n) b) [98] = 0) := of_bne_t h64
     have hadd := (two_add (by omega)).2 p65
     have hadd1 := hadd.1
     have hB66 : Book m58 (twoS (a - n) b) := by rw [← hadd.2]; exact hB62
     clear hB62
     have hback := two_back (a := a - n) (b := b) (n := n) (by omega) (by omega)
     refine qs ?_
     refine qg ?_
     refine og 3 [(0, (i64 a)), (1, (i64 b)), (2, (i64 n)), (6, (Value.bool false)), (7, (ptr b1)), (8, (i64 (chgE (takeF n) (twoS a b) [97]))), (50, (Value.bool ((chgE (addF n) (twoS (a - n) b) [98]) != 43)))] 3 ?_
     have h67 : ((chgE (addF n) (twoS (a - n) b) [98]) != 43) = false := bne_f hadd.1.1
     rw [h67]
     refine og 3 [(0, (i64 a)), (1, (i64 b)), (2, (i64 n)), (6, (Value.bool false)), (7, (ptr b1)), (8, (i64 (chgE (takeF n) (twoS a b) [97]))), (50, (Value.bool false)), (51, (i64 b)), (53, (i64 (IntKind.i64.wrap (9223372036854775807 - n))))] 6 ?_
     have e68 : IntKind.i64.wrap (9223372036854775807 - n) = 9223372036854775807 - n := wrap_i64 (by omega) (by omega)
     rw [e68]
     refine og 3 [(0, (i64 a)), (1, (i64 b)), (2, (i64 n)), (6, (Value.bool false)), (7, (ptr b1)), (8, (i64 (chgE (takeF n) (twoS a b) [97]))), (56, (Value.bool (decide (b ≤ 9223372036854775807 - n))))] 9 ?_
     refine Ops.split (decide (b ≤ 9223372036854775807 - n)) (fun h69 => ?_) (fun h69 => ?_)
     ·rw [h69]
      have p70 : b ≤ 9223372036854775807 - n := of_decide_eq_true h69
      refine og 5 [(0, (i64 a)), (1, (i64 b)), (2, (i64 n)), (6, (Value.bool false)), (7, (ptr b1)), (8, (i64 (chgE (takeF n) (twoS a b) [97]))), (61, (Value.bool true))] 14 ?_
      refine od ?_
      refine q_then (o := .tmp 61) (by kernel_rfl) rfl ?_
      refine qs ?_
      refine qg ?_
      refine og 1 [(0, (i64 a)), (1, (i64 b)), (2, (i64 n)), (6, (Value.bool false)), (7, (ptr b1)), (8, (i64 (chgE (takeF n) (twoS a b) [97])))] 1 ?_
      refine od ?_
      refine q_ret (by kernel_rfl) ?_
      refine ⟨(Value.bool false), retv_tmp rfl rfl, ?_⟩
      exfalso; omega
     ·rw [h69]
      have p71 : ¬ (b ≤ 9223372036854775807 - n) := of_decide_eq_false h69
      refine og 2 [(0, (i64 a)), (1, (i64 b)), (2, (i64 n)), (6, (Value.bool false)), (7, (ptr b1)), (8, (i64 (chgE (takeF n) (twoS a b) [97]))), (56, (Value.bool false)), (57, (ptr b1)), (58, (i64 n))] 11 ?_
      refine Ops.call (by kernel_rfl) (d := (some 59)) (by kernel_rfl) (Add_calls _ b1 mb2 m58 (twoS (a - n) b) [97] n H5 H61 (by omega) hB66 (by omega)) ?_
      rintro _ w73 ⟨m72, rfl, K74, H75, hB76⟩
      have hl77 := hB76.len
      refine ⟨_, _, rfl, rfl, ?_⟩
      replace K0 := K0.trans K74 (U := none_) (fun i h1 h2 => h2) (fun i h1 h2 => by have h2 : i = mb2 := h2; exfalso; omega)
      replace H5 := H5.keep K74 (by intro h; change b1 = mb2 at h; omega)
      clear K74
      have hB78 : Book m72 (twoS ((a - n) + n) b) := by rw [← hback.2]; exact hB76
      clear hB76
      refine og 2 [(0, (i64 a)), (1, (i64 b)), (2, (i64 n)), (6, (Value.bool false)), (7, (ptr b1)), (8, (i64 (chgE (takeF n) (twoS a b) [97]))), (61, (Value.bool ((chgE (addF n) (twoS (a - n) b) [97]) != 0)))] 14 ?_
      refine od ?_
      have h79 : ((chgE (addF n) (twoS (a - n) b) [97]) != 0) = false := bne_f hback.1
      rw [h79]
      refine q_else (o := .tmp 61) (by kernel_rfl) rfl ?_
      refine q_skip (by kernel_rfl) ?_
      refine qs ?_
      refine qg ?_
      refine og 1 [(0, (i64 a)), (1, (i64 b)), (6, (Value.bool false)), (7, (ptr b1)), (79, (ptr b1))] 1 ?_
      refine Ops.call (by kernel_rfl) (d := (some 80)) (by kernel_rfl) (Get_calls _ b1 mb2 m72 (twoS ((a - n) + n) b) [97] H5 H75 (by omega) hB78) ?_
      rintro _ w81 ⟨rfl, K80⟩
      rw [show amtE (twoS ((a - n) + n) b) [97] = ((a - n) + n, 0) from rfl]
      refine ⟨_, _, rfl, rfl, ?_⟩
      replace K0 := K0.t0 K80
      replace H5 := H5.keep K80 (fun h => h)
      replace H75 := H75.keep K80 (fun h => h)
      clear K80
      refine og 5 [(0, (i64 a)), (1, (i64 b)), (6, (Value.bool false)), (7, (ptr b1)), (10, (i64 ((a - n) + n)))] 7 ?_
      refine od ?_
      refine qs ?_
      refine qg ?_
      refine og 1 [(0, (i64 a)), (1, (i64 b)), (6, (Value.bool false)), (10, (i64 ((a - n) + n))), (84, (ptr b1))] 1 ?_
      refine Ops.call (by kernel_rfl) (d := (some 85)) (by kernel_rfl) (Get_calls _ b1 mb2 m72 (twoS ((a - n) + n) b) [98] H5 H75 (by omega) hB78) ?_
      rintro _ w83 ⟨rfl, K82⟩
      rw [show amtE (twoS ((a - n) + n) b) [98] = (b, 0) from rfl]
      refine ⟨_, _, rfl, rfl, ?_⟩
      replace K0 := K0.t0 K82
      replace H5 := H5.keep K82 (fun h => h)
      replace H75 := H75.keep K82 (fun h => h)
      clear K82
      refine og 5 [(0, (i64 a)), (1, (i64 b)), (6, (Value.bool false)), (10, (i64 ((a - n) + n))), (12, (i64 b))] 7 ?_
      refine od ?_
      refine qs ?_
      refine qg ?_
      refine og 3 [(0, (i64 a)), (1, (i64 b)), (6, (Value.bool false)), (10, (i64 ((a - n) + n))), (12, (i64 b)), (90, (Value.bool (decide ((a - n) + n ≥ 0))))] 3 ?_
      refine Ops.split (decide ((a - n) + n ≥ 0)) (fun h84 => ?_) (fun h84 => ?_)
      ·rw [h84]
       have p85 : (a - n) + n ≥ 0 := of_decide_eq_true h84
       refine og 4 [(0, (i64 a)), (1, (i64 b)), (6, (Value.bool false)), (10, (i64 ((a - n) + n))), (12, (i64 b)), (94, (Value.bool (decide (b ≥ 0))))] 7 ?_
       refine Ops.split (decide (b ≥ 0)) (fun h86 => ?_) (fun h86 => ?_)
       ·rw [h86]
        have p87 : b ≥ 0 := of_decide_eq_true h86
        refine og 2 [(0, (i64 a)), (1, (i64 b)), (6, (Value.bool false)), (12, (i64 b)), (94, (Value.bool true)), (96, (Value.int IntKind.u64 (IntKind.u64.wrap ((a - n) + n))))] 9 ?_
        have e88 : IntKind.u64.wrap ((a - n) + n) = (a - n) + n := wrap_u64 (by omega) (by omega)
        rw [e88]
        refine og 2 [(0, (i64 a)), (1, (i64 b)), (6, (Value.bool false)), (94, (Value.bool true)), (96, (Value.int IntKind.u64 ((a - n) + n))), (98, (Value.int IntKind.u64 (IntKind.u64.wrap (b))))] 11 ?_
        have e89 : IntKind.u64.wrap (b) = b := wrap_u64 (by omega) (by omega)
        rw [e89]
        refine og 1 [(0, (i64 a)), (1, (i64 b)), (6, (Value.bool false)), (94, (Value.bool true)), (99, (Value.int IntKind.u64 (IntKind.u64.wrap (((a - n) + n) + b))))] 12 ?_
        have e90 : IntKind.u64.wrap (((a - n) + n) + b) = ((a - n) + n) + b := wrap_u64 (by omega) (by omega)
        rw [e90]
        refine og 2 [(1, (i64 b)), (6, (Value.bool false)), (94, (Value.bool true)), (99, (Value.int IntKind.u64 (((a - n) + n) + b))), (101, (Value.int IntKind.u64 (IntKind.u64.wrap (a))))] 14 ?_
        have e91 : IntKind.u64.wrap (a) = a := wrap_u64 (by omega) (by omega)
        rw [e91]
        refine og 2 [(6, (Value.bool false)), (94, (Value.bool true)), (99, (Value.int IntKind.u64 (((a - n) + n) + b))), (101, (Value.int IntKind.u64 a)), (103, (Value.int IntKind.u64 (IntKind.u64.wrap (b))))] 16 ?_
        have e92 : IntKind.u64.wrap (b) = b := wrap_u64 (by omega) (by omega)
        rw [e92]
        refine og 1 [(6, (Value.bool false)), (94, (Value.bool true)), (99, (Value.int IntKind.u64 (((a - n) + n) + b))), (104, (Value.int IntKind.u64 (IntKind.u64.wrap (a + b))))] 17 ?_
        have e93 : IntKind.u64.wrap (a + b) = a + b := wrap_u64 (by omega) (by omega)
        rw [e93]
        refine og 3 [(6, (Value.bool false)), (107, (Value.bool ((((a - n) + n) + b) == (a + b))))] 20 ?_
        refine Ops.split ((((a - n) + n) + b) == (a + b)) (fun h94 => ?_) (fun h94 => ?_)
        ·rw [h94]
         have p95 : ((a - n) + n) + b = a + b := of_beq_t h94
         refine Ops.call (by kernel_rfl) (d := (some 108)) (by kernel_rfl) (known_calls _) ?_
         rintro _ w97 ⟨rfl, K96⟩
         refine ⟨_, _, rfl, rfl, ?_⟩
         replace K0 := K0.t0 K96
         replace H5 := H5.keep K96 (fun h => h)
         replace H75 := H75.keep K96 (fun h => h)
         clear K96
         refine og 2 [(6, (Value.bool true))] 23 ?_
         refine od ?_
         refine q_ret (by kernel_rfl) ?_
         refine ⟨(Value.bool true), retv_tmp rfl rfl, ?_⟩
         exact ⟨rfl, K0⟩
        ·rw [h94]
         have p98 : ¬ (((a - n) + n) + b = a + b) := of_beq_f h94
         refine og 3 [(6, (Value.bool false))] 23 ?_
         refine od ?_
         refine q_ret (by kernel_rfl) ?_
         refine ⟨(Value.bool false), retv_tmp rfl rfl, ?_⟩
         exfalso; omega
       ·rw [h86]
        have p99 : ¬ (b ≥ 0) := of_decide_eq_false h86
        refine og 16 [(6, (Value.bool false))] 23 ?_
        refine od ?_
        refine q_ret (by kernel_rfl) ?_
        refine ⟨(Value.bool false), retv_tmp rfl rfl, ?_⟩
        exfalso; omega
      ·rw [h84]
       have p100 : ¬ ((a - n) + n ≥ 0) := of_decide_eq_false h84
       refine og 20 [(6, (Value.bool false))] 23 ?_
       refine od ?_
       refine q_ret (by kernel_rfl) ?_
       refine ⟨(Value.bool false), retv_tmp rfl rfl, ?_⟩
       exfalso; omega
    ·rw [h64]
     have p101 : chgE (addF n) (twoS (a - n) b) [98] = 0 := of_bne_f h64
     have hadd := (two_add (by omega)).1 p101
     have hadd1 := hadd.1
     have hB102 : Book m58 (twoS (a - n) (b + n)) := by rw [← hadd.2]; exact hB62
     clear hB62
     refine q_skip (by kernel_rfl) ?_
     refine qs ?_
     refine qg ?_
     refine og 1 [(0, (i64 a)), (1, (i64 b)), (6, (Value.bool false)), (7, (ptr b1)), (79, (ptr b1))] 1 ?_
     refine Ops.call (by kernel_rfl) (d := (some 80)) (by kernel_rfl) (Get_calls _ b1 mb2 m58 (twoS (a - n) (b + n)) [97] H5 H61 (by omega) hB102) ?_
     rintro _ w104 ⟨rfl, K103⟩
     rw [show amtE (twoS (a - n) (b + n)) [97] = (a - n, 0) from rfl]
     refine ⟨_, _, rfl, rfl, ?_⟩
     replace K0 := K0.t0 K103
     replace H5 := H5.keep K103 (fun h => h)
     replace H61 := H61.keep K103 (fun h => h)
     clear K103
     refine og 5 [(0, (i64 a)), (1, (i64 b)), (6, (Value.bool false)), (7, (ptr b1)), (10, (i64 (a - n)))] 7 ?_
     refine od ?_
     refine qs ?_
     refine qg ?_
     refine og 1 [(0, (i64 a)), (1, (i64 b)), (6, (Value.bool false)), (10, (i64 (a - n))), (84, (ptr b1))] 1 ?_
     refine Ops.call (by kernel_rfl) (d := (some 85)) (by kernel_rfl) (Get_calls _ b1 mb2 m58 (twoS (a - n) (b + n)) [98] H5 H61 (by omega) hB102) ?_
     rintro _ w106 ⟨rfl, K105⟩
     rw [show amtE (twoS (a - n) (b + n)) [98] = (b + n, 0) from rfl]
     refine ⟨_, _, rfl, rfl, ?_⟩
     replace K0 := K0.t0 K105
     replace H5 := H5.keep K105 (fun h => h)
     replace H61 := H61.keep K105 (fun h => h)
     clear K105
     refine og 5 [(0, (i64 a)), (1, (i64 b)), (6, (Value.bool false)), (10, (i64 (a - n))), (12, (i64 (b + n)))] 7 ?_
     refine od ?_
     refine qs ?_
     refine qg ?_
     refine og 3 [(0, (i64 a)), (1, (i64 b)), (6, (Value.bool false)), (10, (i64 (a - n))), (12, (i64 (b + n))), (90, (Value.bool (decide (a - n ≥ 0))))] 3 ?_
     refine Ops.split (decide (a - n ≥ 0)) (fun h107 => ?_) (fun h107 => ?_)
     ·rw [h107]
      have p108 : a - n ≥ 0 := of_decide_eq_true h107
      refine og 4 [(0, (i64 a)), (1, (i64 b)), (6, (Value.bool false)), (10, (i64 (a - n))), (12, (i64 (b + n))), (94, (Value.bool (decide (b + n ≥ 0))))] 7 ?_
      refine Ops.split (decide (b + n ≥ 0)) (fun h109 => ?_) (fun h109 => ?_)
      ·rw [h109]
       have p110 : b + n ≥ 0 := of_decide_eq_true h109
       refine og 2 [(0, (i64 a)), (1, (i64 b)), (6, (Value.bool false)), (12, (i64 (b + n))), (94, (Value.bool true)), (96, (Value.int IntKind.u64 (IntKind.u64.wrap (a - n))))] 9 ?_
       have e111 : IntKind.u64.wrap (a - n) = a - n := wrap_u64 (by omega) (by omega)
       rw [e111]
       refine og 2 [(0, (i64 a)), (1, (i64 b)), (6, (Value.bool false)), (94, (Value.bool true)), (96, (Value.int IntKind.u64 (a - n))), (98, (Value.int IntKind.u64 (IntKind.u64.wrap (b + n))))] 11 ?_
       have e112 : IntKind.u64.wrap (b + n) = b + n := wrap_u64 (by omega) (by omega)
       rw [e112]
       refine og 1 [(0, (i64 a)), (1, (i64 b)), (6, (Value.bool false)), (94, (Value.bool true)), (99, (Value.int IntKind.u64 (IntKind.u64.wrap ((a - n) + (b + n)))))] 12 ?_
       have e113 : IntKind.u64.wrap ((a - n) + (b + n)) = (a - n) + (b + n) := wrap_u64 (by omega) (by omega)
       rw [e113]
       refine og 2 [(1, (i64 b)), (6, (Value.bool false)), (94, (Value.bool true)), (99, (Value.int IntKind.u64 ((a - n) + (b + n)))), (101, (Value.int IntKind.u64 (IntKind.u64.wrap (a))))] 14 ?_
       have e114 : IntKind.u64.wrap (a) = a := wrap_u64 (by omega) (by omega)
       rw [e114]
       refine og 2 [(6, (Value.bool false)), (94, (Value.bool true)), (99, (Value.int IntKind.u64 ((a - n) + (b + n)))), (101, (Value.int IntKind.u64 a)), (103, (Value.int IntKind.u64 (IntKind.u64.wrap (b))))] 16 ?_
       have e115 : IntKind.u64.wrap (b) = b := wrap_u64 (by omega) (by omega)
       rw [e115]
       refine og 1 [(6, (Value.bool false)), (94, (Value.bool true)), (99, (Value.int IntKind.u64 ((a - n) + (b + n)))), (104, (Value.int IntKind.u64 (IntKind.u64.wrap (a + b))))] 17 ?_
       have e116 : IntKind.u64.wrap (a + b) = a + b := wrap_u64 (by omega) (by omega)
       rw [e116]
       refine og 3 [(6, (Value.bool false)), (107, (Value.bool (((a - n) + (b + n)) == (a + b))))] 20 ?_
       refine Ops.split (((a - n) + (b + n)) == (a + b)) (fun h117 => ?_) (fun h117 => ?_)
       ·rw [h117]
        have p118 : (a - n) + (b + n) = a + b := of_beq_t h117
        refine Ops.call (by kernel_rfl) (d := (some 108)) (by kernel_rfl) (known_calls _) ?_
        rintro _ w120 ⟨rfl, K119⟩
        refine ⟨_, _, rfl, rfl, ?_⟩
        replace K0 := K0.t0 K119
        replace H5 := H5.keep K119 (fun h => h)
        replace H61 := H61.keep K119 (fun h => h)
        clear K119
        refine og 2 [(6, (Value.bool true))] 23 ?_
        refine od ?_
        refine q_ret (by kernel_rfl) ?_
        refine ⟨(Value.bool true), retv_tmp rfl rfl, ?_⟩
        exact ⟨rfl, K0⟩
       ·rw [h117]
        have p121 : ¬ ((a - n) + (b + n) = a + b) := of_beq_f h117
        refine og 3 [(6, (Value.bool false))] 23 ?_
        refine od ?_
        refine q_ret (by kernel_rfl) ?_
        refine ⟨(Value.bool false), retv_tmp rfl rfl, ?_⟩
        exfalso; omega
      ·rw [h109]
       have p122 : ¬ (b + n ≥ 0) := of_decide_eq_false h109
       refine og 16 [(6, (Value.bool false))] 23 ?_
       refine od ?_
       refine q_ret (by kernel_rfl) ?_
       refine ⟨(Value.bool false), retv_tmp rfl rfl, ?_⟩
       exfalso; omega
     ·rw [h107]
      have p123 : ¬ (a - n ≥ 0) := of_decide_eq_false h107
      refine og 20 [(6, (Value.bool false))] 23 ?_
      refine od ?_
      refine q_ret (by kernel_rfl) ?_
      refine ⟨(Value.bool false), retv_tmp rfl rfl, ?_⟩
      exfalso; omega
   ·rw [h55]
    have p124 : ¬ (chgE (takeF n) (twoS a b) [97] = 0) := of_beq_f h55
    have htk := two_take.2 p124
    have htk1 := htk.1
    have hB125 : Book m49 (twoS a b) := by rw [← htk.2]; exact hB53
    clear hB53
    refine qs ?_
    refine qg ?_
    refine og 3 [(0, (i64 a)), (1, (i64 b)), (2, (i64 n)), (6, (Value.bool false)), (7, (ptr b1)), (8, (i64 (chgE (takeF n) (twoS a b) [97]))), (64, (Value.bool ((chgE (takeF n) (twoS a b) [97]) == 47)))] 3 ?_
    refine Ops.split ((chgE (takeF n) (twoS a b) [97]) == 47) (fun h126 => ?_) (fun h126 => ?_)
    ·rw [h126]
     have p127 : chgE (takeF n) (twoS a b) [97] = 47 := of_beq_t h126
     refine og 4 [(0, (i64 a)), (1, (i64 b)), (2, (i64 n)), (6, (Value.bool false)), (7, (ptr b1)), (8, (i64 (chgE (takeF n) (twoS a b) [97]))), (68, (Value.bool (decide (n < 1))))] 7 ?_
     refine Ops.split (decide (n < 1)) (fun h128 => ?_) (fun h128 => ?_)
     ·rw [h128]
      have p129 : n < 1 := of_decide_eq_true h128
      refine og 9 [(0, (i64 a)), (1, (i64 b)), (6, (Value.bool false)), (7, (ptr b1)), (77, (Value.bool false))] 16 ?_
      refine od ?_
      refine q_else (o := .tmp 77) (by kernel_rfl) rfl ?_
      refine q_skip (by kernel_rfl) ?_
      refine qs ?_
      refine qg ?_
      refine og 1 [(0, (i64 a)), (1, (i64 b)), (6, (Value.bool false)), (7, (ptr b1)), (79, (ptr b1))] 1 ?_
      refine Ops.call (by kernel_rfl) (d := (some 80)) (by kernel_rfl) (Get_calls _ b1 mb2 m49 (twoS a b) [97] H5 H52 (by omega) hB125) ?_
      rintro _ w131 ⟨rfl, K130⟩
      rw [show amtE (twoS a b) [97] = (a, 0) from rfl]
      refine ⟨_, _, rfl, rfl, ?_⟩
      replace K0 := K0.t0 K130
      replace H5 := H5.keep K130 (fun h => h)
      replace H52 := H52.keep K130 (fun h => h)
      clear K130
      refine og 5 [(0, (i64 a)), (1, (i64 b)), (6, (Value.bool false)), (7, (ptr b1)), (10, (i64 a))] 7 ?_
      refine od ?_
      refine qs ?_
      refine qg ?_
      refine og 1 [(0, (i64 a)), (1, (i64 b)), (6, (Value.bool false)), (10, (i64 a)), (84, (ptr b1))] 1 ?_
      refine Ops.call (by kernel_rfl) (d := (some 85)) (by kernel_rfl) (Get_calls _ b1 mb2 m49 (twoS a b) [98] H5 H52 (by omega) hB125) ?_
      rintro _ w133 ⟨rfl, K132⟩
      rw [show amtE (twoS a b) [98] = (b, 0) from rfl]
      refine ⟨_, _, rfl, rfl, ?_⟩
      replace K0 := K0.t0 K132
      replace H5 := H5.keep K132 (fun h => h)
      replace H52 := H52.keep K132 (fun h => h)
      clear K132
      refine og 5 [(0, (i64 a)), (1, (i64 b)), (6, (Value.bool false)), (10, (i64 a)), (12, (i64 b))] 7 ?_
      refine od ?_
      refine qs ?_
      refine qg ?_
      refine og 3 [(0, (i64 a)), (1, (i64 b)), (6, (Value.bool false)), (10, (i64 a)), (12, (i64 b)), (90, (Value.bool (decide (a ≥ 0))))] 3 ?_
      refine Ops.split (decide (a ≥ 0)) (fun h134 => ?_) (fun h134 => ?_)
      ·rw [h134]
       have p135 : a ≥ 0 := of_decide_eq_true h134
       refine og 4 [(0, (i64 a)), (1, (i64 b)), (6, (Value.bool false)), (10, (i64 a)), (12, (i64 b)), (94, (Value.bool (decide (b ≥ 0))))] 7 ?_
       refine Ops.split (decide (b ≥ 0)) (fun h136 => ?_) (fun h136 => ?_)
       ·rw [h136]
        have p137 : b ≥ 0 := of_decide_eq_true h136
        refine og 2 [(0, (i64 a)), (1, (i64 b)), (6, (Value.bool false)), (12, (i64 b)), (94, (Value.bool true)), (96, (Value.int IntKind.u64 (IntKind.u64.wrap (a))))] 9 ?_
        have e138 : IntKind.u64.wrap (a) = a := wrap_u64 (by omega) (by omega)
        rw [e138]
        refine og 2 [(0, (i64 a)), (1, (i64 b)), (6, (Value.bool false)), (94, (Value.bool true)), (96, (Value.int IntKind.u64 a)), (98, (Value.int IntKind.u64 (IntKind.u64.wrap (b))))] 11 ?_
        have e139 : IntKind.u64.wrap (b) = b := wrap_u64 (by omega) (by omega)
        rw [e139]
        refine og 1 [(0, (i64 a)), (1, (i64 b)), (6, (Value.bool false)), (94, (Value.bool true)), (99, (Value.int IntKind.u64 (IntKind.u64.wrap (a + b))))] 12 ?_
        have e140 : IntKind.u64.wrap (a + b) = a + b := wrap_u64 (by omega) (by omega)
        rw [e140]
        refine og 2 [(1, (i64 b)), (6, (Value.bool false)), (94, (Value.bool true)), (99, (Value.int IntKind.u64 (a + b))), (101, (Value.int IntKind.u64 (IntKind.u64.wrap (a))))] 14 ?_
        have e141 : IntKind.u64.wrap (a) = a := wrap_u64 (by omega) (by omega)
        rw [e141]
        refine og 2 [(6, (Value.bool false)), (94, (Value.bool true)), (99, (Value.int IntKind.u64 (a + b))), (101, (Value.int IntKind.u64 a)), (103, (Value.int IntKind.u64 (IntKind.u64.wrap (b))))] 16 ?_
        have e142 : IntKind.u64.wrap (b) = b := wrap_u64 (by omega) (by omega)
        rw [e142]
        refine og 1 [(6, (Value.bool false)), (94, (Value.bool true)), (99, (Value.int IntKind.u64 (a + b))), (104, (Value.int IntKind.u64 (IntKind.u64.wrap (a + b))))] 17 ?_
        have e143 : IntKind.u64.wrap (a + b) = a + b := wrap_u64 (by omega) (by omega)
        rw [e143]
        refine og 3 [(6, (Value.bool false)), (107, (Value.bool ((a + b) == (a + b))))] 20 ?_
        have h144 : ((a + b) == (a + b)) = true := by simp
        rw [h144]
        refine Ops.call (by kernel_rfl) (d := (some 108)) (by kernel_rfl) (known_calls _) ?_
        rintro _ w146 ⟨rfl, K145⟩
        refine ⟨_, _, rfl, rfl, ?_⟩
        replace K0 := K0.t0 K145
        replace H5 := H5.keep K145 (fun h => h)
        replace H52 := H52.keep K145 (fun h => h)
        clear K145
        refine og 2 [(6, (Value.bool true))] 23 ?_
        refine od ?_
        refine q_ret (by kernel_rfl) ?_
        refine ⟨(Value.bool true), retv_tmp rfl rfl, ?_⟩
        exact ⟨rfl, K0⟩
       ·rw [h136]
        have p147 : ¬ (b ≥ 0) := of_decide_eq_false h136
        refine og 16 [(6, (Value.bool false))] 23 ?_
        refine od ?_
        refine q_ret (by kernel_rfl) ?_
        refine ⟨(Value.bool false), retv_tmp rfl rfl, ?_⟩
        exfalso; omega
      ·rw [h134]
       have p148 : ¬ (a ≥ 0) := of_decide_eq_false h134
       refine og 20 [(6, (Value.bool false))] 23 ?_
       refine od ?_
       refine q_ret (by kernel_rfl) ?_
       refine ⟨(Value.bool false), retv_tmp rfl rfl, ?_⟩
       exfalso; omega
     ·rw [h128]
      have p149 : ¬ (n < 1) := of_decide_eq_false h128
      refine og 3 [(0, (i64 a)), (1, (i64 b)), (2, (i64 n)), (6, (Value.bool false)), (7, (ptr b1)), (68, (Value.bool false)), (71, (Value.bool ((chgE (takeF n) (twoS a b) [97]) == 42)))] 10 ?_
      refine Ops.split ((chgE (takeF n) (twoS a b) [97]) == 42) (fun h150 => ?_) (fun h150 => ?_)
      ·rw [h150]
       have p151 : chgE (takeF n) (twoS a b) [97] = 42 := of_beq_t h150
       refine og 6 [(0, (i64 a)), (1, (i64 b)), (6, (Value.bool false)), (7, (ptr b1)), (77, (Value.bool (!(decide (n > a)))))] 16 ?_
       refine od ?_
       refine q_cond (o := .tmp 77) (b := (!(decide (n > a)))) (by kernel_rfl) rfl (fun h152 => ?_) (fun h152 => ?_)
       ·rw [h152]
        have p153 : ¬ (n > a) := of_decide_eq_false (bnot_true h152)
        refine qs ?_
        refine qg ?_
        refine og 1 [(0, (i64 a)), (1, (i64 b)), (6, (Value.bool false)), (7, (ptr b1))] 1 ?_
        refine od ?_
        refine q_ret (by kernel_rfl) ?_
        refine ⟨(Value.bool false), retv_tmp rfl rfl, ?_⟩
        exfalso; omega
       ·rw [h152]
        have p154 : n > a := of_decide_eq_true (bnot_false h152)
        refine q_skip (by kernel_rfl) ?_
        refine qs ?_
        refine qg ?_
        refine og 1 [(0, (i64 a)), (1, (i64 b)), (6, (Value.bool false)), (7, (ptr b1)), (79, (ptr b1))] 1 ?_
        refine Ops.call (by kernel_rfl) (d := (some 80)) (by kernel_rfl) (Get_calls _ b1 mb2 m49 (twoS a b) [97] H5 H52 (by omega) hB125) ?_
        rintro _ w156 ⟨rfl, K155⟩
        rw [show amtE (twoS a b) [97] = (a, 0) from rfl]
        refine ⟨_, _, rfl, rfl, ?_⟩
        replace K0 := K0.t0 K155
        replace H5 := H5.keep K155 (fun h => h)
        replace H52 := H52.keep K155 (fun h => h)
        clear K155
        refine og 5 [(0, (i64 a)), (1, (i64 b)), (6, (Value.bool false)), (7, (ptr b1)), (10, (i64 a))] 7 ?_
        refine od ?_
        refine qs ?_
        refine qg ?_
        refine og 1 [(0, (i64 a)), (1, (i64 b)), (6, (Value.bool false)), (10, (i64 a)), (84, (ptr b1))] 1 ?_
        refine Ops.call (by kernel_rfl) (d := (some 85)) (by kernel_rfl) (Get_calls _ b1 mb2 m49 (twoS a b) [98] H5 H52 (by omega) hB125) ?_
        rintro _ w158 ⟨rfl, K157⟩
        rw [show amtE (twoS a b) [98] = (b, 0) from rfl]
        refine ⟨_, _, rfl, rfl, ?_⟩
        replace K0 := K0.t0 K157
        replace H5 := H5.keep K157 (fun h => h)
        replace H52 := H52.keep K157 (fun h => h)
        clear K157
        refine og 5 [(0, (i64 a)), (1, (i64 b)), (6, (Value.bool false)), (10, (i64 a)), (12, (i64 b))] 7 ?_
        refine od ?_
        refine qs ?_
        refine qg ?_
        refine og 3 [(0, (i64 a)), (1, (i64 b)), (6, (Value.bool false)), (10, (i64 a)), (12, (i64 b)), (90, (Value.bool (decide (a ≥ 0))))] 3 ?_
        refine Ops.split (decide (a ≥ 0)) (fun h159 => ?_) (fun h159 => ?_)
        ·rw [h159]
         have p160 : a ≥ 0 := of_decide_eq_true h159
         refine og 4 [(0, (i64 a)), (1, (i64 b)), (6, (Value.bool false)), (10, (i64 a)), (12, (i64 b)), (94, (Value.bool (decide (b ≥ 0))))] 7 ?_
         refine Ops.split (decide (b ≥ 0)) (fun h161 => ?_) (fun h161 => ?_)
         ·rw [h161]
          have p162 : b ≥ 0 := of_decide_eq_true h161
          refine og 2 [(0, (i64 a)), (1, (i64 b)), (6, (Value.bool false)), (12, (i64 b)), (94, (Value.bool true)), (96, (Value.int IntKind.u64 (IntKind.u64.wrap (a))))] 9 ?_
          have e163 : IntKind.u64.wrap (a) = a := wrap_u64 (by omega) (by omega)
          rw [e163]
          refine og 2 [(0, (i64 a)), (1, (i64 b)), (6, (Value.bool false)), (94, (Value.bool true)), (96, (Value.int IntKind.u64 a)), (98, (Value.int IntKind.u64 (IntKind.u64.wrap (b))))] 11 ?_
          have e164 : IntKind.u64.wrap (b) = b := wrap_u64 (by omega) (by omega)
          rw [e164]
          refine og 1 [(0, (i64 a)), (1, (i64 b)), (6, (Value.bool false)), (94, (Value.bool true)), (99, (Value.int IntKind.u64 (IntKind.u64.wrap (a + b))))] 12 ?_
          have e165 : IntKind.u64.wrap (a + b) = a + b := wrap_u64 (by omega) (by omega)
          rw [e165]
          refine og 2 [(1, (i64 b)), (6, (Value.bool false)), (94, (Value.bool true)), (99, (Value.int IntKind.u64 (a + b))), (101, (Value.int IntKind.u64 (IntKind.u64.wrap (a))))] 14 ?_
          have e166 : IntKind.u64.wrap (a) = a := wrap_u64 (by omega) (by omega)
          rw [e166]
          refine og 2 [(6, (Value.bool false)), (94, (Value.bool true)), (99, (Value.int IntKind.u64 (a + b))), (101, (Value.int IntKind.u64 a)), (103, (Value.int IntKind.u64 (IntKind.u64.wrap (b))))] 16 ?_
          have e167 : IntKind.u64.wrap (b) = b := wrap_u64 (by omega) (by omega)
          rw [e167]
          refine og 1 [(6, (Value.bool false)), (94, (Value.bool true)), (99, (Value.int IntKind.u64 (a + b))), (104, (Value.int IntKind.u64 (IntKind.u64.wrap (a + b))))] 17 ?_
          have e168 : IntKind.u64.wrap (a + b) = a + b := wrap_u64 (by omega) (by omega)
          rw [e168]
          refine og 3 [(6, (Value.bool false)), (107, (Value.bool ((a + b) == (a + b))))] 20 ?_
          have h169 : ((a + b) == (a + b)) = true := by simp
          rw [h169]
          refine Ops.call (by kernel_rfl) (d := (some 108)) (by kernel_rfl) (known_calls _) ?_
          rintro _ w171 ⟨rfl, K170⟩
          refine ⟨_, _, rfl, rfl, ?_⟩
          replace K0 := K0.t0 K170
          replace H5 := H5.keep K170 (fun h => h)
          replace H52 := H52.keep K170 (fun h => h)
          clear K170
          refine og 2 [(6, (Value.bool true))] 23 ?_
          refine od ?_
          refine q_ret (by kernel_rfl) ?_
          refine ⟨(Value.bool true), retv_tmp rfl rfl, ?_⟩
          exact ⟨rfl, K0⟩
         ·rw [h161]
          have p172 : ¬ (b ≥ 0) := of_decide_eq_false h161
          refine og 16 [(6, (Value.bool false))] 23 ?_
          refine od ?_
          refine q_ret (by kernel_rfl) ?_
          refine ⟨(Value.bool false), retv_tmp rfl rfl, ?_⟩
          exfalso; omega
        ·rw [h159]
         have p173 : ¬ (a ≥ 0) := of_decide_eq_false h159
         refine og 20 [(6, (Value.bool false))] 23 ?_
         refine od ?_
         refine q_ret (by kernel_rfl) ?_
         refine ⟨(Value.bool false), retv_tmp rfl rfl, ?_⟩
         exfalso; omega
      ·rw [h150]
       have p174 : ¬ (chgE (takeF n) (twoS a b) [97] = 42) := of_beq_f h150
       refine og 6 [(0, (i64 a)), (1, (i64 b)), (6, (Value.bool false)), (7, (ptr b1)), (77, (Value.bool true))] 16 ?_
       refine od ?_
       refine q_then (o := .tmp 77) (by kernel_rfl) rfl ?_
       refine qs ?_
       refine qg ?_
       refine og 1 [(0, (i64 a)), (1, (i64 b)), (6, (Value.bool false)), (7, (ptr b1))] 1 ?_
       refine od ?_
       refine q_ret (by kernel_rfl) ?_
       refine ⟨(Value.bool false), retv_tmp rfl rfl, ?_⟩
       exfalso; omega
    ·rw [h126]
     have p175 : ¬ (chgE (takeF n) (twoS a b) [97] = 47) := of_beq_f h126
     refine og 7 [(0, (i64 a)), (1, (i64 b)), (2, (i64 n)), (6, (Value.bool false)), (7, (ptr b1)), (68, (Value.bool false)), (71, (Value.bool ((chgE (takeF n) (twoS a b) [97]) == 42)))] 10 ?_
     refine Ops.split ((chgE (takeF n) (twoS a b) [97]) == 42) (fun h176 => ?_) (fun h176 => ?_)
     ·rw [h176]
      have p177 : chgE (takeF n) (twoS a b) [97] = 42 := of_beq_t h176
      refine og 6 [(0, (i64 a)), (1, (i64 b)), (6, (Value.bool false)), (7, (ptr b1)), (77, (Value.bool (!(decide (n > a)))))] 16 ?_
      refine od ?_
      refine q_cond (o := .tmp 77) (b := (!(decide (n > a)))) (by kernel_rfl) rfl (fun h178 => ?_) (fun h178 => ?_)
      ·rw [h178]
       have p179 : ¬ (n > a) := of_decide_eq_false (bnot_true h178)
       refine qs ?_
       refine qg ?_
       refine og 1 [(0, (i64 a)), (1, (i64 b)), (6, (Value.bool false)), (7, (ptr b1))] 1 ?_
       refine od ?_
       refine q_ret (by kernel_rfl) ?_
       refine ⟨(Value.bool false), retv_tmp rfl rfl, ?_⟩
       exfalso; omega
      ·rw [h178]
       have p180 : n > a := of_decide_eq_true (bnot_false h178)
       refine q_skip (by kernel_rfl) ?_
       refine qs ?_
       refine qg ?_
       refine og 1 [(0, (i64 a)), (1, (i64 b)), (6, (Value.bool false)), (7, (ptr b1)), (79, (ptr b1))] 1 ?_
       refine Ops.call (by kernel_rfl) (d := (some 80)) (by kernel_rfl) (Get_calls _ b1 mb2 m49 (twoS a b) [97] H5 H52 (by omega) hB125) ?_
       rintro _ w182 ⟨rfl, K181⟩
       rw [show amtE (twoS a b) [97] = (a, 0) from rfl]
       refine ⟨_, _, rfl, rfl, ?_⟩
       replace K0 := K0.t0 K181
       replace H5 := H5.keep K181 (fun h => h)
       replace H52 := H52.keep K181 (fun h => h)
       clear K181
       refine og 5 [(0, (i64 a)), (1, (i64 b)), (6, (Value.bool false)), (7, (ptr b1)), (10, (i64 a))] 7 ?_
       refine od ?_
       refine qs ?_
       refine qg ?_
       refine og 1 [(0, (i64 a)), (1, (i64 b)), (6, (Value.bool false)), (10, (i64 a)), (84, (ptr b1))] 1 ?_
       refine Ops.call (by kernel_rfl) (d := (some 85)) (by kernel_rfl) (Get_calls _ b1 mb2 m49 (twoS a b) [98] H5 H52 (by omega) hB125) ?_
       rintro _ w184 ⟨rfl, K183⟩
       rw [show amtE (twoS a b) [98] = (b, 0) from rfl]
       refine ⟨_, _, rfl, rfl, ?_⟩
       replace K0 := K0.t0 K183
       replace H5 := H5.keep K183 (fun h => h)
       replace H52 := H52.keep K183 (fun h => h)
       clear K183
       refine og 5 [(0, (i64 a)), (1, (i64 b)), (6, (Value.bool false)), (10, (i64 a)), (12, (i64 b))] 7 ?_
       refine od ?_
       refine qs ?_
       refine qg ?_
       refine og 3 [(0, (i64 a)), (1, (i64 b)), (6, (Value.bool false)), (10, (i64 a)), (12, (i64 b)), (90, (Value.bool (decide (a ≥ 0))))] 3 ?_
       refine Ops.split (decide (a ≥ 0)) (fun h185 => ?_) (fun h185 => ?_)
       ·rw [h185]
        have p186 : a ≥ 0 := of_decide_eq_true h185
        refine og 4 [(0, (i64 a)), (1, (i64 b)), (6, (Value.bool false)), (10, (i64 a)), (12, (i64 b)), (94, (Value.bool (decide (b ≥ 0))))] 7 ?_
        refine Ops.split (decide (b ≥ 0)) (fun h187 => ?_) (fun h187 => ?_)
        ·rw [h187]
         have p188 : b ≥ 0 := of_decide_eq_true h187
         refine og 2 [(0, (i64 a)), (1, (i64 b)), (6, (Value.bool false)), (12, (i64 b)), (94, (Value.bool true)), (96, (Value.int IntKind.u64 (IntKind.u64.wrap (a))))] 9 ?_
         have e189 : IntKind.u64.wrap (a) = a := wrap_u64 (by omega) (by omega)
         rw [e189]
         refine og 2 [(0, (i64 a)), (1, (i64 b)), (6, (Value.bool false)), (94, (Value.bool true)), (96, (Value.int IntKind.u64 a)), (98, (Value.int IntKind.u64 (IntKind.u64.wrap (b))))] 11 ?_
         have e190 : IntKind.u64.wrap (b) = b := wrap_u64 (by omega) (by omega)
         rw [e190]
         refine og 1 [(0, (i64 a)), (1, (i64 b)), (6, (Value.bool false)), (94, (Value.bool true)), (99, (Value.int IntKind.u64 (IntKind.u64.wrap (a + b))))] 12 ?_
         have e191 : IntKind.u64.wrap (a + b) = a + b := wrap_u64 (by omega) (by omega)
         rw [e191]
         refine og 2 [(1, (i64 b)), (6, (Value.bool false)), (94, (Value.bool true)), (99, (Value.int IntKind.u64 (a + b))), (101, (Value.int IntKind.u64 (IntKind.u64.wrap (a))))] 14 ?_
         have e192 : IntKind.u64.wrap (a) = a := wrap_u64 (by omega) (by omega)
         rw [e192]
         refine og 2 [(6, (Value.bool false)), (94, (Value.bool true)), (99, (Value.int IntKind.u64 (a + b))), (101, (Value.int IntKind.u64 a)), (103, (Value.int IntKind.u64 (IntKind.u64.wrap (b))))] 16 ?_
         have e193 : IntKind.u64.wrap (b) = b := wrap_u64 (by omega) (by omega)
         rw [e193]
         refine og 1 [(6, (Value.bool false)), (94, (Value.bool true)), (99, (Value.int IntKind.u64 (a + b))), (104, (Value.int IntKind.u64 (IntKind.u64.wrap (a + b))))] 17 ?_
         have e194 : IntKind.u64.wrap (a + b) = a + b := wrap_u64 (by omega) (by omega)
         rw [e194]
         refine og 3 [(6, (Value.bool false)), (107, (Value.bool ((a + b) == (a + b))))] 20 ?_
         have h195 : ((a + b) == (a + b)) = true := by simp
         rw [h195]
         refine Ops.call (by kernel_rfl) (d := (some 108)) (by kernel_rfl) (known_calls _) ?_
         rintro _ w197 ⟨rfl, K196⟩
         refine ⟨_, _, rfl, rfl, ?_⟩
         replace K0 := K0.t0 K196
         replace H5 := H5.keep K196 (fun h => h)
         replace H52 := H52.keep K196 (fun h => h)
         clear K196
         refine og 2 [(6, (Value.bool true))] 23 ?_
         refine od ?_
         refine q_ret (by kernel_rfl) ?_
         refine ⟨(Value.bool true), retv_tmp rfl rfl, ?_⟩
         exact ⟨rfl, K0⟩
        ·rw [h187]
         have p198 : ¬ (b ≥ 0) := of_decide_eq_false h187
         refine og 16 [(6, (Value.bool false))] 23 ?_
         refine od ?_
         refine q_ret (by kernel_rfl) ?_
         refine ⟨(Value.bool false), retv_tmp rfl rfl, ?_⟩
         exfalso; omega
       ·rw [h185]
        have p199 : ¬ (a ≥ 0) := of_decide_eq_false h185
        refine og 20 [(6, (Value.bool false))] 23 ?_
        refine od ?_
        refine q_ret (by kernel_rfl) ?_
        refine ⟨(Value.bool false), retv_tmp rfl rfl, ?_⟩
        exfalso; omega
     ·rw [h176]
      have p200 : ¬ (chgE (takeF n) (twoS a b) [97] = 42) := of_beq_f h176
      refine og 6 [(0, (i64 a)), (1, (i64 b)), (6, (Value.bool false)), (7, (ptr b1)), (77, (Value.bool true))] 16 ?_
      refine od ?_
      refine q_then (o := .tmp 77) (by kernel_rfl) rfl ?_
      refine qs ?_
      refine qg ?_
      refine og 1 [(0, (i64 a)), (1, (i64 b)), (6, (Value.bool false)), (7, (ptr b1))] 1 ?_
      refine od ?_
      refine q_ret (by kernel_rfl) ?_
      refine ⟨(Value.bool false), retv_tmp rfl rfl, ?_⟩
      exfalso; omega
end Go.Proofs.YtooginpgclcldaaDoor
