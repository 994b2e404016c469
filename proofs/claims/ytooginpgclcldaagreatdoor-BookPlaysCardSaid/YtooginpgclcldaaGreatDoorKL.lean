/- the reference's sums and slots -/
import Derived.Test.YtooginpgclcldaaGreatDoorProg
import Derived.Test.YtooginpgclcldaaGreatDoorKD
import Derived.Test.YtooginpgclcldaaGreatDoorLD
import Derived.Test.YtooginpgclcldaaGreatDoorOR
import Derived.Test.YtooginpgclcldaaGreatDoorOB
import Derived.Test.YtooginpgclcldaaGreatDoorLX
set_option linter.unusedVariables false
namespace Go.Proofs.YtooginpgclcldaaGreatDoor
open Go.Q Go.RowKit

theorem RStep_calls (w : World) (r : Nat) (x : UInt8) (hr : r < 4294967296) : Calls Tryz.prog 126 ⟨[(Value.int IntKind.u32 ((r : Nat) : Int)), (Value.int IntKind.u8 ((x.toNat : Nat) : Int))]⟩ w (fun e w' => e = .returned (.int .u32 ((crcByte r x : Nat) : Int)) ∧ Keeps none_ w w') := by
 have hx256 : x.toNat < 256 := x.toNat_lt
 have K0 : Keeps none_ w w := Keeps.refl w
 refine q_calls Tryz.func126 (by kernel_rfl) (by kernel_rfl) ?_
 refine qs ?_
 refine qg ?_
 refine og 1 [(0, (Value.int IntKind.u32 ((r : Nat) : Int))), (1, (Value.int IntKind.u8 ((x.toNat : Nat) : Int))), (4, (Value.int IntKind.u32 0))] 1 ?_
 refine od ?_
 refine qs ?_
 refine qs ?_
 refine qg ?_
 refine og 1 [(0, (Value.int IntKind.u32 ((r : Nat) : Int))), (1, (Value.int IntKind.u8 ((x.toNat : Nat) : Int))), (4, (Value.int IntKind.u32 0)), (5, (i64 0))] 1 ?_
 refine od ?_
 refine q_block (id := 0) (by kernel_rfl) ?_
 refine q_keep (R := [(0, (Value.int IntKind.u32 ((r : Nat) : Int))), (1, (Value.int IntKind.u8 ((x.toNat : Nat) : Int))), (4, (Value.int IntKind.u32 0)), (5, (i64 0))]) (by kernel_rfl) ?_
 refine q_loop (fun (gs : Nat × Nat) L (wx : World) => match gs with | (i, q) => L = [(0, (Value.int IntKind.u32 ((q : Nat) : Int))), (1, (Value.int IntKind.u8 ((x.toNat : Nat) : Int))), (4, (Value.int IntKind.u32 0)), (5, (i64 ((i : Nat) : Int)))] ∧ q ^^^ shr8 x.toNat i = shiftN i (r ^^^ x.toNat) ∧ q < 4294967296 ∧ i ≤ 8 ∧ Keeps none_ w wx) (fun (gs : Nat × Nat) => match gs with | (i, q) => 8 - i) (0, r) (by kernel_rfl) ⟨rfl, (by rw [shr8_zero]; rfl), hr, (by omega), K0⟩ ?_
 clear K0
 rintro ⟨i, q⟩ _ w1 ⟨rfl, hE, hq, hi, K2⟩
 have hs8 := shr8_le x.toNat i
 refine qs ?_
 refine qs ?_
 refine qg ?_
 refine og 2 [(0, (Value.int IntKind.u32 ((q : Nat) : Int))), (1, (Value.int IntKind.u8 ((x.toNat : Nat) : Int))), (4, (Value.int IntKind.u32 0)), (5, (i64 ((i : Nat) : Int))), (8, (Value.bool (decide (((i : Nat) : Int) < 8))))] 2 ?_
 refine od ?_
 refine q_cond (o := .tmp 8) (b := (decide (((i : Nat) : Int) < 8))) (by kernel_rfl) rfl (fun h3 => ?_) (fun h3 => ?_)
 ·rw [h3]
  have p4 : ((i : Nat) : Int) < 8 := of_decide_eq_true h3
  refine q_skip (by kernel_rfl) ?_
  refine qs ?_
  refine q_block (id := 1) (by kernel_rfl) ?_
  refine qs ?_
  refine qg ?_
  refine og 4 [(0, (Value.int IntKind.u32 ((q : Nat) : Int))), (1, (Value.int IntKind.u8 ((x.toNat : Nat) : Int))), (4, (Value.int IntKind.u32 0)), (5, (i64 ((i : Nat) : Int))), (8, (Value.bool true)), (11, (Value.int IntKind.u32 ((q : Nat) : Int))), (12, (Value.int IntKind.u8 ((x.toNat : Nat) : Int))), (14, (Value.int IntKind.u64 (IntKind.u64.wrap (((i : Nat) : Int)))))] 4 ?_
  have e5 : IntKind.u64.wrap (((i : Nat) : Int)) = ((i : Nat) : Int) := wrap_u64 (by omega) (by omega)
  rw [e5]
  refine Ops.go (v := (Value.int IntKind.u8 ((shr8 x.toNat i : Nat) : Int))) (by kernel_rfl) (Runs.int (op := .shr) (t := 5) (by kernel_rfl) (run_shrv (k := IntKind.u64) (i := i) (s := ((i : Nat) : Int)) rfl (by omega))) (d := (some 15)) (by kernel_rfl) rfl ?_
  refine og 1 [(0, (Value.int IntKind.u32 ((q : Nat) : Int))), (1, (Value.int IntKind.u8 ((x.toNat : Nat) : Int))), (4, (Value.int IntKind.u32 0)), (5, (i64 ((i : Nat) : Int))), (8, (Value.bool true)), (11, (Value.int IntKind.u32 ((q : Nat) : Int))), (16, (Value.int IntKind.u32 (IntKind.u32.wrap (((shr8 x.toNat i : Nat) : Int)))))] 6 ?_
  have e6 : IntKind.u32.wrap (((shr8 x.toNat i : Nat) : Int)) = ((shr8 x.toNat i : Nat) : Int) := wrap_u32 (by omega) (by omega)
  rw [e6]
  have hb7 : q ^^^ (shr8 x.toNat i) < 4294967296 := xor32_lt (by omega) (by omega)
  refine Ops.go (v := (Value.int IntKind.u32 ((q ^^^ (shr8 x.toNat i) : Nat) : Int))) (by kernel_rfl) (Runs.int (op := .xor) (t := 114) (by kernel_rfl) (run_xor32 (a := q) (b := (shr8 x.toNat i)) (by omega) (by omega))) (d := (some 17)) (by kernel_rfl) rfl ?_
  have hb8 : (q ^^^ (shr8 x.toNat i)) &&& 1 < 4294967296 := and32_lt (by omega)
  refine Ops.go (v := (Value.int IntKind.u32 (((q ^^^ (shr8 x.toNat i)) &&& 1 : Nat) : Int))) (by kernel_rfl) (Runs.int (op := .and) (t := 114) (by kernel_rfl) (run_and32 (a := (q ^^^ (shr8 x.toNat i))) (b := 1) (by omega) (by omega))) (d := (some 18)) (by kernel_rfl) rfl ?_
  refine og 1 [(0, (Value.int IntKind.u32 ((q : Nat) : Int))), (1, (Value.int IntKind.u8 ((x.toNat : Nat) : Int))), (4, (Value.int IntKind.u32 0)), (5, (i64 ((i : Nat) : Int))), (6, (Value.int IntKind.u32 (((q ^^^ (shr8 x.toNat i)) &&& 1 : Nat) : Int))), (8, (Value.bool true))] 9 ?_
  refine od ?_
  refine qs ?_
  refine qg ?_
  refine og 2 [(0, (Value.int IntKind.u32 ((q : Nat) : Int))), (1, (Value.int IntKind.u8 ((x.toNat : Nat) : Int))), (4, (Value.int IntKind.u32 0)), (5, (i64 ((i : Nat) : Int))), (6, (Value.int IntKind.u32 (((q ^^^ (shr8 x.toNat i)) &&& 1 : Nat) : Int))), (8, (Value.bool true)), (20, (Value.int IntKind.u32 ((((q : Nat) : Int)).fdiv 2)))] 2 ?_
  have e9 : (((q : Nat) : Int)).fdiv 2 = ((q / 2 : Nat) : Int) := fdiv_nat q 2
  rw [e9]
  clear e9
  refine og 1 [(0, (Value.int IntKind.u32 ((q / 2 : Nat) : Int))), (1, (Value.int IntKind.u8 ((x.toNat : Nat) : Int))), (4, (Value.int IntKind.u32 0)), (5, (i64 ((i : Nat) : Int))), (6, (Value.int IntKind.u32 (((q ^^^ (shr8 x.toNat i)) &&& 1 : Nat) : Int))), (8, (Value.bool true))] 3 ?_
  refine od ?_
  refine qs ?_
  refine qg ?_
  refine og 2 [(0, (Value.int IntKind.u32 ((q / 2 : Nat) : Int))), (1, (Value.int IntKind.u8 ((x.toNat : Nat) : Int))), (4, (Value.int IntKind.u32 0)), (5, (i64 ((i : Nat) : Int))), (6, (Value.int IntKind.u32 (((q ^^^ (shr8 x.toNat i)) &&& 1 : Nat) : Int))), (8, (Value.bool true)), (22, (Value.bool ((((q ^^^ (shr8 x.toNat i)) &&& 1 : Nat) : Int) == 1)))] 2 ?_
  refine od ?_
  refine q_cond (o := .tmp 22) (b := ((((q ^^^ (shr8 x.toNat i)) &&& 1 : Nat) : Int) == 1)) (by kernel_rfl) rfl (fun h10 => ?_) (fun h10 => ?_)
  ·rw [h10]
   have p11 : (((q ^^^ (shr8 x.toNat i)) &&& 1 : Nat) : Int) = 1 := of_beq_t h10
   refine qg ?_
   refine og 1 [(0, (Value.int IntKind.u32 ((q / 2 : Nat) : Int))), (1, (Value.int IntKind.u8 ((x.toNat : Nat) : Int))), (4, (Value.int IntKind.u32 0)), (5, (i64 ((i : Nat) : Int))), (6, (Value.int IntKind.u32 (((q ^^^ (shr8 x.toNat i)) &&& 1 : Nat) : Int))), (8, (Value.bool true)), (22, (Value.bool true)), (23, (Value.int IntKind.u32 ((q / 2 : Nat) : Int)))] 1 ?_
   have hb12 : (q / 2) ^^^ 2197175160 < 4294967296 := xor32_lt (by omega) (by omega)
   refine Ops.go (v := (Value.int IntKind.u32 (((q / 2) ^^^ 2197175160 : Nat) : Int))) (by kernel_rfl) (Runs.int (op := .xor) (t := 114) (by kernel_rfl) (run_xor32 (a := (q / 2)) (b := 2197175160) (by omega) (by omega))) (d := (some 24)) (by kernel_rfl) rfl ?_
   refine og 1 [(0, (Value.int IntKind.u32 (((q / 2) ^^^ 2197175160 : Nat) : Int))), (1, (Value.int IntKind.u8 ((x.toNat : Nat) : Int))), (4, (Value.int IntKind.u32 0)), (5, (i64 ((i : Nat) : Int))), (6, (Value.int IntKind.u32 (((q ^^^ (shr8 x.toNat i)) &&& 1 : Nat) : Int))), (8, (Value.bool true)), (22, (Value.bool true))] 3 ?_
   refine od ?_
   refine qg ?_
   refine og 2 [(0, (Value.int IntKind.u32 (((q / 2) ^^^ 2197175160 : Nat) : Int))), (1, (Value.int IntKind.u8 ((x.toNat : Nat) : Int))), (4, (Value.int IntKind.u32 0)), (5, (i64 ((i : Nat) : Int))), (6, (Value.int IntKind.u32 (((q ^^^ (shr8 x.toNat i)) &&& 1 : Nat) : Int))), (8, (Value.bool true)), (10, (i64 (IntKind.i64.wrap (((i : Nat) : Int) + 1)))), (22, (Value.bool true))] 2 ?_
   have e13 : IntKind.i64.wrap (((i : Nat) : Int) + 1) = ((i + 1 : Nat) : Int) := by rw [wrap_i64 (by omega) (by omega)]; omega
   rw [e13]
   clear e13
   refine og 1 [(0, (Value.int IntKind.u32 (((q / 2) ^^^ 2197175160 : Nat) : Int))), (1, (Value.int IntKind.u8 ((x.toNat : Nat) : Int))), (4, (Value.int IntKind.u32 0)), (5, (i64 ((i + 1 : Nat) : Int))), (6, (Value.int IntKind.u32 (((q ^^^ (shr8 x.toNat i)) &&& 1 : Nat) : Int))), (8, (Value.bool true)), (22, (Value.bool true))] 3 ?_
   refine Ops.keep (R := [(0, (Value.int IntKind.u32 (((q / 2) ^^^ 2197175160 : Nat) : Int))), (1, (Value.int IntKind.u8 ((x.toNat : Nat) : Int))), (4, (Value.int IntKind.u32 0)), (5, (i64 ((i + 1 : Nat) : Int)))]) (by kernel_rfl) ?_
   refine od ?_
   exact ⟨(i + 1, (q / 2) ^^^ 2197175160), ⟨rfl, (by rw [shr8_next, step_t p11, hE]; rfl), (by omega), (by omega), K2⟩, (show 8 - (i + 1) < 8 - i from by omega)⟩
  ·rw [h10]
   have p14 : ¬ ((((q ^^^ (shr8 x.toNat i)) &&& 1 : Nat) : Int) = 1) := of_beq_f h10
   refine q_skip (by kernel_rfl) ?_
   refine qg ?_
   refine og 2 [(0, (Value.int IntKind.u32 ((q / 2 : Nat) : Int))), (1, (Value.int IntKind.u8 ((x.toNat : Nat) : Int))), (4, (Value.int IntKind.u32 0)), (5, (i64 ((i : Nat) : Int))), (6, (Value.int IntKind.u32 (((q ^^^ (shr8 x.toNat i)) &&& 1 : Nat) : Int))), (8, (Value.bool true)), (10, (i64 (IntKind.i64.wrap (((i : Nat) : Int) + 1)))), (22, (Value.bool false))] 2 ?_
   have e15 : IntKind.i64.wrap (((i : Nat) : Int) + 1) = ((i + 1 : Nat) : Int) := by rw [wrap_i64 (by omega) (by omega)]; omega
   rw [e15]
   clear e15
   refine og 1 [(0, (Value.int IntKind.u32 ((q / 2 : Nat) : Int))), (1, (Value.int IntKind.u8 ((x.toNat : Nat) : Int))), (4, (Value.int IntKind.u32 0)), (5, (i64 ((i + 1 : Nat) : Int))), (6, (Value.int IntKind.u32 (((q ^^^ (shr8 x.toNat i)) &&& 1 : Nat) : Int))), (8, (Value.bool true)), (22, (Value.bool false))] 3 ?_
   refine Ops.keep (R := [(0, (Value.int IntKind.u32 ((q / 2 : Nat) : Int))), (1, (Value.int IntKind.u8 ((x.toNat : Nat) : Int))), (4, (Value.int IntKind.u32 0)), (5, (i64 ((i + 1 : Nat) : Int)))]) (by kernel_rfl) ?_
   refine od ?_
   exact ⟨(i + 1, q / 2), ⟨rfl, (by rw [shr8_next, step_f p14, hE]; rfl), (by omega), (by omega), K2⟩, (show 8 - (i + 1) < 8 - i from by omega)⟩
 ·rw [h3]
  have p16 : ¬ (((i : Nat) : Int) < 8) := of_decide_eq_false h3
  refine q_exit (id := 0) (by kernel_rfl) ?_
  refine qs ?_
  refine qg ?_
  refine og 2 [(4, (Value.int IntKind.u32 ((q : Nat) : Int)))] 2 ?_
  refine od ?_
  refine q_ret (by kernel_rfl) ?_
  refine ⟨(Value.int IntKind.u32 ((q : Nat) : Int)), retv_tmp rfl rfl, ?_⟩
  have e : q = crcByte r x := by have h8 : i = 8 := (by omega); subst h8; rw [shr8_end (by omega), Nat.xor_zero] at hE; exact hE
  exact ⟨by rw [e], K2⟩

theorem RMore_calls (w : World) (A : Option Addr) (c s : Nat) (bs : List UInt8) (hs : s < 4294967296) (hv : RdB w (.slice A bs.length c) bs) (hl : bs.length ≤ 140737488351232) : Calls Tryz.prog 108 ⟨[(Value.int IntKind.u32 ((s : Nat) : Int)), (Value.slice A bs.length c)]⟩ w (fun e w' => e = .returned (.int .u32 ((crcMore s bs : Nat) : Int)) ∧ Keeps none_ w w') := by
 have K0 : Keeps none_ w w := Keeps.refl w
 refine q_calls Tryz.func108 (by kernel_rfl) (by kernel_rfl) ?_
 refine qs ?_
 refine qg ?_
 refine og 1 [(0, (Value.int IntKind.u32 ((s : Nat) : Int))), (1, (Value.slice A bs.length c)), (4, (Value.int IntKind.u32 0))] 1 ?_
 refine od ?_
 refine qs ?_
 refine qg ?_
 refine og 1 [(1, (Value.slice A bs.length c)), (4, (Value.int IntKind.u32 0)), (7, (Value.int IntKind.u32 ((s : Nat) : Int)))] 1 ?_
 have hb1 : 4294967295 ^^^ s < 4294967296 := xor32_lt (by omega) (by omega)
 refine Ops.go (v := (Value.int IntKind.u32 ((4294967295 ^^^ s : Nat) : Int))) (by kernel_rfl) (Runs.un (op := .xor) (by kernel_rfl) (run_not32 (a := s) (by omega))) (d := (some 8)) (by kernel_rfl) rfl ?_
 refine og 1 [(1, (Value.slice A bs.length c)), (4, (Value.int IntKind.u32 0)), (5, (Value.int IntKind.u32 ((4294967295 ^^^ s : Nat) : Int)))] 3 ?_
 refine od ?_
 refine qs ?_
 refine qs ?_
 refine qg ?_
 refine og 1 [(1, (Value.slice A bs.length c)), (4, (Value.int IntKind.u32 0)), (5, (Value.int IntKind.u32 ((4294967295 ^^^ s : Nat) : Int))), (6, (i64 0))] 1 ?_
 refine od ?_
 refine q_block (id := 0) (by kernel_rfl) ?_
 refine q_keep (R := [(1, (Value.slice A bs.length c)), (4, (Value.int IntKind.u32 0)), (5, (Value.int IntKind.u32 ((4294967295 ^^^ s : Nat) : Int))), (6, (i64 0))]) (by kernel_rfl) ?_
 refine q_loop (fun (gs : Nat × Nat) L (wx : World) => match gs with | (i, r) => L = [(1, (Value.slice A bs.length c)), (4, (Value.int IntKind.u32 0)), (5, (Value.int IntKind.u32 ((r : Nat) : Int))), (6, (i64 ((i : Nat) : Int)))] ∧ r = (bs.take i).foldl crcByte (4294967295 ^^^ s) ∧ r < 4294967296 ∧ i ≤ bs.length ∧ Keeps none_ w wx) (fun (gs : Nat × Nat) => match gs with | (i, r) => bs.length - i) (0, 4294967295 ^^^ s) (by kernel_rfl) ⟨rfl, rfl, (xor32_lt (by omega) hs), (by omega), K0⟩ ?_
 clear K0
 rintro ⟨i, r⟩ _ w2 ⟨rfl, hE, hr, hil, K3⟩
 refine qs ?_
 refine qs ?_
 refine qg ?_
 refine og 4 [(1, (Value.slice A bs.length c)), (4, (Value.int IntKind.u32 0)), (5, (Value.int IntKind.u32 ((r : Nat) : Int))), (6, (i64 ((i : Nat) : Int))), (12, (Value.bool (decide (((i : Nat) : Int) < ((bs.length : Nat) : Int)))))] 4 ?_
 refine od ?_
 refine q_cond (o := .tmp 12) (b := (decide (((i : Nat) : Int) < ((bs.length : Nat) : Int)))) (by kernel_rfl) rfl (fun h4 => ?_) (fun h4 => ?_)
 ·rw [h4]
  have p5 : ((i : Nat) : Int) < ((bs.length : Nat) : Int) := of_decide_eq_true h4
  obtain ⟨x, lb, lo, hx, hA, hLd⟩ := RdB.at (P := Tryz.prog) (t := 5) hv (k := i) (by kernel_rfl) (by omega)
  have hx256 : x.toNat < 256 := x.toNat_lt
  refine q_skip (by kernel_rfl) ?_
  refine qs ?_
  refine q_block (id := 1) (by kernel_rfl) ?_
  refine qg ?_
  refine og 3 [(1, (Value.slice A bs.length c)), (4, (Value.int IntKind.u32 0)), (5, (Value.int IntKind.u32 ((r : Nat) : Int))), (6, (i64 ((i : Nat) : Int))), (12, (Value.bool true)), (15, (Value.int IntKind.u32 ((r : Nat) : Int))), (16, (Value.slice A bs.length c)), (17, (i64 ((i : Nat) : Int)))] 3 ?_
  refine Ops.go (by kernel_rfl) (Runs.ixSliceE (k := IntKind.i64) (t := 22) (len := bs.length) (cap := c) (s := 1) (off' := lo + i) (i := ((i : Nat) : Int)) hA (by kernel_rfl) (by kernel_rfl) (by omega) (by omega) (by omega)) (d := (some 18)) (by kernel_rfl) rfl ?_
  refine Ops.go (v := (Value.int IntKind.u8 ((x.toNat : Nat) : Int))) (by kernel_rfl) (Runs.load (t := 5) (a := ⟨lb, lo + i, none⟩) (by kernel_rfl) (hLd _ _ K3 (fun h => h))) (d := (some 19)) (by kernel_rfl) rfl ?_
  refine Ops.call (by kernel_rfl) (d := (some 20)) (by kernel_rfl) (RStep_calls _ r x (by omega)) ?_
  rintro _ w6 ⟨rfl, K7⟩
  refine ⟨_, _, rfl, rfl, ?_⟩
  replace K3 := K3.trans K7 (U := none_) (fun i h1 h2 => h2) (fun i h1 h2 => by exact h2)
  clear K7
  refine og 1 [(1, (Value.slice A bs.length c)), (4, (Value.int IntKind.u32 0)), (5, (Value.int IntKind.u32 ((crcByte r x : Nat) : Int))), (6, (i64 ((i : Nat) : Int))), (12, (Value.bool true))] 7 ?_
  refine od ?_
  refine qg ?_
  refine og 2 [(1, (Value.slice A bs.length c)), (4, (Value.int IntKind.u32 0)), (5, (Value.int IntKind.u32 ((crcByte r x : Nat) : Int))), (6, (i64 ((i : Nat) : Int))), (12, (Value.bool true)), (14, (i64 (IntKind.i64.wrap (((i : Nat) : Int) + 1))))] 2 ?_
  have e8 : IntKind.i64.wrap (((i : Nat) : Int) + 1) = ((i + 1 : Nat) : Int) := by rw [wrap_i64 (by omega) (by omega)]; omega
  rw [e8]
  clear e8
  refine og 1 [(1, (Value.slice A bs.length c)), (4, (Value.int IntKind.u32 0)), (5, (Value.int IntKind.u32 ((crcByte r x : Nat) : Int))), (6, (i64 ((i + 1 : Nat) : Int))), (12, (Value.bool true))] 3 ?_
  refine Ops.keep (R := [(1, (Value.slice A bs.length c)), (4, (Value.int IntKind.u32 0)), (5, (Value.int IntKind.u32 ((crcByte r x : Nat) : Int))), (6, (i64 ((i + 1 : Nat) : Int)))]) (by kernel_rfl) ?_
  refine od ?_
  exact ⟨(i + 1, crcByte r x), ⟨rfl, (by rw [fold_take hx, ← hE]), (crcByte_lt x hr), (by omega), K3⟩, (show bs.length - (i + 1) < bs.length - i from by omega)⟩
 ·rw [h4]
  have p9 : ¬ (((i : Nat) : Int) < ((bs.length : Nat) : Int)) := of_decide_eq_false h4
  refine q_exit (id := 0) (by kernel_rfl) ?_
  refine qs ?_
  refine qg ?_
  refine og 1 [(4, (Value.int IntKind.u32 0)), (21, (Value.int IntKind.u32 ((r : Nat) : Int)))] 1 ?_
  have hb10 : 4294967295 ^^^ r < 4294967296 := xor32_lt (by omega) (by omega)
  refine Ops.go (v := (Value.int IntKind.u32 ((4294967295 ^^^ r : Nat) : Int))) (by kernel_rfl) (Runs.un (op := .xor) (by kernel_rfl) (run_not32 (a := r) (by omega))) (d := (some 22)) (by kernel_rfl) rfl ?_
  refine og 1 [(4, (Value.int IntKind.u32 ((4294967295 ^^^ r : Nat) : Int)))] 3 ?_
  refine od ?_
  refine q_ret (by kernel_rfl) ?_
  refine ⟨(Value.int IntKind.u32 ((4294967295 ^^^ r : Nat) : Int)), retv_tmp rfl rfl, ?_⟩
  have e : 4294967295 ^^^ r = crcMore s bs := by rw [hE, show i = bs.length from by omega, List.take_length]; rfl
  exact ⟨by rw [e], K3⟩

theorem RMore_any (w : World) (v : Value) (s : Nat) (bs : List UInt8) (hs : s < 4294967296) (hv : RdB w v bs) (hl : bs.length ≤ 140737488351232) : Calls Tryz.prog 108 ⟨[.int .u32 ((s : Nat) : Int), v]⟩ w (fun e w' => e = .returned (.int .u32 ((crcMore s bs : Nat) : Int)) ∧ Keeps none_ w w') := by
 obtain ⟨A, c, rfl⟩ := hv.form
 exact RMore_calls w A c s bs hs hv hl

theorem RSum_calls (w : World) (v : Value) (bs : List UInt8) (hv : RdB w v bs) (hl : bs.length ≤ 140737488351232) : Calls Tryz.prog 92 ⟨[v]⟩ w (fun e w' => e = .returned (.int .u32 ((crcMore 0 bs : Nat) : Int)) ∧ Keeps none_ w w') := by
 have K0 : Keeps none_ w w := Keeps.refl w
 refine q_calls Tryz.func92 (by kernel_rfl) (by kernel_rfl) ?_
 refine qs ?_
 refine qg ?_
 refine og 1 [(0, v), (2, (Value.int IntKind.u32 0))] 1 ?_
 refine od ?_
 refine qs ?_
 refine qg ?_
 refine og 1 [(2, (Value.int IntKind.u32 0)), (3, v)] 1 ?_
 refine Ops.call (by kernel_rfl) (d := (some 4)) (by kernel_rfl) (RMore_any _ v 0 bs (by omega) (hv.keep0 (by omega) K0) (by omega)) ?_
 rintro _ w1 ⟨rfl, K2⟩
 refine ⟨_, _, rfl, rfl, ?_⟩
 replace K0 := K0.t0 K2
 clear K2
 refine og 1 [(2, (Value.int IntKind.u32 ((crcMore 0 bs : Nat) : Int)))] 3 ?_
 refine od ?_
 refine q_ret (by kernel_rfl) ?_
 refine ⟨(Value.int IntKind.u32 ((crcMore 0 bs : Nat) : Int)), retv_tmp rfl rfl, ?_⟩
 exact ⟨rfl, K0⟩

theorem RSlot_calls (w : World) (n : List UInt8) (hn : n.length ≤ 140737488351232) : Calls Tryz.prog 76 ⟨[(Value.string (str n))]⟩ w (fun e w' => e = .returned (i64 ((slotB n : Nat) : Int)) ∧ Keeps none_ w w') := by
 have K0 : Keeps none_ w w := Keeps.refl w
 refine q_calls Tryz.func76 (by kernel_rfl) (by kernel_rfl) ?_
 refine qs ?_
 refine qg ?_
 refine og 1 [(0, (Value.string (str n))), (2, (i64 0))] 1 ?_
 refine od ?_
 refine qs ?_
 refine qg ?_
 refine og 1 [(2, (i64 0)), (3, (Value.string (str n)))] 1 ?_
 obtain ⟨A1, c2, w3, hr4, K5, F6, hge7⟩ := run_s2b (P := Tryz.prog) (w := w) (src := 9) (dst := 22) (e := 5) (ss := n) (by kernel_rfl) (by kernel_rfl) (by first | omega | decide)
 refine Ops.go (v := (Value.slice A1 n.length c2)) (by kernel_rfl) (Runs.conv (by kernel_rfl) hr4) (d := (some 4)) (by kernel_rfl) rfl ?_
 replace K0 := K0.t0 K5
 clear K5 hr4 hge7
 refine Ops.call (by kernel_rfl) (d := (some 5)) (by kernel_rfl) (RSum_calls _ (Value.slice A1 n.length c2) n F6 (by omega)) ?_
 rintro _ w8 ⟨rfl, K9⟩
 have hb10 := crcMore_lt n (s := 0) (by omega)
 refine ⟨_, _, rfl, rfl, ?_⟩
 replace K0 := K0.t0 K9
 replace F6 := (Rd.keep0 (by omega) F6 K9)
 clear K9
 refine og 1 [(2, (i64 0)), (6, (Value.int IntKind.u32 ((((crcMore 0 n : Nat) : Int)).tmod 16)))] 4 ?_
 have e11 : (((crcMore 0 n : Nat) : Int)).tmod 16 = (((crcMore 0 n) % 16 : Nat) : Int) := tmod_nat (crcMore 0 n) 16
 rw [e11]
 clear e11
 refine og 1 [(2, (i64 0)), (7, (i64 (IntKind.i64.wrap ((((crcMore 0 n) % 16 : Nat) : Int)))))] 5 ?_
 have e12 : IntKind.i64.wrap ((((crcMore 0 n) % 16 : Nat) : Int)) = (((crcMore 0 n) % 16 : Nat) : Int) := wrap_i64 (by omega) (by omega)
 rw [e12]
 refine og 1 [(2, (i64 (((crcMore 0 n) % 16 : Nat) : Int)))] 6 ?_
 refine od ?_
 refine q_ret (by kernel_rfl) ?_
 refine ⟨(i64 (((crcMore 0 n) % 16 : Nat) : Int)), retv_tmp rfl rfl, ?_⟩
 exact ⟨rfl, K0⟩
end Go.Proofs.YtooginpgclcldaaGreatDoor
