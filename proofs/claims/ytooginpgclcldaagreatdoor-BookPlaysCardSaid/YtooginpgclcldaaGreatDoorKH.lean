/- texts are written -/
import Derived.Test.YtooginpgclcldaaGreatDoorProg
import Derived.Test.YtooginpgclcldaaGreatDoorKD
import Derived.Test.YtooginpgclcldaaGreatDoorKE
import Derived.Test.YtooginpgclcldaaGreatDoorLX
set_option linter.unusedVariables false
namespace Go.Proofs.YtooginpgclcldaaGreatDoor
open Go.Q Go.RowKit

theorem Text_calls (w : World) (v : Value) (xs : List UInt8) (ss : List UInt8) (hv : RdB w v xs) (hs : ss.length ≤ 70368744173568) (hl : xs.length ≤ 70368744173568) : Calls Tryz.prog 32 ⟨[v, (Value.string (str ss))]⟩ w (fun e w' => ∃ v', e = .returned v' ∧ Keeps none_ w w' ∧ OwnB w' w.heap.size 5 v' (xs ++ tv ss)) := by
 have K0 : Keeps none_ w w := Keeps.refl w
 refine q_calls Tryz.func32 (by kernel_rfl) (by kernel_rfl) ?_
 refine qs ?_
 refine qg ?_
 refine og 1 [(0, v), (1, (Value.string (str ss))), (4, (Value.slice none 0 0))] 1 ?_
 refine od ?_
 refine qs ?_
 refine qg ?_
 refine og 4 [(1, (Value.string (str ss))), (4, (Value.slice none 0 0)), (5, v), (8, (Value.int IntKind.u64 (IntKind.u64.wrap (((ss.length : Nat) : Int)))))] 4 ?_
 have e1 : IntKind.u64.wrap (((ss.length : Nat) : Int)) = ((ss.length : Nat) : Int) := wrap_u64 (by omega) (by omega)
 rw [e1]
 refine Ops.call (by kernel_rfl) (d := (some 9)) (by kernel_rfl) (Uint_calls _ v xs ss.length (hv.keep0 (by omega) K0) (by omega) (by (try simp only at *); (try simp only [List.length_append] at *); (try simp only [List.length_cons] at *); (try simp only [List.length_nil] at *); omega)) ?_
 rintro _ w4 ⟨v3, rfl, K5, hO6⟩
 have O7 := own_base hO6 K0.size
 clear hO6
 have hL2 := uv_length_10 (n := ss.length) (by omega)
 refine ⟨_, _, rfl, rfl, ?_⟩
 replace K0 := K0.t0 K5
 clear K5
 refine og 1 [(4, (Value.slice none 0 0)), (9, v3), (10, (Value.string (str ss)))] 6 ?_
 obtain ⟨v8, w9, hr10, hO11, K12⟩ := OwnB.appS (t := 22) (u := 9) (ty := 22) (ys := ss) (by kernel_rfl) O7 (by (try simp only at *); (try simp only [List.length_append] at *); (try simp only [List.length_cons] at *); (try simp only [List.length_nil] at *); omega) K0.size
 refine Ops.go (v := v8) (by kernel_rfl) (Runs.append (ts := #[22, 9]) (ty := 22) (vs := [v3, (Value.string (str ss))]) (by kernel_rfl) hr10) (d := (some 11)) (by kernel_rfl) rfl ?_
 have K13 := Keeps.own2 K0 K12
 clear O7 K0 hr10 K12
 refine og 1 [(4, v8)] 8 ?_
 refine od ?_
 refine q_ret (by kernel_rfl) ?_
 refine ⟨v8, retv_tmp rfl rfl, ?_⟩
 have hfin : xs ++ uv ss.length ++ ss = xs ++ tv ss := by simp [tv]
 rw [hfin] at hO11
 exact ⟨_, rfl, K13, hO11⟩

theorem RBytesW_calls (w : World) (v : Value) (xs : List UInt8) (B : Option Addr) (d : Nat) (ss : List UInt8) (hv : RdB w v xs) (hp : RdB w (.slice B ss.length d) ss) (hs : ss.length ≤ 70368744173568) (hl : xs.length ≤ 70368744173568) : Calls Tryz.prog 109 ⟨[v, (Value.slice B ss.length d)]⟩ w (fun e w' => ∃ v', e = .returned v' ∧ Keeps none_ w w' ∧ OwnB w' w.heap.size 5 v' (xs ++ tv ss)) := by
 have K0 : Keeps none_ w w := Keeps.refl w
 refine q_calls Tryz.func109 (by kernel_rfl) (by kernel_rfl) ?_
 refine qs ?_
 refine qg ?_
 refine og 1 [(0, v), (1, (Value.slice B ss.length d)), (4, (Value.slice none 0 0))] 1 ?_
 refine od ?_
 refine qs ?_
 refine qg ?_
 refine og 4 [(1, (Value.slice B ss.length d)), (4, (Value.slice none 0 0)), (6, v), (9, (Value.int IntKind.u64 (IntKind.u64.wrap (((ss.length : Nat) : Int)))))] 4 ?_
 have e1 : IntKind.u64.wrap (((ss.length : Nat) : Int)) = ((ss.length : Nat) : Int) := wrap_u64 (by omega) (by omega)
 rw [e1]
 refine Ops.call (by kernel_rfl) (d := (some 10)) (by kernel_rfl) (RUint_calls _ v xs ss.length (hv.keep0 (by omega) K0) (by omega) (by (try simp only at *); (try simp only [List.length_append] at *); (try simp only [List.length_cons] at *); (try simp only [List.length_nil] at *); omega)) ?_
 rintro _ w4 ⟨v3, rfl, K5, hO6⟩
 have O7 := own_base hO6 K0.size
 clear hO6
 have hL2 := uv_length_10 (n := ss.length) (by omega)
 refine ⟨_, _, rfl, rfl, ?_⟩
 replace K0 := K0.t0 K5
 clear K5
 refine og 1 [(1, (Value.slice B ss.length d)), (4, (Value.slice none 0 0)), (5, v3)] 6 ?_
 refine od ?_
 refine qs ?_
 refine qg ?_
 refine og 2 [(4, (Value.slice none 0 0)), (5, v3), (11, v3), (12, (Value.slice B ss.length d))] 2 ?_
 obtain ⟨v8, w9, hr10, hO11, K12⟩ := OwnB.app (ty := 22) tyB O7 (hp.keep0 (by omega) K0) (by (try simp only at *); (try simp only [List.length_append] at *); (try simp only [List.length_cons] at *); (try simp only [List.length_nil] at *); omega) K0.size
 refine Ops.go (v := v8) (by kernel_rfl) (Runs.append (ts := #[22, 22]) (ty := 22) (vs := [v3, (Value.slice B ss.length d)]) (by kernel_rfl) hr10) (d := (some 13)) (by kernel_rfl) rfl ?_
 have K13 := Keeps.own2 K0 K12
 clear O7 K0 hr10 K12
 refine og 1 [(4, (Value.slice none 0 0)), (5, v8)] 4 ?_
 refine od ?_
 refine qs ?_
 refine qg ?_
 refine og 2 [(4, v8)] 2 ?_
 refine od ?_
 refine q_ret (by kernel_rfl) ?_
 refine ⟨v8, retv_tmp rfl rfl, ?_⟩
 have hfin : xs ++ uv ss.length ++ ss = xs ++ tv ss := by simp [tv]
 rw [hfin] at hO11
 exact ⟨_, rfl, K13, hO11⟩
end Go.Proofs.YtooginpgclcldaaGreatDoor
