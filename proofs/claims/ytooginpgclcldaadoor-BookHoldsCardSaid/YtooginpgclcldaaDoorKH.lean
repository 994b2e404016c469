/- texts are written -/
import Derived.Test.YtooginpgclcldaaDoorProg
import Derived.Test.YtooginpgclcldaaDoorKD
import Derived.Test.YtooginpgclcldaaDoorKE
import Derived.Test.YtooginpgclcldaaDoorLX
set_option linter.unusedVariables false
namespace Go.Proofs.YtooginpgclcldaaDoor
open Go.Q Go.RowKit

theorem Text_calls (w : World) (v : Value) (xs : List UInt8) (ss : List UInt8) (hv : RdB w v xs) (hs : ss.length ≤ 70368744173568) (hl : xs.length ≤ 70368744173568) : Calls Tryd.prog 45 ⟨[v, (Value.string (str ss))]⟩ w (fun e w' => ∃ v', e = .returned v' ∧ Keeps none_ w w' ∧ OwnB w' w.heap.size 5 v' (xs ++ tv ss)) := by
 have K0 : Keeps none_ w w := Keeps.refl w
 refine q_calls Tryd.func45 (by kernel_rfl) (by kernel_rfl) ?_
 refine qs ?_
 refine qg ?_
 refine og 1 [(0, v), (1, (Value.string (str ss))), (4, (Value.slice none 0 0))] 1 ?_
 refine od ?_
 refine qs ?_
 refine qg ?_
 refine og 4 [(1, (Value.string (str ss))), (4, (Value.slice none 0 0)), (5, v), (8, (Value.int IntKind.u64 (IntKind.u64.wrap (((ss.length : Nat) : Int)))))] 4 ?_
 have e1 : IntKind.u64.wrap (((ss.length : Nat) : Int)) = ((ss.length : Nat) : Int) := wrap_u64 (by omega) (by omega)
 rw [e1]
 refine Ops.call (by kernel_rfl) (d := (some 9)) (by kernel_rfl) (Uint_calls _ v xs ss.length (hv.keep0 (by omega) K0) (by omega) (by (try simp only at *); (try simp only [List.length_append] at *); (try simp only [List.length_cons] at *); (try simp only [List.length_nil] at *); omega)) ?_
 rintro _ w4 ⟨v3, rfl, K5, hO6⟩
 have O7 := own_base hO6 K0.size
 clear hO6
 have hL2 := uv_length_10 (n := ss.length) (by omega)
 refine ⟨_, _, rfl, rfl, ?_⟩
 replace K0 := K0.t0 K5
 clear K5
 refine og 1 [(4, (Value.slice none 0 0)), (9, v3), (10, (Value.string (str ss)))] 6 ?_
 obtain ⟨v8, w9, hr10, hO11, K12⟩ := OwnB.appS (t := 56) (u := 9) (ty := 56) (ys := ss) (by kernel_rfl) O7 (by (try simp only at *); (try simp only [List.length_append] at *); (try simp only [List.length_cons] at *); (try simp only [List.length_nil] at *); omega) K0.size
 refine Ops.go (v := v8) (by kernel_rfl) (Runs.append (ts := #[56, 9]) (ty := 56) (vs := [v3, (Value.string (str ss))]) (by kernel_rfl) hr10) (d := (some 11)) (by kernel_rfl) rfl ?_
 have K13 := Keeps.own2 K0 K12
 clear O7 K0 hr10 K12
 refine og 1 [(4, v8)] 8 ?_
 refine od ?_
 refine q_ret (by kernel_rfl) ?_
 refine ⟨v8, retv_tmp rfl rfl, ?_⟩
 have hfin : xs ++ uv ss.length ++ ss = xs ++ tv ss := by simp [tv]
 rw [hfin] at hO11
 exact ⟨_, rfl, K13, hO11⟩
end Go.Proofs.YtooginpgclcldaaDoor
