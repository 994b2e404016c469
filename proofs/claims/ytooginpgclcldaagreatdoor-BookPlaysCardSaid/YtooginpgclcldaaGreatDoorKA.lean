/- the shelf's contracts: names, keys in order -/
import Derived.Test.YtooginpgclcldaaGreatDoorProg
import Derived.Test.YtooginpgclcldaaGreatDoorOC
import Derived.Test.YtooginpgclcldaaGreatDoorSH
import Derived.Test.YtooginpgclcldaaGreatDoorLX
set_option linter.unusedVariables false
namespace Go.Proofs.YtooginpgclcldaaGreatDoor
open Go.Q Go.RowKit
theorem KT : KeyTy Tryz.prog 9 kstr := keyTy_str Tryz.underlying9

theorem Trim_calls (w : World) (s : List UInt8) (hs : s.length ≤ 9223372036854775807) : Calls Tryz.prog 84 ⟨[.string (str s), .string (str lettersB)]⟩ w (fun e w' => e = .returned (.string (str (Lib.trimS s lettersB))) ∧ Keeps none_ w w') :=
 (Go.Proofs.Any.strings_Trim_laid Go.Proofs.Tryz.trim84 (by kernel_rfl) (str s) (str lettersB) w hs (by decide) (Go.Proofs.ascii_of_all (by decide))).mono fun e w' ⟨he, hb⟩ => ⟨by rw [he]; rfl, Keeps.of_below hb⟩

theorem Name_calls (w : World) (n : List UInt8)  : Calls Tryz.prog 61 ⟨[(Value.string (str n))]⟩ w (fun e w' => e = .returned (.bool (nameOk n)) ∧ Keeps none_ w w') := by
 have K0 : Keeps none_ w w := Keeps.refl w
 refine q_calls Tryz.func61 (by kernel_rfl) (by kernel_rfl) ?_
 refine qs ?_
 refine qg ?_
 refine og 1 [(0, (Value.string (str n))), (2, (Value.bool false))] 1 ?_
 refine od ?_
 refine qs ?_
 refine qg ?_
 refine og 1 [(0, (Value.string (str n))), (2, (Value.bool false)), (3, (Value.string (str n)))] 1 ?_
 refine Ops.go (v := (Value.bool (!(n == ([] : List UInt8))))) (by kernel_rfl) (Runs.strne (t := 9) (by kernel_rfl)) (d := (some 4)) (by kernel_rfl) rfl ?_
 refine og 1 [(0, (Value.string (str n))), (2, (Value.bool false)), (5, (Value.bool (!(n == ([] : List UInt8)))))] 3 ?_
 refine Ops.split (!(n == ([] : List UInt8))) (fun h1 => ?_) (fun h1 => ?_)
 ·rw [h1]
  have p2 : (n == ([] : List UInt8)) = false := (bnot_true h1)
  refine og 5 [(0, (Value.string (str n))), (2, (Value.bool false)), (10, (Value.bool (decide (((n.length : Nat) : Int) ≤ 24))))] 8 ?_
  refine Ops.split (decide (((n.length : Nat) : Int) ≤ 24)) (fun h3 => ?_) (fun h3 => ?_)
  ·rw [h3]
   have p4 : ((n.length : Nat) : Int) ≤ 24 := of_decide_eq_true h3
   refine og 1 [(2, (Value.bool false)), (10, (Value.bool true)), (11, (Value.string (str n)))] 9 ?_
   refine Ops.call (by kernel_rfl) (d := (some 12)) (by kernel_rfl) (Trim_calls _ n (by omega)) ?_
   rintro _ w6 ⟨rfl, K5⟩
   refine ⟨_, _, rfl, rfl, ?_⟩
   replace K0 := K0.t0 K5
   clear K5
   refine Ops.go (v := (Value.bool ((Lib.trimS n lettersB) == ([] : List UInt8)))) (by kernel_rfl) (Runs.streq (t := 9) (by kernel_rfl)) (d := (some 13)) (by kernel_rfl) rfl ?_
   refine og 2 [(2, (Value.bool ((Lib.trimS n lettersB) == ([] : List UInt8))))] 13 ?_
   refine od ?_
   refine q_ret (by kernel_rfl) ?_
   refine ⟨(Value.bool ((Lib.trimS n lettersB) == ([] : List UInt8))), retv_tmp rfl rfl, ?_⟩
   have e : nameOk n = ((Lib.trimS n lettersB) == ([] : List UInt8)) := by unfold nameOk; rw [show decide (1 ≤ n.length ∧ n.length ≤ 24) = true from decide_eq_true ⟨by have := List.length_pos_iff.2 (show n ≠ [] by simp_all); omega, by omega⟩, Bool.true_and]; exact (trim_letters n).symm
   exact ⟨by rw [e], K0⟩
  ·rw [h3]
   have p7 : ¬ (((n.length : Nat) : Int) ≤ 24) := of_decide_eq_false h3
   refine og 5 [(2, (Value.bool false))] 13 ?_
   refine od ?_
   refine q_ret (by kernel_rfl) ?_
   refine ⟨(Value.bool false), retv_tmp rfl rfl, ?_⟩
   have e : nameOk n = false := by unfold nameOk; rw [Bool.and_eq_false_iff]; left; exact decide_eq_false (by intro h; first | omega | (subst_vars; simp at h) | (simp_all))
   exact ⟨by rw [e], K0⟩
 ·rw [h1]
  have p8 : (n == ([] : List UInt8)) = true := (bnot_false h1)
  refine og 10 [(2, (Value.bool false))] 13 ?_
  refine od ?_
  refine q_ret (by kernel_rfl) ?_
  refine ⟨(Value.bool false), retv_tmp rfl rfl, ?_⟩
  have e : nameOk n = false := by unfold nameOk; rw [Bool.and_eq_false_iff]; left; exact decide_eq_false (by intro h; first | omega | (subst_vars; simp at h) | (simp_all))
  exact ⟨by rw [e], K0⟩

theorem Keys_calls (w : World) (mb : Nat) : Calls Tryz.prog 72 ⟨[.map (some mb)]⟩ w (fun e w' => ∃ c, e = .returned (Value.func (Fn.func 89) ⟨[]⟩ ⟨[ptr c]⟩) ∧ Keeps none_ w w' ∧ Has w' c (rowL [.map (some mb)] 64) ∧ c = w.heap.size) :=
 (callsIn_wide.1 (AnyZ.keys_in Go.Proofs.Tryz.keys72 Fence.wide 5 trivial rfl (some mb) w)).mono fun e w' ⟨he, hw⟩ => ⟨_, he, by rw [hw]; exact Keeps.alloc _ _, by rw [hw]; exact Has.new _ _, rfl⟩

theorem Sorts (m : Nat) : AnyZ.SortsIn Tryz.prog Go.Proofs.Tryz.sorted71_ren Fence.wide m :=
 ⟨fun blk off cap ss W hH hblk hsz => callsIn_wide.2 (AnyM.slices_Sort_string Go.Proofs.Tryz.sort88 blk off cap ss W hH hblk hsz), fun p cap W => callsIn_wide.2 (AnyM.slices_Sort_string_none Go.Proofs.Tryz.sort88 p cap W)⟩

theorem Sorted_calls (w : World) (c mb : Nat) (m : List (List UInt8 × AccV)) (S : List AccM) (Hc : Has w c (rowL [.map (some mb)] 64)) (Hm : HasMap w mb kstr accv m) (hB : Book m S) : Calls Tryz.prog 71 ⟨[Value.func (Fn.func 89) ⟨[]⟩ ⟨[ptr c]⟩]⟩ w (fun e w' => ∃ v, e = .returned v ∧ Keeps none_ w w' ∧ OwnT w' w.heap.size 9 1 kcell v (S.map (·.name))) := by
 obtain ⟨D, hown, hk, hs⟩ := Hm.owns (k := 9) Tryz.underlying9 (fun x hx => by have := hB.names_ok x hx; unfold maxLen; omega) (by have := hB.len; have := hB.accs.len; unfold maxLen; omega)
 have hml : m.length ≤ 200 := by have := hB.len; have := hB.accs.len; omega
 have hseq := AnyZ.keys_gives (ρ := Go.Proofs.Tryz.keys72_ren) { Go.Proofs.Tryz.keys72 with } Fence.wide 2 trivial rfl (by omega) c mb m.length D w Hc.lt (by simpa using Hc.cell 0) hown
 have cS := AnyZ.sorted_in Go.Proofs.Tryz.sorted71 Fence.wide 5 trivial trivial trivial trivial rfl (by omega) (Sorts _) (enters_of Tryz.func88 (by kernel_rfl) rfl) 89 #[ptr c] trivial (enters_of Tryz.func89 (by kernel_rfl) rfl) _ (Maps.size D) (by rw [hs]; unfold maxLen; omega) (by rw [hs]; omega) w hseq
 refine (callsIn_wide.1 cS).mono ?_
 rintro e w' ⟨v, ss, rfl, hp, hrow, hnil, hb⟩
 have hp2 : ss.Perm (S.map (·.name)) := (hp.trans hk).trans (by rw [← pair_map_fst]; exact (hB.perm.map (·.1)).symm)
 rw [sorted_names hB.accs.sorted hp2] at hrow
 have hl : ss.length = (S.map (·.name)).length := hp2.length_eq
 refine ⟨v, rfl, Keeps.of_below hb, ?_⟩
 unfold OwnT
 rw [← hl, kcells]
 exact hrow
end Go.Proofs.YtooginpgclcldaaGreatDoor
