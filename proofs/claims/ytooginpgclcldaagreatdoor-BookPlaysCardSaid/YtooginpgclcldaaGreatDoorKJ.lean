/- fixed calls -/
import Derived.Test.YtooginpgclcldaaGreatDoorProg
import Derived.Test.YtooginpgclcldaaGreatDoorKC
import Derived.Test.YtooginpgclcldaaGreatDoorKI
import Derived.Test.YtooginpgclcldaaGreatDoorLX
set_option linter.unusedVariables false
namespace Go.Proofs.YtooginpgclcldaaGreatDoor
open Go.Q Go.RowKit

theorem known_calls (w : World)   : Calls Tryz.prog 10 ⟨[]⟩ w (fun e w' => e = .returned (.bool true) ∧ Keeps none_ w w') := by
 have K0 : Keeps none_ w w := Keeps.refl w
 refine q_calls Tryz.func10 (by kernel_rfl) (by kernel_rfl) ?_
 refine qs ?_
 refine qg ?_
 refine og 1 [(0, (Value.bool false))] 1 ?_
 refine od ?_
 refine qs ?_
 refine qg ?_
 refine Ops.call (by kernel_rfl) (d := (some 4)) (by kernel_rfl) (New_calls _) ?_
 rintro _ w3 ⟨b1, mb2, rfl, K4, H5, Hm6, hb7, hb8, hb9⟩
 have nb1 : w.heap.size ≤ b1 := by have := K0.size; omega
 have nmb2 : w.heap.size ≤ mb2 := by have := K0.size; omega
 refine ⟨_, _, rfl, rfl, ?_⟩
 replace K0 := K0.t0 K4
 clear K4
 refine og 1 [(0, (Value.bool false)), (1, (ptr b1))] 2 ?_
 refine od ?_
 refine qs ?_
 refine qs ?_
 refine qg ?_
 refine og 2 [(0, (Value.bool false)), (1, (ptr b1)), (6, (Value.bool false))] 2 ?_
 refine od ?_
 refine q_else (o := .tmp 6) (by kernel_rfl) rfl ?_
 refine q_skip (by kernel_rfl) ?_
 refine qs ?_
 refine qg ?_
 refine og 1 [(0, (Value.bool false)), (1, (ptr b1)), (7, (ptr b1))] 1 ?_
 refine Ops.call (by kernel_rfl) (d := (some 8)) (by kernel_rfl) (Open_calls _ b1 mb2 [] ([] : List AccM) [97, 110, 110] H5 Hm6 (by omega) Book.nil) ?_
 rintro _ w11 ⟨m10, rfl, K12, H13, hB14⟩
 have hl15 := hB14.len
 refine ⟨_, _, rfl, rfl, ?_⟩
 replace K0 := K0.trans K12 (U := none_) (fun i h1 h2 => h2) (fun i h1 h2 => by have h2 : i = mb2 := h2; exfalso; omega)
 replace H5 := H5.keep K12 (by intro h; change b1 = mb2 at h; omega)
 clear K12
 refine od ?_
 refine qs ?_
 refine qg ?_
 refine og 1 [(0, (Value.bool false)), (1, (ptr b1)), (9, (ptr b1))] 1 ?_
 refine Ops.call (by kernel_rfl) (d := (some 10)) (by kernel_rfl) (Add_calls _ b1 mb2 m10 (putS ([] : List AccM) [97, 110, 110] 0) [97, 110, 110] 5 H5 H13 (by omega) hB14 (by omega)) ?_
 rintro _ w17 ⟨m16, rfl, K18, H19, hB20⟩
 have hl21 := hB20.len
 refine ⟨_, _, rfl, rfl, ?_⟩
 replace K0 := K0.trans K18 (U := none_) (fun i h1 h2 => h2) (fun i h1 h2 => by have h2 : i = mb2 := h2; exfalso; omega)
 replace H5 := H5.keep K18 (by intro h; change b1 = mb2 at h; omega)
 clear K18
 refine od ?_
 refine qs ?_
 refine qg ?_
 refine og 1 [(0, (Value.bool false)), (1, (ptr b1)), (11, (ptr b1))] 1 ?_
 refine Ops.call (by kernel_rfl) (d := (some 12)) (by kernel_rfl) (Take_calls _ b1 mb2 m16 (chgS (addF 5) (putS ([] : List AccM) [97, 110, 110] 0) [97, 110, 110]) [97, 110, 110] 6 H5 H19 (by omega) hB20 (by omega)) ?_
 rintro _ w23 ⟨m22, rfl, K24, H25, hB26⟩
 have hl27 := hB26.len
 refine ⟨_, _, rfl, rfl, ?_⟩
 replace K0 := K0.trans K24 (U := none_) (fun i h1 h2 => h2) (fun i h1 h2 => by have h2 : i = mb2 := h2; exfalso; omega)
 replace H5 := H5.keep K24 (by intro h; change b1 = mb2 at h; omega)
 clear K24
 refine og 1 [(0, (Value.bool false)), (1, (ptr b1)), (2, (i64 (chgE (takeF 6) (chgS (addF 5) (putS ([] : List AccM) [97, 110, 110] 0) [97, 110, 110]) [97, 110, 110])))] 3 ?_
 refine od ?_
 refine qs ?_
 refine qg ?_
 refine og 1 [(0, (Value.bool false)), (1, (ptr b1)), (2, (i64 (chgE (takeF 6) (chgS (addF 5) (putS ([] : List AccM) [97, 110, 110] 0) [97, 110, 110]) [97, 110, 110]))), (13, (ptr b1))] 1 ?_
 refine Ops.call (by kernel_rfl) (d := (some 14)) (by kernel_rfl) (Hold_calls _ b1 mb2 m22 (chgS (takeF 6) (chgS (addF 5) (putS ([] : List AccM) [97, 110, 110] 0) [97, 110, 110]) [97, 110, 110]) [97, 110, 110] [120] H5 H25 (by omega) hB26) ?_
 rintro _ w29 ⟨m28, rfl, K30, H31, hB32⟩
 have hl33 := hB32.len
 refine ⟨_, _, rfl, rfl, ?_⟩
 replace K0 := K0.trans K30 (U := none_) (fun i h1 h2 => h2) (fun i h1 h2 => by have h2 : i = mb2 := h2; exfalso; omega)
 replace H5 := H5.keep K30 (by intro h; change b1 = mb2 at h; omega)
 clear K30
 refine od ?_
 refine qs ?_
 refine qg ?_
 refine og 1 [(0, (Value.bool false)), (1, (ptr b1)), (2, (i64 (chgE (takeF 6) (chgS (addF 5) (putS ([] : List AccM) [97, 110, 110] 0) [97, 110, 110]) [97, 110, 110]))), (15, (ptr b1))] 1 ?_
 refine Ops.call (by kernel_rfl) (d := (some 16)) (by kernel_rfl) (Hold_calls _ b1 mb2 m28 (chgS (holdF [120]) (chgS (takeF 6) (chgS (addF 5) (putS ([] : List AccM) [97, 110, 110] 0) [97, 110, 110]) [97, 110, 110]) [97, 110, 110]) [97, 110, 110] [121] H5 H31 (by omega) hB32) ?_
 rintro _ w35 ⟨m34, rfl, K36, H37, hB38⟩
 have hl39 := hB38.len
 refine ⟨_, _, rfl, rfl, ?_⟩
 replace K0 := K0.trans K36 (U := none_) (fun i h1 h2 => h2) (fun i h1 h2 => by have h2 : i = mb2 := h2; exfalso; omega)
 replace H5 := H5.keep K36 (by intro h; change b1 = mb2 at h; omega)
 clear K36
 refine og 1 [(0, (Value.bool false)), (1, (ptr b1)), (2, (i64 (chgE (takeF 6) (chgS (addF 5) (putS ([] : List AccM) [97, 110, 110] 0) [97, 110, 110]) [97, 110, 110]))), (3, (i64 (chgE (holdF [121]) (chgS (holdF [120]) (chgS (takeF 6) (chgS (addF 5) (putS ([] : List AccM) [97, 110, 110] 0) [97, 110, 110]) [97, 110, 110]) [97, 110, 110]) [97, 110, 110])))] 3 ?_
 refine od ?_
 refine qs ?_
 refine qg ?_
 refine og 3 [(0, (Value.bool false)), (1, (ptr b1)), (3, (i64 (chgE (holdF [121]) (chgS (holdF [120]) (chgS (takeF 6) (chgS (addF 5) (putS ([] : List AccM) [97, 110, 110] 0) [97, 110, 110]) [97, 110, 110]) [97, 110, 110]) [97, 110, 110]))), (19, (Value.bool ((chgE (takeF 6) (chgS (addF 5) (putS ([] : List AccM) [97, 110, 110] 0) [97, 110, 110]) [97, 110, 110]) == 42)))] 3 ?_
 have h40 : ((chgE (takeF 6) (chgS (addF 5) (putS ([] : List AccM) [97, 110, 110] 0) [97, 110, 110]) [97, 110, 110]) == 42) = true := beq_t knownS_1
 rw [h40]
 refine og 4 [(0, (Value.bool false)), (1, (ptr b1)), (23, (Value.bool ((chgE (holdF [121]) (chgS (holdF [120]) (chgS (takeF 6) (chgS (addF 5) (putS ([] : List AccM) [97, 110, 110] 0) [97, 110, 110]) [97, 110, 110]) [97, 110, 110]) [97, 110, 110]) == 5)))] 7 ?_
 have h41 : ((chgE (holdF [121]) (chgS (holdF [120]) (chgS (takeF 6) (chgS (addF 5) (putS ([] : List AccM) [97, 110, 110] 0) [97, 110, 110]) [97, 110, 110]) [97, 110, 110]) [97, 110, 110]) == 5) = true := beq_t knownS_2
 rw [h41]
 refine og 1 [(0, (Value.bool false)), (23, (Value.bool true)), (24, (ptr b1))] 8 ?_
 refine Ops.call (by kernel_rfl) (d := (some 25)) (by kernel_rfl) (Bytes_calls _ b1 mb2 m34 (chgS (holdF [121]) (chgS (holdF [120]) (chgS (takeF 6) (chgS (addF 5) (putS ([] : List AccM) [97, 110, 110] 0) [97, 110, 110]) [97, 110, 110]) [97, 110, 110]) [97, 110, 110]) H5 H37 (by omega) hB38) ?_
 rintro _ w43 ⟨v42, rfl, K44, hO45⟩
 have ob47 : ∀ i, (v42).ownBlock = some i → i ≠ b1 := fun i hi => by have := (World.ownsRow.lt hO45 i hi).1; have := H5.lt; omega
 have ob48 : ∀ i, (v42).ownBlock = some i → i ≠ mb2 := fun i hi => by have := (World.ownsRow.lt hO45 i hi).1; have := H37.lt; omega
 have O46 := own_base hO45 K0.size
 clear hO45
 refine ⟨_, _, rfl, rfl, ?_⟩
 replace K0 := K0.t0 K44
 replace H5 := H5.keep K44 (fun h => h)
 replace H37 := H37.keep K44 (fun h => h)
 clear K44
 refine Ops.go (v := (Value.string (str (bookB (chgS (holdF [121]) (chgS (holdF [120]) (chgS (takeF 6) (chgS (addF 5) (putS ([] : List AccM) [97, 110, 110] 0) [97, 110, 110]) [97, 110, 110]) [97, 110, 110]) [97, 110, 110]))))) (by kernel_rfl) (Runs.b2s (s := 22) (d := 9) (e := 5) (by kernel_rfl) (by kernel_rfl) (by kernel_rfl) (OwnB.rd O46)) (d := (some 26)) (by kernel_rfl) rfl ?_
 refine Ops.go (v := (Value.bool ((bookB (chgS (holdF [121]) (chgS (holdF [120]) (chgS (takeF 6) (chgS (addF 5) (putS ([] : List AccM) [97, 110, 110] 0) [97, 110, 110]) [97, 110, 110]) [97, 110, 110]) [97, 110, 110])) == [1, 3, 97, 110, 110, 10, 1, 120]))) (by kernel_rfl) (Runs.streq (t := 9) (by kernel_rfl)) (d := (some 27)) (by kernel_rfl) rfl ?_
 refine og 2 [(0, (Value.bool ((bookB (chgS (holdF [121]) (chgS (holdF [120]) (chgS (takeF 6) (chgS (addF 5) (putS ([] : List AccM) [97, 110, 110] 0) [97, 110, 110]) [97, 110, 110]) [97, 110, 110]) [97, 110, 110])) == [1, 3, 97, 110, 110, 10, 1, 120])))] 13 ?_
 refine od ?_
 refine q_ret (by kernel_rfl) ?_
 refine ⟨(Value.bool ((bookB (chgS (holdF [121]) (chgS (holdF [120]) (chgS (takeF 6) (chgS (addF 5) (putS ([] : List AccM) [97, 110, 110] 0) [97, 110, 110]) [97, 110, 110]) [97, 110, 110]) [97, 110, 110])) == [1, 3, 97, 110, 110, 10, 1, 120])), retv_tmp rfl rfl, ?_⟩
 exact ⟨by rw [show ((bookB (chgS (holdF [121]) (chgS (holdF [120]) (chgS (takeF 6) (chgS (addF 5) (putS ([] : List AccM) [97, 110, 110] 0) [97, 110, 110]) [97, 110, 110]) [97, 110, 110]) [97, 110, 110])) == [1, 3, 97, 110, 110, 10, 1, 120]) = true from knownS_t], K0⟩
end Go.Proofs.YtooginpgclcldaaGreatDoor
