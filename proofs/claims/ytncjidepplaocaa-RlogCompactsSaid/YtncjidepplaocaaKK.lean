/- entries of terms -/
import Derived.Test.YtncjidepplaocaaProg
import Derived.Test.YtncjidepplaocaaKA
import Derived.Test.YtncjidepplaocaaLX
set_option linter.unusedVariables false
namespace Go.Proofs.Ytncjidepplaocaa
open Go.Q Go.RowKit

set_option maxHeartbeats 400000 in
theorem terms1_calls (w : World) (b : Nat) (t0 : Int) (H0 : Has w b (rowL [i64 t0] 2)) : Calls Try.prog 26 ⟨[(Value.slice (some ⟨b, 0, none⟩) 1 1)]⟩ w (fun e w' => ∃ l' A' c', e = .returned (.slice A' l'.length c') ∧ Keeps none_ w w' ∧ Ents w' (fun i => w.heap.size ≤ i ∧ i < w'.heap.size) (.slice A' l'.length c') l' ∧ l'.map EntP.key = [(t0, [byte 0])]) := by
 have K0 : Keeps none_ w w := Keeps.refl w
 have Hb := H0.lt
 refine q_calls Try.func26 (by kernel_rfl) (by kernel_rfl) ?_
 refine qs ?_
 refine qg ?_
 refine og 1 [(0, (Value.slice (some ⟨b, 0, none⟩) 1 1)), (2, (Value.slice none 0 0))] 1 ?_
 refine od ?_
 refine qs ?_
 refine qg ?_
 refine og 1 [(0, (Value.slice (some ⟨b, 0, none⟩) 1 1)), (2, (Value.slice none 0 0)), (3, (Value.slice none 0 0))] 1 ?_
 refine od ?_
 refine qs ?_
 refine qs ?_
 refine qg ?_
 refine og 1 [(0, (Value.slice (some ⟨b, 0, none⟩) 1 1)), (2, (Value.slice none 0 0)), (3, (Value.slice none 0 0)), (4, (i64 0))] 1 ?_
 refine od ?_
 refine q_block (id := 0) (by kernel_rfl) ?_
 refine q_roll 2 (by kernel_rfl) ?_
 refine roll_step ?_
 refine qs ?_
 refine qs ?_
 refine qg ?_
 refine og 4 [(0, (Value.slice (some ⟨b, 0, none⟩) 1 1)), (2, (Value.slice none 0 0)), (3, (Value.slice none 0 0)), (4, (i64 0)), (8, (Value.bool true))] 4 ?_
 refine od ?_
 refine q_then (o := .tmp 8) (by kernel_rfl) rfl ?_
 refine q_skip (by kernel_rfl) ?_
 refine qs ?_
 refine q_block (id := 1) (by kernel_rfl) ?_
 refine qg ?_
 refine og 4 [(0, (Value.slice (some ⟨b, 0, none⟩) 1 1)), (2, (Value.slice none 0 0)), (3, (Value.slice none 0 0)), (4, (i64 0)), (8, (Value.bool true)), (11, (Value.slice none 0 0)), (14, (ptr b))] 4 ?_
 refine Ops.go (v := (i64 t0)) (by kernel_rfl) (Runs.load (t := 2) (a := ⟨b, 0, none⟩) (by kernel_rfl) (H0.loads (by kernel_rfl))) (d := (some 15)) (by kernel_rfl) rfl ?_
 refine og 2 [(0, (Value.slice (some ⟨b, 0, none⟩) 1 1)), (2, (Value.slice none 0 0)), (3, (Value.slice none 0 0)), (4, (i64 0)), (8, (Value.bool true)), (11, (Value.slice none 0 0)), (15, (i64 t0)), (17, (Value.int IntKind.u8 0))] 7 ?_
 refine Ops.new (o := rowL [(Value.int IntKind.u8 0)] 5) (V := fun b => (Value.slice (some ⟨b, 0, none⟩) 1 1)) (by kernel_rfl) (d := (some 18)) (by kernel_rfl) (fun b => rfl) (fun b1 w2 hb3 H4 K5 hs6 => ?_)
 have lb1b : b < b1 := by have := H0.lt; omega
 have nb1 : w.heap.size ≤ b1 := by have := K0.size; omega
 replace K0 := K0.t0 K5
 replace H0 := H0.keep K5 (fun h => h)
 clear K5 hs6
 refine og 1 [(0, (Value.slice (some ⟨b, 0, none⟩) 1 1)), (2, (Value.slice none 0 0)), (3, (Value.slice none 0 0)), (4, (i64 0)), (8, (Value.bool true)), (11, (Value.slice none 0 0)), (19, (agg [(i64 t0), (Value.slice (some ⟨b1, 0, none⟩) 1 1)]))] 9 ?_
 refine Ops.new (o := rowL [(i64 t0), (Value.slice (some ⟨b1, 0, none⟩) 1 1)] 43) (V := fun b => (Value.slice (some ⟨b, 0, none⟩) 1 1)) (by kernel_rfl) (d := (some 20)) (by kernel_rfl) (fun b => rfl) (fun b7 w8 hb9 H10 K11 hs12 => ?_)
 have lb7b : b < b7 := by have := H0.lt; omega
 have lb7b1 : b1 < b7 := by have := H4.lt; omega
 have nb7 : w.heap.size ≤ b7 := by have := K0.size; omega
 replace K0 := K0.t0 K11
 replace H0 := H0.keep K11 (fun h => h)
 replace H4 := H4.keep K11 (fun h => h)
 clear K11 hs12
 obtain ⟨v13, w14, hr15, hO16, hK17, hg18⟩ := OwnT.app (ty := 22) EntP.two EntP.one tyE (OwnT.nil _ w.heap.size 43 2 EntP.cells) (show RdT _ 2 EntP.cells _ [(⟨t0, some ⟨b1, 0, none⟩, 1, [byte 0]⟩ : EntP)] from Rd.lit H10 (n := 1) rfl (by decide)) (by simp only [List.length_cons, List.length_nil]; omega) (by simp only [List.length_cons, List.length_nil]; omega) K0.size
 obtain ⟨A20, c21, rfl⟩ := RdT.form EntP.two (by decide) (OwnT.rd hO16)
 obtain ⟨l22, hl23⟩ : ∃ z, z = [] ++ [(⟨t0, some ⟨b1, 0, none⟩, 1, [byte 0]⟩ : EntP)] := ⟨_, rfl⟩
 rw [← hl23] at hr15 hO16 hg18
 have hn24 : l22.length = 1 := by rw [hl23, List.length_append]; rfl
 have ob25 : ∀ i, ((Value.slice A20 l22.length c21)).ownBlock = some i → i ≠ b := fun i hi => by rcases hg18 i hi with h | h; (cases h); (have := H0.lt; omega)
 have ob26 : ∀ i, ((Value.slice A20 l22.length c21)).ownBlock = some i → i ≠ b1 := fun i hi => by rcases hg18 i hi with h | h; (cases h); (have := H4.lt; omega)
 have ob27 : ∀ i, ((Value.slice A20 l22.length c21)).ownBlock = some i → i ≠ b7 := fun i hi => by rcases hg18 i hi with h | h; (cases h); (have := H10.lt; omega)
 have K19 := Keeps.mono (U := none_) hK17 (fun _ _ h => by cases h)
 refine Ops.go (v := (Value.slice A20 l22.length c21)) (by kernel_rfl) (Runs.append (ts := #[22, 22]) (ty := 22) (vs := [(Value.slice none 0 0), (Value.slice (some ⟨b7, 0, none⟩) 1 1)]) (by kernel_rfl) hr15) (d := (some 21)) (by kernel_rfl) rfl ?_
 replace K0 := K0.t0 K19
 replace H0 := H0.keep K19 (fun h => h)
 replace H4 := H4.keep K19 (fun h => h)
 replace H10 := H10.keep K19 (fun h => h)
 clear K19 hr15 hK17 hg18
 refine og 1 [(0, (Value.slice (some ⟨b, 0, none⟩) 1 1)), (2, (Value.slice none 0 0)), (3, (Value.slice A20 l22.length c21)), (4, (i64 0)), (8, (Value.bool true))] 12 ?_
 refine od ?_
 refine qg ?_
 refine og 3 [(0, (Value.slice (some ⟨b, 0, none⟩) 1 1)), (2, (Value.slice none 0 0)), (3, (Value.slice A20 l22.length c21)), (4, (i64 1)), (8, (Value.bool true))] 3 ?_
 refine od ?_
 refine roll_step ?_
 refine qs ?_
 refine qs ?_
 refine qg ?_
 refine og 4 [(0, (Value.slice (some ⟨b, 0, none⟩) 1 1)), (2, (Value.slice none 0 0)), (3, (Value.slice A20 l22.length c21)), (4, (i64 1)), (8, (Value.bool false))] 4 ?_
 refine od ?_
 refine q_else (o := .tmp 8) (by kernel_rfl) rfl ?_
 refine q_exit (id := 0) (by kernel_rfl) ?_
 refine qs ?_
 refine qg ?_
 refine og 2 [(2, (Value.slice A20 l22.length c21))] 2 ?_
 refine od ?_
 refine q_ret (by kernel_rfl) ?_
 refine ⟨(Value.slice A20 l22.length c21), retv_tmp rfl rfl, ?_⟩
 have hall : l22 = [(⟨t0, some ⟨b1, 0, none⟩, 1, [byte 0]⟩ : EntP)] := by rw [hl23]; rfl
 refine ⟨l22, A20, c21, rfl, K0, ⟨OwnT.rd hO16, ?_, fun _ i hi => World.ownsRow.lt hO16 i hi, ?_, fun i hi => hi.2⟩, by rw [hall]; rfl⟩
 ·intro x hx
  rw [hall] at hx
  simp only [List.mem_cons, List.not_mem_nil, or_false] at hx
  rcases hx with rfl
  ·exact RdB.lit (xs := [byte 0]) (show Has _ b1 (rowL (bv [byte 0]) 5) from H4) (by decide)
 ·intro x hx _ i hi
  rw [hall] at hx
  simp only [List.mem_cons, List.not_mem_nil, or_false] at hx
  rcases hx with rfl
  ·have hi : b1 = i := by simpa [Value.ownBlock] using hi
   have := H4.lt; exact ⟨by omega, by omega⟩

set_option maxHeartbeats 400000 in
theorem terms3_calls (w : World) (b : Nat) (t0 t1 t2 : Int) (H0 : Has w b (rowL [i64 t0, i64 t1, i64 t2] 2)) : Calls Try.prog 26 ⟨[(Value.slice (some ⟨b, 0, none⟩) 3 3)]⟩ w (fun e w' => ∃ l' A' c', e = .returned (.slice A' l'.length c') ∧ Keeps none_ w w' ∧ Ents w' (fun i => w.heap.size ≤ i ∧ i < w'.heap.size) (.slice A' l'.length c') l' ∧ l'.map EntP.key = [(t0, [byte 0]), (t1, [byte 1]), (t2, [byte 2])]) := by
 have K0 : Keeps none_ w w := Keeps.refl w
 have Hb := H0.lt
 refine q_calls Try.func26 (by kernel_rfl) (by kernel_rfl) ?_
 refine qs ?_
 refine qg ?_
 refine og 1 [(0, (Value.slice (some ⟨b, 0, none⟩) 3 3)), (2, (Value.slice none 0 0))] 1 ?_
 refine od ?_
 refine qs ?_
 refine qg ?_
 refine og 1 [(0, (Value.slice (some ⟨b, 0, none⟩) 3 3)), (2, (Value.slice none 0 0)), (3, (Value.slice none 0 0))] 1 ?_
 refine od ?_
 refine qs ?_
 refine qs ?_
 refine qg ?_
 refine og 1 [(0, (Value.slice (some ⟨b, 0, none⟩) 3 3)), (2, (Value.slice none 0 0)), (3, (Value.slice none 0 0)), (4, (i64 0))] 1 ?_
 refine od ?_
 refine q_block (id := 0) (by kernel_rfl) ?_
 refine q_roll 4 (by kernel_rfl) ?_
 refine roll_step ?_
 refine qs ?_
 refine qs ?_
 refine qg ?_
 refine og 4 [(0, (Value.slice (some ⟨b, 0, none⟩) 3 3)), (2, (Value.slice none 0 0)), (3, (Value.slice none 0 0)), (4, (i64 0)), (8, (Value.bool true))] 4 ?_
 refine od ?_
 refine q_then (o := .tmp 8) (by kernel_rfl) rfl ?_
 refine q_skip (by kernel_rfl) ?_
 refine qs ?_
 refine q_block (id := 1) (by kernel_rfl) ?_
 refine qg ?_
 refine og 4 [(0, (Value.slice (some ⟨b, 0, none⟩) 3 3)), (2, (Value.slice none 0 0)), (3, (Value.slice none 0 0)), (4, (i64 0)), (8, (Value.bool true)), (11, (Value.slice none 0 0)), (14, (ptr b))] 4 ?_
 refine Ops.go (v := (i64 t0)) (by kernel_rfl) (Runs.load (t := 2) (a := ⟨b, 0, none⟩) (by kernel_rfl) (H0.loads (by kernel_rfl))) (d := (some 15)) (by kernel_rfl) rfl ?_
 refine og 2 [(0, (Value.slice (some ⟨b, 0, none⟩) 3 3)), (2, (Value.slice none 0 0)), (3, (Value.slice none 0 0)), (4, (i64 0)), (8, (Value.bool true)), (11, (Value.slice none 0 0)), (15, (i64 t0)), (17, (Value.int IntKind.u8 0))] 7 ?_
 refine Ops.new (o := rowL [(Value.int IntKind.u8 0)] 5) (V := fun b => (Value.slice (some ⟨b, 0, none⟩) 1 1)) (by kernel_rfl) (d := (some 18)) (by kernel_rfl) (fun b => rfl) (fun b1 w2 hb3 H4 K5 hs6 => ?_)
 have lb1b : b < b1 := by have := H0.lt; omega
 have nb1 : w.heap.size ≤ b1 := by have := K0.size; omega
 replace K0 := K0.t0 K5
 replace H0 := H0.keep K5 (fun h => h)
 clear K5 hs6
 refine og 1 [(0, (Value.slice (some ⟨b, 0, none⟩) 3 3)), (2, (Value.slice none 0 0)), (3, (Value.slice none 0 0)), (4, (i64 0)), (8, (Value.bool true)), (11, (Value.slice none 0 0)), (19, (agg [(i64 t0), (Value.slice (some ⟨b1, 0, none⟩) 1 1)]))] 9 ?_
 refine Ops.new (o := rowL [(i64 t0), (Value.slice (some ⟨b1, 0, none⟩) 1 1)] 43) (V := fun b => (Value.slice (some ⟨b, 0, none⟩) 1 1)) (by kernel_rfl) (d := (some 20)) (by kernel_rfl) (fun b => rfl) (fun b7 w8 hb9 H10 K11 hs12 => ?_)
 have lb7b : b < b7 := by have := H0.lt; omega
 have lb7b1 : b1 < b7 := by have := H4.lt; omega
 have nb7 : w.heap.size ≤ b7 := by have := K0.size; omega
 replace K0 := K0.t0 K11
 replace H0 := H0.keep K11 (fun h => h)
 replace H4 := H4.keep K11 (fun h => h)
 clear K11 hs12
 obtain ⟨v13, w14, hr15, hO16, hK17, hg18⟩ := OwnT.app (ty := 22) EntP.two EntP.one tyE (OwnT.nil _ w.heap.size 43 2 EntP.cells) (show RdT _ 2 EntP.cells _ [(⟨t0, some ⟨b1, 0, none⟩, 1, [byte 0]⟩ : EntP)] from Rd.lit H10 (n := 1) rfl (by decide)) (by simp only [List.length_cons, List.length_nil]; omega) (by simp only [List.length_cons, List.length_nil]; omega) K0.size
 obtain ⟨A20, c21, rfl⟩ := RdT.form EntP.two (by decide) (OwnT.rd hO16)
 obtain ⟨l22, hl23⟩ : ∃ z, z = [] ++ [(⟨t0, some ⟨b1, 0, none⟩, 1, [byte 0]⟩ : EntP)] := ⟨_, rfl⟩
 rw [← hl23] at hr15 hO16 hg18
 have hn24 : l22.length = 1 := by rw [hl23, List.length_append]; rfl
 have ob25 : ∀ i, ((Value.slice A20 l22.length c21)).ownBlock = some i → i ≠ b := fun i hi => by rcases hg18 i hi with h | h; (cases h); (have := H0.lt; omega)
 have ob26 : ∀ i, ((Value.slice A20 l22.length c21)).ownBlock = some i → i ≠ b1 := fun i hi => by rcases hg18 i hi with h | h; (cases h); (have := H4.lt; omega)
 have ob27 : ∀ i, ((Value.slice A20 l22.length c21)).ownBlock = some i → i ≠ b7 := fun i hi => by rcases hg18 i hi with h | h; (cases h); (have := H10.lt; omega)
 have K19 := Keeps.mono (U := none_) hK17 (fun _ _ h => by cases h)
 refine Ops.go (v := (Value.slice A20 l22.length c21)) (by kernel_rfl) (Runs.append (ts := #[22, 22]) (ty := 22) (vs := [(Value.slice none 0 0), (Value.slice (some ⟨b7, 0, none⟩) 1 1)]) (by kernel_rfl) hr15) (d := (some 21)) (by kernel_rfl) rfl ?_
 replace K0 := K0.t0 K19
 replace H0 := H0.keep K19 (fun h => h)
 replace H4 := H4.keep K19 (fun h => h)
 replace H10 := H10.keep K19 (fun h => h)
 clear K19 hr15 hK17 hg18
 refine og 1 [(0, (Value.slice (some ⟨b, 0, none⟩) 3 3)), (2, (Value.slice none 0 0)), (3, (Value.slice A20 l22.length c21)), (4, (i64 0)), (8, (Value.bool true))] 12 ?_
 refine od ?_
 refine qg ?_
 refine og 3 [(0, (Value.slice (some ⟨b, 0, none⟩) 3 3)), (2, (Value.slice none 0 0)), (3, (Value.slice A20 l22.length c21)), (4, (i64 1)), (8, (Value.bool true))] 3 ?_
 refine od ?_
 refine roll_step ?_
 refine qs ?_
 refine qs ?_
 refine qg ?_
 refine og 4 [(0, (Value.slice (some ⟨b, 0, none⟩) 3 3)), (2, (Value.slice none 0 0)), (3, (Value.slice A20 l22.length c21)), (4, (i64 1)), (8, (Value.bool true))] 4 ?_
 refine od ?_
 refine q_then (o := .tmp 8) (by kernel_rfl) rfl ?_
 refine q_skip (by kernel_rfl) ?_
 refine qs ?_
 refine q_block (id := 1) (by kernel_rfl) ?_
 refine qg ?_
 refine og 4 [(0, (Value.slice (some ⟨b, 0, none⟩) 3 3)), (2, (Value.slice none 0 0)), (3, (Value.slice A20 l22.length c21)), (4, (i64 1)), (8, (Value.bool true)), (11, (Value.slice A20 l22.length c21)), (14, (Value.pointer (some ⟨b, 1, none⟩)))] 4 ?_
 refine Ops.go (v := (i64 t1)) (by kernel_rfl) (Runs.load (t := 2) (a := ⟨b, 1, none⟩) (by kernel_rfl) (H0.loads (by kernel_rfl))) (d := (some 15)) (by kernel_rfl) rfl ?_
 refine og 2 [(0, (Value.slice (some ⟨b, 0, none⟩) 3 3)), (2, (Value.slice none 0 0)), (3, (Value.slice A20 l22.length c21)), (4, (i64 1)), (8, (Value.bool true)), (11, (Value.slice A20 l22.length c21)), (15, (i64 t1)), (17, (Value.int IntKind.u8 1))] 7 ?_
 refine Ops.new (o := rowL [(Value.int IntKind.u8 1)] 5) (V := fun b => (Value.slice (some ⟨b, 0, none⟩) 1 1)) (by kernel_rfl) (d := (some 18)) (by kernel_rfl) (fun b => rfl) (fun b28 w29 hb30 H31 K32 hs33 => ?_)
 have lb28b : b < b28 := by have := H0.lt; omega
 have lb28b1 : b1 < b28 := by have := H4.lt; omega
 have lb28b7 : b7 < b28 := by have := H10.lt; omega
 have nb28 : w.heap.size ≤ b28 := by have := K0.size; omega
 have ob34 : ∀ i, ((Value.slice A20 l22.length c21)).ownBlock = some i → i < b28 := fun i hi => by have := (World.ownsRow.lt hO16 i hi).2; omega
 replace K0 := K0.t0 K32
 replace H0 := H0.keep K32 (fun h => h)
 replace H4 := H4.keep K32 (fun h => h)
 replace H10 := H10.keep K32 (fun h => h)
 replace hO16 := own_keep0 hO16 K32
 clear K32 hs33
 refine og 1 [(0, (Value.slice (some ⟨b, 0, none⟩) 3 3)), (2, (Value.slice none 0 0)), (3, (Value.slice A20 l22.length c21)), (4, (i64 1)), (8, (Value.bool true)), (11, (Value.slice A20 l22.length c21)), (19, (agg [(i64 t1), (Value.slice (some ⟨b28, 0, none⟩) 1 1)]))] 9 ?_
 refine Ops.new (o := rowL [(i64 t1), (Value.slice (some ⟨b28, 0, none⟩) 1 1)] 43) (V := fun b => (Value.slice (some ⟨b, 0, none⟩) 1 1)) (by kernel_rfl) (d := (some 20)) (by kernel_rfl) (fun b => rfl) (fun b35 w36 hb37 H38 K39 hs40 => ?_)
 have lb35b : b < b35 := by have := H0.lt; omega
 have lb35b1 : b1 < b35 := by have := H4.lt; omega
 have lb35b7 : b7 < b35 := by have := H10.lt; omega
 have lb35b28 : b28 < b35 := by have := H31.lt; omega
 have nb35 : w.heap.size ≤ b35 := by have := K0.size; omega
 have ob41 : ∀ i, ((Value.slice A20 l22.length c21)).ownBlock = some i → i < b35 := fun i hi => by have := (World.ownsRow.lt hO16 i hi).2; omega
 replace K0 := K0.t0 K39
 replace H0 := H0.keep K39 (fun h => h)
 replace H4 := H4.keep K39 (fun h => h)
 replace H10 := H10.keep K39 (fun h => h)
 replace H31 := H31.keep K39 (fun h => h)
 replace hO16 := own_keep0 hO16 K39
 clear K39 hs40
 obtain ⟨v42, w43, hr44, hO45, hK46, hg47⟩ := OwnT.app (ty := 22) EntP.two EntP.one tyE hO16 (show RdT _ 2 EntP.cells _ [(⟨t1, some ⟨b28, 0, none⟩, 1, [byte 1]⟩ : EntP)] from Rd.lit H38 (n := 1) rfl (by decide)) (by simp only [List.length_cons, List.length_nil]; omega) (by simp only [List.length_cons, List.length_nil]; omega) K0.size
 obtain ⟨A49, c50, rfl⟩ := RdT.form EntP.two (by decide) (OwnT.rd hO45)
 obtain ⟨l51, hl52⟩ : ∃ z, z = l22 ++ [(⟨t1, some ⟨b28, 0, none⟩, 1, [byte 1]⟩ : EntP)] := ⟨_, rfl⟩
 rw [← hl52] at hr44 hO45 hg47
 have hn53 : l51.length = 2 := by rw [hl52, List.length_append, hn24]; rfl
 have ob54 : ∀ i, ((Value.slice A49 l51.length c50)).ownBlock = some i → i ≠ b := fun i hi => by rcases hg47 i hi with h | h; (have := ob25 i h; omega); (have := H0.lt; omega)
 have ob55 : ∀ i, ((Value.slice A49 l51.length c50)).ownBlock = some i → i ≠ b1 := fun i hi => by rcases hg47 i hi with h | h; (have := ob26 i h; omega); (have := H4.lt; omega)
 have ob56 : ∀ i, ((Value.slice A49 l51.length c50)).ownBlock = some i → i ≠ b7 := fun i hi => by rcases hg47 i hi with h | h; (have := ob27 i h; omega); (have := H10.lt; omega)
 have ob57 : ∀ i, ((Value.slice A49 l51.length c50)).ownBlock = some i → i ≠ b28 := fun i hi => by rcases hg47 i hi with h | h; (have := ob34 i h; omega); (have := H31.lt; omega)
 have ob58 : ∀ i, ((Value.slice A49 l51.length c50)).ownBlock = some i → i ≠ b35 := fun i hi => by rcases hg47 i hi with h | h; (have := ob41 i h; omega); (have := H38.lt; omega)
 have K48 := hK46
 refine Ops.go (v := (Value.slice A49 l51.length c50)) (by kernel_rfl) (Runs.append (ts := #[22, 22]) (ty := 22) (vs := [(Value.slice A20 l22.length c21), (Value.slice (some ⟨b35, 0, none⟩) 1 1)]) (by kernel_rfl) hr44) (d := (some 21)) (by kernel_rfl) rfl ?_
 replace K0 := K0.trans K48 (U := none_) (fun i h1 h2 => h2) (fun i h1 h2 => by have h2 : ((Value.slice A20 l22.length c21)).ownBlock = some i := h2; exfalso; have := (World.ownsRow.lt hO16 i h2).1; omega)
 replace H0 := H0.keep K48 (by intro h; change ((Value.slice A20 l22.length c21)).ownBlock = some b at h; have := ob25 b h; omega)
 replace H4 := H4.keep K48 (by intro h; change ((Value.slice A20 l22.length c21)).ownBlock = some b1 at h; have := ob26 b1 h; omega)
 replace H10 := H10.keep K48 (by intro h; change ((Value.slice A20 l22.length c21)).ownBlock = some b7 at h; have := ob27 b7 h; omega)
 replace H31 := H31.keep K48 (by intro h; change ((Value.slice A20 l22.length c21)).ownBlock = some b28 at h; have := ob34 b28 h; omega)
 replace H38 := H38.keep K48 (by intro h; change ((Value.slice A20 l22.length c21)).ownBlock = some b35 at h; have := ob41 b35 h; omega)
 clear hO16
 clear K48 hr44 hK46 hg47
 refine og 1 [(0, (Value.slice (some ⟨b, 0, none⟩) 3 3)), (2, (Value.slice none 0 0)), (3, (Value.slice A49 l51.length c50)), (4, (i64 1)), (8, (Value.bool true))] 12 ?_
 refine od ?_
 refine qg ?_
 refine og 3 [(0, (Value.slice (some ⟨b, 0, none⟩) 3 3)), (2, (Value.slice none 0 0)), (3, (Value.slice A49 l51.length c50)), (4, (i64 2)), (8, (Value.bool true))] 3 ?_
 refine od ?_
 refine roll_step ?_
 refine qs ?_
 refine qs ?_
 refine qg ?_
 refine og 4 [(0, (Value.slice (some ⟨b, 0, none⟩) 3 3)), (2, (Value.slice none 0 0)), (3, (Value.slice A49 l51.length c50)), (4, (i64 2)), (8, (Value.bool true))] 4 ?_
 refine od ?_
 refine q_then (o := .tmp 8) (by kernel_rfl) rfl ?_
 refine q_skip (by kernel_rfl) ?_
 refine qs ?_
 refine q_block (id := 1) (by kernel_rfl) ?_
 refine qg ?_
 refine og 4 [(0, (Value.slice (some ⟨b, 0, none⟩) 3 3)), (2, (Value.slice none 0 0)), (3, (Value.slice A49 l51.length c50)), (4, (i64 2)), (8, (Value.bool true)), (11, (Value.slice A49 l51.length c50)), (14, (Value.pointer (some ⟨b, 2, none⟩)))] 4 ?_
 refine Ops.go (v := (i64 t2)) (by kernel_rfl) (Runs.load (t := 2) (a := ⟨b, 2, none⟩) (by kernel_rfl) (H0.loads (by kernel_rfl))) (d := (some 15)) (by kernel_rfl) rfl ?_
 refine og 2 [(0, (Value.slice (some ⟨b, 0, none⟩) 3 3)), (2, (Value.slice none 0 0)), (3, (Value.slice A49 l51.length c50)), (4, (i64 2)), (8, (Value.bool true)), (11, (Value.slice A49 l51.length c50)), (15, (i64 t2)), (17, (Value.int IntKind.u8 2))] 7 ?_
 refine Ops.new (o := rowL [(Value.int IntKind.u8 2)] 5) (V := fun b => (Value.slice (some ⟨b, 0, none⟩) 1 1)) (by kernel_rfl) (d := (some 18)) (by kernel_rfl) (fun b => rfl) (fun b59 w60 hb61 H62 K63 hs64 => ?_)
 have lb59b : b < b59 := by have := H0.lt; omega
 have lb59b1 : b1 < b59 := by have := H4.lt; omega
 have lb59b7 : b7 < b59 := by have := H10.lt; omega
 have lb59b28 : b28 < b59 := by have := H31.lt; omega
 have lb59b35 : b35 < b59 := by have := H38.lt; omega
 have nb59 : w.heap.size ≤ b59 := by have := K0.size; omega
 have ob65 : ∀ i, ((Value.slice A49 l51.length c50)).ownBlock = some i → i < b59 := fun i hi => by have := (World.ownsRow.lt hO45 i hi).2; omega
 replace K0 := K0.t0 K63
 replace H0 := H0.keep K63 (fun h => h)
 replace H4 := H4.keep K63 (fun h => h)
 replace H10 := H10.keep K63 (fun h => h)
 replace H31 := H31.keep K63 (fun h => h)
 replace H38 := H38.keep K63 (fun h => h)
 replace hO45 := own_keep0 hO45 K63
 clear K63 hs64
 refine og 1 [(0, (Value.slice (some ⟨b, 0, none⟩) 3 3)), (2, (Value.slice none 0 0)), (3, (Value.slice A49 l51.length c50)), (4, (i64 2)), (8, (Value.bool true)), (11, (Value.slice A49 l51.length c50)), (19, (agg [(i64 t2), (Value.slice (some ⟨b59, 0, none⟩) 1 1)]))] 9 ?_
 refine Ops.new (o := rowL [(i64 t2), (Value.slice (some ⟨b59, 0, none⟩) 1 1)] 43) (V := fun b => (Value.slice (some ⟨b, 0, none⟩) 1 1)) (by kernel_rfl) (d := (some 20)) (by kernel_rfl) (fun b => rfl) (fun b66 w67 hb68 H69 K70 hs71 => ?_)
 have lb66b : b < b66 := by have := H0.lt; omega
 have lb66b1 : b1 < b66 := by have := H4.lt; omega
 have lb66b7 : b7 < b66 := by have := H10.lt; omega
 have lb66b28 : b28 < b66 := by have := H31.lt; omega
 have lb66b35 : b35 < b66 := by have := H38.lt; omega
 have lb66b59 : b59 < b66 := by have := H62.lt; omega
 have nb66 : w.heap.size ≤ b66 := by have := K0.size; omega
 have ob72 : ∀ i, ((Value.slice A49 l51.length c50)).ownBlock = some i → i < b66 := fun i hi => by have := (World.ownsRow.lt hO45 i hi).2; omega
 replace K0 := K0.t0 K70
 replace H0 := H0.keep K70 (fun h => h)
 replace H4 := H4.keep K70 (fun h => h)
 replace H10 := H10.keep K70 (fun h => h)
 replace H31 := H31.keep K70 (fun h => h)
 replace H38 := H38.keep K70 (fun h => h)
 replace H62 := H62.keep K70 (fun h => h)
 replace hO45 := own_keep0 hO45 K70
 clear K70 hs71
 obtain ⟨v73, w74, hr75, hO76, hK77, hg78⟩ := OwnT.app (ty := 22) EntP.two EntP.one tyE hO45 (show RdT _ 2 EntP.cells _ [(⟨t2, some ⟨b59, 0, none⟩, 1, [byte 2]⟩ : EntP)] from Rd.lit H69 (n := 1) rfl (by decide)) (by simp only [List.length_cons, List.length_nil]; omega) (by simp only [List.length_cons, List.length_nil]; omega) K0.size
 obtain ⟨A80, c81, rfl⟩ := RdT.form EntP.two (by decide) (OwnT.rd hO76)
 obtain ⟨l82, hl83⟩ : ∃ z, z = l51 ++ [(⟨t2, some ⟨b59, 0, none⟩, 1, [byte 2]⟩ : EntP)] := ⟨_, rfl⟩
 rw [← hl83] at hr75 hO76 hg78
 have hn84 : l82.length = 3 := by rw [hl83, List.length_append, hn53]; rfl
 have ob85 : ∀ i, ((Value.slice A80 l82.length c81)).ownBlock = some i → i ≠ b := fun i hi => by rcases hg78 i hi with h | h; (have := ob54 i h; omega); (have := H0.lt; omega)
 have ob86 : ∀ i, ((Value.slice A80 l82.length c81)).ownBlock = some i → i ≠ b1 := fun i hi => by rcases hg78 i hi with h | h; (have := ob55 i h; omega); (have := H4.lt; omega)
 have ob87 : ∀ i, ((Value.slice A80 l82.length c81)).ownBlock = some i → i ≠ b7 := fun i hi => by rcases hg78 i hi with h | h; (have := ob56 i h; omega); (have := H10.lt; omega)
 have ob88 : ∀ i, ((Value.slice A80 l82.length c81)).ownBlock = some i → i ≠ b28 := fun i hi => by rcases hg78 i hi with h | h; (have := ob57 i h; omega); (have := H31.lt; omega)
 have ob89 : ∀ i, ((Value.slice A80 l82.length c81)).ownBlock = some i → i ≠ b35 := fun i hi => by rcases hg78 i hi with h | h; (have := ob58 i h; omega); (have := H38.lt; omega)
 have ob90 : ∀ i, ((Value.slice A80 l82.length c81)).ownBlock = some i → i ≠ b59 := fun i hi => by rcases hg78 i hi with h | h; (have := ob65 i h; omega); (have := H62.lt; omega)
 have ob91 : ∀ i, ((Value.slice A80 l82.length c81)).ownBlock = some i → i ≠ b66 := fun i hi => by rcases hg78 i hi with h | h; (have := ob72 i h; omega); (have := H69.lt; omega)
 have K79 := hK77
 refine Ops.go (v := (Value.slice A80 l82.length c81)) (by kernel_rfl) (Runs.append (ts := #[22, 22]) (ty := 22) (vs := [(Value.slice A49 l51.length c50), (Value.slice (some ⟨b66, 0, none⟩) 1 1)]) (by kernel_rfl) hr75) (d := (some 21)) (by kernel_rfl) rfl ?_
 replace K0 := K0.trans K79 (U := none_) (fun i h1 h2 => h2) (fun i h1 h2 => by have h2 : ((Value.slice A49 l51.length c50)).ownBlock = some i := h2; exfalso; have := (World.ownsRow.lt hO45 i h2).1; omega)
 replace H0 := H0.keep K79 (by intro h; change ((Value.slice A49 l51.length c50)).ownBlock = some b at h; have := ob54 b h; omega)
 replace H4 := H4.keep K79 (by intro h; change ((Value.slice A49 l51.length c50)).ownBlock = some b1 at h; have := ob55 b1 h; omega)
 replace H10 := H10.keep K79 (by intro h; change ((Value.slice A49 l51.length c50)).ownBlock = some b7 at h; have := ob56 b7 h; omega)
 replace H31 := H31.keep K79 (by intro h; change ((Value.slice A49 l51.length c50)).ownBlock = some b28 at h; have := ob57 b28 h; omega)
 replace H38 := H38.keep K79 (by intro h; change ((Value.slice A49 l51.length c50)).ownBlock = some b35 at h; have := ob58 b35 h; omega)
 replace H62 := H62.keep K79 (by intro h; change ((Value.slice A49 l51.length c50)).ownBlock = some b59 at h; have := ob65 b59 h; omega)
 replace H69 := H69.keep K79 (by intro h; change ((Value.slice A49 l51.length c50)).ownBlock = some b66 at h; have := ob72 b66 h; omega)
 clear hO45
 clear K79 hr75 hK77 hg78
 refine og 1 [(0, (Value.slice (some ⟨b, 0, none⟩) 3 3)), (2, (Value.slice none 0 0)), (3, (Value.slice A80 l82.length c81)), (4, (i64 2)), (8, (Value.bool true))] 12 ?_
 refine od ?_
 refine qg ?_
 refine og 3 [(0, (Value.slice (some ⟨b, 0, none⟩) 3 3)), (2, (Value.slice none 0 0)), (3, (Value.slice A80 l82.length c81)), (4, (i64 3)), (8, (Value.bool true))] 3 ?_
 refine od ?_
 refine roll_step ?_
 refine qs ?_
 refine qs ?_
 refine qg ?_
 refine og 4 [(0, (Value.slice (some ⟨b, 0, none⟩) 3 3)), (2, (Value.slice none 0 0)), (3, (Value.slice A80 l82.length c81)), (4, (i64 3)), (8, (Value.bool false))] 4 ?_
 refine od ?_
 refine q_else (o := .tmp 8) (by kernel_rfl) rfl ?_
 refine q_exit (id := 0) (by kernel_rfl) ?_
 refine qs ?_
 refine qg ?_
 refine og 2 [(2, (Value.slice A80 l82.length c81))] 2 ?_
 refine od ?_
 refine q_ret (by kernel_rfl) ?_
 refine ⟨(Value.slice A80 l82.length c81), retv_tmp rfl rfl, ?_⟩
 have hall : l82 = [(⟨t0, some ⟨b1, 0, none⟩, 1, [byte 0]⟩ : EntP), (⟨t1, some ⟨b28, 0, none⟩, 1, [byte 1]⟩ : EntP), (⟨t2, some ⟨b59, 0, none⟩, 1, [byte 2]⟩ : EntP)] := by rw [hl83, hl52, hl23]; rfl
 refine ⟨l82, A80, c81, rfl, K0, ⟨OwnT.rd hO76, ?_, fun _ i hi => World.ownsRow.lt hO76 i hi, ?_, fun i hi => hi.2⟩, by rw [hall]; rfl⟩
 ·intro x hx
  rw [hall] at hx
  simp only [List.mem_cons, List.not_mem_nil, or_false] at hx
  rcases hx with rfl | rfl | rfl
  ·exact RdB.lit (xs := [byte 0]) (show Has _ b1 (rowL (bv [byte 0]) 5) from H4) (by decide)
  ·exact RdB.lit (xs := [byte 1]) (show Has _ b28 (rowL (bv [byte 1]) 5) from H31) (by decide)
  ·exact RdB.lit (xs := [byte 2]) (show Has _ b59 (rowL (bv [byte 2]) 5) from H62) (by decide)
 ·intro x hx _ i hi
  rw [hall] at hx
  simp only [List.mem_cons, List.not_mem_nil, or_false] at hx
  rcases hx with rfl | rfl | rfl
  ·have hi : b1 = i := by simpa [Value.ownBlock] using hi
   have := H4.lt; exact ⟨by omega, by omega⟩
  ·have hi : b28 = i := by simpa [Value.ownBlock] using hi
   have := H31.lt; exact ⟨by omega, by omega⟩
  ·have hi : b59 = i := by simpa [Value.ownBlock] using hi
   have := H62.lt; exact ⟨by omega, by omega⟩
end Go.Proofs.Ytncjidepplaocaa
