/- What the claim stands on, part 14: rules of the walk, contracts of the functions, plain laws. -/
import Derived.Test.YtooginpgclcldaaGreatDoorProg
import Derived.Test.YtooginpgclcldaaGreatDoorLoads11
import Derived.Test.YtooginpgclcldaaGreatDoorLoads13
import Derived.Test.YtooginpgclcldaaGreatDoorLoads7
import Derived.Test.YtooginpgclcldaaGreatDoorLoads12
import Derived.Test.YtooginpgclcldaaGreatDoorLoads9
set_option linter.unusedVariables false
namespace Go.Proofs.YtooginpgclcldaaGreatDoor
open Go.Q Go.RowKit

theorem RPutT_none (w : World) (base r : Nat) (A : Option Addr) (c : Nat) (S : List AccM) (n : List UInt8) (k : Int) (Hr : Has w r (rowL [.slice A S.length c] 43)) (hO : OwnT w base 97 3 AccM.cells (.slice A S.length c) S) (hne : ∀ i, (Value.slice A S.length c).ownBlock = some i → i ≠ r) (hS : Accs S) (hbw : base ≤ w.heap.size) (hk : -9223372036854775808 ≤ k ∧ k ≤ 9223372036854775807) (hg : getS S n = none) : Calls Tryz.prog 53 ⟨[(ptr r), (agg [(Value.string (str n)), (i64 k)])]⟩ w (fun e w' => ∃ A' c', e = .returned (i64 (putE S n k)) ∧ Keeps (fun i => i = r) w w' ∧ Has w' r (rowL [.slice A' (putS S n k).length c'] 43) ∧ OwnT w' base 97 3 AccM.cells (.slice A' (putS S n k).length c') (putS S n k) ∧ ∀ i, (Value.slice A' (putS S n k).length c').ownBlock = some i → (Value.slice A S.length c).ownBlock = some i ∨ w.heap.size ≤ i) := by
 have hR := OwnT.rd hO
 have Hrl := Hr.lt
 have hcap := RdT.len AccM.three (by decide) hR
 unfold maxLen at hcap
 have hSl := hS.len
 have hfn := find_none hg
 have hpl := posS_le S n
 have htk : (S.take (posS S n)).length = posS S n := by rw [List.length_take]; omega
 have hdk : (S.drop (posS S n)).length = S.length - posS S n := List.length_drop
 have K0 : Keeps (fun i => i = r) w w := (Keeps.refl w).mono (fun _ _ h => h.elim)
 refine q_calls Tryz.func53 (by kernel_rfl) (by kernel_rfl) ?_
 refine qs ?_
 refine qg ?_
 refine Ops.new (o := rowL [(Value.string (str n)), (i64 k)] 52) (V := fun b => (ptr b)) (by kernel_rfl) (d := (some 3)) (by kernel_rfl) (fun b => rfl) (fun b1 w2 hb3 H4 K5 hs6 => ?_)
 have lb1r : r < b1 := by have := Hr.lt; omega
 have nb1 : w.heap.size ≤ b1 := by have := K0.size; omega
 have ob7 : ∀ i, ((Value.slice A S.length c)).ownBlock = some i → i < b1 := fun i hi => by have := (World.ownsRow.lt hO i hi).2; omega
 replace K0 := K0.trans K5 (U := (fun i => i = r)) (fun i h1 h2 => h2) (fun i h1 h2 => by exact h2.elim)
 replace Hr := Hr.keep K5 (fun h => h)
 replace hO := own_keep0 hO K5
 clear K5 hs6
 refine og 1 [(0, (ptr r)), (3, (ptr b1)), (4, (i64 0))] 2 ?_
 refine od ?_
 refine qs ?_
 refine qg ?_
 refine og 2 [(0, (ptr r)), (3, (ptr b1)), (4, (i64 0)), (9, (ptr r)), (10, (ptr b1))] 2 ?_
 refine Ops.go (v := (Value.string (str n))) (by kernel_rfl) (Runs.load (t := 9) (a := ⟨b1, 0, none⟩) (by kernel_rfl) (H4.loads (by kernel_rfl))) (d := (some 11)) (by kernel_rfl) rfl ?_
 refine Ops.call (by kernel_rfl) (d := (some 12)) (by kernel_rfl) (find_calls _ r A c S n Hr (OwnT.rd hO)) ?_
 rintro _ w9 ⟨rfl, K8⟩
 refine ⟨_, _, rfl, rfl, ?_⟩
 replace K0 := K0.trans K8 (U := (fun i => i = r)) (fun i h1 h2 => h2) (fun i h1 h2 => by exact h2.elim)
 replace Hr := Hr.keep K8 (fun h => h)
 replace H4 := H4.keep K8 (fun h => h)
 replace hO := own_keep0 hO K8
 clear K8
 refine og 5 [(0, (ptr r)), (3, (ptr b1)), (4, (i64 0)), (5, (i64 ((posS S n : Nat) : Int))), (6, (Value.bool (hasS S n)))] 9 ?_
 refine od ?_
 refine qs ?_
 refine q_block (id := 0) (by kernel_rfl) ?_
 refine qs ?_
 refine qg ?_
 refine og 1 [(0, (ptr r)), (3, (ptr b1)), (4, (i64 0)), (5, (i64 ((posS S n : Nat) : Int))), (6, (Value.bool (hasS S n))), (16, (ptr b1))] 1 ?_
 refine Ops.go (v := (Value.string (str n))) (by kernel_rfl) (Runs.load (t := 9) (a := ⟨b1, 0, none⟩) (by kernel_rfl) (H4.loads (by kernel_rfl))) (d := (some 17)) (by kernel_rfl) rfl ?_
 refine Ops.call (by kernel_rfl) (d := (some 18)) (by kernel_rfl) (RName_calls _ n) ?_
 rintro _ w11 ⟨rfl, K10⟩
 refine ⟨_, _, rfl, rfl, ?_⟩
 replace K0 := K0.trans K10 (U := (fun i => i = r)) (fun i h1 h2 => h2) (fun i h1 h2 => by exact h2.elim)
 replace Hr := Hr.keep K10 (fun h => h)
 replace H4 := H4.keep K10 (fun h => h)
 replace hO := own_keep0 hO K10
 clear K10
 refine og 2 [(0, (ptr r)), (3, (ptr b1)), (4, (i64 0)), (5, (i64 ((posS S n : Nat) : Int))), (6, (Value.bool (hasS S n))), (15, (Value.bool (!(nameOk n))))] 5 ?_
 refine od ?_
 refine q_cond (o := .tmp 15) (b := (!(nameOk n))) (by kernel_rfl) rfl (fun h12 => ?_) (fun h12 => ?_)
 ·rw [h12]
  have p13 : (nameOk n) = false := (bnot_true h12)
  refine qs ?_
  refine qg ?_
  refine og 1 [(0, (ptr r)), (3, (ptr b1)), (4, (i64 46)), (5, (i64 ((posS S n : Nat) : Int))), (6, (Value.bool (hasS S n)))] 1 ?_
  refine od ?_
  refine q_ret (by kernel_rfl) ?_
  refine ⟨(i64 46), retv_tmp rfl rfl, ?_⟩
  have e1 : putE S n k = 46 := by unfold putE; rw [if_pos (bnot_true h12)]
  have e2 : putS S n k = S := by unfold putS; rw [if_neg (by rw [e1]; decide)]
  rw [e1, e2]
  exact ⟨A, c, rfl, K0, Hr, hO, fun i h => .inl h⟩
 ·rw [h12]
  have p14 : (nameOk n) = true := (bnot_false h12)
  refine qs ?_
  refine qg ?_
  refine og 1 [(0, (ptr r)), (3, (ptr b1)), (4, (i64 0)), (5, (i64 ((posS S n : Nat) : Int))), (6, (Value.bool (hasS S n))), (21, (Value.pointer (some ⟨b1, 1, none⟩)))] 1 ?_
  refine Ops.go (v := (i64 k)) (by kernel_rfl) (Runs.load (t := 2) (a := ⟨b1, 1, none⟩) (by kernel_rfl) (H4.loads (by kernel_rfl))) (d := (some 22)) (by kernel_rfl) rfl ?_
  refine og 2 [(0, (ptr r)), (3, (ptr b1)), (4, (i64 0)), (5, (i64 ((posS S n : Nat) : Int))), (6, (Value.bool (hasS S n))), (20, (Value.bool (decide (k < 0))))] 4 ?_
  refine od ?_
  refine q_cond (o := .tmp 20) (b := (decide (k < 0))) (by kernel_rfl) rfl (fun h15 => ?_) (fun h15 => ?_)
  ·rw [h15]
   have p16 : k < 0 := of_decide_eq_true h15
   refine qs ?_
   refine qg ?_
   refine og 1 [(0, (ptr r)), (3, (ptr b1)), (4, (i64 47)), (5, (i64 ((posS S n : Nat) : Int))), (6, (Value.bool (hasS S n)))] 1 ?_
   refine od ?_
   refine q_ret (by kernel_rfl) ?_
   refine ⟨(i64 47), retv_tmp rfl rfl, ?_⟩
   have e1 : putE S n k = 47 := by unfold putE; rw [if_neg (by rw [(bnot_false h12)]; decide)]; rw [if_pos (by omega)]
   have e2 : putS S n k = S := by unfold putS; rw [if_neg (by rw [e1]; decide)]
   rw [e1, e2]
   exact ⟨A, c, rfl, K0, Hr, hO, fun i h => .inl h⟩
  ·rw [h15]
   have p17 : ¬ (k < 0) := of_decide_eq_false h15
   refine qs ?_
   refine qg ?_
   refine og 2 [(0, (ptr r)), (3, (ptr b1)), (4, (i64 0)), (5, (i64 ((posS S n : Nat) : Int))), (24, (Value.bool (hasS S n)))] 2 ?_
   refine od ?_
   have h18 : (hasS S n) = false := hfn
   rw [h18]
   refine q_else (o := .tmp 24) (by kernel_rfl) rfl ?_
   refine qs ?_
   refine qg ?_
   refine og 3 [(0, (ptr r)), (3, (ptr b1)), (4, (i64 0)), (5, (i64 ((posS S n : Nat) : Int))), (29, (ptr r))] 3 ?_
   refine Ops.go (v := (Value.slice A S.length c)) (by kernel_rfl) (Runs.load (t := 41) (a := ⟨r, 0, none⟩) (by kernel_rfl) (Hr.loads (by kernel_rfl))) (d := (some 30)) (by kernel_rfl) rfl ?_
   refine og 3 [(0, (ptr r)), (3, (ptr b1)), (4, (i64 0)), (5, (i64 ((posS S n : Nat) : Int))), (26, (Value.bool (decide (((S.length : Nat) : Int) ≥ 200))))] 7 ?_
   refine od ?_
   refine q_cond (o := .tmp 26) (b := (decide (((S.length : Nat) : Int) ≥ 200))) (by kernel_rfl) rfl (fun h19 => ?_) (fun h19 => ?_)
   ·rw [h19]
    have p20 : ((S.length : Nat) : Int) ≥ 200 := of_decide_eq_true h19
    refine qs ?_
    refine qg ?_
    refine og 1 [(0, (ptr r)), (3, (ptr b1)), (4, (i64 4)), (5, (i64 ((posS S n : Nat) : Int)))] 1 ?_
    refine od ?_
    refine q_ret (by kernel_rfl) ?_
    refine ⟨(i64 4), retv_tmp rfl rfl, ?_⟩
    have e1 : putE S n k = 4 := by unfold putE; rw [if_neg (by rw [(bnot_false h12)]; decide)]; rw [if_neg (by omega), if_neg (by rw [hg]; decide), if_pos (by omega)]
    have e2 : putS S n k = S := by unfold putS; rw [if_neg (by rw [e1]; decide)]
    rw [e1, e2]
    exact ⟨A, c, rfl, K0, Hr, hO, fun i h => .inl h⟩
   ·rw [h19]
    have p21 : ¬ (((S.length : Nat) : Int) ≥ 200) := of_decide_eq_false h19
    refine q_skip (by kernel_rfl) ?_
    refine qs ?_
    refine qg ?_
    refine og 1 [(0, (ptr r)), (3, (ptr b1)), (4, (i64 0)), (5, (i64 ((posS S n : Nat) : Int))), (7, (Value.slice none 0 0))] 1 ?_
    refine od ?_
    refine qs ?_
    refine qg ?_
    refine og 4 [(0, (ptr r)), (3, (ptr b1)), (4, (i64 0)), (5, (i64 ((posS S n : Nat) : Int))), (7, (Value.slice none 0 0)), (33, (Value.slice none 0 0)), (36, (ptr r))] 4 ?_
    refine Ops.go (v := (Value.slice A S.length c)) (by kernel_rfl) (Runs.load (t := 41) (a := ⟨r, 0, none⟩) (by kernel_rfl) (Hr.loads (by kernel_rfl))) (d := (some 37)) (by kernel_rfl) rfl ?_
    refine og 1 [(0, (ptr r)), (3, (ptr b1)), (4, (i64 0)), (5, (i64 ((posS S n : Nat) : Int))), (7, (Value.slice none 0 0)), (33, (Value.slice none 0 0)), (37, (Value.slice A S.length c)), (38, (i64 ((posS S n : Nat) : Int)))] 6 ?_
    obtain ⟨hr22, F23⟩ := run_hi (P := Tryz.prog) (t := 41) (e := 97) AccM.three (by decide) (by kernel_rfl) (by kernel_rfl) (OwnT.rd hO) (k := (posS S n)) (by omega)
    refine Ops.go (v := (Value.slice A (posS S n) c)) (by kernel_rfl) ((Runs.slice (by kernel_rfl) hr22)) (d := (some 39)) (by kernel_rfl) rfl ?_
    obtain ⟨v24, w25, hr26, hO27, hK28, hg29⟩ := OwnT.app (ty := 41) AccM.three AccM.one tyA (OwnT.nil _ w.heap.size 97 3 AccM.cells) F23 (by (try simp only [List.length_append]); (try simp only [List.length_cons]); (try simp only [List.length_nil]); omega) (by (try simp only [List.length_append]); (try simp only [List.length_cons]); (try simp only [List.length_nil]); omega) K0.size
    obtain ⟨A31, c32, rfl⟩ := RdT.form AccM.three (by decide) (OwnT.rd hO27)
    obtain ⟨l33, hl34⟩ : ∃ z, z = [] ++ S.take (posS S n) := ⟨_, rfl⟩
    rw [← hl34] at hr26 hO27 hg29
    have hn35 : l33.length = 0 + (S.take (posS S n)).length := by simp [hl34]
    have ob36 : ∀ i, ((Value.slice A31 l33.length c32)).ownBlock = some i → i ≠ r := fun i hi => by rcases hg29 i hi with h | h; (cases h); (have := Hr.lt; omega)
    have ob37 : ∀ i, ((Value.slice A31 l33.length c32)).ownBlock = some i → i ≠ b1 := fun i hi => by rcases hg29 i hi with h | h; (cases h); (have := H4.lt; omega)
    have oo38 : ∀ i, ((Value.slice A S.length c)).ownBlock = some i → ((Value.slice A31 l33.length c32)).ownBlock = some i → False := fun i hi hs => by rcases hg29 i hs with h | h; (cases h); (have := (World.ownsRow.lt hO i hi).2; omega)
    have oo39 : ∀ i, ((Value.slice A31 l33.length c32)).ownBlock = some i → ((Value.slice A S.length c)).ownBlock = some i → False := fun i hi hs => oo38 i hs hi
    have K30 := Keeps.mono (U := none_) hK28 (fun _ _ h => by cases h)
    refine Ops.go (v := (Value.slice A31 l33.length c32)) (by kernel_rfl) (Runs.append (ts := #[41, 41]) (ty := 41) (vs := [(Value.slice none 0 0), (Value.slice A (posS S n) c)]) (by kernel_rfl) hr26) (d := (some 40)) (by kernel_rfl) rfl ?_
    replace K0 := K0.trans K30 (U := (fun i => i = r)) (fun i h1 h2 => h2) (fun i h1 h2 => by exact h2.elim)
    replace Hr := Hr.keep K30 (fun h => h)
    replace H4 := H4.keep K30 (fun h => h)
    replace hO := own_keep0 hO K30
    replace F23 := (Rd.keep0 (by omega) F23 K30)
    clear K30 hr26 hK28 hg29
    refine og 1 [(0, (ptr r)), (3, (ptr b1)), (4, (i64 0)), (5, (i64 ((posS S n : Nat) : Int))), (7, (Value.slice A31 l33.length c32))] 9 ?_
    refine od ?_
    refine qs ?_
    refine qg ?_
    refine og 2 [(0, (ptr r)), (3, (ptr b1)), (4, (i64 0)), (5, (i64 ((posS S n : Nat) : Int))), (7, (Value.slice A31 l33.length c32)), (41, (Value.slice A31 l33.length c32)), (42, (ptr b1))] 2 ?_
    refine Ops.go (v := (Value.string (str n))) (by kernel_rfl) (Runs.load (t := 9) (a := ⟨b1, 0, none⟩) (by kernel_rfl) (H4.loads (by kernel_rfl))) (d := (some 43)) (by kernel_rfl) rfl ?_
    refine og 1 [(0, (ptr r)), (4, (i64 0)), (5, (i64 ((posS S n : Nat) : Int))), (7, (Value.slice A31 l33.length c32)), (41, (Value.slice A31 l33.length c32)), (43, (Value.string (str n))), (44, (Value.pointer (some ⟨b1, 1, none⟩)))] 4 ?_
    refine Ops.go (v := (i64 k)) (by kernel_rfl) (Runs.load (t := 2) (a := ⟨b1, 1, none⟩) (by kernel_rfl) (H4.loads (by kernel_rfl))) (d := (some 45)) (by kernel_rfl) rfl ?_
    refine og 1 [(0, (ptr r)), (4, (i64 0)), (5, (i64 ((posS S n : Nat) : Int))), (7, (Value.slice A31 l33.length c32)), (41, (Value.slice A31 l33.length c32)), (46, (agg [(Value.string (str n)), (i64 k), (Value.string ByteArray.empty)]))] 6 ?_
    refine Ops.new (o := rowL [(Value.string (str n)), (i64 k), (Value.string ByteArray.empty)] 97) (V := fun b => (Value.slice (some ⟨b, 0, none⟩) 1 1)) (by kernel_rfl) (d := (some 47)) (by kernel_rfl) (fun b => rfl) (fun b40 w41 hb42 H43 K44 hs45 => ?_)
    have lb40r : r < b40 := by have := Hr.lt; omega
    have lb40b1 : b1 < b40 := by have := H4.lt; omega
    have nb40 : w.heap.size ≤ b40 := by have := K0.size; omega
    have ob46 : ∀ i, ((Value.slice A S.length c)).ownBlock = some i → i < b40 := fun i hi => by have := (World.ownsRow.lt hO i hi).2; omega
    have ob47 : ∀ i, ((Value.slice A31 l33.length c32)).ownBlock = some i → i < b40 := fun i hi => by have := (World.ownsRow.lt hO27 i hi).2; omega
    replace K0 := K0.trans K44 (U := (fun i => i = r)) (fun i h1 h2 => h2) (fun i h1 h2 => by exact h2.elim)
    replace Hr := Hr.keep K44 (fun h => h)
    replace H4 := H4.keep K44 (fun h => h)
    replace hO := own_keep0 hO K44
    replace F23 := (Rd.keep0 (by omega) F23 K44)
    replace hO27 := own_keep0 hO27 K44
    clear K44 hs45
    obtain ⟨v48, w49, hr50, hO51, hK52, hg53⟩ := OwnT.app (ty := 41) AccM.three AccM.one tyA hO27 (show RdT _ 3 AccM.cells _ [(⟨n, k, ([] : List UInt8)⟩ : AccM)] from Rd.lit H43 (n := 1) rfl (by decide)) (by (try simp only [List.length_append]); (try simp only [List.length_cons]); (try simp only [List.length_nil]); omega) (by (try simp only [List.length_append]); (try simp only [List.length_cons]); (try simp only [List.length_nil]); omega) K0.size
    obtain ⟨A55, c56, rfl⟩ := RdT.form AccM.three (by decide) (OwnT.rd hO51)
    obtain ⟨l57, hl58⟩ : ∃ z, z = l33 ++ [(⟨n, k, ([] : List UInt8)⟩ : AccM)] := ⟨_, rfl⟩
    rw [← hl58] at hr50 hO51 hg53
    have hn59 : l57.length = l33.length + 1 := by simp [hl58]
    have ob60 : ∀ i, ((Value.slice A55 l57.length c56)).ownBlock = some i → i ≠ r := fun i hi => by rcases hg53 i hi with h | h; (have := ob36 i h; omega); (have := Hr.lt; omega)
    have ob61 : ∀ i, ((Value.slice A55 l57.length c56)).ownBlock = some i → i ≠ b1 := fun i hi => by rcases hg53 i hi with h | h; (have := ob37 i h; omega); (have := H4.lt; omega)
    have ob62 : ∀ i, ((Value.slice A55 l57.length c56)).ownBlock = some i → i ≠ b40 := fun i hi => by rcases hg53 i hi with h | h; (have := ob47 i h; omega); (have := H43.lt; omega)
    have oo63 : ∀ i, ((Value.slice A S.length c)).ownBlock = some i → ((Value.slice A55 l57.length c56)).ownBlock = some i → False := fun i hi hs => by rcases hg53 i hs with h | h; (exact oo38 i hi h); (have := (World.ownsRow.lt hO i hi).2; omega)
    have oo64 : ∀ i, ((Value.slice A55 l57.length c56)).ownBlock = some i → ((Value.slice A S.length c)).ownBlock = some i → False := fun i hi hs => oo63 i hs hi
    have K54 := hK52
    refine Ops.go (v := (Value.slice A55 l57.length c56)) (by kernel_rfl) (Runs.append (ts := #[41, 41]) (ty := 41) (vs := [(Value.slice A31 l33.length c32), (Value.slice (some ⟨b40, 0, none⟩) 1 1)]) (by kernel_rfl) hr50) (d := (some 48)) (by kernel_rfl) rfl ?_
    replace K0 := K0.trans K54 (U := (fun i => i = r)) (fun i h1 h2 => h2) (fun i h1 h2 => by have h2 : ((Value.slice A31 l33.length c32)).ownBlock = some i := h2; exfalso; have := (World.ownsRow.lt hO27 i h2).1; omega)
    replace Hr := Hr.keep K54 (by intro h; change ((Value.slice A31 l33.length c32)).ownBlock = some r at h; have := ob36 r h; omega)
    replace H4 := H4.keep K54 (by intro h; change ((Value.slice A31 l33.length c32)).ownBlock = some b1 at h; have := ob37 b1 h; omega)
    replace H43 := H43.keep K54 (by intro h; change ((Value.slice A31 l33.length c32)).ownBlock = some b40 at h; have := ob47 b40 h; omega)
    replace hO := own_keep hO K54 (fun i hi hs => by have hs : ((Value.slice A31 l33.length c32)).ownBlock = some i := hs; exact oo38 i hi hs)
    clear F23
    clear hO27
    clear K54 hr50 hK52 hg53
    refine og 1 [(0, (ptr r)), (4, (i64 0)), (5, (i64 ((posS S n : Nat) : Int))), (7, (Value.slice A55 l57.length c56))] 9 ?_
    refine od ?_
    refine qs ?_
    refine qg ?_
    refine og 4 [(0, (ptr r)), (4, (i64 0)), (5, (i64 ((posS S n : Nat) : Int))), (7, (Value.slice A55 l57.length c56)), (49, (Value.slice A55 l57.length c56)), (52, (ptr r))] 4 ?_
    refine Ops.go (v := (Value.slice A S.length c)) (by kernel_rfl) (Runs.load (t := 41) (a := ⟨r, 0, none⟩) (by kernel_rfl) (Hr.loads (by kernel_rfl))) (d := (some 53)) (by kernel_rfl) rfl ?_
    refine og 1 [(0, (ptr r)), (4, (i64 0)), (7, (Value.slice A55 l57.length c56)), (49, (Value.slice A55 l57.length c56)), (53, (Value.slice A S.length c)), (54, (i64 ((posS S n : Nat) : Int)))] 6 ?_
    obtain ⟨A67, hr65, F66⟩ := run_lo (P := Tryz.prog) (t := 41) (e := 97) AccM.three (by decide) (by kernel_rfl) (by kernel_rfl) (OwnT.rd hO) (k := (posS S n)) (by omega)
    refine Ops.go (v := (Value.slice A67 (S.length - (posS S n)) (c - (posS S n)))) (by kernel_rfl) ((Runs.slice (by kernel_rfl) hr65)) (d := (some 55)) (by kernel_rfl) rfl ?_
    obtain ⟨v68, w69, hr70, hO71, hK72, hg73⟩ := OwnT.app (ty := 41) AccM.three AccM.one tyA hO51 F66 (by (try simp only [List.length_append]); (try simp only [List.length_cons]); (try simp only [List.length_nil]); omega) (by (try simp only [List.length_append]); (try simp only [List.length_cons]); (try simp only [List.length_nil]); omega) K0.size
    obtain ⟨A75, c76, rfl⟩ := RdT.form AccM.three (by decide) (OwnT.rd hO71)
    obtain ⟨l77, hl78⟩ : ∃ z, z = l57 ++ S.drop (posS S n) := ⟨_, rfl⟩
    rw [← hl78] at hr70 hO71 hg73
    have hn79 : l77.length = l57.length + (S.drop (posS S n)).length := by simp [hl78]
    have ob80 : ∀ i, ((Value.slice A75 l77.length c76)).ownBlock = some i → i ≠ r := fun i hi => by rcases hg73 i hi with h | h; (have := ob60 i h; omega); (have := Hr.lt; omega)
    have ob81 : ∀ i, ((Value.slice A75 l77.length c76)).ownBlock = some i → i ≠ b1 := fun i hi => by rcases hg73 i hi with h | h; (have := ob61 i h; omega); (have := H4.lt; omega)
    have ob82 : ∀ i, ((Value.slice A75 l77.length c76)).ownBlock = some i → i ≠ b40 := fun i hi => by rcases hg73 i hi with h | h; (have := ob62 i h; omega); (have := H43.lt; omega)
    have oo83 : ∀ i, ((Value.slice A S.length c)).ownBlock = some i → ((Value.slice A75 l77.length c76)).ownBlock = some i → False := fun i hi hs => by rcases hg73 i hs with h | h; (exact oo63 i hi h); (have := (World.ownsRow.lt hO i hi).2; omega)
    have oo84 : ∀ i, ((Value.slice A75 l77.length c76)).ownBlock = some i → ((Value.slice A S.length c)).ownBlock = some i → False := fun i hi hs => oo83 i hs hi
    have K74 := hK72
    refine Ops.go (v := (Value.slice A75 l77.length c76)) (by kernel_rfl) (Runs.append (ts := #[41, 41]) (ty := 41) (vs := [(Value.slice A55 l57.length c56), (Value.slice A67 (S.length - (posS S n)) (c - (posS S n)))]) (by kernel_rfl) hr70) (d := (some 56)) (by kernel_rfl) rfl ?_
    replace K0 := K0.trans K74 (U := (fun i => i = r)) (fun i h1 h2 => h2) (fun i h1 h2 => by have h2 : ((Value.slice A55 l57.length c56)).ownBlock = some i := h2; exfalso; have := (World.ownsRow.lt hO51 i h2).1; omega)
    replace Hr := Hr.keep K74 (by intro h; change ((Value.slice A55 l57.length c56)).ownBlock = some r at h; have := ob60 r h; omega)
    replace H4 := H4.keep K74 (by intro h; change ((Value.slice A55 l57.length c56)).ownBlock = some b1 at h; have := ob61 b1 h; omega)
    replace H43 := H43.keep K74 (by intro h; change ((Value.slice A55 l57.length c56)).ownBlock = some b40 at h; have := ob62 b40 h; omega)
    replace hO := own_keep hO K74 (fun i hi hs => by have hs : ((Value.slice A55 l57.length c56)).ownBlock = some i := hs; exact oo63 i hi hs)
    clear hO51
    clear F66
    clear K74 hr70 hK72 hg73
    refine og 1 [(0, (ptr r)), (4, (i64 0)), (7, (Value.slice A75 l77.length c76))] 9 ?_
    refine od ?_
    refine qs ?_
    refine qg ?_
    refine og 4 [(4, (i64 0)), (58, (Value.slice A75 l77.length c76)), (60, (ptr r))] 4 ?_
    refine Ops.put (t := 41) (b := r) (off := 0) (v := (Value.slice A75 l77.length c76)) (ys := [(Value.slice A75 l77.length c76)]) (by kernel_rfl) (by kernel_rfl) Hr (by kernel_rfl) (d := none) (by kernel_rfl) rfl (fun w85 H86 K87 => ?_)
    clear Hr
    replace K0 := K0.trans K87 (U := (fun i => i = r)) (fun i h1 h2 => h2) (fun i h1 h2 => by have h2 : i = r := h2; show i = r; omega)
    replace H4 := H4.keep K87 (by intro h; change b1 = r at h; omega)
    replace H43 := H43.keep K87 (by intro h; change b40 = r at h; omega)
    replace hO := own_keep hO K87 (fun i hi hs => by have hs : i = r := hs; have := hne i hi; omega)
    replace hO71 := own_keep hO71 K87 (fun i hi hs => by have hs : i = r := hs; have := ob80 i hi; omega)
    clear K87
    refine od ?_
    refine qs ?_
    refine qg ?_
    refine og 1 [(4, (i64 0))] 1 ?_
    refine od ?_
    refine q_ret (by kernel_rfl) ?_
    refine ⟨(i64 0), retv_tmp rfl rfl, ?_⟩
    have e1 : putE S n k = 0 := by unfold putE; rw [if_neg (by rw [(bnot_false h12)]; decide), if_neg (by omega), if_neg (by rw [hg]; decide), if_neg (by omega)]
    have e2 : l77 = putS S n k := by unfold putS; rw [if_pos e1, ← ins_split, hl78, hl58, hl34]; simp only [List.nil_append, List.append_assoc]
    rw [e2] at H86 hO71
    rw [e1]
    exact ⟨_, _, rfl, K0, H86, own_base hO71 hbw, fun i hi => .inr (World.ownsRow.lt hO71 i hi).1⟩

theorem RPutT_some (w : World) (base r : Nat) (A : Option Addr) (c : Nat) (S : List AccM) (n : List UInt8) (k : Int) (Hr : Has w r (rowL [.slice A S.length c] 43)) (hO : OwnT w base 97 3 AccM.cells (.slice A S.length c) S) (hne : ∀ i, (Value.slice A S.length c).ownBlock = some i → i ≠ r) (hS : Accs S) (hbw : base ≤ w.heap.size) (hk : -9223372036854775808 ≤ k ∧ k ≤ 9223372036854775807) (a : AccM) (hg : getS S n = some a) : Calls Tryz.prog 53 ⟨[(ptr r), (agg [(Value.string (str n)), (i64 k)])]⟩ w (fun e w' => ∃ A' c', e = .returned (i64 (putE S n k)) ∧ Keeps (fun i => i = r) w w' ∧ Has w' r (rowL [.slice A' (putS S n k).length c'] 43) ∧ OwnT w' base 97 3 AccM.cells (.slice A' (putS S n k).length c') (putS S n k) ∧ ∀ i, (Value.slice A' (putS S n k).length c').ownBlock = some i → (Value.slice A S.length c).ownBlock = some i ∨ w.heap.size ≤ i) := by
 have hR := OwnT.rd hO
 have Hrl := Hr.lt
 have hcap := RdT.len AccM.three (by decide) hR
 unfold maxLen at hcap
 have hSl := hS.len
 have hfs := find_some hS hg
 have hpl := posS_le S n
 have htk : (S.take (posS S n)).length = posS S n := by rw [List.length_take]; omega
 have hdk : (S.drop (posS S n)).length = S.length - posS S n := List.length_drop
 have K0 : Keeps (fun i => i = r) w w := (Keeps.refl w).mono (fun _ _ h => h.elim)
 refine q_calls Tryz.func53 (by kernel_rfl) (by kernel_rfl) ?_
 refine qs ?_
 refine qg ?_
 refine Ops.new (o := rowL [(Value.string (str n)), (i64 k)] 52) (V := fun b => (ptr b)) (by kernel_rfl) (d := (some 3)) (by kernel_rfl) (fun b => rfl) (fun b1 w2 hb3 H4 K5 hs6 => ?_)
 have lb1r : r < b1 := by have := Hr.lt; omega
 have nb1 : w.heap.size ≤ b1 := by have := K0.size; omega
 have ob7 : ∀ i, ((Value.slice A S.length c)).ownBlock = some i → i < b1 := fun i hi => by have := (World.ownsRow.lt hO i hi).2; omega
 replace K0 := K0.trans K5 (U := (fun i => i = r)) (fun i h1 h2 => h2) (fun i h1 h2 => by exact h2.elim)
 replace Hr := Hr.keep K5 (fun h => h)
 replace hO := own_keep0 hO K5
 clear K5 hs6
 refine og 1 [(0, (ptr r)), (3, (ptr b1)), (4, (i64 0))] 2 ?_
 refine od ?_
 refine qs ?_
 refine qg ?_
 refine og 2 [(0, (ptr r)), (3, (ptr b1)), (4, (i64 0)), (9, (ptr r)), (10, (ptr b1))] 2 ?_
 refine Ops.go (v := (Value.string (str n))) (by kernel_rfl) (Runs.load (t := 9) (a := ⟨b1, 0, none⟩) (by kernel_rfl) (H4.loads (by kernel_rfl))) (d := (some 11)) (by kernel_rfl) rfl ?_
 refine Ops.call (by kernel_rfl) (d := (some 12)) (by kernel_rfl) (find_calls _ r A c S n Hr (OwnT.rd hO)) ?_
 rintro _ w9 ⟨rfl, K8⟩
 refine ⟨_, _, rfl, rfl, ?_⟩
 replace K0 := K0.trans K8 (U := (fun i => i = r)) (fun i h1 h2 => h2) (fun i h1 h2 => by exact h2.elim)
 replace Hr := Hr.keep K8 (fun h => h)
 replace H4 := H4.keep K8 (fun h => h)
 replace hO := own_keep0 hO K8
 clear K8
 refine og 5 [(0, (ptr r)), (3, (ptr b1)), (4, (i64 0)), (5, (i64 ((posS S n : Nat) : Int))), (6, (Value.bool (hasS S n)))] 9 ?_
 refine od ?_
 refine qs ?_
 refine q_block (id := 0) (by kernel_rfl) ?_
 refine qs ?_
 refine qg ?_
 refine og 1 [(0, (ptr r)), (3, (ptr b1)), (4, (i64 0)), (5, (i64 ((posS S n : Nat) : Int))), (6, (Value.bool (hasS S n))), (16, (ptr b1))] 1 ?_
 refine Ops.go (v := (Value.string (str n))) (by kernel_rfl) (Runs.load (t := 9) (a := ⟨b1, 0, none⟩) (by kernel_rfl) (H4.loads (by kernel_rfl))) (d := (some 17)) (by kernel_rfl) rfl ?_
 refine Ops.call (by kernel_rfl) (d := (some 18)) (by kernel_rfl) (RName_calls _ n) ?_
 rintro _ w11 ⟨rfl, K10⟩
 refine ⟨_, _, rfl, rfl, ?_⟩
 replace K0 := K0.trans K10 (U := (fun i => i = r)) (fun i h1 h2 => h2) (fun i h1 h2 => by exact h2.elim)
 replace Hr := Hr.keep K10 (fun h => h)
 replace H4 := H4.keep K10 (fun h => h)
 replace hO := own_keep0 hO K10
 clear K10
 refine og 2 [(0, (ptr r)), (3, (ptr b1)), (4, (i64 0)), (5, (i64 ((posS S n : Nat) : Int))), (6, (Value.bool (hasS S n))), (15, (Value.bool (!(nameOk n))))] 5 ?_
 refine od ?_
 refine q_cond (o := .tmp 15) (b := (!(nameOk n))) (by kernel_rfl) rfl (fun h12 => ?_) (fun h12 => ?_)
 ·rw [h12]
  have p13 : (nameOk n) = false := (bnot_true h12)
  refine qs ?_
  refine qg ?_
  refine og 1 [(0, (ptr r)), (3, (ptr b1)), (4, (i64 46)), (5, (i64 ((posS S n : Nat) : Int))), (6, (Value.bool (hasS S n)))] 1 ?_
  refine od ?_
  refine q_ret (by kernel_rfl) ?_
  refine ⟨(i64 46), retv_tmp rfl rfl, ?_⟩
  have e1 : putE S n k = 46 := by unfold putE; rw [if_pos (bnot_true h12)]
  have e2 : putS S n k = S := by unfold putS; rw [if_neg (by rw [e1]; decide)]
  rw [e1, e2]
  exact ⟨A, c, rfl, K0, Hr, hO, fun i h => .inl h⟩
 ·rw [h12]
  have p14 : (nameOk n) = true := (bnot_false h12)
  refine qs ?_
  refine qg ?_
  refine og 1 [(0, (ptr r)), (3, (ptr b1)), (4, (i64 0)), (5, (i64 ((posS S n : Nat) : Int))), (6, (Value.bool (hasS S n))), (21, (Value.pointer (some ⟨b1, 1, none⟩)))] 1 ?_
  refine Ops.go (v := (i64 k)) (by kernel_rfl) (Runs.load (t := 2) (a := ⟨b1, 1, none⟩) (by kernel_rfl) (H4.loads (by kernel_rfl))) (d := (some 22)) (by kernel_rfl) rfl ?_
  refine og 2 [(0, (ptr r)), (3, (ptr b1)), (4, (i64 0)), (5, (i64 ((posS S n : Nat) : Int))), (6, (Value.bool (hasS S n))), (20, (Value.bool (decide (k < 0))))] 4 ?_
  refine od ?_
  refine q_cond (o := .tmp 20) (b := (decide (k < 0))) (by kernel_rfl) rfl (fun h15 => ?_) (fun h15 => ?_)
  ·rw [h15]
   have p16 : k < 0 := of_decide_eq_true h15
   refine qs ?_
   refine qg ?_
   refine og 1 [(0, (ptr r)), (3, (ptr b1)), (4, (i64 47)), (5, (i64 ((posS S n : Nat) : Int))), (6, (Value.bool (hasS S n)))] 1 ?_
   refine od ?_
   refine q_ret (by kernel_rfl) ?_
   refine ⟨(i64 47), retv_tmp rfl rfl, ?_⟩
   have e1 : putE S n k = 47 := by unfold putE; rw [if_neg (by rw [(bnot_false h12)]; decide)]; rw [if_pos (by omega)]
   have e2 : putS S n k = S := by unfold putS; rw [if_neg (by rw [e1]; decide)]
   rw [e1, e2]
   exact ⟨A, c, rfl, K0, Hr, hO, fun i h => .inl h⟩
  ·rw [h15]
   have p17 : ¬ (k < 0) := of_decide_eq_false h15
   refine qs ?_
   refine qg ?_
   refine og 2 [(0, (ptr r)), (3, (ptr b1)), (4, (i64 0)), (5, (i64 ((posS S n : Nat) : Int))), (24, (Value.bool (hasS S n)))] 2 ?_
   refine od ?_
   have h18 : (hasS S n) = true := hfs.1
   rw [h18]
   refine q_then (o := .tmp 24) (by kernel_rfl) rfl ?_
   refine qs ?_
   refine qg ?_
   refine og 1 [(0, (ptr r)), (3, (ptr b1)), (4, (i64 41)), (5, (i64 ((posS S n : Nat) : Int)))] 1 ?_
   refine od ?_
   refine q_ret (by kernel_rfl) ?_
   refine ⟨(i64 41), retv_tmp rfl rfl, ?_⟩
   have e1 : putE S n k = 41 := by unfold putE; rw [if_neg (by rw [(bnot_false h12)]; decide)]; rw [if_neg (by omega), if_pos (by rw [hg]; rfl)]
   have e2 : putS S n k = S := by unfold putS; rw [if_neg (by rw [e1]; decide)]
   rw [e1, e2]
   exact ⟨A, c, rfl, K0, Hr, hO, fun i h => .inl h⟩

theorem RPutT_calls (w : World) (base r : Nat) (A : Option Addr) (c : Nat) (S : List AccM) (n : List UInt8) (k : Int) (Hr : Has w r (rowL [.slice A S.length c] 43)) (hO : OwnT w base 97 3 AccM.cells (.slice A S.length c) S) (hne : ∀ i, (Value.slice A S.length c).ownBlock = some i → i ≠ r) (hS : Accs S) (hbw : base ≤ w.heap.size) (hk : -9223372036854775808 ≤ k ∧ k ≤ 9223372036854775807) : Calls Tryz.prog 53 ⟨[(ptr r), (agg [(Value.string (str n)), (i64 k)])]⟩ w (fun e w' => ∃ A' c', e = .returned (i64 (putE S n k)) ∧ Keeps (fun i => i = r) w w' ∧ Has w' r (rowL [.slice A' (putS S n k).length c'] 43) ∧ OwnT w' base 97 3 AccM.cells (.slice A' (putS S n k).length c') (putS S n k) ∧ ∀ i, (Value.slice A' (putS S n k).length c').ownBlock = some i → (Value.slice A S.length c).ownBlock = some i ∨ w.heap.size ≤ i) := by
 cases hg : getS S n with
 | none => exact RPutT_none w base r A c S n k Hr hO hne hS hbw hk hg
 | some a => exact RPutT_some w base r A c S n k Hr hO hne hS hbw hk a hg

set_option maxHeartbeats 4000000 in
theorem ROf_calls (w : World) (b : Nat) (A : Option Addr) (c : Nat) (r : Rdr) (hok : r.Ok) (H0 : Has w b (rowL (rdrL A c r) 95)) (hR : RdO w A c r.bs) (hne : ∀ g o s, A = some ⟨g, o, s⟩ → g ≠ b) : Calls Tryz.prog 26 ⟨[(ptr b)]⟩ w (fun e w' => ∃ rb A' c' okb LL R', e = .returned (.tuple #[ptr rb, .bool okb]) ∧ Keeps (fun i => i = b) w w' ∧ Has w' b (rowL (rdrL A c R') 95) ∧ RdO w' A c R'.bs ∧ R'.Ok ∧ refR (r.sized 200).1 ((r.sized 200).2, some []) = (R', optS okb LL) ∧ (okb = true → Accs LL) ∧ Has w' rb (rowL [.slice A' LL.length c'] 43) ∧ OwnT w' w.heap.size 97 3 AccM.cells (.slice A' LL.length c') LL ∧ w.heap.size ≤ rb ∧ ∀ i, (Value.slice A' LL.length c').ownBlock = some i → i ≠ rb) := by
 have hpos := hok.pos
 have hlen := hok.len
 have hsc := r.scan_le
 have hdl : (r.bs.drop r.pos).length = r.bs.length - r.pos := List.length_drop
 have hcap := hR.1.slice
 have Hb := H0.lt
 have K0 : Keeps (fun i => i = b) w w := (Keeps.refl w).mono (fun _ _ h => h.elim)
 have hN2 := sized_200 r
 refine q_calls Tryz.func26 (by kernel_rfl) (by kernel_rfl) ?_
 refine qs ?_
 refine qg ?_
 refine og 2 [(0, (ptr b)), (2, (Value.pointer none)), (3, (Value.bool false))] 2 ?_
 refine od ?_
 refine qs ?_
 refine qg ?_
 refine og 1 [(0, (ptr b)), (2, (Value.pointer none)), (3, (Value.bool false)), (11, (agg [(Value.slice none 0 0)]))] 1 ?_
 refine Ops.new (o := rowL [(Value.slice none 0 0)] 43) (V := fun b => (ptr b)) (by kernel_rfl) (d := (some 12)) (by kernel_rfl) (fun b => rfl) (fun b1 w2 hb3 H4 K5 hs6 => ?_)
 have lb1b : b < b1 := by have := H0.lt; omega
 have nb1 : w.heap.size ≤ b1 := by have := K0.size; omega
 have ob7 : ∀ i o s, A = some ⟨i, o, s⟩ → i ≠ b1 := fun i o s hi => by have := hR.2 i o s hi; omega
 replace K0 := K0.trans K5 (U := (fun i => i = b)) (fun i h1 h2 => h2) (fun i h1 h2 => by exact h2.elim)
 replace H0 := H0.keep K5 (fun h => h)
 replace hR := RdO.keep0 hR K5
 clear K5 hs6
 refine og 1 [(0, (ptr b)), (2, (Value.pointer none)), (3, (Value.bool false)), (4, (ptr b1))] 3 ?_
 refine od ?_
 refine qs ?_
 refine qg ?_
 refine og 1 [(0, (ptr b)), (2, (Value.pointer none)), (3, (Value.bool false)), (4, (ptr b1)), (13, (ptr b))] 1 ?_
 refine Ops.call (by kernel_rfl) (d := (some 14)) (by kernel_rfl) (RRCount_calls _ b A c r hok H0 hR hne 200 (by omega)) ?_
 rintro _ w8 ⟨rfl, K9, H10⟩
 have hok11 : (r.sized 200).2.Ok := Rdr.Ok.sized hok 200
 have hu12 := Rdr.sized_le hok 200
 have hu13 := Rdr.sized_lt r 200
 refine ⟨_, _, rfl, rfl, ?_⟩
 replace K0 := K0.trans K9 (U := (fun i => i = b)) (fun i h1 h2 => h2) (fun i h1 h2 => by have h2 : i = b := h2; show i = b; omega)
 replace H4 := H4.keep K9 (by intro h; change b1 = b at h; omega)
 replace hR := RdO.keep hR K9 (fun i _ _ hi hs => by have hs : i = b := hs; have := hne i _ _ hi; omega)
 clear K9
 have F14 : RdO w8 A c (r.sized 200).2.bs := by rw [Rdr.sized_bs]; exact hR
 clear hR
 refine og 1 [(0, (ptr b)), (2, (Value.pointer none)), (3, (Value.bool false)), (4, (ptr b1)), (5, (i64 (((r.sized 200).1 : Nat) : Int)))] 3 ?_
 refine od ?_
 refine qs ?_
 refine qg ?_
 refine og 1 [(0, (ptr b)), (2, (Value.pointer none)), (3, (Value.bool false)), (4, (ptr b1)), (5, (i64 (((r.sized 200).1 : Nat) : Int))), (6, (Value.bool true))] 1 ?_
 refine od ?_
 refine qs ?_
 refine qs ?_
 refine qg ?_
 refine og 1 [(0, (ptr b)), (2, (Value.pointer none)), (3, (Value.bool false)), (4, (ptr b1)), (5, (i64 (((r.sized 200).1 : Nat) : Int))), (6, (Value.bool true)), (7, (i64 0))] 1 ?_
 refine od ?_
 refine q_block (id := 0) (by kernel_rfl) ?_
 refine q_keep (R := [(0, (ptr b)), (2, (Value.pointer none)), (3, (Value.bool false)), (4, (ptr b1)), (5, (i64 (((r.sized 200).1 : Nat) : Int))), (6, (Value.bool true)), (7, (i64 0))]) (by kernel_rfl) ?_
 refine q_loop (fun (gs : Nat × Rdr × Bool × (List AccM) × (Option Addr) × Nat) L (wx : World) => match gs with | (i, R, okb, LL, VA, vc) => L = [(0, (ptr b)), (2, (Value.pointer none)), (3, (Value.bool false)), (4, (ptr b1)), (5, (i64 (((r.sized 200).1 : Nat) : Int))), (6, (Value.bool okb)), (7, (i64 ((i : Nat) : Int)))] ∧ RdO wx A c R.bs ∧ OwnT wx w.heap.size 97 3 AccM.cells (Value.slice VA LL.length vc) LL ∧ (∀ i, ((Value.slice VA LL.length vc)).ownBlock = some i → i ≠ b) ∧ (∀ i, ((Value.slice VA LL.length vc)).ownBlock = some i → i ≠ b1) ∧ (∀ i o s, A = some ⟨i, o, s⟩ → ((Value.slice VA LL.length vc)).ownBlock = some i → False) ∧ R.Ok ∧ i ≤ (r.sized 200).1 ∧ LL.length ≤ i ∧ refR ((r.sized 200).1 - i) (R, optS okb LL) = refR (r.sized 200).1 ((r.sized 200).2, some []) ∧ (okb = true → Accs LL ∧ LL.length = i) ∧ Keeps (fun i => i = b) w wx ∧ Has wx b (rowL (rdrL A c R) 95) ∧ Has wx b1 (rowL [(Value.slice VA LL.length vc)] 43)) (fun (gs : Nat × Rdr × Bool × (List AccM) × (Option Addr) × Nat) => match gs with | (i, R, okb, LL, VA, vc) => (r.sized 200).1 - i) (0, (r.sized 200).2, true, [], none, 0) (by kernel_rfl) ⟨rfl, F14, (OwnT.nil _ _ _ _ _), (fun i hi => by cases hi), (fun i hi => by cases hi), (fun _ _ _ _ h => by cases h), hok11, Nat.zero_le _, Nat.zero_le _, rfl, (fun _ => ⟨Accs.nil, rfl⟩), K0, H10, H4⟩ ?_
 clear H10 H4 F14 K0
 rintro ⟨i, R, okb, LL, VA, vc⟩ _ w15 ⟨rfl, hRdA, hOV, obVb, obVb1, ooVA, hokR, hi, hll, hF, hA, K16, H17, H18⟩
 refine qs ?_
 refine qs ?_
 refine qg ?_
 refine og 4 [(0, (ptr b)), (2, (Value.pointer none)), (3, (Value.bool false)), (4, (ptr b1)), (5, (i64 (((r.sized 200).1 : Nat) : Int))), (6, (Value.bool okb)), (7, (i64 ((i : Nat) : Int))), (18, (Value.bool (decide (((i : Nat) : Int) < (((r.sized 200).1 : Nat) : Int)))))] 4 ?_
 refine Ops.split (decide (((i : Nat) : Int) < (((r.sized 200).1 : Nat) : Int))) (fun h19 => ?_) (fun h19 => ?_)
 ·rw [h19]
  have p20 : ((i : Nat) : Int) < (((r.sized 200).1 : Nat) : Int) := of_decide_eq_true h19
  refine og 3 [(0, (ptr b)), (2, (Value.pointer none)), (3, (Value.bool false)), (4, (ptr b1)), (5, (i64 (((r.sized 200).1 : Nat) : Int))), (6, (Value.bool okb)), (7, (i64 ((i : Nat) : Int))), (18, (Value.bool true)), (21, (Value.pointer (some ⟨b, 2, none⟩)))] 7 ?_
  refine Ops.go (v := (i64 R.why)) (by kernel_rfl) (Runs.load (t := 25) (a := ⟨b, 2, none⟩) (by kernel_rfl) (H17.loads (by kernel_rfl))) (d := (some 22)) (by kernel_rfl) rfl ?_
  refine og 2 [(0, (ptr b)), (2, (Value.pointer none)), (3, (Value.bool false)), (4, (ptr b1)), (5, (i64 (((r.sized 200).1 : Nat) : Int))), (6, (Value.bool okb)), (7, (i64 ((i : Nat) : Int))), (24, (Value.bool (R.why == 0)))] 10 ?_
  refine od ?_
  refine q_cond (o := .tmp 24) (b := (R.why == 0)) (by kernel_rfl) rfl (fun h21 => ?_) (fun h21 => ?_)
  ·rw [h21]
   have p22 : R.why = 0 := of_beq_t h21
   refine q_skip (by kernel_rfl) ?_
   refine qs ?_
   refine q_block (id := 1) (by kernel_rfl) ?_
   refine qs ?_
   refine qg ?_
   refine og 1 [(0, (ptr b)), (2, (Value.pointer none)), (3, (Value.bool false)), (4, (ptr b1)), (5, (i64 (((r.sized 200).1 : Nat) : Int))), (6, (Value.bool okb)), (7, (i64 ((i : Nat) : Int))), (24, (Value.bool true)), (27, (ptr b))] 1 ?_
   refine Ops.call (by kernel_rfl) (d := (some 28)) (by kernel_rfl) (RRText_calls _ b A c R hokR H17 hRdA hne ) ?_
   rintro _ w23 ⟨rfl, K24, H25⟩
   have hok26 : (R.bytes).2.Ok := Rdr.Ok.bytes hokR
   have hu27 := Rdr.bytes_le hokR
   refine ⟨_, _, rfl, rfl, ?_⟩
   replace K16 := K16.trans K24 (U := (fun i => i = b)) (fun i h1 h2 => h2) (fun i h1 h2 => by have h2 : i = b := h2; show i = b; omega)
   replace H18 := H18.keep K24 (by intro h; change b1 = b at h; omega)
   replace hRdA := RdO.keep hRdA K24 (fun i _ _ hi hs => by have hs : i = b := hs; have := hne i _ _ hi; omega)
   replace hOV := own_keep hOV K24 (fun i hi hs => by have hs : i = b := hs; have := obVb i hi; omega)
   clear K24
   have F28 : RdO w23 A c (R.bytes).2.bs := by rw [Rdr.bytes_bs]; exact hRdA
   clear hRdA
   refine og 1 [(0, (ptr b)), (2, (Value.pointer none)), (3, (Value.bool false)), (4, (ptr b1)), (5, (i64 (((r.sized 200).1 : Nat) : Int))), (6, (Value.bool okb)), (7, (i64 ((i : Nat) : Int))), (8, (Value.string (str (R.bytes).1))), (24, (Value.bool true))] 3 ?_
   refine od ?_
   refine qs ?_
   refine qg ?_
   refine og 1 [(0, (ptr b)), (2, (Value.pointer none)), (3, (Value.bool false)), (4, (ptr b1)), (5, (i64 (((r.sized 200).1 : Nat) : Int))), (6, (Value.bool okb)), (7, (i64 ((i : Nat) : Int))), (8, (Value.string (str (R.bytes).1))), (24, (Value.bool true)), (29, (ptr b))] 1 ?_
   refine Ops.call (by kernel_rfl) (d := (some 30)) (by kernel_rfl) (RRInt_calls _ b A c ((R.bytes).2) hok26 H25 F28 hne ) ?_
   rintro _ w29 ⟨rfl, K30, H31⟩
   have hok32 : (((R.bytes).2).int).2.Ok := Rdr.Ok.int hok26
   have hu33 := Rdr.int_range ((R.bytes).2)
   refine ⟨_, _, rfl, rfl, ?_⟩
   replace K16 := K16.trans K30 (U := (fun i => i = b)) (fun i h1 h2 => h2) (fun i h1 h2 => by have h2 : i = b := h2; show i = b; omega)
   replace H18 := H18.keep K30 (by intro h; change b1 = b at h; omega)
   replace F28 := RdO.keep F28 K30 (fun i _ _ hi hs => by have hs : i = b := hs; have := hne i _ _ hi; omega)
   replace hOV := own_keep hOV K30 (fun i hi hs => by have hs : i = b := hs; have := obVb i hi; omega)
   clear K30
   have F34 : RdO w29 A c (((R.bytes).2).int).2.bs := by rw [Rdr.int_bs]; exact F28
   clear F28
   refine og 1 [(0, (ptr b)), (2, (Value.pointer none)), (3, (Value.bool false)), (4, (ptr b1)), (5, (i64 (((r.sized 200).1 : Nat) : Int))), (6, (Value.bool okb)), (7, (i64 ((i : Nat) : Int))), (8, (Value.string (str (R.bytes).1))), (9, (i64 ((((R.bytes).2).int).1))), (24, (Value.bool true))] 3 ?_
   refine od ?_
   refine qs ?_
   refine qg ?_
   refine og 1 [(0, (ptr b)), (2, (Value.pointer none)), (3, (Value.bool false)), (4, (ptr b1)), (5, (i64 (((r.sized 200).1 : Nat) : Int))), (6, (Value.bool okb)), (7, (i64 ((i : Nat) : Int))), (8, (Value.string (str (R.bytes).1))), (9, (i64 ((((R.bytes).2).int).1))), (24, (Value.bool true)), (31, (ptr b))] 1 ?_
   refine Ops.call (by kernel_rfl) (d := (some 32)) (by kernel_rfl) (RRText_calls _ b A c ((((R.bytes).2).int).2) hok32 H31 F34 hne ) ?_
   rintro _ w35 ⟨rfl, K36, H37⟩
   have hok38 : (((((R.bytes).2).int).2).bytes).2.Ok := Rdr.Ok.bytes hok32
   have hu39 := Rdr.bytes_le hok32
   refine ⟨_, _, rfl, rfl, ?_⟩
   replace K16 := K16.trans K36 (U := (fun i => i = b)) (fun i h1 h2 => h2) (fun i h1 h2 => by have h2 : i = b := h2; show i = b; omega)
   replace H18 := H18.keep K36 (by intro h; change b1 = b at h; omega)
   replace F34 := RdO.keep F34 K36 (fun i _ _ hi hs => by have hs : i = b := hs; have := hne i _ _ hi; omega)
   replace hOV := own_keep hOV K36 (fun i hi hs => by have hs : i = b := hs; have := obVb i hi; omega)
   clear K36
   have F40 : RdO w35 A c (((((R.bytes).2).int).2).bytes).2.bs := by rw [Rdr.bytes_bs]; exact F34
   clear F34
   refine og 1 [(0, (ptr b)), (2, (Value.pointer none)), (3, (Value.bool false)), (4, (ptr b1)), (5, (i64 (((r.sized 200).1 : Nat) : Int))), (6, (Value.bool okb)), (7, (i64 ((i : Nat) : Int))), (8, (Value.string (str (R.bytes).1))), (9, (i64 ((((R.bytes).2).int).1))), (10, (Value.string (str (((((R.bytes).2).int).2).bytes).1))), (24, (Value.bool true))] 3 ?_
   refine od ?_
   refine qs ?_
   refine qs ?_
   refine qg ?_
   refine og 3 [(0, (ptr b)), (2, (Value.pointer none)), (3, (Value.bool false)), (4, (ptr b1)), (5, (i64 (((r.sized 200).1 : Nat) : Int))), (6, (Value.bool okb)), (7, (i64 ((i : Nat) : Int))), (8, (Value.string (str (R.bytes).1))), (9, (i64 ((((R.bytes).2).int).1))), (10, (Value.string (str (((((R.bytes).2).int).2).bytes).1))), (24, (Value.bool true)), (35, (Value.pointer (some ⟨b, 2, none⟩)))] 3 ?_
   refine Ops.go (v := (i64 (((((((R.bytes).2).int).2).bytes).2).why))) (by kernel_rfl) (Runs.load (t := 25) (a := ⟨b, 2, none⟩) (by kernel_rfl) (H37.loads (by kernel_rfl))) (d := (some 36)) (by kernel_rfl) rfl ?_
   refine og 1 [(0, (ptr b)), (2, (Value.pointer none)), (3, (Value.bool false)), (4, (ptr b1)), (5, (i64 (((r.sized 200).1 : Nat) : Int))), (6, (Value.bool okb)), (7, (i64 ((i : Nat) : Int))), (8, (Value.string (str (R.bytes).1))), (9, (i64 ((((R.bytes).2).int).1))), (10, (Value.string (str (((((R.bytes).2).int).2).bytes).1))), (24, (Value.bool true)), (37, (Value.bool ((((((((R.bytes).2).int).2).bytes).2).why) != 0)))] 5 ?_
   refine od ?_
   refine q_cond (o := .tmp 37) (b := ((((((((R.bytes).2).int).2).bytes).2).why) != 0)) (by kernel_rfl) rfl (fun h41 => ?_) (fun h41 => ?_)
   ·rw [h41]
    have p42 : ¬ (((((((R.bytes).2).int).2).bytes).2).why = 0) := of_bne_t h41
    refine q_exit (id := 0) (by kernel_rfl) ?_
    refine qs ?_
    refine qg ?_
    refine og 4 [(2, (ptr b1)), (3, (Value.bool okb))] 4 ?_
    refine od ?_
    refine q_ret (by kernel_rfl) ?_
    refine ⟨(Value.tuple #[(ptr b1), (Value.bool okb)]), retv_tmp2 rfl rfl rfl, ?_⟩
    have hfin : refR (r.sized 200).1 ((r.sized 200).2, some []) = ((((((R.bytes).2).int).2).bytes).2, optS okb LL) := by rw [← hF, refR_step (n := (r.sized 200).1) (i := i) (by omega), step_err (by omega)]; exact ref_stuck _ _ (by omega)
    exact ⟨b1, _, _, _, _, _, rfl, K16, H37, F40, hok38, hfin, fun h => (hA h).1, H18, hOV, nb1, obVb1⟩
   ·rw [h41]
    have p43 : ((((((R.bytes).2).int).2).bytes).2).why = 0 := of_bne_f h41
    refine q_skip (by kernel_rfl) ?_
    refine qs ?_
    refine q_draw (fun wz => Keeps (fun i => i = b1) w35 wz) 31 (by kernel_rfl) (by kernel_rfl) (by kernel_rfl) (fun w44 K45 _ _ => ⟨(K45.mono (fun _ _ h => h.elim)), ?_⟩)
    replace K16 := K16.trans K45 (U := (fun i => i = b)) (fun i h1 h2 => h2) (fun i h1 h2 => by exact h2.elim)
    replace H37 := H37.keep K45 (fun h => h)
    replace H18 := H18.keep K45 (fun h => h)
    replace F40 := RdO.keep0 F40 K45
    replace hOV := own_keep0 hOV K45
    refine Dr.strong (S' := (fun wz => Keeps (fun i => i = b1) w44 wz)) ((Keeps.refl w44).mono (fun _ _ h => h.elim)) (fun wz hx => K45.trans hx (fun i _ h => h.elim) (fun _ _ h => h)) ?_
    clear K45
    refine Dr.takes (fuel' := 29) (is' := [1, 0]) [0, 1] [(0, (ptr b)), (2, (Value.pointer none)), (3, (Value.bool false)), (4, (ptr b1)), (5, (i64 (((r.sized 200).1 : Nat) : Int))), (6, (Value.bool okb)), (7, (i64 ((i : Nat) : Int))), (8, (Value.string (str (R.bytes).1))), (9, (i64 ((((R.bytes).2).int).1))), (10, (Value.string (str (((((R.bytes).2).int).2).bytes).1))), (24, (Value.bool true)), (37, (Value.bool false)), (39, (Value.bool okb))] (by kernel_rfl) rfl (by kernel_rfl) ?_
    refine Dr.split okb (fun h46 => ?_) (fun h46 => ?_)
    ·rw [h46]
     have p47 : okb = true := h46
     obtain ⟨hacc, hli⟩ := hA h46
     have hLl := hacc.len
     have hT : optS okb LL = some LL := by rw [h46]; rfl
     refine Dr.takes (fuel' := 26) (is' := [4, 3, 2, 1, 0]) [2, 3, 4] [(0, (ptr b)), (2, (Value.pointer none)), (3, (Value.bool false)), (4, (ptr b1)), (5, (i64 (((r.sized 200).1 : Nat) : Int))), (6, (Value.bool true)), (7, (i64 ((i : Nat) : Int))), (8, (Value.string (str (R.bytes).1))), (9, (i64 ((((R.bytes).2).int).1))), (10, (Value.string (str (((((R.bytes).2).int).2).bytes).1))), (24, (Value.bool true)), (37, (Value.bool false)), (39, (Value.bool true)), (42, (Value.bool (((i : Nat) : Int) == 0)))] (by kernel_rfl) rfl (by kernel_rfl) ?_
     refine Dr.split (((i : Nat) : Int) == 0) (fun h48 => ?_) (fun h48 => ?_)
     ·rw [h48]
      have p49 : ((i : Nat) : Int) = 0 := of_beq_t h48
      have hok := okS_nil (S := LL) (n := (R.bytes).1) (by omega)
      refine Dr.takes (fuel' := 4) (is' := [26, 25, 24, 23, 22, 21, 20, 19, 18, 17, 16, 15, 14, 13, 12, 11, 10, 9, 8, 7, 6, 5, 4, 3, 2, 1, 0]) [5, 6, 7, 8, 9, 10, 11, 12, 13, 14, 15, 16, 17, 18, 19, 20, 21, 22, 23, 24, 25, 26] [(0, (ptr b)), (2, (Value.pointer none)), (3, (Value.bool false)), (4, (ptr b1)), (5, (i64 (((r.sized 200).1 : Nat) : Int))), (6, (Value.bool true)), (7, (i64 ((i : Nat) : Int))), (8, (Value.string (str (R.bytes).1))), (9, (i64 ((((R.bytes).2).int).1))), (10, (Value.string (str (((((R.bytes).2).int).2).bytes).1))), (24, (Value.bool true)), (37, (Value.bool false)), (60, (Value.bool true)), (61, (ptr b1)), (64, (agg [(Value.string (str (R.bytes).1)), (i64 ((((R.bytes).2).int).1))]))] (by kernel_rfl) rfl (by kernel_rfl) ?_
      refine Dr.call (i := 27) (by kernel_rfl) (by kernel_rfl) (d := (some 65)) (by kernel_rfl) (fun _ => RPutT_calls _ w.heap.size b1 VA vc LL ((R.bytes).1) ((((R.bytes).2).int).1) H18 hOV obVb1 hacc (K16.size) (by omega)) ?_
      rintro _ w52 ⟨A50, c51, rfl, K53, H54, hO55, hg56⟩
      have ob57 : ∀ i, ((Value.slice A50 ((putS LL ((R.bytes).1) ((((R.bytes).2).int).1)).length) c51)).ownBlock = some i → i ≠ b := fun i hi => by rcases hg56 i hi with h | h; (have := obVb i h; omega); (have := H37.lt; omega)
      have ob58 : ∀ i, ((Value.slice A50 ((putS LL ((R.bytes).1) ((((R.bytes).2).int).1)).length) c51)).ownBlock = some i → i ≠ b1 := fun i hi => by rcases hg56 i hi with h | h; (have := obVb1 i h; omega); (have := H18.lt; omega)
      have oo59 : ∀ i o s, A = some ⟨i, o, s⟩ → ((Value.slice A50 ((putS LL ((R.bytes).1) ((((R.bytes).2).int).1)).length) c51)).ownBlock = some i → False := fun i o s hi hs => by rcases hg56 i hs with h | h; (exact ooVA i o s hi h); (have := F40.2 i o s hi; omega)
      have hacc2 := Accs.put hacc (n := (R.bytes).1) (k := (((R.bytes).2).int).1) (by omega)
      have hple := put_le LL ((R.bytes).1) ((((R.bytes).2).int).1)
      replace K16 := K16.trans K53 (U := (fun i => i = b)) (fun i h1 h2 => h2) (fun i h1 h2 => by have h2 : i = b1 := h2; show i = b; omega)
      replace H37 := H37.keep K53 (by intro h; change b = b1 at h; omega)
      replace F40 := RdO.keep F40 K53 (fun i _ _ hi hs => by have hs : i = b1 := hs; have := ob7 i _ _ hi; omega)
      replace hOV := own_keep hOV K53 (fun i hi hs => by have hs : i = b1 := hs; have := obVb1 i hi; omega)
      refine ⟨_, _, rfl, rfl, K53, ?_⟩
      refine Dr.strong (S' := (fun wz => Keeps (fun i => i = b1) w52 wz)) ((Keeps.refl w52).mono (fun _ _ h => h.elim)) (fun wz hx => K53.trans hx (fun i _ h => by have h : i = b1 := h; show i = b1; omega) (fun _ _ h => h)) ?_
      clear K53
      refine Dr.takes (fuel' := 0) (is' := [30, 29, 28, 27, 26, 25, 24, 23, 22, 21, 20, 19, 18, 17, 16, 15, 14, 13, 12, 11, 10, 9, 8, 7, 6, 5, 4, 3, 2, 1, 0]) [28, 29, 30] [(0, (ptr b)), (2, (Value.pointer none)), (3, (Value.bool false)), (4, (ptr b1)), (5, (i64 (((r.sized 200).1 : Nat) : Int))), (6, (Value.bool ((putE LL ((R.bytes).1) ((((R.bytes).2).int).1)) == 0))), (7, (i64 ((i : Nat) : Int))), (8, (Value.string (str (R.bytes).1))), (9, (i64 ((((R.bytes).2).int).1))), (10, (Value.string (str (((((R.bytes).2).int).2).bytes).1))), (24, (Value.bool true)), (37, (Value.bool false))] (by kernel_rfl) rfl (by kernel_rfl) ?_
      refine Dr.done (by kernel_rfl) ?_
      refine qs ?_
      refine qs ?_
      refine qg ?_
      refine og 2 [(0, (ptr b)), (2, (Value.pointer none)), (3, (Value.bool false)), (4, (ptr b1)), (5, (i64 (((r.sized 200).1 : Nat) : Int))), (6, (Value.bool ((putE LL ((R.bytes).1) ((((R.bytes).2).int).1)) == 0))), (7, (i64 ((i : Nat) : Int))), (8, (Value.string (str (R.bytes).1))), (9, (i64 ((((R.bytes).2).int).1))), (10, (Value.string (str (((((R.bytes).2).int).2).bytes).1))), (24, (Value.bool true)), (37, (Value.bool false)), (69, (Value.bool (!((putE LL ((R.bytes).1) ((((R.bytes).2).int).1)) == 0))))] 2 ?_
      refine od ?_
      refine q_cond (o := .tmp 69) (b := (!((putE LL ((R.bytes).1) ((((R.bytes).2).int).1)) == 0))) (by kernel_rfl) rfl (fun h60 => ?_) (fun h60 => ?_)
      ·rw [h60]
       have p61 : ¬ (putE LL ((R.bytes).1) ((((R.bytes).2).int).1) = 0) := of_beq_f (bnot_true h60)
       try rw [bnot_true h60]
       refine qg ?_
       refine og 4 [(0, (ptr b)), (2, (Value.pointer none)), (3, (Value.bool false)), (4, (ptr b1)), (5, (i64 (((r.sized 200).1 : Nat) : Int))), (6, (Value.bool false)), (7, (i64 ((i : Nat) : Int))), (8, (Value.string (str (R.bytes).1))), (9, (i64 ((((R.bytes).2).int).1))), (10, (Value.string (str (((((R.bytes).2).int).2).bytes).1))), (24, (Value.bool true)), (37, (Value.bool false)), (69, (Value.bool true)), (70, (ptr b1)), (73, (ptr b1))] 4 ?_
       refine Ops.go (v := (Value.slice A50 ((putS LL ((R.bytes).1) ((((R.bytes).2).int).1)).length) c51)) (by kernel_rfl) (Runs.load (t := 41) (a := ⟨b1, 0, none⟩) (by kernel_rfl) (H54.loads (by kernel_rfl))) (d := (some 74)) (by kernel_rfl) rfl ?_
       refine og 2 [(0, (ptr b)), (2, (Value.pointer none)), (3, (Value.bool false)), (4, (ptr b1)), (5, (i64 (((r.sized 200).1 : Nat) : Int))), (6, (Value.bool false)), (7, (i64 ((i : Nat) : Int))), (8, (Value.string (str (R.bytes).1))), (9, (i64 ((((R.bytes).2).int).1))), (10, (Value.string (str (((((R.bytes).2).int).2).bytes).1))), (24, (Value.bool true)), (37, (Value.bool false)), (69, (Value.bool true)), (70, (ptr b1)), (74, (Value.slice A50 ((putS LL ((R.bytes).1) ((((R.bytes).2).int).1)).length) c51)), (76, (agg [(Value.string (str (R.bytes).1)), (i64 0), (Value.string ByteArray.empty)]))] 7 ?_
       refine Ops.new (o := rowL [(Value.string (str (R.bytes).1)), (i64 0), (Value.string ByteArray.empty)] 97) (V := fun b => (Value.slice (some ⟨b, 0, none⟩) 1 1)) (by kernel_rfl) (d := (some 77)) (by kernel_rfl) (fun b => rfl) (fun b62 w63 hb64 H65 K66 hs67 => ?_)
       have lb62b : b < b62 := by have := H37.lt; omega
       have lb62b1 : b1 < b62 := by have := H54.lt; omega
       have nb62 : w.heap.size ≤ b62 := by have := K16.size; omega
       have ob68 : ∀ i o s, A = some ⟨i, o, s⟩ → i ≠ b62 := fun i o s hi => by have := F40.2 i o s hi; omega
       have ob69 : ∀ i, ((Value.slice A50 ((putS LL ((R.bytes).1) ((((R.bytes).2).int).1)).length) c51)).ownBlock = some i → i < b62 := fun i hi => by have := (World.ownsRow.lt hO55 i hi).2; omega
       replace K16 := K16.trans K66 (U := (fun i => i = b)) (fun i h1 h2 => h2) (fun i h1 h2 => by exact h2.elim)
       replace H37 := H37.keep K66 (fun h => h)
       replace H54 := H54.keep K66 (fun h => h)
       replace F40 := RdO.keep0 F40 K66
       replace hO55 := own_keep0 hO55 K66
       clear K66 hs67
       obtain ⟨v70, w71, hr72, hO73, hK74, hg75⟩ := OwnT.app (ty := 41) AccM.three AccM.one tyA hO55 (show RdT _ 3 AccM.cells _ [(⟨(R.bytes).1, 0, ([] : List UInt8)⟩ : AccM)] from Rd.lit H65 (n := 1) rfl (by decide)) (by (try simp only [List.length_append]); (try simp only [List.length_cons]); (try simp only [List.length_nil]); omega) (by (try simp only [List.length_append]); (try simp only [List.length_cons]); (try simp only [List.length_nil]); omega) K16.size
       obtain ⟨A77, c78, rfl⟩ := RdT.form AccM.three (by decide) (OwnT.rd hO73)
       obtain ⟨l79, hl80⟩ : ∃ z, z = putS LL ((R.bytes).1) ((((R.bytes).2).int).1) ++ [(⟨(R.bytes).1, 0, ([] : List UInt8)⟩ : AccM)] := ⟨_, rfl⟩
       rw [← hl80] at hr72 hO73 hg75
       have hn81 : l79.length = (putS LL ((R.bytes).1) ((((R.bytes).2).int).1)).length + 1 := by simp [hl80]
       have ob82 : ∀ i, ((Value.slice A77 l79.length c78)).ownBlock = some i → i ≠ b := fun i hi => by rcases hg75 i hi with h | h; (have := ob57 i h; omega); (have := H37.lt; omega)
       have ob83 : ∀ i, ((Value.slice A77 l79.length c78)).ownBlock = some i → i ≠ b1 := fun i hi => by rcases hg75 i hi with h | h; (have := ob58 i h; omega); (have := H54.lt; omega)
       have ob84 : ∀ i, ((Value.slice A77 l79.length c78)).ownBlock = some i → i ≠ b62 := fun i hi => by rcases hg75 i hi with h | h; (have := ob69 i h; omega); (have := H65.lt; omega)
       have oo85 : ∀ i o s, A = some ⟨i, o, s⟩ → ((Value.slice A77 l79.length c78)).ownBlock = some i → False := fun i o s hi hs => by rcases hg75 i hs with h | h; (exact oo59 i o s hi h); (have := F40.2 i o s hi; omega)
       have K76 := hK74
       refine Ops.go (v := (Value.slice A77 l79.length c78)) (by kernel_rfl) (Runs.append (ts := #[41, 41]) (ty := 41) (vs := [(Value.slice A50 ((putS LL ((R.bytes).1) ((((R.bytes).2).int).1)).length) c51), (Value.slice (some ⟨b62, 0, none⟩) 1 1)]) (by kernel_rfl) hr72) (d := (some 78)) (by kernel_rfl) rfl ?_
       replace K16 := K16.trans K76 (U := (fun i => i = b)) (fun i h1 h2 => h2) (fun i h1 h2 => by have h2 : ((Value.slice A50 ((putS LL ((R.bytes).1) ((((R.bytes).2).int).1)).length) c51)).ownBlock = some i := h2; exfalso; have := (World.ownsRow.lt hO55 i h2).1; omega)
       replace H37 := H37.keep K76 (by intro h; change ((Value.slice A50 ((putS LL ((R.bytes).1) ((((R.bytes).2).int).1)).length) c51)).ownBlock = some b at h; have := ob57 b h; omega)
       replace H54 := H54.keep K76 (by intro h; change ((Value.slice A50 ((putS LL ((R.bytes).1) ((((R.bytes).2).int).1)).length) c51)).ownBlock = some b1 at h; have := ob58 b1 h; omega)
       replace H65 := H65.keep K76 (by intro h; change ((Value.slice A50 ((putS LL ((R.bytes).1) ((((R.bytes).2).int).1)).length) c51)).ownBlock = some b62 at h; have := ob69 b62 h; omega)
       replace F40 := RdO.keep F40 K76 (fun i _ _ hi hs => by have hs : ((Value.slice A50 ((putS LL ((R.bytes).1) ((((R.bytes).2).int).1)).length) c51)).ownBlock = some i := hs; exact oo59 i _ _ hi hs)
       clear hO55
       clear K76 hr72 hK74 hg75
       refine og 2 [(0, (ptr b)), (2, (Value.pointer none)), (3, (Value.bool false)), (4, (ptr b1)), (5, (i64 (((r.sized 200).1 : Nat) : Int))), (6, (Value.bool false)), (7, (i64 ((i : Nat) : Int))), (8, (Value.string (str (R.bytes).1))), (9, (i64 ((((R.bytes).2).int).1))), (10, (Value.string (str (((((R.bytes).2).int).2).bytes).1))), (24, (Value.bool true)), (37, (Value.bool false)), (69, (Value.bool true)), (78, (Value.slice A77 l79.length c78)), (80, (ptr b1))] 11 ?_
       refine Ops.put (t := 41) (b := b1) (off := 0) (v := (Value.slice A77 l79.length c78)) (ys := [(Value.slice A77 l79.length c78)]) (by kernel_rfl) (by kernel_rfl) H54 (by kernel_rfl) (d := none) (by kernel_rfl) rfl (fun w86 H87 K88 => ?_)
       clear H54
       replace K16 := K16.trans K88 (U := (fun i => i = b)) (fun i h1 h2 => h2) (fun i h1 h2 => by have h2 : i = b1 := h2; show i = b; omega)
       replace H37 := H37.keep K88 (by intro h; change b = b1 at h; omega)
       replace H65 := H65.keep K88 (by intro h; change b62 = b1 at h; omega)
       replace F40 := RdO.keep F40 K88 (fun i _ _ hi hs => by have hs : i = b1 := hs; have := ob7 i _ _ hi; omega)
       replace hO73 := own_keep hO73 K88 (fun i hi hs => by have hs : i = b1 := hs; have := ob83 i hi; omega)
       clear K88
       refine od ?_
       refine qs ?_
       refine qg ?_
       refine og 5 [(0, (ptr b)), (2, (Value.pointer none)), (3, (Value.bool false)), (4, (ptr b1)), (5, (i64 (((r.sized 200).1 : Nat) : Int))), (6, (Value.bool false)), (7, (i64 ((i : Nat) : Int))), (8, (Value.string (str (R.bytes).1))), (9, (i64 ((((R.bytes).2).int).1))), (10, (Value.string (str (((((R.bytes).2).int).2).bytes).1))), (24, (Value.bool true)), (37, (Value.bool false)), (69, (Value.bool true)), (85, (Value.bool false))] 5 ?_
       refine od ?_
       refine q_else (o := .tmp 85) (by kernel_rfl) rfl ?_
       refine q_skip (by kernel_rfl) ?_
       refine qg ?_
       refine og 2 [(0, (ptr b)), (2, (Value.pointer none)), (3, (Value.bool false)), (4, (ptr b1)), (5, (i64 (((r.sized 200).1 : Nat) : Int))), (6, (Value.bool false)), (7, (i64 ((i : Nat) : Int))), (8, (Value.string (str (R.bytes).1))), (9, (i64 ((((R.bytes).2).int).1))), (10, (Value.string (str (((((R.bytes).2).int).2).bytes).1))), (24, (Value.bool true)), (26, (i64 (IntKind.i64.wrap (((i : Nat) : Int) + 1)))), (37, (Value.bool false)), (69, (Value.bool true)), (85, (Value.bool false))] 2 ?_
       have e89 : IntKind.i64.wrap (((i : Nat) : Int) + 1) = ((i + 1 : Nat) : Int) := by rw [wrap_i64 (by omega) (by omega)]; omega
       rw [e89]
       clear e89
       refine og 1 [(0, (ptr b)), (2, (Value.pointer none)), (3, (Value.bool false)), (4, (ptr b1)), (5, (i64 (((r.sized 200).1 : Nat) : Int))), (6, (Value.bool false)), (7, (i64 ((i + 1 : Nat) : Int))), (8, (Value.string (str (R.bytes).1))), (9, (i64 ((((R.bytes).2).int).1))), (10, (Value.string (str (((((R.bytes).2).int).2).bytes).1))), (24, (Value.bool true)), (37, (Value.bool false)), (69, (Value.bool true)), (85, (Value.bool false))] 3 ?_
       have hstep : refStep (R, optS okb LL) = ((((((R.bytes).2).int).2).bytes).2, none) := by rw [hT]; exact (step_bad (by omega) (fun q => absurd q.2 (by omega)))
       refine Ops.keep (R := [(0, (ptr b)), (2, (Value.pointer none)), (3, (Value.bool false)), (4, (ptr b1)), (5, (i64 (((r.sized 200).1 : Nat) : Int))), (6, (Value.bool false)), (7, (i64 ((i + 1 : Nat) : Int)))]) (by kernel_rfl) ?_
       refine od ?_
       have hstep : refStep (R, optS okb LL) = ((((((R.bytes).2).int).2).bytes).2, none) := by rw [hT]; exact (step_bad (by omega) (fun q => absurd q.2 (by omega)))
       exact ⟨(i + 1, (((((R.bytes).2).int).2).bytes).2, false, l79, A77, c78), ⟨rfl, F40, hO73, ob82, ob83, oo85, hok38, (by omega), (by first | omega | (rw [hlen3]; omega)), (by rw [← hF, refR_step (n := (r.sized 200).1) (i := i) (by omega), hstep]; rfl), (fun h => by cases h), K16, H37, H87⟩, (show (r.sized 200).1 - (i + 1) < (r.sized 200).1 - i from by omega)⟩
      ·rw [h60]
       have p90 : putE LL ((R.bytes).1) ((((R.bytes).2).int).1) = 0 := of_beq_t (bnot_false h60)
       try rw [bnot_false h60]
       refine q_skip (by kernel_rfl) ?_
       refine qs ?_
       refine qg ?_
       refine og 3 [(0, (ptr b)), (2, (Value.pointer none)), (3, (Value.bool false)), (4, (ptr b1)), (5, (i64 (((r.sized 200).1 : Nat) : Int))), (6, (Value.bool true)), (7, (i64 ((i : Nat) : Int))), (8, (Value.string (str (R.bytes).1))), (9, (i64 ((((R.bytes).2).int).1))), (10, (Value.string (str (((((R.bytes).2).int).2).bytes).1))), (24, (Value.bool true)), (37, (Value.bool false)), (69, (Value.bool false)), (82, (Value.bool true)), (83, (Value.string (str (((((R.bytes).2).int).2).bytes).1)))] 3 ?_
       refine Ops.go (v := (Value.bool (!((((((R.bytes).2).int).2).bytes).1 == ([] : List UInt8))))) (by kernel_rfl) (Runs.strne (t := 9) (by kernel_rfl)) (d := (some 84)) (by kernel_rfl) rfl ?_
       refine og 1 [(0, (ptr b)), (2, (Value.pointer none)), (3, (Value.bool false)), (4, (ptr b1)), (5, (i64 (((r.sized 200).1 : Nat) : Int))), (6, (Value.bool true)), (7, (i64 ((i : Nat) : Int))), (8, (Value.string (str (R.bytes).1))), (9, (i64 ((((R.bytes).2).int).1))), (10, (Value.string (str (((((R.bytes).2).int).2).bytes).1))), (24, (Value.bool true)), (37, (Value.bool false)), (69, (Value.bool false)), (85, (Value.bool (!((((((R.bytes).2).int).2).bytes).1 == ([] : List UInt8)))))] 5 ?_
       refine od ?_
       refine q_cond (o := .tmp 85) (b := (!((((((R.bytes).2).int).2).bytes).1 == ([] : List UInt8)))) (by kernel_rfl) rfl (fun h91 => ?_) (fun h91 => ?_)
       ·rw [h91]
        have p92 : ((((((R.bytes).2).int).2).bytes).1 == ([] : List UInt8)) = false := (bnot_true h91)
        refine qg ?_
        refine og 3 [(0, (ptr b)), (2, (Value.pointer none)), (3, (Value.bool false)), (4, (ptr b1)), (5, (i64 (((r.sized 200).1 : Nat) : Int))), (6, (Value.bool true)), (7, (i64 ((i : Nat) : Int))), (8, (Value.string (str (R.bytes).1))), (9, (i64 ((((R.bytes).2).int).1))), (10, (Value.string (str (((((R.bytes).2).int).2).bytes).1))), (24, (Value.bool true)), (37, (Value.bool false)), (69, (Value.bool false)), (85, (Value.bool true)), (86, (ptr b1)), (87, (Value.string (str (R.bytes).1))), (88, (Value.string (str (((((R.bytes).2).int).2).bytes).1)))] 3 ?_
        refine Ops.call (by kernel_rfl) (d := (some 89)) (by kernel_rfl) (RHold_calls _ w.heap.size b1 A50 c51 (putS LL ((R.bytes).1) ((((R.bytes).2).int).1)) ((R.bytes).1) ((((((R.bytes).2).int).2).bytes).1) H54 hO55 ob58 hacc2) ?_
        rintro _ w95 ⟨A93, c94, rfl, K96, H97, hO98, hg99⟩
        have ob100 : ∀ i, ((Value.slice A93 ((chgS (holdF ((((((R.bytes).2).int).2).bytes).1)) (putS LL ((R.bytes).1) ((((R.bytes).2).int).1)) ((R.bytes).1)).length) c94)).ownBlock = some i → i ≠ b := fun i hi => by rcases hg99 i hi with h | h; (have := ob57 i h; omega); (have := H37.lt; omega)
        have ob101 : ∀ i, ((Value.slice A93 ((chgS (holdF ((((((R.bytes).2).int).2).bytes).1)) (putS LL ((R.bytes).1) ((((R.bytes).2).int).1)) ((R.bytes).1)).length) c94)).ownBlock = some i → i ≠ b1 := fun i hi => by rcases hg99 i hi with h | h; (have := ob58 i h; omega); (have := H54.lt; omega)
        have oo102 : ∀ i o s, A = some ⟨i, o, s⟩ → ((Value.slice A93 ((chgS (holdF ((((((R.bytes).2).int).2).bytes).1)) (putS LL ((R.bytes).1) ((((R.bytes).2).int).1)) ((R.bytes).1)).length) c94)).ownBlock = some i → False := fun i o s hi hs => by rcases hg99 i hs with h | h; (exact oo59 i o s hi h); (have := F40.2 i o s hi; omega)
        refine ⟨_, _, rfl, rfl, ?_⟩
        replace K16 := K16.trans K96 (U := (fun i => i = b)) (fun i h1 h2 => h2) (fun i h1 h2 => by have h2 : i = b1 ∨ ((Value.slice A50 ((putS LL ((R.bytes).1) ((((R.bytes).2).int).1)).length) c51)).ownBlock = some i := h2; rcases h2 with h2 | h2; (exfalso; omega); (exfalso; have := (World.ownsRow.lt hO55 i h2).1; omega))
        replace H37 := H37.keep K96 (by intro h; change b = b1 ∨ ((Value.slice A50 ((putS LL ((R.bytes).1) ((((R.bytes).2).int).1)).length) c51)).ownBlock = some b at h; rcases h with h | h; (omega); (have := ob57 b h; omega))
        replace F40 := RdO.keep F40 K96 (fun i _ _ hi hs => by have hs : i = b1 ∨ ((Value.slice A50 ((putS LL ((R.bytes).1) ((((R.bytes).2).int).1)).length) c51)).ownBlock = some i := hs; rcases hs with hs | hs; (have := ob7 i _ _ hi; omega); (exact oo59 i _ _ hi hs))
        clear hO55
        clear K96
        refine od ?_
        refine qg ?_
        refine og 2 [(0, (ptr b)), (2, (Value.pointer none)), (3, (Value.bool false)), (4, (ptr b1)), (5, (i64 (((r.sized 200).1 : Nat) : Int))), (6, (Value.bool true)), (7, (i64 ((i : Nat) : Int))), (8, (Value.string (str (R.bytes).1))), (9, (i64 ((((R.bytes).2).int).1))), (10, (Value.string (str (((((R.bytes).2).int).2).bytes).1))), (24, (Value.bool true)), (26, (i64 (IntKind.i64.wrap (((i : Nat) : Int) + 1)))), (37, (Value.bool false)), (69, (Value.bool false)), (85, (Value.bool true))] 2 ?_
        have e103 : IntKind.i64.wrap (((i : Nat) : Int) + 1) = ((i + 1 : Nat) : Int) := by rw [wrap_i64 (by omega) (by omega)]; omega
        rw [e103]
        clear e103
        refine og 1 [(0, (ptr b)), (2, (Value.pointer none)), (3, (Value.bool false)), (4, (ptr b1)), (5, (i64 (((r.sized 200).1 : Nat) : Int))), (6, (Value.bool true)), (7, (i64 ((i + 1 : Nat) : Int))), (8, (Value.string (str (R.bytes).1))), (9, (i64 ((((R.bytes).2).int).1))), (10, (Value.string (str (((((R.bytes).2).int).2).bytes).1))), (24, (Value.bool true)), (37, (Value.bool false)), (69, (Value.bool false)), (85, (Value.bool true))] 3 ?_
        have hby : (R.bytes.2.int.2.bytes).1 ≠ [] := by have h := (bnot_true h91); simpa using h
        have hstep : refStep (R, optS okb LL) = ((((((R.bytes).2).int).2).bytes).2, some (chgS (holdF ((((((R.bytes).2).int).2).bytes).1)) (putS LL ((R.bytes).1) ((((R.bytes).2).int).1)) ((R.bytes).1))) := by rw [hT, step_good (by omega) hok (by omega), load_b (by omega) hby]
        have hlen2 := put_len1 (S := LL) (n := (R.bytes).1) (k := ((R.bytes).2.int).1) (by omega)
        have hacc3 := hacc2.chg (calm_hold ((R.bytes.2.int.2.bytes).1)) ((R.bytes).1)
        have hlen3 := chg_len (S := putS LL ((R.bytes).1) (((R.bytes).2.int).1)) (n := (R.bytes).1) (holdF ((R.bytes.2.int.2.bytes).1))
        refine Ops.keep (R := [(0, (ptr b)), (2, (Value.pointer none)), (3, (Value.bool false)), (4, (ptr b1)), (5, (i64 (((r.sized 200).1 : Nat) : Int))), (6, (Value.bool true)), (7, (i64 ((i + 1 : Nat) : Int)))]) (by kernel_rfl) ?_
        refine od ?_
        have hby : (R.bytes.2.int.2.bytes).1 ≠ [] := by have h := (bnot_true h91); simpa using h
        have hstep : refStep (R, optS okb LL) = ((((((R.bytes).2).int).2).bytes).2, some (chgS (holdF ((((((R.bytes).2).int).2).bytes).1)) (putS LL ((R.bytes).1) ((((R.bytes).2).int).1)) ((R.bytes).1))) := by rw [hT, step_good (by omega) hok (by omega), load_b (by omega) hby]
        have hlen2 := put_len1 (S := LL) (n := (R.bytes).1) (k := ((R.bytes).2.int).1) (by omega)
        have hacc3 := hacc2.chg (calm_hold ((R.bytes.2.int.2.bytes).1)) ((R.bytes).1)
        have hlen3 := chg_len (S := putS LL ((R.bytes).1) (((R.bytes).2.int).1)) (n := (R.bytes).1) (holdF ((R.bytes.2.int.2.bytes).1))
        exact ⟨(i + 1, (((((R.bytes).2).int).2).bytes).2, true, chgS (holdF ((((((R.bytes).2).int).2).bytes).1)) (putS LL ((R.bytes).1) ((((R.bytes).2).int).1)) ((R.bytes).1), A93, c94), ⟨rfl, F40, hO98, ob100, ob101, oo102, hok38, (by omega), (by first | omega | (rw [hlen3]; omega)), (by rw [← hF, refR_step (n := (r.sized 200).1) (i := i) (by omega), hstep]; rfl), (fun _ => ⟨by first | exact hacc3 | exact hacc2, by first | (rw [hlen3]; omega) | omega⟩), K16, H37, H97⟩, (show (r.sized 200).1 - (i + 1) < (r.sized 200).1 - i from by omega)⟩
       ·rw [h91]
        have p104 : ((((((R.bytes).2).int).2).bytes).1 == ([] : List UInt8)) = true := (bnot_false h91)
        refine q_skip (by kernel_rfl) ?_
        refine qg ?_
        refine og 2 [(0, (ptr b)), (2, (Value.pointer none)), (3, (Value.bool false)), (4, (ptr b1)), (5, (i64 (((r.sized 200).1 : Nat) : Int))), (6, (Value.bool true)), (7, (i64 ((i : Nat) : Int))), (8, (Value.string (str (R.bytes).1))), (9, (i64 ((((R.bytes).2).int).1))), (10, (Value.string (str (((((R.bytes).2).int).2).bytes).1))), (24, (Value.bool true)), (26, (i64 (IntKind.i64.wrap (((i : Nat) : Int) + 1)))), (37, (Value.bool false)), (69, (Value.bool false)), (85, (Value.bool false))] 2 ?_
        have e105 : IntKind.i64.wrap (((i : Nat) : Int) + 1) = ((i + 1 : Nat) : Int) := by rw [wrap_i64 (by omega) (by omega)]; omega
        rw [e105]
        clear e105
        refine og 1 [(0, (ptr b)), (2, (Value.pointer none)), (3, (Value.bool false)), (4, (ptr b1)), (5, (i64 (((r.sized 200).1 : Nat) : Int))), (6, (Value.bool true)), (7, (i64 ((i + 1 : Nat) : Int))), (8, (Value.string (str (R.bytes).1))), (9, (i64 ((((R.bytes).2).int).1))), (10, (Value.string (str (((((R.bytes).2).int).2).bytes).1))), (24, (Value.bool true)), (37, (Value.bool false)), (69, (Value.bool false)), (85, (Value.bool false))] 3 ?_
        have hby : (R.bytes.2.int.2.bytes).1 = [] := by have h := (bnot_false h91); simpa using h
        have hstep : refStep (R, optS okb LL) = ((((((R.bytes).2).int).2).bytes).2, some (putS LL ((R.bytes).1) ((((R.bytes).2).int).1))) := by rw [hT, step_good (by omega) hok (by omega), load_a hby]
        have hlen2 := put_len1 (S := LL) (n := (R.bytes).1) (k := ((R.bytes).2.int).1) (by omega)
        refine Ops.keep (R := [(0, (ptr b)), (2, (Value.pointer none)), (3, (Value.bool false)), (4, (ptr b1)), (5, (i64 (((r.sized 200).1 : Nat) : Int))), (6, (Value.bool true)), (7, (i64 ((i + 1 : Nat) : Int)))]) (by kernel_rfl) ?_
        refine od ?_
        have hby : (R.bytes.2.int.2.bytes).1 = [] := by have h := (bnot_false h91); simpa using h
        have hstep : refStep (R, optS okb LL) = ((((((R.bytes).2).int).2).bytes).2, some (putS LL ((R.bytes).1) ((((R.bytes).2).int).1))) := by rw [hT, step_good (by omega) hok (by omega), load_a hby]
        have hlen2 := put_len1 (S := LL) (n := (R.bytes).1) (k := ((R.bytes).2.int).1) (by omega)
        exact ⟨(i + 1, (((((R.bytes).2).int).2).bytes).2, true, putS LL ((R.bytes).1) ((((R.bytes).2).int).1), A50, c51), ⟨rfl, F40, hO55, ob57, ob58, oo59, hok38, (by omega), (by first | omega | (rw [hlen3]; omega)), (by rw [← hF, refR_step (n := (r.sized 200).1) (i := i) (by omega), hstep]; rfl), (fun _ => ⟨by first | exact hacc3 | exact hacc2, by first | (rw [hlen3]; omega) | omega⟩), K16, H37, H54⟩, (show (r.sized 200).1 - (i + 1) < (r.sized 200).1 - i from by omega)⟩
     ·rw [h48]
      have p106 : ¬ (((i : Nat) : Int) = 0) := of_beq_f h48
      refine Dr.takes (fuel' := 19) (is' := [12, 11, 10, 8, 7, 6, 5, 4, 3, 2, 1, 0]) [5, 6, 7, 8, 10, 11, 12] [(0, (ptr b)), (2, (Value.pointer none)), (3, (Value.bool false)), (4, (ptr b1)), (5, (i64 (((r.sized 200).1 : Nat) : Int))), (6, (Value.bool true)), (7, (i64 ((i : Nat) : Int))), (8, (Value.string (str (R.bytes).1))), (9, (i64 ((((R.bytes).2).int).1))), (10, (Value.string (str (((((R.bytes).2).int).2).bytes).1))), (24, (Value.bool true)), (37, (Value.bool false)), (39, (Value.bool true)), (42, (Value.bool false)), (43, (Value.string (str (R.bytes).1))), (46, (ptr b1)), (50, (ptr b1))] (by kernel_rfl) rfl (by kernel_rfl) ?_
      refine Dr.float [(0, (ptr b)), (2, (Value.pointer none)), (3, (Value.bool false)), (4, (ptr b1)), (5, (i64 (((r.sized 200).1 : Nat) : Int))), (6, (Value.bool true)), (7, (i64 ((i : Nat) : Int))), (8, (Value.string (str (R.bytes).1))), (9, (i64 ((((R.bytes).2).int).1))), (10, (Value.string (str (((((R.bytes).2).int).2).bytes).1))), (24, (Value.bool true)), (37, (Value.bool false)), (39, (Value.bool true)), (42, (Value.bool false)), (43, (Value.string (str (R.bytes).1))), (47, (Value.slice VA LL.length vc)), (50, (ptr b1))] 9 ?_
      refine DrB.load (i := 9) (j := 13) (t := 41) (a := ⟨b1, 0, none⟩) (v := (Value.slice VA LL.length vc)) (t2 := 41) (a2 := ⟨b1, 0, none⟩) (v2 := (Value.slice VA LL.length vc)) (by kernel_rfl) (.inl rfl) (by kernel_rfl) (by kernel_rfl) (by kernel_rfl) (by kernel_rfl) (di := (some 47)) (by kernel_rfl) (by kernel_rfl) (by kernel_rfl) (by kernel_rfl) (by kernel_rfl) (by kernel_rfl) (dj := (some 51)) (by kernel_rfl) rfl rfl (H18.loads (by kernel_rfl)) (H18.loads (by kernel_rfl)) ((Keeps.refl _).mono (fun _ _ h => h.elim)) ?_
      refine DrB.takes (fuel' := 15) (is' := [15, 14, 13, 12, 11, 10, 8, 7, 6, 5, 4, 3, 2, 1, 0]) [14, 15] [(0, (ptr b)), (2, (Value.pointer none)), (3, (Value.bool false)), (4, (ptr b1)), (5, (i64 (((r.sized 200).1 : Nat) : Int))), (6, (Value.bool true)), (7, (i64 ((i : Nat) : Int))), (8, (Value.string (str (R.bytes).1))), (9, (i64 ((((R.bytes).2).int).1))), (10, (Value.string (str (((((R.bytes).2).int).2).bytes).1))), (24, (Value.bool true)), (37, (Value.bool false)), (39, (Value.bool true)), (42, (Value.bool false)), (43, (Value.string (str (R.bytes).1))), (46, (ptr b1)), (53, (i64 (IntKind.i64.wrap (((LL.length : Nat) : Int) - 1))))] [(0, (ptr b)), (2, (Value.pointer none)), (3, (Value.bool false)), (4, (ptr b1)), (5, (i64 (((r.sized 200).1 : Nat) : Int))), (6, (Value.bool true)), (7, (i64 ((i : Nat) : Int))), (8, (Value.string (str (R.bytes).1))), (9, (i64 ((((R.bytes).2).int).1))), (10, (Value.string (str (((((R.bytes).2).int).2).bytes).1))), (24, (Value.bool true)), (37, (Value.bool false)), (39, (Value.bool true)), (42, (Value.bool false)), (43, (Value.string (str (R.bytes).1))), (47, (Value.slice VA LL.length vc)), (53, (i64 (IntKind.i64.wrap (((LL.length : Nat) : Int) - 1))))] (by kernel_rfl) rfl (by kernel_rfl) (by kernel_rfl) (by kernel_rfl) ?_
      have e107 : IntKind.i64.wrap (((LL.length : Nat) : Int) - 1) = ((LL.length - 1 : Nat) : Int) := by rw [wrap_i64 (by omega) (by omega)]; omega
      rw [e107]
      refine DrB.end_ (t := 41) (a := ⟨b1, 0, none⟩) (v := (Value.slice VA LL.length vc)) (R := [(0, (ptr b)), (2, (Value.pointer none)), (3, (Value.bool false)), (4, (ptr b1)), (5, (i64 (((r.sized 200).1 : Nat) : Int))), (6, (Value.bool true)), (7, (i64 ((i : Nat) : Int))), (8, (Value.string (str (R.bytes).1))), (9, (i64 ((((R.bytes).2).int).1))), (10, (Value.string (str (((((R.bytes).2).int).2).bytes).1))), (24, (Value.bool true)), (37, (Value.bool false)), (39, (Value.bool true)), (42, (Value.bool false)), (43, (Value.string (str (R.bytes).1))), (47, (Value.slice VA LL.length vc)), (53, (i64 ((LL.length - 1 : Nat) : Int)))]) (by kernel_rfl) (by kernel_rfl) (by kernel_rfl) (di := (some 47)) (by kernel_rfl) (by kernel_rfl) (by kernel_rfl) (H18.loads (by kernel_rfl)) ((Keeps.refl _).mono (fun _ _ h => h.elim)) ?_
      obtain ⟨a, ha⟩ : ∃ y, LL[LL.length - 1]? = some y := ⟨_, List.getElem?_eq_getElem (by omega)⟩
      obtain ⟨rb108, ro109, hA110⟩ := Rd.addr (OwnT.rd hOV) (by omega)
      refine Dr.take (i := 16) (v := (Value.pointer (some ⟨rb108, ro109 + (LL.length - 1) * 3, none⟩))) (by kernel_rfl) (by kernel_rfl) (fun wz hS => Runs.ixSliceE (k := IntKind.i64) (t := 41) (len := LL.length) (cap := vc) (s := 3) (off' := ro109 + (LL.length - 1) * 3) (i := ((LL.length - 1 : Nat) : Int)) hA110 (by kernel_rfl) (by kernel_rfl) (by omega) (by omega) (by omega)) (d := (some 54)) (by kernel_rfl) rfl ?_
      refine Dr.takes (fuel' := 13) (is' := [17, 16, 9, 15, 14, 13, 12, 11, 10, 8, 7, 6, 5, 4, 3, 2, 1, 0]) [17] [(0, (ptr b)), (2, (Value.pointer none)), (3, (Value.bool false)), (4, (ptr b1)), (5, (i64 (((r.sized 200).1 : Nat) : Int))), (6, (Value.bool true)), (7, (i64 ((i : Nat) : Int))), (8, (Value.string (str (R.bytes).1))), (9, (i64 ((((R.bytes).2).int).1))), (10, (Value.string (str (((((R.bytes).2).int).2).bytes).1))), (24, (Value.bool true)), (37, (Value.bool false)), (39, (Value.bool true)), (42, (Value.bool false)), (43, (Value.string (str (R.bytes).1))), (55, (Value.pointer (some ⟨rb108, ro109 + (LL.length - 1) * 3, none⟩)))] (by kernel_rfl) rfl (by kernel_rfl) ?_
      refine Dr.take (i := 18) (v := (Value.string (str a.name))) (by kernel_rfl) (by kernel_rfl) (fun wz hS => Runs.load (t := 9) (a := ⟨rb108, ro109 + (LL.length - 1) * 3, none⟩) (by kernel_rfl) (RdT.ldf (f := AccM.cells) (x := a) (o := 0) AccM.three (OwnT.rd (own_keep hOV hS (fun i hi h => by have h : i = b1 := h; (have := obVb1 i hi; omega)))) (by kernel_rfl) hA110 ha rfl)) (d := (some 56)) (by kernel_rfl) rfl ?_
      refine Dr.take (i := 19) (v := (Value.bool (!(decide ((R.bytes).1 < a.name) || (R.bytes).1 == a.name)))) (by kernel_rfl) (by kernel_rfl) (fun wz hS => Runs.strgtr (t := 9) (by kernel_rfl)) (d := (some 57)) (by kernel_rfl) rfl ?_
      refine Dr.takes (fuel' := 8) (is' := [22, 21, 20, 19, 18, 17, 16, 9, 15, 14, 13, 12, 11, 10, 8, 7, 6, 5, 4, 3, 2, 1, 0]) [20, 21, 22] [(0, (ptr b)), (2, (Value.pointer none)), (3, (Value.bool false)), (4, (ptr b1)), (5, (i64 (((r.sized 200).1 : Nat) : Int))), (6, (Value.bool true)), (7, (i64 ((i : Nat) : Int))), (8, (Value.string (str (R.bytes).1))), (9, (i64 ((((R.bytes).2).int).1))), (10, (Value.string (str (((((R.bytes).2).int).2).bytes).1))), (24, (Value.bool true)), (37, (Value.bool false)), (60, (Value.bool (!(decide ((R.bytes).1 < a.name) || (R.bytes).1 == a.name))))] (by kernel_rfl) rfl (by kernel_rfl) ?_
      refine Dr.split (!(decide ((R.bytes).1 < a.name) || (R.bytes).1 == a.name)) (fun h111 => ?_) (fun h111 => ?_)
      ·rw [h111]
       have p112 : (decide ((R.bytes).1 < a.name) || (R.bytes).1 == a.name) = false := (bnot_true h111)
       have hok := okS_t ha (gt_of (bnot_true h111))
       refine Dr.takes (fuel' := 4) (is' := [26, 25, 24, 23, 22, 21, 20, 19, 18, 17, 16, 9, 15, 14, 13, 12, 11, 10, 8, 7, 6, 5, 4, 3, 2, 1, 0]) [23, 24, 25, 26] [(0, (ptr b)), (2, (Value.pointer none)), (3, (Value.bool false)), (4, (ptr b1)), (5, (i64 (((r.sized 200).1 : Nat) : Int))), (6, (Value.bool true)), (7, (i64 ((i : Nat) : Int))), (8, (Value.string (str (R.bytes).1))), (9, (i64 ((((R.bytes).2).int).1))), (10, (Value.string (str (((((R.bytes).2).int).2).bytes).1))), (24, (Value.bool true)), (37, (Value.bool false)), (60, (Value.bool true)), (61, (ptr b1)), (64, (agg [(Value.string (str (R.bytes).1)), (i64 ((((R.bytes).2).int).1))]))] (by kernel_rfl) rfl (by kernel_rfl) ?_
       refine Dr.call (i := 27) (by kernel_rfl) (by kernel_rfl) (d := (some 65)) (by kernel_rfl) (fun _ => RPutT_calls _ w.heap.size b1 VA vc LL ((R.bytes).1) ((((R.bytes).2).int).1) H18 hOV obVb1 hacc (K16.size) (by omega)) ?_
       rintro _ w115 ⟨A113, c114, rfl, K116, H117, hO118, hg119⟩
       have ob120 : ∀ i, ((Value.slice A113 ((putS LL ((R.bytes).1) ((((R.bytes).2).int).1)).length) c114)).ownBlock = some i → i ≠ b := fun i hi => by rcases hg119 i hi with h | h; (have := obVb i h; omega); (have := H37.lt; omega)
       have ob121 : ∀ i, ((Value.slice A113 ((putS LL ((R.bytes).1) ((((R.bytes).2).int).1)).length) c114)).ownBlock = some i → i ≠ b1 := fun i hi => by rcases hg119 i hi with h | h; (have := obVb1 i h; omega); (have := H18.lt; omega)
       have oo122 : ∀ i o s, A = some ⟨i, o, s⟩ → ((Value.slice A113 ((putS LL ((R.bytes).1) ((((R.bytes).2).int).1)).length) c114)).ownBlock = some i → False := fun i o s hi hs => by rcases hg119 i hs with h | h; (exact ooVA i o s hi h); (have := F40.2 i o s hi; omega)
       have hacc2 := Accs.put hacc (n := (R.bytes).1) (k := (((R.bytes).2).int).1) (by omega)
       have hple := put_le LL ((R.bytes).1) ((((R.bytes).2).int).1)
       replace K16 := K16.trans K116 (U := (fun i => i = b)) (fun i h1 h2 => h2) (fun i h1 h2 => by have h2 : i = b1 := h2; show i = b; omega)
       replace H37 := H37.keep K116 (by intro h; change b = b1 at h; omega)
       replace F40 := RdO.keep F40 K116 (fun i _ _ hi hs => by have hs : i = b1 := hs; have := ob7 i _ _ hi; omega)
       replace hOV := own_keep hOV K116 (fun i hi hs => by have hs : i = b1 := hs; have := obVb1 i hi; omega)
       refine ⟨_, _, rfl, rfl, K116, ?_⟩
       refine Dr.strong (S' := (fun wz => Keeps (fun i => i = b1) w115 wz)) ((Keeps.refl w115).mono (fun _ _ h => h.elim)) (fun wz hx => K116.trans hx (fun i _ h => by have h : i = b1 := h; show i = b1; omega) (fun _ _ h => h)) ?_
       clear K116
       refine Dr.takes (fuel' := 0) (is' := [30, 29, 28, 27, 26, 25, 24, 23, 22, 21, 20, 19, 18, 17, 16, 9, 15, 14, 13, 12, 11, 10, 8, 7, 6, 5, 4, 3, 2, 1, 0]) [28, 29, 30] [(0, (ptr b)), (2, (Value.pointer none)), (3, (Value.bool false)), (4, (ptr b1)), (5, (i64 (((r.sized 200).1 : Nat) : Int))), (6, (Value.bool ((putE LL ((R.bytes).1) ((((R.bytes).2).int).1)) == 0))), (7, (i64 ((i : Nat) : Int))), (8, (Value.string (str (R.bytes).1))), (9, (i64 ((((R.bytes).2).int).1))), (10, (Value.string (str (((((R.bytes).2).int).2).bytes).1))), (24, (Value.bool true)), (37, (Value.bool false))] (by kernel_rfl) rfl (by kernel_rfl) ?_
       refine Dr.done (by kernel_rfl) ?_
       refine qs ?_
       refine qs ?_
       refine qg ?_
       refine og 2 [(0, (ptr b)), (2, (Value.pointer none)), (3, (Value.bool false)), (4, (ptr b1)), (5, (i64 (((r.sized 200).1 : Nat) : Int))), (6, (Value.bool ((putE LL ((R.bytes).1) ((((R.bytes).2).int).1)) == 0))), (7, (i64 ((i : Nat) : Int))), (8, (Value.string (str (R.bytes).1))), (9, (i64 ((((R.bytes).2).int).1))), (10, (Value.string (str (((((R.bytes).2).int).2).bytes).1))), (24, (Value.bool true)), (37, (Value.bool false)), (69, (Value.bool (!((putE LL ((R.bytes).1) ((((R.bytes).2).int).1)) == 0))))] 2 ?_
       refine od ?_
       refine q_cond (o := .tmp 69) (b := (!((putE LL ((R.bytes).1) ((((R.bytes).2).int).1)) == 0))) (by kernel_rfl) rfl (fun h123 => ?_) (fun h123 => ?_)
       ·rw [h123]
        have p124 : ¬ (putE LL ((R.bytes).1) ((((R.bytes).2).int).1) = 0) := of_beq_f (bnot_true h123)
        try rw [bnot_true h123]
        refine qg ?_
        refine og 4 [(0, (ptr b)), (2, (Value.pointer none)), (3, (Value.bool false)), (4, (ptr b1)), (5, (i64 (((r.sized 200).1 : Nat) : Int))), (6, (Value.bool false)), (7, (i64 ((i : Nat) : Int))), (8, (Value.string (str (R.bytes).1))), (9, (i64 ((((R.bytes).2).int).1))), (10, (Value.string (str (((((R.bytes).2).int).2).bytes).1))), (24, (Value.bool true)), (37, (Value.bool false)), (69, (Value.bool true)), (70, (ptr b1)), (73, (ptr b1))] 4 ?_
        refine Ops.go (v := (Value.slice A113 ((putS LL ((R.bytes).1) ((((R.bytes).2).int).1)).length) c114)) (by kernel_rfl) (Runs.load (t := 41) (a := ⟨b1, 0, none⟩) (by kernel_rfl) (H117.loads (by kernel_rfl))) (d := (some 74)) (by kernel_rfl) rfl ?_
        refine og 2 [(0, (ptr b)), (2, (Value.pointer none)), (3, (Value.bool false)), (4, (ptr b1)), (5, (i64 (((r.sized 200).1 : Nat) : Int))), (6, (Value.bool false)), (7, (i64 ((i : Nat) : Int))), (8, (Value.string (str (R.bytes).1))), (9, (i64 ((((R.bytes).2).int).1))), (10, (Value.string (str (((((R.bytes).2).int).2).bytes).1))), (24, (Value.bool true)), (37, (Value.bool false)), (69, (Value.bool true)), (70, (ptr b1)), (74, (Value.slice A113 ((putS LL ((R.bytes).1) ((((R.bytes).2).int).1)).length) c114)), (76, (agg [(Value.string (str (R.bytes).1)), (i64 0), (Value.string ByteArray.empty)]))] 7 ?_
        refine Ops.new (o := rowL [(Value.string (str (R.bytes).1)), (i64 0), (Value.string ByteArray.empty)] 97) (V := fun b => (Value.slice (some ⟨b, 0, none⟩) 1 1)) (by kernel_rfl) (d := (some 77)) (by kernel_rfl) (fun b => rfl) (fun b125 w126 hb127 H128 K129 hs130 => ?_)
        have lb125b : b < b125 := by have := H37.lt; omega
        have lb125b1 : b1 < b125 := by have := H117.lt; omega
        have nb125 : w.heap.size ≤ b125 := by have := K16.size; omega
        have ob131 : ∀ i o s, A = some ⟨i, o, s⟩ → i ≠ b125 := fun i o s hi => by have := F40.2 i o s hi; omega
        have ob132 : ∀ i, ((Value.slice A113 ((putS LL ((R.bytes).1) ((((R.bytes).2).int).1)).length) c114)).ownBlock = some i → i < b125 := fun i hi => by have := (World.ownsRow.lt hO118 i hi).2; omega
        replace K16 := K16.trans K129 (U := (fun i => i = b)) (fun i h1 h2 => h2) (fun i h1 h2 => by exact h2.elim)
        replace H37 := H37.keep K129 (fun h => h)
        replace H117 := H117.keep K129 (fun h => h)
        replace F40 := RdO.keep0 F40 K129
        replace hO118 := own_keep0 hO118 K129
        clear K129 hs130
        obtain ⟨v133, w134, hr135, hO136, hK137, hg138⟩ := OwnT.app (ty := 41) AccM.three AccM.one tyA hO118 (show RdT _ 3 AccM.cells _ [(⟨(R.bytes).1, 0, ([] : List UInt8)⟩ : AccM)] from Rd.lit H128 (n := 1) rfl (by decide)) (by (try simp only [List.length_append]); (try simp only [List.length_cons]); (try simp only [List.length_nil]); omega) (by (try simp only [List.length_append]); (try simp only [List.length_cons]); (try simp only [List.length_nil]); omega) K16.size
        obtain ⟨A140, c141, rfl⟩ := RdT.form AccM.three (by decide) (OwnT.rd hO136)
        obtain ⟨l142, hl143⟩ : ∃ z, z = putS LL ((R.bytes).1) ((((R.bytes).2).int).1) ++ [(⟨(R.bytes).1, 0, ([] : List UInt8)⟩ : AccM)] := ⟨_, rfl⟩
        rw [← hl143] at hr135 hO136 hg138
        have hn144 : l142.length = (putS LL ((R.bytes).1) ((((R.bytes).2).int).1)).length + 1 := by simp [hl143]
        have ob145 : ∀ i, ((Value.slice A140 l142.length c141)).ownBlock = some i → i ≠ b := fun i hi => by rcases hg138 i hi with h | h; (have := ob120 i h; omega); (have := H37.lt; omega)
        have ob146 : ∀ i, ((Value.slice A140 l142.length c141)).ownBlock = some i → i ≠ b1 := fun i hi => by rcases hg138 i hi with h | h; (have := ob121 i h; omega); (have := H117.lt; omega)
        have ob147 : ∀ i, ((Value.slice A140 l142.length c141)).ownBlock = some i → i ≠ b125 := fun i hi => by rcases hg138 i hi with h | h; (have := ob132 i h; omega); (have := H128.lt; omega)
        have oo148 : ∀ i o s, A = some ⟨i, o, s⟩ → ((Value.slice A140 l142.length c141)).ownBlock = some i → False := fun i o s hi hs => by rcases hg138 i hs with h | h; (exact oo122 i o s hi h); (have := F40.2 i o s hi; omega)
        have K139 := hK137
        refine Ops.go (v := (Value.slice A140 l142.length c141)) (by kernel_rfl) (Runs.append (ts := #[41, 41]) (ty := 41) (vs := [(Value.slice A113 ((putS LL ((R.bytes).1) ((((R.bytes).2).int).1)).length) c114), (Value.slice (some ⟨b125, 0, none⟩) 1 1)]) (by kernel_rfl) hr135) (d := (some 78)) (by kernel_rfl) rfl ?_
        replace K16 := K16.trans K139 (U := (fun i => i = b)) (fun i h1 h2 => h2) (fun i h1 h2 => by have h2 : ((Value.slice A113 ((putS LL ((R.bytes).1) ((((R.bytes).2).int).1)).length) c114)).ownBlock = some i := h2; exfalso; have := (World.ownsRow.lt hO118 i h2).1; omega)
        replace H37 := H37.keep K139 (by intro h; change ((Value.slice A113 ((putS LL ((R.bytes).1) ((((R.bytes).2).int).1)).length) c114)).ownBlock = some b at h; have := ob120 b h; omega)
        replace H117 := H117.keep K139 (by intro h; change ((Value.slice A113 ((putS LL ((R.bytes).1) ((((R.bytes).2).int).1)).length) c114)).ownBlock = some b1 at h; have := ob121 b1 h; omega)
        replace H128 := H128.keep K139 (by intro h; change ((Value.slice A113 ((putS LL ((R.bytes).1) ((((R.bytes).2).int).1)).length) c114)).ownBlock = some b125 at h; have := ob132 b125 h; omega)
        replace F40 := RdO.keep F40 K139 (fun i _ _ hi hs => by have hs : ((Value.slice A113 ((putS LL ((R.bytes).1) ((((R.bytes).2).int).1)).length) c114)).ownBlock = some i := hs; exact oo122 i _ _ hi hs)
        clear hO118
        clear K139 hr135 hK137 hg138
        refine og 2 [(0, (ptr b)), (2, (Value.pointer none)), (3, (Value.bool false)), (4, (ptr b1)), (5, (i64 (((r.sized 200).1 : Nat) : Int))), (6, (Value.bool false)), (7, (i64 ((i : Nat) : Int))), (8, (Value.string (str (R.bytes).1))), (9, (i64 ((((R.bytes).2).int).1))), (10, (Value.string (str (((((R.bytes).2).int).2).bytes).1))), (24, (Value.bool true)), (37, (Value.bool false)), (69, (Value.bool true)), (78, (Value.slice A140 l142.length c141)), (80, (ptr b1))] 11 ?_
        refine Ops.put (t := 41) (b := b1) (off := 0) (v := (Value.slice A140 l142.length c141)) (ys := [(Value.slice A140 l142.length c141)]) (by kernel_rfl) (by kernel_rfl) H117 (by kernel_rfl) (d := none) (by kernel_rfl) rfl (fun w149 H150 K151 => ?_)
        clear H117
        replace K16 := K16.trans K151 (U := (fun i => i = b)) (fun i h1 h2 => h2) (fun i h1 h2 => by have h2 : i = b1 := h2; show i = b; omega)
        replace H37 := H37.keep K151 (by intro h; change b = b1 at h; omega)
        replace H128 := H128.keep K151 (by intro h; change b125 = b1 at h; omega)
        replace F40 := RdO.keep F40 K151 (fun i _ _ hi hs => by have hs : i = b1 := hs; have := ob7 i _ _ hi; omega)
        replace hO136 := own_keep hO136 K151 (fun i hi hs => by have hs : i = b1 := hs; have := ob146 i hi; omega)
        clear K151
        refine od ?_
        refine qs ?_
        refine qg ?_
        refine og 5 [(0, (ptr b)), (2, (Value.pointer none)), (3, (Value.bool false)), (4, (ptr b1)), (5, (i64 (((r.sized 200).1 : Nat) : Int))), (6, (Value.bool false)), (7, (i64 ((i : Nat) : Int))), (8, (Value.string (str (R.bytes).1))), (9, (i64 ((((R.bytes).2).int).1))), (10, (Value.string (str (((((R.bytes).2).int).2).bytes).1))), (24, (Value.bool true)), (37, (Value.bool false)), (69, (Value.bool true)), (85, (Value.bool false))] 5 ?_
        refine od ?_
        refine q_else (o := .tmp 85) (by kernel_rfl) rfl ?_
        refine q_skip (by kernel_rfl) ?_
        refine qg ?_
        refine og 2 [(0, (ptr b)), (2, (Value.pointer none)), (3, (Value.bool false)), (4, (ptr b1)), (5, (i64 (((r.sized 200).1 : Nat) : Int))), (6, (Value.bool false)), (7, (i64 ((i : Nat) : Int))), (8, (Value.string (str (R.bytes).1))), (9, (i64 ((((R.bytes).2).int).1))), (10, (Value.string (str (((((R.bytes).2).int).2).bytes).1))), (24, (Value.bool true)), (26, (i64 (IntKind.i64.wrap (((i : Nat) : Int) + 1)))), (37, (Value.bool false)), (69, (Value.bool true)), (85, (Value.bool false))] 2 ?_
        have e152 : IntKind.i64.wrap (((i : Nat) : Int) + 1) = ((i + 1 : Nat) : Int) := by rw [wrap_i64 (by omega) (by omega)]; omega
        rw [e152]
        clear e152
        refine og 1 [(0, (ptr b)), (2, (Value.pointer none)), (3, (Value.bool false)), (4, (ptr b1)), (5, (i64 (((r.sized 200).1 : Nat) : Int))), (6, (Value.bool false)), (7, (i64 ((i + 1 : Nat) : Int))), (8, (Value.string (str (R.bytes).1))), (9, (i64 ((((R.bytes).2).int).1))), (10, (Value.string (str (((((R.bytes).2).int).2).bytes).1))), (24, (Value.bool true)), (37, (Value.bool false)), (69, (Value.bool true)), (85, (Value.bool false))] 3 ?_
        have hstep : refStep (R, optS okb LL) = ((((((R.bytes).2).int).2).bytes).2, none) := by rw [hT]; exact (step_bad (by omega) (fun q => absurd q.2 (by omega)))
        refine Ops.keep (R := [(0, (ptr b)), (2, (Value.pointer none)), (3, (Value.bool false)), (4, (ptr b1)), (5, (i64 (((r.sized 200).1 : Nat) : Int))), (6, (Value.bool false)), (7, (i64 ((i + 1 : Nat) : Int)))]) (by kernel_rfl) ?_
        refine od ?_
        have hstep : refStep (R, optS okb LL) = ((((((R.bytes).2).int).2).bytes).2, none) := by rw [hT]; exact (step_bad (by omega) (fun q => absurd q.2 (by omega)))
        exact ⟨(i + 1, (((((R.bytes).2).int).2).bytes).2, false, l142, A140, c141), ⟨rfl, F40, hO136, ob145, ob146, oo148, hok38, (by omega), (by first | omega | (rw [hlen3]; omega)), (by rw [← hF, refR_step (n := (r.sized 200).1) (i := i) (by omega), hstep]; rfl), (fun h => by cases h), K16, H37, H150⟩, (show (r.sized 200).1 - (i + 1) < (r.sized 200).1 - i from by omega)⟩
       ·rw [h123]
        have p153 : putE LL ((R.bytes).1) ((((R.bytes).2).int).1) = 0 := of_beq_t (bnot_false h123)
        try rw [bnot_false h123]
        refine q_skip (by kernel_rfl) ?_
        refine qs ?_
        refine qg ?_
        refine og 3 [(0, (ptr b)), (2, (Value.pointer none)), (3, (Value.bool false)), (4, (ptr b1)), (5, (i64 (((r.sized 200).1 : Nat) : Int))), (6, (Value.bool true)), (7, (i64 ((i : Nat) : Int))), (8, (Value.string (str (R.bytes).1))), (9, (i64 ((((R.bytes).2).int).1))), (10, (Value.string (str (((((R.bytes).2).int).2).bytes).1))), (24, (Value.bool true)), (37, (Value.bool false)), (69, (Value.bool false)), (82, (Value.bool true)), (83, (Value.string (str (((((R.bytes).2).int).2).bytes).1)))] 3 ?_
        refine Ops.go (v := (Value.bool (!((((((R.bytes).2).int).2).bytes).1 == ([] : List UInt8))))) (by kernel_rfl) (Runs.strne (t := 9) (by kernel_rfl)) (d := (some 84)) (by kernel_rfl) rfl ?_
        refine og 1 [(0, (ptr b)), (2, (Value.pointer none)), (3, (Value.bool false)), (4, (ptr b1)), (5, (i64 (((r.sized 200).1 : Nat) : Int))), (6, (Value.bool true)), (7, (i64 ((i : Nat) : Int))), (8, (Value.string (str (R.bytes).1))), (9, (i64 ((((R.bytes).2).int).1))), (10, (Value.string (str (((((R.bytes).2).int).2).bytes).1))), (24, (Value.bool true)), (37, (Value.bool false)), (69, (Value.bool false)), (85, (Value.bool (!((((((R.bytes).2).int).2).bytes).1 == ([] : List UInt8)))))] 5 ?_
        refine od ?_
        refine q_cond (o := .tmp 85) (b := (!((((((R.bytes).2).int).2).bytes).1 == ([] : List UInt8)))) (by kernel_rfl) rfl (fun h154 => ?_) (fun h154 => ?_)
        ·rw [h154]
         have p155 : ((((((R.bytes).2).int).2).bytes).1 == ([] : List UInt8)) = false := (bnot_true h154)
         refine qg ?_
         refine og 3 [(0, (ptr b)), (2, (Value.pointer none)), (3, (Value.bool false)), (4, (ptr b1)), (5, (i64 (((r.sized 200).1 : Nat) : Int))), (6, (Value.bool true)), (7, (i64 ((i : Nat) : Int))), (8, (Value.string (str (R.bytes).1))), (9, (i64 ((((R.bytes).2).int).1))), (10, (Value.string (str (((((R.bytes).2).int).2).bytes).1))), (24, (Value.bool true)), (37, (Value.bool false)), (69, (Value.bool false)), (85, (Value.bool true)), (86, (ptr b1)), (87, (Value.string (str (R.bytes).1))), (88, (Value.string (str (((((R.bytes).2).int).2).bytes).1)))] 3 ?_
         refine Ops.call (by kernel_rfl) (d := (some 89)) (by kernel_rfl) (RHold_calls _ w.heap.size b1 A113 c114 (putS LL ((R.bytes).1) ((((R.bytes).2).int).1)) ((R.bytes).1) ((((((R.bytes).2).int).2).bytes).1) H117 hO118 ob121 hacc2) ?_
         rintro _ w158 ⟨A156, c157, rfl, K159, H160, hO161, hg162⟩
         have ob163 : ∀ i, ((Value.slice A156 ((chgS (holdF ((((((R.bytes).2).int).2).bytes).1)) (putS LL ((R.bytes).1) ((((R.bytes).2).int).1)) ((R.bytes).1)).length) c157)).ownBlock = some i → i ≠ b := fun i hi => by rcases hg162 i hi with h | h; (have := ob120 i h; omega); (have := H37.lt; omega)
         have ob164 : ∀ i, ((Value.slice A156 ((chgS (holdF ((((((R.bytes).2).int).2).bytes).1)) (putS LL ((R.bytes).1) ((((R.bytes).2).int).1)) ((R.bytes).1)).length) c157)).ownBlock = some i → i ≠ b1 := fun i hi => by rcases hg162 i hi with h | h; (have := ob121 i h; omega); (have := H117.lt; omega)
         have oo165 : ∀ i o s, A = some ⟨i, o, s⟩ → ((Value.slice A156 ((chgS (holdF ((((((R.bytes).2).int).2).bytes).1)) (putS LL ((R.bytes).1) ((((R.bytes).2).int).1)) ((R.bytes).1)).length) c157)).ownBlock = some i → False := fun i o s hi hs => by rcases hg162 i hs with h | h; (exact oo122 i o s hi h); (have := F40.2 i o s hi; omega)
         refine ⟨_, _, rfl, rfl, ?_⟩
         replace K16 := K16.trans K159 (U := (fun i => i = b)) (fun i h1 h2 => h2) (fun i h1 h2 => by have h2 : i = b1 ∨ ((Value.slice A113 ((putS LL ((R.bytes).1) ((((R.bytes).2).int).1)).length) c114)).ownBlock = some i := h2; rcases h2 with h2 | h2; (exfalso; omega); (exfalso; have := (World.ownsRow.lt hO118 i h2).1; omega))
         replace H37 := H37.keep K159 (by intro h; change b = b1 ∨ ((Value.slice A113 ((putS LL ((R.bytes).1) ((((R.bytes).2).int).1)).length) c114)).ownBlock = some b at h; rcases h with h | h; (omega); (have := ob120 b h; omega))
         replace F40 := RdO.keep F40 K159 (fun i _ _ hi hs => by have hs : i = b1 ∨ ((Value.slice A113 ((putS LL ((R.bytes).1) ((((R.bytes).2).int).1)).length) c114)).ownBlock = some i := hs; rcases hs with hs | hs; (have := ob7 i _ _ hi; omega); (exact oo122 i _ _ hi hs))
         clear hO118
         clear K159
         refine od ?_
         refine qg ?_
         refine og 2 [(0, (ptr b)), (2, (Value.pointer none)), (3, (Value.bool false)), (4, (ptr b1)), (5, (i64 (((r.sized 200).1 : Nat) : Int))), (6, (Value.bool true)), (7, (i64 ((i : Nat) : Int))), (8, (Value.string (str (R.bytes).1))), (9, (i64 ((((R.bytes).2).int).1))), (10, (Value.string (str (((((R.bytes).2).int).2).bytes).1))), (24, (Value.bool true)), (26, (i64 (IntKind.i64.wrap (((i : Nat) : Int) + 1)))), (37, (Value.bool false)), (69, (Value.bool false)), (85, (Value.bool true))] 2 ?_
         have e166 : IntKind.i64.wrap (((i : Nat) : Int) + 1) = ((i + 1 : Nat) : Int) := by rw [wrap_i64 (by omega) (by omega)]; omega
         rw [e166]
         clear e166
         refine og 1 [(0, (ptr b)), (2, (Value.pointer none)), (3, (Value.bool false)), (4, (ptr b1)), (5, (i64 (((r.sized 200).1 : Nat) : Int))), (6, (Value.bool true)), (7, (i64 ((i + 1 : Nat) : Int))), (8, (Value.string (str (R.bytes).1))), (9, (i64 ((((R.bytes).2).int).1))), (10, (Value.string (str (((((R.bytes).2).int).2).bytes).1))), (24, (Value.bool true)), (37, (Value.bool false)), (69, (Value.bool false)), (85, (Value.bool true))] 3 ?_
         have hby : (R.bytes.2.int.2.bytes).1 ≠ [] := by have h := (bnot_true h154); simpa using h
         have hstep : refStep (R, optS okb LL) = ((((((R.bytes).2).int).2).bytes).2, some (chgS (holdF ((((((R.bytes).2).int).2).bytes).1)) (putS LL ((R.bytes).1) ((((R.bytes).2).int).1)) ((R.bytes).1))) := by rw [hT, step_good (by omega) hok (by omega), load_b (by omega) hby]
         have hlen2 := put_len1 (S := LL) (n := (R.bytes).1) (k := ((R.bytes).2.int).1) (by omega)
         have hacc3 := hacc2.chg (calm_hold ((R.bytes.2.int.2.bytes).1)) ((R.bytes).1)
         have hlen3 := chg_len (S := putS LL ((R.bytes).1) (((R.bytes).2.int).1)) (n := (R.bytes).1) (holdF ((R.bytes.2.int.2.bytes).1))
         refine Ops.keep (R := [(0, (ptr b)), (2, (Value.pointer none)), (3, (Value.bool false)), (4, (ptr b1)), (5, (i64 (((r.sized 200).1 : Nat) : Int))), (6, (Value.bool true)), (7, (i64 ((i + 1 : Nat) : Int)))]) (by kernel_rfl) ?_
         refine od ?_
         have hby : (R.bytes.2.int.2.bytes).1 ≠ [] := by have h := (bnot_true h154); simpa using h
         have hstep : refStep (R, optS okb LL) = ((((((R.bytes).2).int).2).bytes).2, some (chgS (holdF ((((((R.bytes).2).int).2).bytes).1)) (putS LL ((R.bytes).1) ((((R.bytes).2).int).1)) ((R.bytes).1))) := by rw [hT, step_good (by omega) hok (by omega), load_b (by omega) hby]
         have hlen2 := put_len1 (S := LL) (n := (R.bytes).1) (k := ((R.bytes).2.int).1) (by omega)
         have hacc3 := hacc2.chg (calm_hold ((R.bytes.2.int.2.bytes).1)) ((R.bytes).1)
         have hlen3 := chg_len (S := putS LL ((R.bytes).1) (((R.bytes).2.int).1)) (n := (R.bytes).1) (holdF ((R.bytes.2.int.2.bytes).1))
         exact ⟨(i + 1, (((((R.bytes).2).int).2).bytes).2, true, chgS (holdF ((((((R.bytes).2).int).2).bytes).1)) (putS LL ((R.bytes).1) ((((R.bytes).2).int).1)) ((R.bytes).1), A156, c157), ⟨rfl, F40, hO161, ob163, ob164, oo165, hok38, (by omega), (by first | omega | (rw [hlen3]; omega)), (by rw [← hF, refR_step (n := (r.sized 200).1) (i := i) (by omega), hstep]; rfl), (fun _ => ⟨by first | exact hacc3 | exact hacc2, by first | (rw [hlen3]; omega) | omega⟩), K16, H37, H160⟩, (show (r.sized 200).1 - (i + 1) < (r.sized 200).1 - i from by omega)⟩
        ·rw [h154]
         have p167 : ((((((R.bytes).2).int).2).bytes).1 == ([] : List UInt8)) = true := (bnot_false h154)
         refine q_skip (by kernel_rfl) ?_
         refine qg ?_
         refine og 2 [(0, (ptr b)), (2, (Value.pointer none)), (3, (Value.bool false)), (4, (ptr b1)), (5, (i64 (((r.sized 200).1 : Nat) : Int))), (6, (Value.bool true)), (7, (i64 ((i : Nat) : Int))), (8, (Value.string (str (R.bytes).1))), (9, (i64 ((((R.bytes).2).int).1))), (10, (Value.string (str (((((R.bytes).2).int).2).bytes).1))), (24, (Value.bool true)), (26, (i64 (IntKind.i64.wrap (((i : Nat) : Int) + 1)))), (37, (Value.bool false)), (69, (Value.bool false)), (85, (Value.bool false))] 2 ?_
         have e168 : IntKind.i64.wrap (((i : Nat) : Int) + 1) = ((i + 1 : Nat) : Int) := by rw [wrap_i64 (by omega) (by omega)]; omega
         rw [e168]
         clear e168
         refine og 1 [(0, (ptr b)), (2, (Value.pointer none)), (3, (Value.bool false)), (4, (ptr b1)), (5, (i64 (((r.sized 200).1 : Nat) : Int))), (6, (Value.bool true)), (7, (i64 ((i + 1 : Nat) : Int))), (8, (Value.string (str (R.bytes).1))), (9, (i64 ((((R.bytes).2).int).1))), (10, (Value.string (str (((((R.bytes).2).int).2).bytes).1))), (24, (Value.bool true)), (37, (Value.bool false)), (69, (Value.bool false)), (85, (Value.bool false))] 3 ?_
         have hby : (R.bytes.2.int.2.bytes).1 = [] := by have h := (bnot_false h154); simpa using h
         have hstep : refStep (R, optS okb LL) = ((((((R.bytes).2).int).2).bytes).2, some (putS LL ((R.bytes).1) ((((R.bytes).2).int).1))) := by rw [hT, step_good (by omega) hok (by omega), load_a hby]
         have hlen2 := put_len1 (S := LL) (n := (R.bytes).1) (k := ((R.bytes).2.int).1) (by omega)
         refine Ops.keep (R := [(0, (ptr b)), (2, (Value.pointer none)), (3, (Value.bool false)), (4, (ptr b1)), (5, (i64 (((r.sized 200).1 : Nat) : Int))), (6, (Value.bool true)), (7, (i64 ((i + 1 : Nat) : Int)))]) (by kernel_rfl) ?_
         refine od ?_
         have hby : (R.bytes.2.int.2.bytes).1 = [] := by have h := (bnot_false h154); simpa using h
         have hstep : refStep (R, optS okb LL) = ((((((R.bytes).2).int).2).bytes).2, some (putS LL ((R.bytes).1) ((((R.bytes).2).int).1))) := by rw [hT, step_good (by omega) hok (by omega), load_a hby]
         have hlen2 := put_len1 (S := LL) (n := (R.bytes).1) (k := ((R.bytes).2.int).1) (by omega)
         exact ⟨(i + 1, (((((R.bytes).2).int).2).bytes).2, true, putS LL ((R.bytes).1) ((((R.bytes).2).int).1), A113, c114), ⟨rfl, F40, hO118, ob120, ob121, oo122, hok38, (by omega), (by first | omega | (rw [hlen3]; omega)), (by rw [← hF, refR_step (n := (r.sized 200).1) (i := i) (by omega), hstep]; rfl), (fun _ => ⟨by first | exact hacc3 | exact hacc2, by first | (rw [hlen3]; omega) | omega⟩), K16, H37, H117⟩, (show (r.sized 200).1 - (i + 1) < (r.sized 200).1 - i from by omega)⟩
      ·rw [h111]
       have p169 : (decide ((R.bytes).1 < a.name) || (R.bytes).1 == a.name) = true := (bnot_false h111)
       have hok := okS_f ha (not_gt (bnot_false h111))
       refine Dr.takes (fuel' := 0) (is' := [30, 29, 28, 27, 26, 25, 24, 23, 22, 21, 20, 19, 18, 17, 16, 9, 15, 14, 13, 12, 11, 10, 8, 7, 6, 5, 4, 3, 2, 1, 0]) [23, 24, 25, 26, 27, 28, 29, 30] [(0, (ptr b)), (2, (Value.pointer none)), (3, (Value.bool false)), (4, (ptr b1)), (5, (i64 (((r.sized 200).1 : Nat) : Int))), (6, (Value.bool false)), (7, (i64 ((i : Nat) : Int))), (8, (Value.string (str (R.bytes).1))), (9, (i64 ((((R.bytes).2).int).1))), (10, (Value.string (str (((((R.bytes).2).int).2).bytes).1))), (24, (Value.bool true)), (37, (Value.bool false))] (by kernel_rfl) rfl (by kernel_rfl) ?_
       refine Dr.done (by kernel_rfl) ?_
       refine qs ?_
       refine qs ?_
       refine qg ?_
       refine og 2 [(0, (ptr b)), (2, (Value.pointer none)), (3, (Value.bool false)), (4, (ptr b1)), (5, (i64 (((r.sized 200).1 : Nat) : Int))), (6, (Value.bool false)), (7, (i64 ((i : Nat) : Int))), (8, (Value.string (str (R.bytes).1))), (9, (i64 ((((R.bytes).2).int).1))), (10, (Value.string (str (((((R.bytes).2).int).2).bytes).1))), (24, (Value.bool true)), (37, (Value.bool false)), (69, (Value.bool true))] 2 ?_
       refine od ?_
       refine q_then (o := .tmp 69) (by kernel_rfl) rfl ?_
       refine qg ?_
       refine og 4 [(0, (ptr b)), (2, (Value.pointer none)), (3, (Value.bool false)), (4, (ptr b1)), (5, (i64 (((r.sized 200).1 : Nat) : Int))), (6, (Value.bool false)), (7, (i64 ((i : Nat) : Int))), (8, (Value.string (str (R.bytes).1))), (9, (i64 ((((R.bytes).2).int).1))), (10, (Value.string (str (((((R.bytes).2).int).2).bytes).1))), (24, (Value.bool true)), (37, (Value.bool false)), (69, (Value.bool true)), (70, (ptr b1)), (73, (ptr b1))] 4 ?_
       refine Ops.go (v := (Value.slice VA LL.length vc)) (by kernel_rfl) (Runs.load (t := 41) (a := ⟨b1, 0, none⟩) (by kernel_rfl) (H18.loads (by kernel_rfl))) (d := (some 74)) (by kernel_rfl) rfl ?_
       refine og 2 [(0, (ptr b)), (2, (Value.pointer none)), (3, (Value.bool false)), (4, (ptr b1)), (5, (i64 (((r.sized 200).1 : Nat) : Int))), (6, (Value.bool false)), (7, (i64 ((i : Nat) : Int))), (8, (Value.string (str (R.bytes).1))), (9, (i64 ((((R.bytes).2).int).1))), (10, (Value.string (str (((((R.bytes).2).int).2).bytes).1))), (24, (Value.bool true)), (37, (Value.bool false)), (69, (Value.bool true)), (70, (ptr b1)), (74, (Value.slice VA LL.length vc)), (76, (agg [(Value.string (str (R.bytes).1)), (i64 0), (Value.string ByteArray.empty)]))] 7 ?_
       refine Ops.new (o := rowL [(Value.string (str (R.bytes).1)), (i64 0), (Value.string ByteArray.empty)] 97) (V := fun b => (Value.slice (some ⟨b, 0, none⟩) 1 1)) (by kernel_rfl) (d := (some 77)) (by kernel_rfl) (fun b => rfl) (fun b170 w171 hb172 H173 K174 hs175 => ?_)
       have lb170b : b < b170 := by have := H37.lt; omega
       have lb170b1 : b1 < b170 := by have := H18.lt; omega
       have nb170 : w.heap.size ≤ b170 := by have := K16.size; omega
       have ob176 : ∀ i o s, A = some ⟨i, o, s⟩ → i ≠ b170 := fun i o s hi => by have := F40.2 i o s hi; omega
       have ob177 : ∀ i, ((Value.slice VA LL.length vc)).ownBlock = some i → i < b170 := fun i hi => by have := (World.ownsRow.lt hOV i hi).2; omega
       replace K16 := K16.trans K174 (U := (fun i => i = b)) (fun i h1 h2 => h2) (fun i h1 h2 => by exact h2.elim)
       replace H37 := H37.keep K174 (fun h => h)
       replace H18 := H18.keep K174 (fun h => h)
       replace F40 := RdO.keep0 F40 K174
       replace hOV := own_keep0 hOV K174
       clear K174 hs175
       obtain ⟨v178, w179, hr180, hO181, hK182, hg183⟩ := OwnT.app (ty := 41) AccM.three AccM.one tyA hOV (show RdT _ 3 AccM.cells _ [(⟨(R.bytes).1, 0, ([] : List UInt8)⟩ : AccM)] from Rd.lit H173 (n := 1) rfl (by decide)) (by (try simp only [List.length_append]); (try simp only [List.length_cons]); (try simp only [List.length_nil]); omega) (by (try simp only [List.length_append]); (try simp only [List.length_cons]); (try simp only [List.length_nil]); omega) K16.size
       obtain ⟨A185, c186, rfl⟩ := RdT.form AccM.three (by decide) (OwnT.rd hO181)
       obtain ⟨l187, hl188⟩ : ∃ z, z = LL ++ [(⟨(R.bytes).1, 0, ([] : List UInt8)⟩ : AccM)] := ⟨_, rfl⟩
       rw [← hl188] at hr180 hO181 hg183
       have hn189 : l187.length = LL.length + 1 := by simp [hl188]
       have ob190 : ∀ i, ((Value.slice A185 l187.length c186)).ownBlock = some i → i ≠ b := fun i hi => by rcases hg183 i hi with h | h; (have := obVb i h; omega); (have := H37.lt; omega)
       have ob191 : ∀ i, ((Value.slice A185 l187.length c186)).ownBlock = some i → i ≠ b1 := fun i hi => by rcases hg183 i hi with h | h; (have := obVb1 i h; omega); (have := H18.lt; omega)
       have ob192 : ∀ i, ((Value.slice A185 l187.length c186)).ownBlock = some i → i ≠ b170 := fun i hi => by rcases hg183 i hi with h | h; (have := ob177 i h; omega); (have := H173.lt; omega)
       have oo193 : ∀ i o s, A = some ⟨i, o, s⟩ → ((Value.slice A185 l187.length c186)).ownBlock = some i → False := fun i o s hi hs => by rcases hg183 i hs with h | h; (exact ooVA i o s hi h); (have := F40.2 i o s hi; omega)
       have K184 := hK182
       refine Ops.go (v := (Value.slice A185 l187.length c186)) (by kernel_rfl) (Runs.append (ts := #[41, 41]) (ty := 41) (vs := [(Value.slice VA LL.length vc), (Value.slice (some ⟨b170, 0, none⟩) 1 1)]) (by kernel_rfl) hr180) (d := (some 78)) (by kernel_rfl) rfl ?_
       replace K16 := K16.trans K184 (U := (fun i => i = b)) (fun i h1 h2 => h2) (fun i h1 h2 => by have h2 : ((Value.slice VA LL.length vc)).ownBlock = some i := h2; exfalso; have := (World.ownsRow.lt hOV i h2).1; omega)
       replace H37 := H37.keep K184 (by intro h; change ((Value.slice VA LL.length vc)).ownBlock = some b at h; have := obVb b h; omega)
       replace H18 := H18.keep K184 (by intro h; change ((Value.slice VA LL.length vc)).ownBlock = some b1 at h; have := obVb1 b1 h; omega)
       replace H173 := H173.keep K184 (by intro h; change ((Value.slice VA LL.length vc)).ownBlock = some b170 at h; have := ob177 b170 h; omega)
       replace F40 := RdO.keep F40 K184 (fun i _ _ hi hs => by have hs : ((Value.slice VA LL.length vc)).ownBlock = some i := hs; exact ooVA i _ _ hi hs)
       clear hOV
       clear K184 hr180 hK182 hg183
       refine og 2 [(0, (ptr b)), (2, (Value.pointer none)), (3, (Value.bool false)), (4, (ptr b1)), (5, (i64 (((r.sized 200).1 : Nat) : Int))), (6, (Value.bool false)), (7, (i64 ((i : Nat) : Int))), (8, (Value.string (str (R.bytes).1))), (9, (i64 ((((R.bytes).2).int).1))), (10, (Value.string (str (((((R.bytes).2).int).2).bytes).1))), (24, (Value.bool true)), (37, (Value.bool false)), (69, (Value.bool true)), (78, (Value.slice A185 l187.length c186)), (80, (ptr b1))] 11 ?_
       refine Ops.put (t := 41) (b := b1) (off := 0) (v := (Value.slice A185 l187.length c186)) (ys := [(Value.slice A185 l187.length c186)]) (by kernel_rfl) (by kernel_rfl) H18 (by kernel_rfl) (d := none) (by kernel_rfl) rfl (fun w194 H195 K196 => ?_)
       clear H18
       replace K16 := K16.trans K196 (U := (fun i => i = b)) (fun i h1 h2 => h2) (fun i h1 h2 => by have h2 : i = b1 := h2; show i = b; omega)
       replace H37 := H37.keep K196 (by intro h; change b = b1 at h; omega)
       replace H173 := H173.keep K196 (by intro h; change b170 = b1 at h; omega)
       replace F40 := RdO.keep F40 K196 (fun i _ _ hi hs => by have hs : i = b1 := hs; have := ob7 i _ _ hi; omega)
       replace hO181 := own_keep hO181 K196 (fun i hi hs => by have hs : i = b1 := hs; have := ob191 i hi; omega)
       clear K196
       refine od ?_
       refine qs ?_
       refine qg ?_
       refine og 5 [(0, (ptr b)), (2, (Value.pointer none)), (3, (Value.bool false)), (4, (ptr b1)), (5, (i64 (((r.sized 200).1 : Nat) : Int))), (6, (Value.bool false)), (7, (i64 ((i : Nat) : Int))), (8, (Value.string (str (R.bytes).1))), (9, (i64 ((((R.bytes).2).int).1))), (10, (Value.string (str (((((R.bytes).2).int).2).bytes).1))), (24, (Value.bool true)), (37, (Value.bool false)), (69, (Value.bool true)), (85, (Value.bool false))] 5 ?_
       refine od ?_
       refine q_else (o := .tmp 85) (by kernel_rfl) rfl ?_
       refine q_skip (by kernel_rfl) ?_
       refine qg ?_
       refine og 2 [(0, (ptr b)), (2, (Value.pointer none)), (3, (Value.bool false)), (4, (ptr b1)), (5, (i64 (((r.sized 200).1 : Nat) : Int))), (6, (Value.bool false)), (7, (i64 ((i : Nat) : Int))), (8, (Value.string (str (R.bytes).1))), (9, (i64 ((((R.bytes).2).int).1))), (10, (Value.string (str (((((R.bytes).2).int).2).bytes).1))), (24, (Value.bool true)), (26, (i64 (IntKind.i64.wrap (((i : Nat) : Int) + 1)))), (37, (Value.bool false)), (69, (Value.bool true)), (85, (Value.bool false))] 2 ?_
       have e197 : IntKind.i64.wrap (((i : Nat) : Int) + 1) = ((i + 1 : Nat) : Int) := by rw [wrap_i64 (by omega) (by omega)]; omega
       rw [e197]
       clear e197
       refine og 1 [(0, (ptr b)), (2, (Value.pointer none)), (3, (Value.bool false)), (4, (ptr b1)), (5, (i64 (((r.sized 200).1 : Nat) : Int))), (6, (Value.bool false)), (7, (i64 ((i + 1 : Nat) : Int))), (8, (Value.string (str (R.bytes).1))), (9, (i64 ((((R.bytes).2).int).1))), (10, (Value.string (str (((((R.bytes).2).int).2).bytes).1))), (24, (Value.bool true)), (37, (Value.bool false)), (69, (Value.bool true)), (85, (Value.bool false))] 3 ?_
       have hstep : refStep (R, optS okb LL) = ((((((R.bytes).2).int).2).bytes).2, none) := by rw [hT]; exact (step_bad (by omega) (fun q => hok q.1))
       refine Ops.keep (R := [(0, (ptr b)), (2, (Value.pointer none)), (3, (Value.bool false)), (4, (ptr b1)), (5, (i64 (((r.sized 200).1 : Nat) : Int))), (6, (Value.bool false)), (7, (i64 ((i + 1 : Nat) : Int)))]) (by kernel_rfl) ?_
       refine od ?_
       have hstep : refStep (R, optS okb LL) = ((((((R.bytes).2).int).2).bytes).2, none) := by rw [hT]; exact (step_bad (by omega) (fun q => hok q.1))
       exact ⟨(i + 1, (((((R.bytes).2).int).2).bytes).2, false, l187, A185, c186), ⟨rfl, F40, hO181, ob190, ob191, oo193, hok38, (by omega), (by first | omega | (rw [hlen3]; omega)), (by rw [← hF, refR_step (n := (r.sized 200).1) (i := i) (by omega), hstep]; rfl), (fun h => by cases h), K16, H37, H195⟩, (show (r.sized 200).1 - (i + 1) < (r.sized 200).1 - i from by omega)⟩
    ·rw [h46]
     have p198 : okb = false := h46
     have hT : optS okb LL = none := by rw [h46]; rfl
     refine Dr.takes (fuel' := 0) (is' := [30, 29, 28, 27, 26, 25, 24, 23, 22, 21, 20, 19, 18, 17, 16, 15, 14, 13, 12, 11, 10, 9, 8, 7, 6, 5, 4, 3, 2, 1, 0]) [2, 3, 4, 5, 6, 7, 8, 9, 10, 11, 12, 13, 14, 15, 16, 17, 18, 19, 20, 21, 22, 23, 24, 25, 26, 27, 28, 29, 30] [(0, (ptr b)), (2, (Value.pointer none)), (3, (Value.bool false)), (4, (ptr b1)), (5, (i64 (((r.sized 200).1 : Nat) : Int))), (6, (Value.bool false)), (7, (i64 ((i : Nat) : Int))), (8, (Value.string (str (R.bytes).1))), (9, (i64 ((((R.bytes).2).int).1))), (10, (Value.string (str (((((R.bytes).2).int).2).bytes).1))), (24, (Value.bool true)), (37, (Value.bool false))] (by kernel_rfl) rfl (by kernel_rfl) ?_
     refine Dr.done (by kernel_rfl) ?_
     refine qs ?_
     refine qs ?_
     refine qg ?_
     refine og 2 [(0, (ptr b)), (2, (Value.pointer none)), (3, (Value.bool false)), (4, (ptr b1)), (5, (i64 (((r.sized 200).1 : Nat) : Int))), (6, (Value.bool false)), (7, (i64 ((i : Nat) : Int))), (8, (Value.string (str (R.bytes).1))), (9, (i64 ((((R.bytes).2).int).1))), (10, (Value.string (str (((((R.bytes).2).int).2).bytes).1))), (24, (Value.bool true)), (37, (Value.bool false)), (69, (Value.bool true))] 2 ?_
     refine od ?_
     refine q_then (o := .tmp 69) (by kernel_rfl) rfl ?_
     refine qg ?_
     refine og 4 [(0, (ptr b)), (2, (Value.pointer none)), (3, (Value.bool false)), (4, (ptr b1)), (5, (i64 (((r.sized 200).1 : Nat) : Int))), (6, (Value.bool false)), (7, (i64 ((i : Nat) : Int))), (8, (Value.string (str (R.bytes).1))), (9, (i64 ((((R.bytes).2).int).1))), (10, (Value.string (str (((((R.bytes).2).int).2).bytes).1))), (24, (Value.bool true)), (37, (Value.bool false)), (69, (Value.bool true)), (70, (ptr b1)), (73, (ptr b1))] 4 ?_
     refine Ops.go (v := (Value.slice VA LL.length vc)) (by kernel_rfl) (Runs.load (t := 41) (a := ⟨b1, 0, none⟩) (by kernel_rfl) (H18.loads (by kernel_rfl))) (d := (some 74)) (by kernel_rfl) rfl ?_
     refine og 2 [(0, (ptr b)), (2, (Value.pointer none)), (3, (Value.bool false)), (4, (ptr b1)), (5, (i64 (((r.sized 200).1 : Nat) : Int))), (6, (Value.bool false)), (7, (i64 ((i : Nat) : Int))), (8, (Value.string (str (R.bytes).1))), (9, (i64 ((((R.bytes).2).int).1))), (10, (Value.string (str (((((R.bytes).2).int).2).bytes).1))), (24, (Value.bool true)), (37, (Value.bool false)), (69, (Value.bool true)), (70, (ptr b1)), (74, (Value.slice VA LL.length vc)), (76, (agg [(Value.string (str (R.bytes).1)), (i64 0), (Value.string ByteArray.empty)]))] 7 ?_
     refine Ops.new (o := rowL [(Value.string (str (R.bytes).1)), (i64 0), (Value.string ByteArray.empty)] 97) (V := fun b => (Value.slice (some ⟨b, 0, none⟩) 1 1)) (by kernel_rfl) (d := (some 77)) (by kernel_rfl) (fun b => rfl) (fun b199 w200 hb201 H202 K203 hs204 => ?_)
     have lb199b : b < b199 := by have := H37.lt; omega
     have lb199b1 : b1 < b199 := by have := H18.lt; omega
     have nb199 : w.heap.size ≤ b199 := by have := K16.size; omega
     have ob205 : ∀ i o s, A = some ⟨i, o, s⟩ → i ≠ b199 := fun i o s hi => by have := F40.2 i o s hi; omega
     have ob206 : ∀ i, ((Value.slice VA LL.length vc)).ownBlock = some i → i < b199 := fun i hi => by have := (World.ownsRow.lt hOV i hi).2; omega
     replace K16 := K16.trans K203 (U := (fun i => i = b)) (fun i h1 h2 => h2) (fun i h1 h2 => by exact h2.elim)
     replace H37 := H37.keep K203 (fun h => h)
     replace H18 := H18.keep K203 (fun h => h)
     replace F40 := RdO.keep0 F40 K203
     replace hOV := own_keep0 hOV K203
     clear K203 hs204
     obtain ⟨v207, w208, hr209, hO210, hK211, hg212⟩ := OwnT.app (ty := 41) AccM.three AccM.one tyA hOV (show RdT _ 3 AccM.cells _ [(⟨(R.bytes).1, 0, ([] : List UInt8)⟩ : AccM)] from Rd.lit H202 (n := 1) rfl (by decide)) (by (try simp only [List.length_append]); (try simp only [List.length_cons]); (try simp only [List.length_nil]); omega) (by (try simp only [List.length_append]); (try simp only [List.length_cons]); (try simp only [List.length_nil]); omega) K16.size
     obtain ⟨A214, c215, rfl⟩ := RdT.form AccM.three (by decide) (OwnT.rd hO210)
     obtain ⟨l216, hl217⟩ : ∃ z, z = LL ++ [(⟨(R.bytes).1, 0, ([] : List UInt8)⟩ : AccM)] := ⟨_, rfl⟩
     rw [← hl217] at hr209 hO210 hg212
     have hn218 : l216.length = LL.length + 1 := by simp [hl217]
     have ob219 : ∀ i, ((Value.slice A214 l216.length c215)).ownBlock = some i → i ≠ b := fun i hi => by rcases hg212 i hi with h | h; (have := obVb i h; omega); (have := H37.lt; omega)
     have ob220 : ∀ i, ((Value.slice A214 l216.length c215)).ownBlock = some i → i ≠ b1 := fun i hi => by rcases hg212 i hi with h | h; (have := obVb1 i h; omega); (have := H18.lt; omega)
     have ob221 : ∀ i, ((Value.slice A214 l216.length c215)).ownBlock = some i → i ≠ b199 := fun i hi => by rcases hg212 i hi with h | h; (have := ob206 i h; omega); (have := H202.lt; omega)
     have oo222 : ∀ i o s, A = some ⟨i, o, s⟩ → ((Value.slice A214 l216.length c215)).ownBlock = some i → False := fun i o s hi hs => by rcases hg212 i hs with h | h; (exact ooVA i o s hi h); (have := F40.2 i o s hi; omega)
     have K213 := hK211
     refine Ops.go (v := (Value.slice A214 l216.length c215)) (by kernel_rfl) (Runs.append (ts := #[41, 41]) (ty := 41) (vs := [(Value.slice VA LL.length vc), (Value.slice (some ⟨b199, 0, none⟩) 1 1)]) (by kernel_rfl) hr209) (d := (some 78)) (by kernel_rfl) rfl ?_
     replace K16 := K16.trans K213 (U := (fun i => i = b)) (fun i h1 h2 => h2) (fun i h1 h2 => by have h2 : ((Value.slice VA LL.length vc)).ownBlock = some i := h2; exfalso; have := (World.ownsRow.lt hOV i h2).1; omega)
     replace H37 := H37.keep K213 (by intro h; change ((Value.slice VA LL.length vc)).ownBlock = some b at h; have := obVb b h; omega)
     replace H18 := H18.keep K213 (by intro h; change ((Value.slice VA LL.length vc)).ownBlock = some b1 at h; have := obVb1 b1 h; omega)
     replace H202 := H202.keep K213 (by intro h; change ((Value.slice VA LL.length vc)).ownBlock = some b199 at h; have := ob206 b199 h; omega)
     replace F40 := RdO.keep F40 K213 (fun i _ _ hi hs => by have hs : ((Value.slice VA LL.length vc)).ownBlock = some i := hs; exact ooVA i _ _ hi hs)
     clear hOV
     clear K213 hr209 hK211 hg212
     refine og 2 [(0, (ptr b)), (2, (Value.pointer none)), (3, (Value.bool false)), (4, (ptr b1)), (5, (i64 (((r.sized 200).1 : Nat) : Int))), (6, (Value.bool false)), (7, (i64 ((i : Nat) : Int))), (8, (Value.string (str (R.bytes).1))), (9, (i64 ((((R.bytes).2).int).1))), (10, (Value.string (str (((((R.bytes).2).int).2).bytes).1))), (24, (Value.bool true)), (37, (Value.bool false)), (69, (Value.bool true)), (78, (Value.slice A214 l216.length c215)), (80, (ptr b1))] 11 ?_
     refine Ops.put (t := 41) (b := b1) (off := 0) (v := (Value.slice A214 l216.length c215)) (ys := [(Value.slice A214 l216.length c215)]) (by kernel_rfl) (by kernel_rfl) H18 (by kernel_rfl) (d := none) (by kernel_rfl) rfl (fun w223 H224 K225 => ?_)
     clear H18
     replace K16 := K16.trans K225 (U := (fun i => i = b)) (fun i h1 h2 => h2) (fun i h1 h2 => by have h2 : i = b1 := h2; show i = b; omega)
     replace H37 := H37.keep K225 (by intro h; change b = b1 at h; omega)
     replace H202 := H202.keep K225 (by intro h; change b199 = b1 at h; omega)
     replace F40 := RdO.keep F40 K225 (fun i _ _ hi hs => by have hs : i = b1 := hs; have := ob7 i _ _ hi; omega)
     replace hO210 := own_keep hO210 K225 (fun i hi hs => by have hs : i = b1 := hs; have := ob220 i hi; omega)
     clear K225
     refine od ?_
     refine qs ?_
     refine qg ?_
     refine og 5 [(0, (ptr b)), (2, (Value.pointer none)), (3, (Value.bool false)), (4, (ptr b1)), (5, (i64 (((r.sized 200).1 : Nat) : Int))), (6, (Value.bool false)), (7, (i64 ((i : Nat) : Int))), (8, (Value.string (str (R.bytes).1))), (9, (i64 ((((R.bytes).2).int).1))), (10, (Value.string (str (((((R.bytes).2).int).2).bytes).1))), (24, (Value.bool true)), (37, (Value.bool false)), (69, (Value.bool true)), (85, (Value.bool false))] 5 ?_
     refine od ?_
     refine q_else (o := .tmp 85) (by kernel_rfl) rfl ?_
     refine q_skip (by kernel_rfl) ?_
     refine qg ?_
     refine og 2 [(0, (ptr b)), (2, (Value.pointer none)), (3, (Value.bool false)), (4, (ptr b1)), (5, (i64 (((r.sized 200).1 : Nat) : Int))), (6, (Value.bool false)), (7, (i64 ((i : Nat) : Int))), (8, (Value.string (str (R.bytes).1))), (9, (i64 ((((R.bytes).2).int).1))), (10, (Value.string (str (((((R.bytes).2).int).2).bytes).1))), (24, (Value.bool true)), (26, (i64 (IntKind.i64.wrap (((i : Nat) : Int) + 1)))), (37, (Value.bool false)), (69, (Value.bool true)), (85, (Value.bool false))] 2 ?_
     have e226 : IntKind.i64.wrap (((i : Nat) : Int) + 1) = ((i + 1 : Nat) : Int) := by rw [wrap_i64 (by omega) (by omega)]; omega
     rw [e226]
     clear e226
     refine og 1 [(0, (ptr b)), (2, (Value.pointer none)), (3, (Value.bool false)), (4, (ptr b1)), (5, (i64 (((r.sized 200).1 : Nat) : Int))), (6, (Value.bool false)), (7, (i64 ((i + 1 : Nat) : Int))), (8, (Value.string (str (R.bytes).1))), (9, (i64 ((((R.bytes).2).int).1))), (10, (Value.string (str (((((R.bytes).2).int).2).bytes).1))), (24, (Value.bool true)), (37, (Value.bool false)), (69, (Value.bool true)), (85, (Value.bool false))] 3 ?_
     have hstep : refStep (R, optS okb LL) = ((((((R.bytes).2).int).2).bytes).2, none) := by rw [hT]; exact step_none
     refine Ops.keep (R := [(0, (ptr b)), (2, (Value.pointer none)), (3, (Value.bool false)), (4, (ptr b1)), (5, (i64 (((r.sized 200).1 : Nat) : Int))), (6, (Value.bool false)), (7, (i64 ((i + 1 : Nat) : Int)))]) (by kernel_rfl) ?_
     refine od ?_
     have hstep : refStep (R, optS okb LL) = ((((((R.bytes).2).int).2).bytes).2, none) := by rw [hT]; exact step_none
     exact ⟨(i + 1, (((((R.bytes).2).int).2).bytes).2, false, l216, A214, c215), ⟨rfl, F40, hO210, ob219, ob220, oo222, hok38, (by omega), (by first | omega | (rw [hlen3]; omega)), (by rw [← hF, refR_step (n := (r.sized 200).1) (i := i) (by omega), hstep]; rfl), (fun h => by cases h), K16, H37, H224⟩, (show (r.sized 200).1 - (i + 1) < (r.sized 200).1 - i from by omega)⟩
  ·rw [h21]
   have p227 : ¬ (R.why = 0) := of_beq_f h21
   refine q_exit (id := 0) (by kernel_rfl) ?_
   refine qs ?_
   refine qg ?_
   refine og 4 [(2, (ptr b1)), (3, (Value.bool okb))] 4 ?_
   refine od ?_
   refine q_ret (by kernel_rfl) ?_
   refine ⟨(Value.tuple #[(ptr b1), (Value.bool okb)]), retv_tmp2 rfl rfl rfl, ?_⟩
   have hfin : refR (r.sized 200).1 ((r.sized 200).2, some []) = (R, optS okb LL) := by first | (rw [← hF, show (r.sized 200).1 - i = 0 from by omega]; rfl) | (rw [← hF]; exact (ref_stuck _ _ (by omega)).symm) | (rw [← hF]; exact ref_stuck _ _ (by omega))
   exact ⟨b1, _, _, _, _, _, rfl, K16, H17, hRdA, hokR, hfin, fun h => (hA h).1, H18, hOV, nb1, obVb1⟩
 ·rw [h19]
  have p228 : ¬ (((i : Nat) : Int) < (((r.sized 200).1 : Nat) : Int)) := of_decide_eq_false h19
  refine og 6 [(0, (ptr b)), (2, (Value.pointer none)), (3, (Value.bool false)), (4, (ptr b1)), (5, (i64 (((r.sized 200).1 : Nat) : Int))), (6, (Value.bool okb)), (7, (i64 ((i : Nat) : Int))), (24, (Value.bool false))] 10 ?_
  refine od ?_
  refine q_else (o := .tmp 24) (by kernel_rfl) rfl ?_
  refine q_exit (id := 0) (by kernel_rfl) ?_
  refine qs ?_
  refine qg ?_
  refine og 4 [(2, (ptr b1)), (3, (Value.bool okb))] 4 ?_
  refine od ?_
  refine q_ret (by kernel_rfl) ?_
  refine ⟨(Value.tuple #[(ptr b1), (Value.bool okb)]), retv_tmp2 rfl rfl rfl, ?_⟩
  have hfin : refR (r.sized 200).1 ((r.sized 200).2, some []) = (R, optS okb LL) := by first | (rw [← hF, show (r.sized 200).1 - i = 0 from by omega]; rfl) | (rw [← hF]; exact (ref_stuck _ _ (by omega)).symm) | (rw [← hF]; exact ref_stuck _ _ (by omega))
  exact ⟨b1, _, _, _, _, _, rfl, K16, H17, hRdA, hokR, hfin, fun h => (hA h).1, H18, hOV, nb1, obVb1⟩
end Go.Proofs.YtooginpgclcldaaGreatDoor
namespace Go.Q
open Go.RowKit

theorem rl_err {bs : List UInt8} {R : Rdr} {T : Option (List AccM)} (hf : refE bs = (R, T)) (h : R.end_ ≠ 0) : R.end_ = loadX bs := by
  have h1 := refE_reader bs
  rw [hf] at h1
  unfold loadX
  rw [← h1]
  exact (if_pos h).symm
theorem rl_bad {bs : List UInt8} {R : Rdr} {LL : List AccM} {okb : Bool} (hbl : bs.length ≤ 140737488351232) (hA : loadX bs = 0 → Accs (loadE bs).2.1) (hf : refE bs = (R, optS okb LL)) (h : R.end_ = 0) (hk : okb = false) : loadX bs = 11 := by
  subst hk
  obtain ⟨h1, h2⟩ := ref_law hbl hA
  rw [hf] at h1 h2
  have h3 := h2 (by rw [← h1]; exact h)
  have h0 : loadX bs ≠ 0 := fun q => by have := h3.1 q; cases this
  unfold loadX at h0 ⊢
  rw [if_neg (fun q => q (by rw [← h1]; exact h))] at h0 ⊢
  split
  · rfl
  · rename_i q; rw [if_neg q] at h0; exact absurd rfl h0
theorem rl_ok {bs : List UInt8} {R : Rdr} {LL : List AccM} {okb : Bool} (hbl : bs.length ≤ 140737488351232) (hA : loadX bs = 0 → Accs (loadE bs).2.1) (hf : refE bs = (R, optS okb LL)) (h : R.end_ = 0) (hk : okb = true) : loadX bs = 0 ∧ LL = (loadE bs).2.1 := by
  subst hk
  obtain ⟨h1, h2⟩ := ref_law hbl hA
  rw [hf] at h1 h2
  have h3 := h2 (by rw [← h1]; exact h)
  by_cases h0 : loadX bs = 0
  · have h4 := h3.1 h0
    simp only [optS] at h4
    exact ⟨h0, by injection h4⟩
  · have h4 := h3.2 h0; simp only [optS] at h4; cases h4
theorem load0_bytes {bs : List UInt8} (h : loadX bs = 0) : bookB (loadE bs).2.1 = bs ∧ (loadE bs).1.end_ = 0 := by
  unfold loadX at h
  split at h
  · rename_i q; exact absurd h q
  · rename_i q
    split at h
    · cases h
    · rename_i q2; exact ⟨Decidable.byContradiction fun q3 => q2 (.inr q3), Decidable.byContradiction q⟩
end Go.Q
namespace Go.Proofs.YtooginpgclcldaaGreatDoor
open Go.Q Go.RowKit

set_option maxHeartbeats 4000000 in
theorem RLoad_calls (w : World) (P : Option Addr) (pc : Nat) (bs : List UInt8) (hP : RdB w (.slice P bs.length pc) bs) (hbl : bs.length ≤ 140737488351232) (hA : loadX bs = 0 → Accs (loadE bs).2.1) : Calls Tryz.prog 7 ⟨[(Value.slice P bs.length pc)]⟩ w (fun e w' => ∃ v er, e = .returned (.tuple #[v, i64 er]) ∧ Keeps none_ w w' ∧ er = loadX bs ∧ ((er ≠ 0 ∧ v = .pointer none) ∨ (er = 0 ∧ ∃ rb A c, v = ptr rb ∧ Has w' rb (rowL [.slice A (loadE bs).2.1.length c] 43) ∧ OwnT w' w.heap.size 97 3 AccM.cells (.slice A (loadE bs).2.1.length c) (loadE bs).2.1 ∧ w.heap.size ≤ rb ∧ ∀ i, (Value.slice A (loadE bs).2.1.length c).ownBlock = some i → i ≠ rb))) := by
 have K0 : Keeps none_ w w := Keeps.refl w
 refine q_calls Tryz.func7 (by kernel_rfl) (by kernel_rfl) ?_
 refine qs ?_
 refine qg ?_
 refine og 2 [(0, (Value.slice P bs.length pc)), (2, (Value.pointer none)), (3, (i64 0))] 2 ?_
 refine od ?_
 refine qs ?_
 refine qg ?_
 refine og 1 [(2, (Value.pointer none)), (3, (i64 0)), (8, (Value.slice P bs.length pc))] 1 ?_
 refine Ops.call (by kernel_rfl) (d := (some 9)) (by kernel_rfl) (Of_calls _ (Value.slice P bs.length pc) bs (hP.keep0 (by omega) K0) (by first | omega | decide)) ?_
 rintro _ w5 ⟨b1, A2, c3, rfl, q4, K6, H7, hr8, hne9, hge10⟩
 have nb1 : w.heap.size ≤ b1 := by have := K0.size; omega
 have hok11 : Rdr.Ok (⟨bs, 0, 0⟩ : Rdr) := ⟨Nat.zero_le _, by show bs.length ≤ _; first | omega | decide⟩
 clear q4 hge10
 refine ⟨_, _, rfl, rfl, ?_⟩
 replace K0 := K0.t0 K6
 clear K6
 refine og 1 [(2, (Value.pointer none)), (3, (i64 0)), (4, (ptr b1))] 3 ?_
 refine od ?_
 refine qs ?_
 refine qg ?_
 refine og 1 [(2, (Value.pointer none)), (3, (i64 0)), (4, (ptr b1)), (11, (ptr b1))] 1 ?_
 refine Ops.call (by kernel_rfl) (d := (some 12)) (by kernel_rfl) (ROf_calls _ b1 A2 c3 (⟨bs, 0, 0⟩ : Rdr) hok11 H7 hr8 hne9) ?_
 rintro _ w18 ⟨rb12, A13, c14, okb15, LL16, R17, rfl, K19, H20, hR21, hok22, hfin23, hacc24, Hrb25, hO26, hrb27, hne28⟩
 have lrb12b1 : b1 < rb12 := by have := H7.lt; omega
 have nrb12 : w.heap.size ≤ rb12 := by have := K0.size; omega
 have ob30 : ∀ i, ((Value.slice A13 LL16.length c14)).ownBlock = some i → i ≠ b1 := fun i hi => by have := (World.ownsRow.lt hO26 i hi).1; have := H7.lt; omega
 have oo31 : ∀ i o s, A2 = some ⟨i, o, s⟩ → ((Value.slice A13 LL16.length c14)).ownBlock = some i → False := fun i o s hi hs => by have := (World.ownsRow.lt hO26 i hs).1; have := hr8.2 i o s hi; omega
 have ob33 : ∀ i o s, A2 = some ⟨i, o, s⟩ → i ≠ rb12 := fun i o s hi => by have := hr8.2 i o s hi; omega
 have O29 := own_base hO26 K0.size
 clear hO26
 refine ⟨_, _, rfl, rfl, ?_⟩
 replace K0 := K0.trans K19 (U := none_) (fun i h1 h2 => h2) (fun i h1 h2 => by have h2 : i = b1 := h2; exfalso; omega)
 replace hr8 := RdO.keep hr8 K19 (fun i _ _ hi hs => by have hs : i = b1 := hs; have := hne9 i _ _ hi; omega)
 clear K19
 clear hr8
 refine og 5 [(2, (Value.pointer none)), (3, (i64 0)), (4, (ptr b1)), (5, (ptr rb12)), (6, (Value.bool okb15))] 7 ?_
 refine od ?_
 refine qs ?_
 refine qg ?_
 refine og 1 [(2, (Value.pointer none)), (3, (i64 0)), (5, (ptr rb12)), (6, (Value.bool okb15)), (15, (ptr b1))] 1 ?_
 refine Ops.call (by kernel_rfl) (d := (some 16)) (by kernel_rfl) (RREnd_calls _ b1 A2 c3 R17 hok22 H20 hR21 hne9) ?_
 rintro _ w34 ⟨rfl, K35⟩
 refine ⟨_, _, rfl, rfl, ?_⟩
 replace K0 := K0.t0 K35
 replace H20 := H20.keep K35 (fun h => h)
 replace Hrb25 := Hrb25.keep K35 (fun h => h)
 replace hR21 := RdO.keep0 hR21 K35
 replace O29 := own_keep0 O29 K35
 clear K35
 refine og 1 [(2, (Value.pointer none)), (3, (i64 0)), (5, (ptr rb12)), (6, (Value.bool okb15)), (7, (i64 R17.end_))] 3 ?_
 refine od ?_
 refine qs ?_
 refine qs ?_
 refine qg ?_
 refine og 2 [(2, (Value.pointer none)), (3, (i64 0)), (5, (ptr rb12)), (6, (Value.bool okb15)), (7, (i64 R17.end_)), (18, (Value.bool (R17.end_ != 0)))] 2 ?_
 refine od ?_
 refine q_cond (o := .tmp 18) (b := (R17.end_ != 0)) (by kernel_rfl) rfl (fun h36 => ?_) (fun h36 => ?_)
 ·rw [h36]
  have p37 : ¬ (R17.end_ = 0) := of_bne_t h36
  refine qs ?_
  refine qg ?_
  refine og 3 [(2, (Value.pointer none)), (3, (i64 R17.end_)), (5, (ptr rb12)), (6, (Value.bool okb15))] 3 ?_
  refine od ?_
  refine q_ret (by kernel_rfl) ?_
  refine ⟨(Value.tuple #[(Value.pointer none), (i64 R17.end_)]), retv_tmp2 rfl rfl rfl, ?_⟩
  have hF : refE bs = (R17, optS okb15 LL16) := hfin23
  exact ⟨_, _, rfl, K0, rl_err hF (by omega), .inl ⟨by omega, rfl⟩⟩
 ·rw [h36]
  have p38 : R17.end_ = 0 := of_bne_f h36
  refine q_skip (by kernel_rfl) ?_
  refine qs ?_
  refine qs ?_
  refine qg ?_
  refine og 2 [(2, (Value.pointer none)), (3, (i64 0)), (5, (ptr rb12)), (21, (Value.bool (!okb15)))] 2 ?_
  refine od ?_
  refine q_cond (o := .tmp 21) (b := (!okb15)) (by kernel_rfl) rfl (fun h39 => ?_) (fun h39 => ?_)
  ·rw [h39]
   have p40 : okb15 = false := (bnot_true h39)
   try rw [p40]
   refine qs ?_
   refine qg ?_
   refine og 2 [(2, (Value.pointer none)), (3, (i64 11)), (5, (ptr rb12))] 2 ?_
   refine od ?_
   refine q_ret (by kernel_rfl) ?_
   refine ⟨(Value.tuple #[(Value.pointer none), (i64 11)]), retv_tmp2 rfl rfl rfl, ?_⟩
   have hF : refE bs = (R17, optS okb15 LL16) := hfin23
   exact ⟨_, 11, rfl, K0, (rl_bad hbl hA hF (by omega) (by simpa using (bnot_true h39))).symm, .inl ⟨by decide, rfl⟩⟩
  ·rw [h39]
   have p41 : okb15 = true := (bnot_false h39)
   try rw [p41]
   refine q_skip (by kernel_rfl) ?_
   refine qs ?_
   refine qg ?_
   refine og 3 [(2, (ptr rb12)), (3, (i64 0))] 3 ?_
   refine od ?_
   refine q_ret (by kernel_rfl) ?_
   refine ⟨(Value.tuple #[(ptr rb12), (i64 0)]), retv_tmp2 rfl rfl rfl, ?_⟩
   have hF : refE bs = (R17, optS okb15 LL16) := hfin23
   obtain ⟨hx, rfl⟩ := rl_ok hbl hA hF (by omega) (by simpa using (bnot_false h39))
   exact ⟨_, 0, rfl, K0, hx.symm, .inr ⟨rfl, rb12, _, _, rfl, Hrb25, O29, nrb12, hne28⟩⟩

theorem RLoad_bad (w : World) (P : Option Addr) (pc : Nat) (bs : List UInt8) (hP : RdB w (.slice P bs.length pc) bs) (hbl : bs.length ≤ 140737488351232) (hx : loadX bs ≠ 0) : Calls Tryz.prog 7 ⟨[.slice P bs.length pc]⟩ w (fun e w' => e = .returned (.tuple #[.pointer none, i64 (loadX bs)]) ∧ Keeps none_ w w') := by
 refine (RLoad_calls w P pc bs hP hbl (fun h => absurd h hx)).mono ?_
 rintro e w' ⟨v, er, rfl, hk, rfl, ⟨_, rfl⟩ | ⟨h0, _⟩⟩
 ·exact ⟨rfl, hk⟩
 ·exact absurd h0 hx

theorem RLoad_good (w : World) (P : Option Addr) (pc : Nat) (bs : List UInt8) (hP : RdB w (.slice P bs.length pc) bs) (hbl : bs.length ≤ 140737488351232) (hx : loadX bs = 0) (hA : Accs (loadE bs).2.1) : Calls Tryz.prog 7 ⟨[.slice P bs.length pc]⟩ w (fun e w' => ∃ rb A c, e = .returned (.tuple #[ptr rb, i64 0]) ∧ Keeps none_ w w' ∧ Has w' rb (rowL [.slice A (loadE bs).2.1.length c] 43) ∧ OwnT w' w.heap.size 97 3 AccM.cells (.slice A (loadE bs).2.1.length c) (loadE bs).2.1 ∧ w.heap.size ≤ rb ∧ ∀ i, (Value.slice A (loadE bs).2.1.length c).ownBlock = some i → i ≠ rb) := by
 refine (RLoad_calls w P pc bs hP hbl (fun _ => hA)).mono ?_
 rintro e w' ⟨v, er, rfl, hk, rfl, ⟨h0, _⟩ | ⟨h0, rb, A, c, rfl, h1, h2, h3, h4⟩⟩
 ·exact absurd hx h0
 ·exact ⟨rb, A, c, by rw [h0], hk, h1, h2, h3, h4⟩
end Go.Proofs.YtooginpgclcldaaGreatDoor
namespace Go.Proofs.YtooginpgclcldaaGreatDoor
open Go.Q Go.RowKit

theorem known_calls (w : World)   : Calls Tryz.prog 10 ⟨[]⟩ w (fun e w' => e = .returned (.bool true) ∧ Keeps none_ w w') := by
 have K0 : Keeps none_ w w := Keeps.refl w
 refine q_calls Tryz.func10 (by kernel_rfl) (by kernel_rfl) ?_
 refine qs ?_
 refine qg ?_
 refine og 1 [(0, (Value.bool false))] 1 ?_
 refine od ?_
 refine qs ?_
 refine qg ?_
 refine Ops.call (by kernel_rfl) (d := (some 4)) (by kernel_rfl) (New_calls _) ?_
 rintro _ w3 ⟨b1, mb2, rfl, K4, H5, Hm6, hb7, hb8, hb9⟩
 have nb1 : w.heap.size ≤ b1 := by have := K0.size; omega
 have nmb2 : w.heap.size ≤ mb2 := by have := K0.size; omega
 refine ⟨_, _, rfl, rfl, ?_⟩
 replace K0 := K0.t0 K4
 clear K4
 refine og 1 [(0, (Value.bool false)), (1, (ptr b1))] 2 ?_
 refine od ?_
 refine qs ?_
 refine qs ?_
 refine qg ?_
 refine og 2 [(0, (Value.bool false)), (1, (ptr b1)), (6, (Value.bool false))] 2 ?_
 refine od ?_
 refine q_else (o := .tmp 6) (by kernel_rfl) rfl ?_
 refine q_skip (by kernel_rfl) ?_
 refine qs ?_
 refine qg ?_
 refine og 1 [(0, (Value.bool false)), (1, (ptr b1)), (7, (ptr b1))] 1 ?_
 refine Ops.call (by kernel_rfl) (d := (some 8)) (by kernel_rfl) (Open_calls _ b1 mb2 [] ([] : List AccM) [97, 110, 110] H5 Hm6 (by omega) Book.nil) ?_
 rintro _ w11 ⟨m10, rfl, K12, H13, hB14⟩
 have hl15 := hB14.len
 refine ⟨_, _, rfl, rfl, ?_⟩
 replace K0 := K0.trans K12 (U := none_) (fun i h1 h2 => h2) (fun i h1 h2 => by have h2 : i = mb2 := h2; exfalso; omega)
 replace H5 := H5.keep K12 (by intro h; change b1 = mb2 at h; omega)
 clear K12
 refine od ?_
 refine qs ?_
 refine qg ?_
 refine og 1 [(0, (Value.bool false)), (1, (ptr b1)), (9, (ptr b1))] 1 ?_
 refine Ops.call (by kernel_rfl) (d := (some 10)) (by kernel_rfl) (Add_calls _ b1 mb2 m10 (putS ([] : List AccM) [97, 110, 110] 0) [97, 110, 110] 5 H5 H13 (by omega) hB14 (by omega)) ?_
 rintro _ w17 ⟨m16, rfl, K18, H19, hB20⟩
 have hl21 := hB20.len
 refine ⟨_, _, rfl, rfl, ?_⟩
 replace K0 := K0.trans K18 (U := none_) (fun i h1 h2 => h2) (fun i h1 h2 => by have h2 : i = mb2 := h2; exfalso; omega)
 replace H5 := H5.keep K18 (by intro h; change b1 = mb2 at h; omega)
 clear K18
 refine od ?_
 refine qs ?_
 refine qg ?_
 refine og 1 [(0, (Value.bool false)), (1, (ptr b1)), (11, (ptr b1))] 1 ?_
 refine Ops.call (by kernel_rfl) (d := (some 12)) (by kernel_rfl) (Take_calls _ b1 mb2 m16 (chgS (addF 5) (putS ([] : List AccM) [97, 110, 110] 0) [97, 110, 110]) [97, 110, 110] 6 H5 H19 (by omega) hB20 (by omega)) ?_
 rintro _ w23 ⟨m22, rfl, K24, H25, hB26⟩
 have hl27 := hB26.len
 refine ⟨_, _, rfl, rfl, ?_⟩
 replace K0 := K0.trans K24 (U := none_) (fun i h1 h2 => h2) (fun i h1 h2 => by have h2 : i = mb2 := h2; exfalso; omega)
 replace H5 := H5.keep K24 (by intro h; change b1 = mb2 at h; omega)
 clear K24
 refine og 1 [(0, (Value.bool false)), (1, (ptr b1)), (2, (i64 (chgE (takeF 6) (chgS (addF 5) (putS ([] : List AccM) [97, 110, 110] 0) [97, 110, 110]) [97, 110, 110])))] 3 ?_
 refine od ?_
 refine qs ?_
 refine qg ?_
 refine og 1 [(0, (Value.bool false)), (1, (ptr b1)), (2, (i64 (chgE (takeF 6) (chgS (addF 5) (putS ([] : List AccM) [97, 110, 110] 0) [97, 110, 110]) [97, 110, 110]))), (13, (ptr b1))] 1 ?_
 refine Ops.call (by kernel_rfl) (d := (some 14)) (by kernel_rfl) (Hold_calls _ b1 mb2 m22 (chgS (takeF 6) (chgS (addF 5) (putS ([] : List AccM) [97, 110, 110] 0) [97, 110, 110]) [97, 110, 110]) [97, 110, 110] [120] H5 H25 (by omega) hB26) ?_
 rintro _ w29 ⟨m28, rfl, K30, H31, hB32⟩
 have hl33 := hB32.len
 refine ⟨_, _, rfl, rfl, ?_⟩
 replace K0 := K0.trans K30 (U := none_) (fun i h1 h2 => h2) (fun i h1 h2 => by have h2 : i = mb2 := h2; exfalso; omega)
 replace H5 := H5.keep K30 (by intro h; change b1 = mb2 at h; omega)
 clear K30
 refine od ?_
 refine qs ?_
 refine qg ?_
 refine og 1 [(0, (Value.bool false)), (1, (ptr b1)), (2, (i64 (chgE (takeF 6) (chgS (addF 5) (putS ([] : List AccM) [97, 110, 110] 0) [97, 110, 110]) [97, 110, 110]))), (15, (ptr b1))] 1 ?_
 refine Ops.call (by kernel_rfl) (d := (some 16)) (by kernel_rfl) (Hold_calls _ b1 mb2 m28 (chgS (holdF [120]) (chgS (takeF 6) (chgS (addF 5) (putS ([] : List AccM) [97, 110, 110] 0) [97, 110, 110]) [97, 110, 110]) [97, 110, 110]) [97, 110, 110] [121] H5 H31 (by omega) hB32) ?_
 rintro _ w35 ⟨m34, rfl, K36, H37, hB38⟩
 have hl39 := hB38.len
 refine ⟨_, _, rfl, rfl, ?_⟩
 replace K0 := K0.trans K36 (U := none_) (fun i h1 h2 => h2) (fun i h1 h2 => by have h2 : i = mb2 := h2; exfalso; omega)
 replace H5 := H5.keep K36 (by intro h; change b1 = mb2 at h; omega)
 clear K36
 refine og 1 [(0, (Value.bool false)), (1, (ptr b1)), (2, (i64 (chgE (takeF 6) (chgS (addF 5) (putS ([] : List AccM) [97, 110, 110] 0) [97, 110, 110]) [97, 110, 110]))), (3, (i64 (chgE (holdF [121]) (chgS (holdF [120]) (chgS (takeF 6) (chgS (addF 5) (putS ([] : List AccM) [97, 110, 110] 0) [97, 110, 110]) [97, 110, 110]) [97, 110, 110]) [97, 110, 110])))] 3 ?_
 refine od ?_
 refine qs ?_
 refine qg ?_
 refine og 3 [(0, (Value.bool false)), (1, (ptr b1)), (3, (i64 (chgE (holdF [121]) (chgS (holdF [120]) (chgS (takeF 6) (chgS (addF 5) (putS ([] : List AccM) [97, 110, 110] 0) [97, 110, 110]) [97, 110, 110]) [97, 110, 110]) [97, 110, 110]))), (19, (Value.bool ((chgE (takeF 6) (chgS (addF 5) (putS ([] : List AccM) [97, 110, 110] 0) [97, 110, 110]) [97, 110, 110]) == 42)))] 3 ?_
 have h40 : ((chgE (takeF 6) (chgS (addF 5) (putS ([] : List AccM) [97, 110, 110] 0) [97, 110, 110]) [97, 110, 110]) == 42) = true := beq_t knownS_1
 rw [h40]
 refine og 4 [(0, (Value.bool false)), (1, (ptr b1)), (23, (Value.bool ((chgE (holdF [121]) (chgS (holdF [120]) (chgS (takeF 6) (chgS (addF 5) (putS ([] : List AccM) [97, 110, 110] 0) [97, 110, 110]) [97, 110, 110]) [97, 110, 110]) [97, 110, 110]) == 5)))] 7 ?_
 have h41 : ((chgE (holdF [121]) (chgS (holdF [120]) (chgS (takeF 6) (chgS (addF 5) (putS ([] : List AccM) [97, 110, 110] 0) [97, 110, 110]) [97, 110, 110]) [97, 110, 110]) [97, 110, 110]) == 5) = true := beq_t knownS_2
 rw [h41]
 refine og 1 [(0, (Value.bool false)), (23, (Value.bool true)), (24, (ptr b1))] 8 ?_
 refine Ops.call (by kernel_rfl) (d := (some 25)) (by kernel_rfl) (Bytes_calls _ b1 mb2 m34 (chgS (holdF [121]) (chgS (holdF [120]) (chgS (takeF 6) (chgS (addF 5) (putS ([] : List AccM) [97, 110, 110] 0) [97, 110, 110]) [97, 110, 110]) [97, 110, 110]) [97, 110, 110]) H5 H37 (by omega) hB38) ?_
 rintro _ w43 ⟨v42, rfl, K44, hO45⟩
 have ob47 : ∀ i, (v42).ownBlock = some i → i ≠ b1 := fun i hi => by have := (World.ownsRow.lt hO45 i hi).1; have := H5.lt; omega
 have ob48 : ∀ i, (v42).ownBlock = some i → i ≠ mb2 := fun i hi => by have := (World.ownsRow.lt hO45 i hi).1; have := H37.lt; omega
 have O46 := own_base hO45 K0.size
 clear hO45
 refine ⟨_, _, rfl, rfl, ?_⟩
 replace K0 := K0.t0 K44
 replace H5 := H5.keep K44 (fun h => h)
 replace H37 := H37.keep K44 (fun h => h)
 clear K44
 refine Ops.go (v := (Value.string (str (bookB (chgS (holdF [121]) (chgS (holdF [120]) (chgS (takeF 6) (chgS (addF 5) (putS ([] : List AccM) [97, 110, 110] 0) [97, 110, 110]) [97, 110, 110]) [97, 110, 110]) [97, 110, 110]))))) (by kernel_rfl) (Runs.b2s (s := 22) (d := 9) (e := 5) (by kernel_rfl) (by kernel_rfl) (by kernel_rfl) (OwnB.rd O46)) (d := (some 26)) (by kernel_rfl) rfl ?_
 refine Ops.go (v := (Value.bool ((bookB (chgS (holdF [121]) (chgS (holdF [120]) (chgS (takeF 6) (chgS (addF 5) (putS ([] : List AccM) [97, 110, 110] 0) [97, 110, 110]) [97, 110, 110]) [97, 110, 110]) [97, 110, 110])) == [1, 3, 97, 110, 110, 10, 1, 120]))) (by kernel_rfl) (Runs.streq (t := 9) (by kernel_rfl)) (d := (some 27)) (by kernel_rfl) rfl ?_
 refine og 2 [(0, (Value.bool ((bookB (chgS (holdF [121]) (chgS (holdF [120]) (chgS (takeF 6) (chgS (addF 5) (putS ([] : List AccM) [97, 110, 110] 0) [97, 110, 110]) [97, 110, 110]) [97, 110, 110]) [97, 110, 110])) == [1, 3, 97, 110, 110, 10, 1, 120])))] 13 ?_
 refine od ?_
 refine q_ret (by kernel_rfl) ?_
 refine ⟨(Value.bool ((bookB (chgS (holdF [121]) (chgS (holdF [120]) (chgS (takeF 6) (chgS (addF 5) (putS ([] : List AccM) [97, 110, 110] 0) [97, 110, 110]) [97, 110, 110]) [97, 110, 110]) [97, 110, 110])) == [1, 3, 97, 110, 110, 10, 1, 120])), retv_tmp rfl rfl, ?_⟩
 exact ⟨by rw [show ((bookB (chgS (holdF [121]) (chgS (holdF [120]) (chgS (takeF 6) (chgS (addF 5) (putS ([] : List AccM) [97, 110, 110] 0) [97, 110, 110]) [97, 110, 110]) [97, 110, 110]) [97, 110, 110])) == [1, 3, 97, 110, 110, 10, 1, 120]) = true from knownS_t], K0⟩
end Go.Proofs.YtooginpgclcldaaGreatDoor
namespace Go.Proofs.YtooginpgclcldaaGreatDoor
open Go.Q Go.RowKit

set_option maxHeartbeats 4000000 in
theorem Loads_calls (w : World) (P : Option Addr) (pc : Nat) (bs : List UInt8) (hP : RdB w (.slice P bs.length pc) bs) (hbl : bs.length ≤ 140737488351232) : Calls Tryz.prog 3 ⟨[(Value.slice P bs.length pc)]⟩ w (fun e w' => e = .returned (.bool true) ∧ Keeps none_ w w') := by
 have K0 : Keeps none_ w w := Keeps.refl w
 refine q_calls Tryz.func3 (by kernel_rfl) (by kernel_rfl) ?_
 refine qs ?_
 refine qg ?_
 refine og 1 [(0, (Value.slice P bs.length pc)), (2, (Value.bool false))] 1 ?_
 refine od ?_
 refine qs ?_
 refine qg ?_
 refine og 1 [(0, (Value.slice P bs.length pc)), (2, (Value.bool false)), (8, (Value.slice P bs.length pc))] 1 ?_
 refine Ops.call (by kernel_rfl) (d := (some 9)) (by kernel_rfl) (Lent_calls _ P pc bs (hP.keep0 (by omega) K0) (by omega)) ?_
 rintro _ w3 ⟨A1, c2, rfl, K4, hO5⟩
 have O7 := OwnB.cut hO5 (by simp)
 have O6 := own_base O7 K0.size
 clear O7
 have O8 := own_base hO5 K0.size
 clear hO5
 refine ⟨_, _, rfl, rfl, ?_⟩
 replace K0 := K0.t0 K4
 clear K4
 refine og 1 [(0, (Value.slice P bs.length pc)), (2, (Value.bool false)), (3, (Value.slice A1 bs.length c2))] 3 ?_
 refine od ?_
 refine qs ?_
 refine qg ?_
 refine og 1 [(0, (Value.slice P bs.length pc)), (2, (Value.bool false)), (3, (Value.slice A1 bs.length c2)), (11, (Value.slice A1 bs.length c2))] 1 ?_
 refine Ops.call (by kernel_rfl) (d := (some 12)) (by kernel_rfl) (Load_calls _ A1 c2 bs (OwnB.rd O6) (by omega)) ?_
 rintro _ w11 ⟨v9, er10, rfl, K12, ⟨h13, rfl, rfl⟩ | ⟨rfl, h24, b15, mb16, m17, rfl, H18, Hm19, hB20, hb21, hb22, hb23⟩⟩
 ·refine ⟨_, _, rfl, rfl, ?_⟩
  replace K0 := K0.t0 K12
  replace O6 := own_keep0 O6 K12
  replace O8 := own_keep0 O8 K12
  clear K12
  refine og 5 [(0, (Value.slice P bs.length pc)), (2, (Value.bool false)), (3, (Value.slice A1 bs.length c2)), (4, (Value.pointer none)), (5, (i64 (loadX bs)))] 7 ?_
  refine od ?_
  refine qs ?_
  refine qg ?_
  refine og 1 [(0, (Value.slice P bs.length pc)), (2, (Value.bool false)), (3, (Value.slice A1 bs.length c2)), (4, (Value.pointer none)), (5, (i64 (loadX bs))), (16, (Value.slice P bs.length pc))] 1 ?_
  refine Ops.call (by kernel_rfl) (d := (some 17)) (by kernel_rfl) (RLoad_bad _ P pc bs (hP.keep0 (by omega) K0) (by omega) h13) ?_
  rintro _ w29 ⟨rfl, K30⟩
  refine ⟨_, _, rfl, rfl, ?_⟩
  replace K0 := K0.t0 K30
  replace O6 := own_keep0 O6 K30
  replace O8 := own_keep0 O8 K30
  clear K30
  refine og 5 [(0, (Value.slice P bs.length pc)), (2, (Value.bool false)), (3, (Value.slice A1 bs.length c2)), (4, (Value.pointer none)), (5, (i64 (loadX bs))), (6, (Value.pointer none)), (7, (i64 (loadX bs)))] 7 ?_
  refine od ?_
  refine qs ?_
  refine qs ?_
  refine qg ?_
  refine og 4 [(0, (Value.slice P bs.length pc)), (2, (Value.bool false)), (3, (Value.slice A1 bs.length c2)), (4, (Value.pointer none)), (6, (Value.pointer none)), (7, (i64 (loadX bs))), (23, (Value.bool ((loadX bs) != (loadX bs))))] 4 ?_
  have h31 : ((loadX bs) != (loadX bs)) = false := by simp
  rw [h31]
  refine og 4 [(0, (Value.slice P bs.length pc)), (2, (Value.bool false)), (3, (Value.slice A1 bs.length c2)), (4, (Value.pointer none)), (6, (Value.pointer none)), (7, (i64 (loadX bs))), (23, (Value.bool false)), (25, (Value.bool true)), (27, (Value.bool ((loadX bs) != 0)))] 8 ?_
  have h32 : ((loadX bs) != 0) = true := bne_t h13
  rw [h32]
  refine og 5 [(0, (Value.slice P bs.length pc)), (2, (Value.bool false)), (3, (Value.slice A1 bs.length c2)), (4, (Value.pointer none)), (6, (Value.pointer none)), (7, (i64 (loadX bs))), (30, (Value.bool false)), (31, (Value.slice A1 bs.length c2)), (32, (Value.slice P bs.length pc))] 13 ?_
  refine Ops.call (by kernel_rfl) (d := (some 33)) (by kernel_rfl) (Kept_calls _ A1 c2 bs _ P pc O8 (hP.keep0 (by omega) K0) (by omega)) ?_
  rintro _ w33 ⟨rfl, K34⟩
  refine ⟨_, _, rfl, rfl, ?_⟩
  replace K0 := K0.t0 K34
  replace O6 := own_keep0 O6 K34
  replace O8 := own_keep0 O8 K34
  clear K34
  refine og 2 [(0, (Value.slice P bs.length pc)), (2, (Value.bool false)), (3, (Value.slice A1 bs.length c2)), (4, (Value.pointer none)), (6, (Value.pointer none)), (7, (i64 (loadX bs))), (35, (Value.bool false))] 16 ?_
  refine od ?_
  refine q_else (o := .tmp 35) (by kernel_rfl) rfl ?_
  refine q_skip (by kernel_rfl) ?_
  refine qs ?_
  refine qg ?_
  refine og 1 [(0, (Value.slice P bs.length pc)), (2, (Value.bool false)), (4, (Value.pointer none)), (6, (Value.pointer none)), (7, (i64 (loadX bs))), (36, (Value.slice A1 bs.length c2))] 1 ?_
  refine Ops.call (by kernel_rfl) (d := (some 37)) (by kernel_rfl) (Spoil_calls _ (Value.slice A1 bs.length c2) bs _ O6 (by (try simp only [List.length_append]); omega)) ?_
  rintro _ w36 ⟨rfl, K35⟩
  refine ⟨_, _, rfl, rfl, ?_⟩
  replace K0 := K0.trans K35 (U := none_) (fun i h1 h2 => h2) (fun i h1 h2 => by have h2 : ((Value.slice A1 bs.length c2)).ownBlock = some i := h2; exfalso; have := (World.ownsRow.lt O6 i h2).1; omega)
  clear O6
  clear O8
  clear K35
  refine od ?_
  refine qs ?_
  refine qs ?_
  refine qg ?_
  refine og 2 [(0, (Value.slice P bs.length pc)), (2, (Value.bool false)), (4, (Value.pointer none)), (6, (Value.pointer none)), (39, (Value.bool ((loadX bs) != 0)))] 2 ?_
  refine od ?_
  rw [h32]
  refine q_then (o := .tmp 39) (by kernel_rfl) rfl ?_
  refine qs ?_
  refine qg ?_
  refine Ops.call (by kernel_rfl) (d := (some 40)) (by kernel_rfl) (known_calls _) ?_
  rintro _ w38 ⟨rfl, K37⟩
  refine ⟨_, _, rfl, rfl, ?_⟩
  replace K0 := K0.t0 K37
  clear K37
  refine og 1 [(0, (Value.slice P bs.length pc)), (2, (Value.bool true)), (4, (Value.pointer none)), (6, (Value.pointer none))] 2 ?_
  refine od ?_
  refine q_ret (by kernel_rfl) ?_
  refine ⟨(Value.bool true), retv_tmp rfl rfl, ?_⟩
  exact ⟨rfl, K0⟩
 ·refine ⟨_, _, rfl, rfl, ?_⟩
  have nb15 : w.heap.size ≤ b15 := by have := K0.size; omega
  have nmb16 : w.heap.size ≤ mb16 := by have := K0.size; omega
  have ob25 : ∀ i, ((Value.slice A1 bs.length c2)).ownBlock = some i → i ≠ b15 := fun i hi => by have := (World.ownsRow.lt O6 i hi).2; omega
  have ob26 : ∀ i, ((Value.slice A1 bs.length c2)).ownBlock = some i → i ≠ mb16 := fun i hi => by have := (World.ownsRow.lt O6 i hi).2; omega
  have ob27 : ∀ i, ((Value.slice A1 ((bs ++ [byte 167]).length) c2)).ownBlock = some i → i ≠ b15 := fun i hi => by have := (World.ownsRow.lt O8 i hi).2; omega
  have ob28 : ∀ i, ((Value.slice A1 ((bs ++ [byte 167]).length) c2)).ownBlock = some i → i ≠ mb16 := fun i hi => by have := (World.ownsRow.lt O8 i hi).2; omega
  replace K0 := K0.t0 K12
  replace O6 := own_keep0 O6 K12
  replace O8 := own_keep0 O8 K12
  clear K12
  refine og 5 [(0, (Value.slice P bs.length pc)), (2, (Value.bool false)), (3, (Value.slice A1 bs.length c2)), (4, (ptr b15)), (5, (i64 0))] 7 ?_
  refine od ?_
  refine qs ?_
  refine qg ?_
  refine og 1 [(0, (Value.slice P bs.length pc)), (2, (Value.bool false)), (3, (Value.slice A1 bs.length c2)), (4, (ptr b15)), (5, (i64 0)), (16, (Value.slice P bs.length pc))] 1 ?_
  refine Ops.call (by kernel_rfl) (d := (some 17)) (by kernel_rfl) (RLoad_good _ P pc bs (hP.keep0 (by omega) K0) (by omega) h24 hB20.accs) ?_
  rintro _ w39 ⟨rb41, A42, c43, rfl, K40, Hrb44, hO45, hrb46, hne47⟩
  have lrb41b15 : b15 < rb41 := by have := H18.lt; omega
  have lrb41mb16 : mb16 < rb41 := by have := Hm19.lt; omega
  have nrb41 : w.heap.size ≤ rb41 := by have := K0.size; omega
  have ob49 : ∀ i, ((Value.slice A1 bs.length c2)).ownBlock = some i → i < rb41 := fun i hi => by have := (World.ownsRow.lt O6 i hi).2; omega
  have ob50 : ∀ i, ((Value.slice A1 ((bs ++ [byte 167]).length) c2)).ownBlock = some i → i < rb41 := fun i hi => by have := (World.ownsRow.lt O8 i hi).2; omega
  have ob51 : ∀ i, ((Value.slice A42 ((loadE bs).2.1.length) c43)).ownBlock = some i → i ≠ b15 := fun i hi => by have := (World.ownsRow.lt hO45 i hi).1; have := H18.lt; omega
  have ob52 : ∀ i, ((Value.slice A42 ((loadE bs).2.1.length) c43)).ownBlock = some i → i ≠ mb16 := fun i hi => by have := (World.ownsRow.lt hO45 i hi).1; have := Hm19.lt; omega
  have oo53 : ∀ i, ((Value.slice A1 bs.length c2)).ownBlock = some i → ((Value.slice A42 ((loadE bs).2.1.length) c43)).ownBlock = some i → False := fun i hi hs => by have := (World.ownsRow.lt hO45 i hs).1; have := (World.ownsRow.lt O6 i hi).2; omega
  have oo54 : ∀ i, ((Value.slice A42 ((loadE bs).2.1.length) c43)).ownBlock = some i → ((Value.slice A1 bs.length c2)).ownBlock = some i → False := fun i hi hs => oo53 i hs hi
  have oo55 : ∀ i, ((Value.slice A1 ((bs ++ [byte 167]).length) c2)).ownBlock = some i → ((Value.slice A42 ((loadE bs).2.1.length) c43)).ownBlock = some i → False := fun i hi hs => by have := (World.ownsRow.lt hO45 i hs).1; have := (World.ownsRow.lt O8 i hi).2; omega
  have oo56 : ∀ i, ((Value.slice A42 ((loadE bs).2.1.length) c43)).ownBlock = some i → ((Value.slice A1 ((bs ++ [byte 167]).length) c2)).ownBlock = some i → False := fun i hi hs => oo55 i hs hi
  have O48 := own_base hO45 K0.size
  clear hO45
  refine ⟨_, _, rfl, rfl, ?_⟩
  replace K0 := K0.t0 K40
  replace H18 := H18.keep K40 (fun h => h)
  replace Hm19 := Hm19.keep K40 (fun h => h)
  replace O6 := own_keep0 O6 K40
  replace O8 := own_keep0 O8 K40
  clear K40
  refine og 5 [(0, (Value.slice P bs.length pc)), (2, (Value.bool false)), (3, (Value.slice A1 bs.length c2)), (4, (ptr b15)), (5, (i64 0)), (6, (ptr rb41)), (7, (i64 0))] 7 ?_
  refine od ?_
  refine qs ?_
  refine qs ?_
  refine qg ?_
  refine og 13 [(0, (Value.slice P bs.length pc)), (2, (Value.bool false)), (3, (Value.slice A1 bs.length c2)), (4, (ptr b15)), (6, (ptr rb41)), (7, (i64 0)), (30, (Value.bool false)), (31, (Value.slice A1 bs.length c2)), (32, (Value.slice P bs.length pc))] 13 ?_
  refine Ops.call (by kernel_rfl) (d := (some 33)) (by kernel_rfl) (Kept_calls _ A1 c2 bs _ P pc O8 (hP.keep0 (by omega) K0) (by omega)) ?_
  rintro _ w57 ⟨rfl, K58⟩
  refine ⟨_, _, rfl, rfl, ?_⟩
  replace K0 := K0.t0 K58
  replace H18 := H18.keep K58 (fun h => h)
  replace Hm19 := Hm19.keep K58 (fun h => h)
  replace Hrb44 := Hrb44.keep K58 (fun h => h)
  replace O6 := own_keep0 O6 K58
  replace O8 := own_keep0 O8 K58
  replace O48 := own_keep0 O48 K58
  clear K58
  refine og 2 [(0, (Value.slice P bs.length pc)), (2, (Value.bool false)), (3, (Value.slice A1 bs.length c2)), (4, (ptr b15)), (6, (ptr rb41)), (7, (i64 0)), (35, (Value.bool false))] 16 ?_
  refine od ?_
  refine q_else (o := .tmp 35) (by kernel_rfl) rfl ?_
  refine q_skip (by kernel_rfl) ?_
  refine qs ?_
  refine qg ?_
  refine og 1 [(0, (Value.slice P bs.length pc)), (2, (Value.bool false)), (4, (ptr b15)), (6, (ptr rb41)), (7, (i64 0)), (36, (Value.slice A1 bs.length c2))] 1 ?_
  refine Ops.call (by kernel_rfl) (d := (some 37)) (by kernel_rfl) (Spoil_calls _ (Value.slice A1 bs.length c2) bs _ O6 (by (try simp only [List.length_append]); omega)) ?_
  rintro _ w60 ⟨rfl, K59⟩
  refine ⟨_, _, rfl, rfl, ?_⟩
  replace K0 := K0.trans K59 (U := none_) (fun i h1 h2 => h2) (fun i h1 h2 => by have h2 : ((Value.slice A1 bs.length c2)).ownBlock = some i := h2; exfalso; have := (World.ownsRow.lt O6 i h2).1; omega)
  replace H18 := H18.keep K59 (by intro h; change ((Value.slice A1 bs.length c2)).ownBlock = some b15 at h; have := ob25 b15 h; omega)
  replace Hm19 := Hm19.keep K59 (by intro h; change ((Value.slice A1 bs.length c2)).ownBlock = some mb16 at h; have := ob26 mb16 h; omega)
  replace Hrb44 := Hrb44.keep K59 (by intro h; change ((Value.slice A1 bs.length c2)).ownBlock = some rb41 at h; have := ob49 rb41 h; omega)
  clear O6
  clear O8
  replace O48 := own_keep O48 K59 (fun i hi hs => by have hs : ((Value.slice A1 bs.length c2)).ownBlock = some i := hs; exact oo54 i hi hs)
  clear K59
  refine od ?_
  refine qs ?_
  refine qs ?_
  refine qg ?_
  refine og 2 [(0, (Value.slice P bs.length pc)), (2, (Value.bool false)), (4, (ptr b15)), (6, (ptr rb41)), (39, (Value.bool false))] 2 ?_
  refine od ?_
  refine q_else (o := .tmp 39) (by kernel_rfl) rfl ?_
  refine q_skip (by kernel_rfl) ?_
  refine qs ?_
  refine q_draw (fun wz => Keeps none_ w60 wz) 16 (by kernel_rfl) (by kernel_rfl) (by kernel_rfl) (fun w61 K62 _ _ => ⟨K62, ?_⟩)
  replace K0 := K0.t0 K62
  replace H18 := H18.keep K62 (fun h => h)
  replace Hm19 := Hm19.keep K62 (fun h => h)
  replace Hrb44 := Hrb44.keep K62 (fun h => h)
  replace O48 := own_keep0 O48 K62
  refine Dr.strong (S' := (fun wz => Keeps none_ w61 wz)) (Keeps.refl w61) (fun wz hx => K62.trans hx (fun i _ h => h) (fun _ _ h => h)) ?_
  clear K62
  refine Dr.takes (fuel' := 14) (is' := [3, 0]) [0, 3] [(2, (Value.bool false)), (4, (ptr b15)), (6, (ptr rb41)), (41, (ptr b15)), (44, (Value.slice P bs.length pc))] (by kernel_rfl) rfl (by kernel_rfl) ?_
  refine Dr.take (i := 4) (v := (Value.string (str bs))) (by kernel_rfl) (by kernel_rfl) (fun wz hS => Runs.b2s (s := 22) (d := 9) (e := 5) (by kernel_rfl) (by kernel_rfl) (by kernel_rfl) (Rd.keep0 (by omega) (hP.keep0 (by omega) K0) hS)) (d := (some 45)) (by kernel_rfl) rfl ?_
  refine Dr.call (i := 1) (by kernel_rfl) (by kernel_rfl) (d := (some 42)) (by kernel_rfl) (fun _ => Bytes_calls _ b15 mb16 m17 ((loadE bs).2.1) H18 Hm19 (by omega) hB20) ?_
  rintro _ w64 ⟨v63, rfl, K65, hO66⟩
  have ob68 : ∀ i, (v63).ownBlock = some i → i ≠ b15 := fun i hi => by have := (World.ownsRow.lt hO66 i hi).1; have := H18.lt; omega
  have ob69 : ∀ i, (v63).ownBlock = some i → i ≠ mb16 := fun i hi => by have := (World.ownsRow.lt hO66 i hi).1; have := Hm19.lt; omega
  have ob70 : ∀ i, (v63).ownBlock = some i → i ≠ rb41 := fun i hi => by have := (World.ownsRow.lt hO66 i hi).1; have := Hrb44.lt; omega
  have oo71 : ∀ i, ((Value.slice A42 ((loadE bs).2.1.length) c43)).ownBlock = some i → (v63).ownBlock = some i → False := fun i hi hs => by have := (World.ownsRow.lt hO66 i hs).1; have := (World.ownsRow.lt O48 i hi).2; omega
  have oo72 : ∀ i, (v63).ownBlock = some i → ((Value.slice A42 ((loadE bs).2.1.length) c43)).ownBlock = some i → False := fun i hi hs => oo71 i hs hi
  have O67 := own_base hO66 K0.size
  clear hO66
  have hbl73 := bookB_len hB20.accs
  replace K0 := K0.t0 K65
  replace H18 := H18.keep K65 (fun h => h)
  replace Hm19 := Hm19.keep K65 (fun h => h)
  replace Hrb44 := Hrb44.keep K65 (fun h => h)
  replace O48 := own_keep0 O48 K65
  refine ⟨_, _, rfl, rfl, K65, ?_⟩
  refine Dr.strong (S' := (fun wz => Keeps none_ w64 wz)) (Keeps.refl w64) (fun wz hx => K65.trans hx (fun i _ h => h) (fun _ _ h => h)) ?_
  clear K65
  refine Dr.take (i := 2) (v := (Value.string (str (bookB ((loadE bs).2.1))))) (by kernel_rfl) (by kernel_rfl) (fun wz hS => Runs.b2s (s := 22) (d := 9) (e := 5) (by kernel_rfl) (by kernel_rfl) (by kernel_rfl) (Rd.keep0 (by omega) (OwnB.rd O67) hS)) (d := (some 43)) (by kernel_rfl) rfl ?_
  refine Dr.take (i := 5) (v := (Value.bool ((bookB ((loadE bs).2.1)) == bs))) (by kernel_rfl) (by kernel_rfl) (fun wz hS => Runs.streq (t := 9) (by kernel_rfl)) (d := (some 46)) (by kernel_rfl) rfl ?_
  refine Dr.takes (fuel' := 9) (is' := [6, 5, 2, 1, 4, 3, 0]) [6] [(2, (Value.bool false)), (4, (ptr b15)), (6, (ptr rb41)), (47, (Value.bool ((bookB ((loadE bs).2.1)) == bs)))] (by kernel_rfl) rfl (by kernel_rfl) ?_
  have h74 : ((bookB ((loadE bs).2.1)) == bs) = true := by rw [(load0_bytes h24).1]; simp
  rw [h74]
  refine Dr.takes (fuel' := 6) (is' := [9, 8, 7, 6, 5, 2, 1, 4, 3, 0]) [7, 8, 9] [(2, (Value.bool false)), (47, (Value.bool true)), (48, (ptr b15)), (49, (ptr rb41)), (50, (agg [(i64 0), (Value.string ByteArray.empty), (Value.string ByteArray.empty), (i64 0), (i64 0)]))] (by kernel_rfl) rfl (by kernel_rfl) ?_
  refine Dr.call (i := 10) (by kernel_rfl) (by kernel_rfl) (d := (some 51)) (by kernel_rfl) (fun _ => alike_calls _ b15 mb16 m17 ((loadE bs).2.1) rb41 A42 c43 (⟨0, [], [], 0, 0⟩ : BopM) H18 Hm19 (by omega) hB20 Hrb44 (OwnT.rd O48) (by omega) (by omega) ⟨by decide, by decide, by decide⟩) ?_
  rintro _ w76 ⟨rfl, K75⟩
  replace K0 := K0.t0 K75
  replace H18 := H18.keep K75 (fun h => h)
  replace Hm19 := Hm19.keep K75 (fun h => h)
  replace Hrb44 := Hrb44.keep K75 (fun h => h)
  replace O48 := own_keep0 O48 K75
  replace O67 := own_keep0 O67 K75
  refine ⟨_, _, rfl, rfl, K75, ?_⟩
  refine Dr.strong (S' := (fun wz => Keeps none_ w76 wz)) (Keeps.refl w76) (fun wz hx => K75.trans hx (fun i _ h => h) (fun _ _ h => h)) ?_
  clear K75
  refine Dr.takes (fuel' := 3) (is' := [12, 11, 10, 9, 8, 7, 6, 5, 2, 1, 4, 3, 0]) [11, 12] [(2, (Value.bool false)), (53, (Value.bool true))] (by kernel_rfl) rfl (by kernel_rfl) ?_
  refine Dr.call (i := 13) (by kernel_rfl) (by kernel_rfl) (d := (some 54)) (by kernel_rfl) (fun _ => known_calls _) ?_
  rintro _ w78 ⟨rfl, K77⟩
  replace K0 := K0.t0 K77
  replace H18 := H18.keep K77 (fun h => h)
  replace Hm19 := Hm19.keep K77 (fun h => h)
  replace Hrb44 := Hrb44.keep K77 (fun h => h)
  replace O48 := own_keep0 O48 K77
  replace O67 := own_keep0 O67 K77
  refine ⟨_, _, rfl, rfl, K77, ?_⟩
  refine Dr.strong (S' := (fun wz => Keeps none_ w78 wz)) (Keeps.refl w78) (fun wz hx => K77.trans hx (fun i _ h => h) (fun _ _ h => h)) ?_
  clear K77
  refine Dr.takes (fuel' := 0) (is' := [15, 14, 13, 12, 11, 10, 9, 8, 7, 6, 5, 2, 1, 4, 3, 0]) [14, 15] [(2, (Value.bool true))] (by kernel_rfl) rfl (by kernel_rfl) ?_
  refine Dr.done (by kernel_rfl) ?_
  refine q_ret (by kernel_rfl) ?_
  refine ⟨(Value.bool true), retv_tmp rfl rfl, ?_⟩
  exact ⟨rfl, K0⟩
end Go.Proofs.YtooginpgclcldaaGreatDoor
