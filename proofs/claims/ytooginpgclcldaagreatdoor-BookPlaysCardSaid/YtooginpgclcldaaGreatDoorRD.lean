/- the reference's book: an account more -/
import Derived.Test.YtooginpgclcldaaGreatDoorProg
import Derived.Test.YtooginpgclcldaaGreatDoorRC
import Derived.Test.YtooginpgclcldaaGreatDoorKK
import Derived.Test.YtooginpgclcldaaGreatDoorLX
set_option linter.unusedVariables false
namespace Go.Proofs.YtooginpgclcldaaGreatDoor
open Go.Q Go.RowKit

theorem RPut_none (w : World) (base r : Nat) (A : Option Addr) (c : Nat) (S : List AccM) (n : List UInt8) (k : Int) (Hr : Has w r (rowL [.slice A S.length c] 43)) (hO : OwnT w base 97 3 AccM.cells (.slice A S.length c) S) (hne : ∀ i, (Value.slice A S.length c).ownBlock = some i → i ≠ r) (hS : Accs S) (hbw : base ≤ w.heap.size) (hk : -9223372036854775808 ≤ k ∧ k ≤ 9223372036854775807) (hg : getS S n = none) : Calls Tryz.prog 53 ⟨[(ptr r), (agg [(Value.string (str n)), (i64 k)])]⟩ w (fun e w' => ∃ A' c', e = .returned (i64 (putE S n k)) ∧ Keeps (fun i => i = r ∨ (Value.slice A S.length c).ownBlock = some i) w w' ∧ Has w' r (rowL [.slice A' (putS S n k).length c'] 43) ∧ OwnT w' base 97 3 AccM.cells (.slice A' (putS S n k).length c') (putS S n k) ∧ ∀ i, (Value.slice A' (putS S n k).length c').ownBlock = some i → (Value.slice A S.length c).ownBlock = some i ∨ w.heap.size ≤ i) := by
 have hR := OwnT.rd hO
 have Hrl := Hr.lt
 have hcap := RdT.len AccM.three (by decide) hR
 unfold maxLen at hcap
 have hSl := hS.len
 have hfn := find_none hg
 have hpl := posS_le S n
 have htk : (S.take (posS S n)).length = posS S n := by rw [List.length_take]; omega
 have hdk : (S.drop (posS S n)).length = S.length - posS S n := List.length_drop
 have K0 : Keeps (fun i => i = r) w w := (Keeps.refl w).mono (fun _ _ h => h.elim)
 refine q_calls Tryz.func53 (by kernel_rfl) (by kernel_rfl) ?_
 refine qs ?_
 refine qg ?_
 refine Ops.new (o := rowL [(Value.string (str n)), (i64 k)] 52) (V := fun b => (ptr b)) (by kernel_rfl) (d := (some 3)) (by kernel_rfl) (fun b => rfl) (fun b1 w2 hb3 H4 K5 hs6 => ?_)
 have lb1r : r < b1 := by have := Hr.lt; omega
 have nb1 : w.heap.size ≤ b1 := by have := K0.size; omega
 have ob7 : ∀ i, ((Value.slice A S.length c)).ownBlock = some i → i < b1 := fun i hi => by have := (World.ownsRow.lt hO i hi).2; omega
 replace K0 := K0.trans K5 (U := (fun i => i = r)) (fun i h1 h2 => h2) (fun i h1 h2 => by exact h2.elim)
 replace Hr := Hr.keep K5 (fun h => h)
 replace hO := own_keep0 hO K5
 clear K5 hs6
 refine og 1 [(0, (ptr r)), (3, (ptr b1)), (4, (i64 0))] 2 ?_
 refine od ?_
 refine qs ?_
 refine qg ?_
 refine og 2 [(0, (ptr r)), (3, (ptr b1)), (4, (i64 0)), (9, (ptr r)), (10, (ptr b1))] 2 ?_
 refine Ops.go (v := (Value.string (str n))) (by kernel_rfl) (Runs.load (t := 9) (a := ⟨b1, 0, none⟩) (by kernel_rfl) (H4.loads (by kernel_rfl))) (d := (some 11)) (by kernel_rfl) rfl ?_
 refine Ops.call (by kernel_rfl) (d := (some 12)) (by kernel_rfl) (find_calls _ r A c S n Hr (OwnT.rd hO)) ?_
 rintro _ w9 ⟨rfl, K8⟩
 refine ⟨_, _, rfl, rfl, ?_⟩
 replace K0 := K0.trans K8 (U := (fun i => i = r)) (fun i h1 h2 => h2) (fun i h1 h2 => by exact h2.elim)
 replace Hr := Hr.keep K8 (fun h => h)
 replace H4 := H4.keep K8 (fun h => h)
 replace hO := own_keep0 hO K8
 clear K8
 refine og 5 [(0, (ptr r)), (3, (ptr b1)), (4, (i64 0)), (5, (i64 ((posS S n : Nat) : Int))), (6, (Value.bool (hasS S n)))] 9 ?_
 refine od ?_
 refine qs ?_
 refine q_block (id := 0) (by kernel_rfl) ?_
 refine qs ?_
 refine qg ?_
 refine og 1 [(0, (ptr r)), (3, (ptr b1)), (4, (i64 0)), (5, (i64 ((posS S n : Nat) : Int))), (6, (Value.bool (hasS S n))), (16, (ptr b1))] 1 ?_
 refine Ops.go (v := (Value.string (str n))) (by kernel_rfl) (Runs.load (t := 9) (a := ⟨b1, 0, none⟩) (by kernel_rfl) (H4.loads (by kernel_rfl))) (d := (some 17)) (by kernel_rfl) rfl ?_
 refine Ops.call (by kernel_rfl) (d := (some 18)) (by kernel_rfl) (RName_calls _ n) ?_
 rintro _ w11 ⟨rfl, K10⟩
 refine ⟨_, _, rfl, rfl, ?_⟩
 replace K0 := K0.trans K10 (U := (fun i => i = r)) (fun i h1 h2 => h2) (fun i h1 h2 => by exact h2.elim)
 replace Hr := Hr.keep K10 (fun h => h)
 replace H4 := H4.keep K10 (fun h => h)
 replace hO := own_keep0 hO K10
 clear K10
 refine og 2 [(0, (ptr r)), (3, (ptr b1)), (4, (i64 0)), (5, (i64 ((posS S n : Nat) : Int))), (6, (Value.bool (hasS S n))), (15, (Value.bool (!(nameOk n))))] 5 ?_
 refine od ?_
 refine q_cond (o := .tmp 15) (b := (!(nameOk n))) (by kernel_rfl) rfl (fun h12 => ?_) (fun h12 => ?_)
 ·rw [h12]
  have p13 : (nameOk n) = false := (bnot_true h12)
  refine qs ?_
  refine qg ?_
  refine og 1 [(0, (ptr r)), (3, (ptr b1)), (4, (i64 46)), (5, (i64 ((posS S n : Nat) : Int))), (6, (Value.bool (hasS S n)))] 1 ?_
  refine od ?_
  refine q_ret (by kernel_rfl) ?_
  refine ⟨(i64 46), retv_tmp rfl rfl, ?_⟩
  have e1 : putE S n k = 46 := by unfold putE; rw [if_pos (bnot_true h12)]
  have e2 : putS S n k = S := by unfold putS; rw [if_neg (by rw [e1]; decide)]
  rw [e1, e2]
  exact ⟨A, c, rfl, K0.mono (fun i _ h => .inl h), Hr, hO, fun i h => .inl h⟩
 ·rw [h12]
  have p14 : (nameOk n) = true := (bnot_false h12)
  refine qs ?_
  refine qg ?_
  refine og 1 [(0, (ptr r)), (3, (ptr b1)), (4, (i64 0)), (5, (i64 ((posS S n : Nat) : Int))), (6, (Value.bool (hasS S n))), (21, (Value.pointer (some ⟨b1, 1, none⟩)))] 1 ?_
  refine Ops.go (v := (i64 k)) (by kernel_rfl) (Runs.load (t := 2) (a := ⟨b1, 1, none⟩) (by kernel_rfl) (H4.loads (by kernel_rfl))) (d := (some 22)) (by kernel_rfl) rfl ?_
  refine og 2 [(0, (ptr r)), (3, (ptr b1)), (4, (i64 0)), (5, (i64 ((posS S n : Nat) : Int))), (6, (Value.bool (hasS S n))), (20, (Value.bool (decide (k < 0))))] 4 ?_
  refine od ?_
  refine q_cond (o := .tmp 20) (b := (decide (k < 0))) (by kernel_rfl) rfl (fun h15 => ?_) (fun h15 => ?_)
  ·rw [h15]
   have p16 : k < 0 := of_decide_eq_true h15
   refine qs ?_
   refine qg ?_
   refine og 1 [(0, (ptr r)), (3, (ptr b1)), (4, (i64 47)), (5, (i64 ((posS S n : Nat) : Int))), (6, (Value.bool (hasS S n)))] 1 ?_
   refine od ?_
   refine q_ret (by kernel_rfl) ?_
   refine ⟨(i64 47), retv_tmp rfl rfl, ?_⟩
   have e1 : putE S n k = 47 := by unfold putE; rw [if_neg (by rw [(bnot_false h12)]; decide)]; rw [if_pos (by omega)]
   have e2 : putS S n k = S := by unfold putS; rw [if_neg (by rw [e1]; decide)]
   rw [e1, e2]
   exact ⟨A, c, rfl, K0.mono (fun i _ h => .inl h), Hr, hO, fun i h => .inl h⟩
  ·rw [h15]
   have p17 : ¬ (k < 0) := of_decide_eq_false h15
   refine qs ?_
   refine qg ?_
   refine og 2 [(0, (ptr r)), (3, (ptr b1)), (4, (i64 0)), (5, (i64 ((posS S n : Nat) : Int))), (24, (Value.bool (hasS S n)))] 2 ?_
   refine od ?_
   have h18 : (hasS S n) = false := hfn
   rw [h18]
   refine q_else (o := .tmp 24) (by kernel_rfl) rfl ?_
   refine qs ?_
   refine qg ?_
   refine og 3 [(0, (ptr r)), (3, (ptr b1)), (4, (i64 0)), (5, (i64 ((posS S n : Nat) : Int))), (29, (ptr r))] 3 ?_
   refine Ops.go (v := (Value.slice A S.length c)) (by kernel_rfl) (Runs.load (t := 41) (a := ⟨r, 0, none⟩) (by kernel_rfl) (Hr.loads (by kernel_rfl))) (d := (some 30)) (by kernel_rfl) rfl ?_
   refine og 3 [(0, (ptr r)), (3, (ptr b1)), (4, (i64 0)), (5, (i64 ((posS S n : Nat) : Int))), (26, (Value.bool (decide (((S.length : Nat) : Int) ≥ 200))))] 7 ?_
   refine od ?_
   refine q_cond (o := .tmp 26) (b := (decide (((S.length : Nat) : Int) ≥ 200))) (by kernel_rfl) rfl (fun h19 => ?_) (fun h19 => ?_)
   ·rw [h19]
    have p20 : ((S.length : Nat) : Int) ≥ 200 := of_decide_eq_true h19
    refine qs ?_
    refine qg ?_
    refine og 1 [(0, (ptr r)), (3, (ptr b1)), (4, (i64 4)), (5, (i64 ((posS S n : Nat) : Int)))] 1 ?_
    refine od ?_
    refine q_ret (by kernel_rfl) ?_
    refine ⟨(i64 4), retv_tmp rfl rfl, ?_⟩
    have e1 : putE S n k = 4 := by unfold putE; rw [if_neg (by rw [(bnot_false h12)]; decide)]; rw [if_neg (by omega), if_neg (by rw [hg]; decide), if_pos (by omega)]
    have e2 : putS S n k = S := by unfold putS; rw [if_neg (by rw [e1]; decide)]
    rw [e1, e2]
    exact ⟨A, c, rfl, K0.mono (fun i _ h => .inl h), Hr, hO, fun i h => .inl h⟩
   ·rw [h19]
    have p21 : ¬ (((S.length : Nat) : Int) ≥ 200) := of_decide_eq_false h19
    refine q_skip (by kernel_rfl) ?_
    refine qs ?_
    refine qg ?_
    refine og 1 [(0, (ptr r)), (3, (ptr b1)), (4, (i64 0)), (5, (i64 ((posS S n : Nat) : Int))), (7, (Value.slice none 0 0))] 1 ?_
    refine od ?_
    refine qs ?_
    refine qg ?_
    refine og 4 [(0, (ptr r)), (3, (ptr b1)), (4, (i64 0)), (5, (i64 ((posS S n : Nat) : Int))), (7, (Value.slice none 0 0)), (33, (Value.slice none 0 0)), (36, (ptr r))] 4 ?_
    refine Ops.go (v := (Value.slice A S.length c)) (by kernel_rfl) (Runs.load (t := 41) (a := ⟨r, 0, none⟩) (by kernel_rfl) (Hr.loads (by kernel_rfl))) (d := (some 37)) (by kernel_rfl) rfl ?_
    refine og 1 [(0, (ptr r)), (3, (ptr b1)), (4, (i64 0)), (5, (i64 ((posS S n : Nat) : Int))), (7, (Value.slice none 0 0)), (33, (Value.slice none 0 0)), (37, (Value.slice A S.length c)), (38, (i64 ((posS S n : Nat) : Int)))] 6 ?_
    obtain ⟨hr22, F23⟩ := run_hi (P := Tryz.prog) (t := 41) (e := 97) AccM.three (by decide) (by kernel_rfl) (by kernel_rfl) (OwnT.rd hO) (k := (posS S n)) (by omega)
    refine Ops.go (v := (Value.slice A (posS S n) c)) (by kernel_rfl) ((Runs.slice (by kernel_rfl) hr22)) (d := (some 39)) (by kernel_rfl) rfl ?_
    obtain ⟨v24, w25, hr26, hO27, hK28, hg29⟩ := OwnT.app (ty := 41) AccM.three AccM.one tyA (OwnT.nil _ w.heap.size 97 3 AccM.cells) F23 (by (try simp only [List.length_append]); (try simp only [List.length_cons]); (try simp only [List.length_nil]); omega) (by (try simp only [List.length_append]); (try simp only [List.length_cons]); (try simp only [List.length_nil]); omega) K0.size
    obtain ⟨A31, c32, rfl⟩ := RdT.form AccM.three (by decide) (OwnT.rd hO27)
    obtain ⟨l33, hl34⟩ : ∃ z, z = [] ++ S.take (posS S n) := ⟨_, rfl⟩
    rw [← hl34] at hr26 hO27 hg29
    have hn35 : l33.length = 0 + (S.take (posS S n)).length := by simp [hl34]
    have ob36 : ∀ i, ((Value.slice A31 l33.length c32)).ownBlock = some i → i ≠ r := fun i hi => by rcases hg29 i hi with h | h; (cases h); (have := Hr.lt; omega)
    have ob37 : ∀ i, ((Value.slice A31 l33.length c32)).ownBlock = some i → i ≠ b1 := fun i hi => by rcases hg29 i hi with h | h; (cases h); (have := H4.lt; omega)
    have oo38 : ∀ i, ((Value.slice A S.length c)).ownBlock = some i → ((Value.slice A31 l33.length c32)).ownBlock = some i → False := fun i hi hs => by rcases hg29 i hs with h | h; (cases h); (have := (World.ownsRow.lt hO i hi).2; omega)
    have oo39 : ∀ i, ((Value.slice A31 l33.length c32)).ownBlock = some i → ((Value.slice A S.length c)).ownBlock = some i → False := fun i hi hs => oo38 i hs hi
    have K30 := Keeps.mono (U := none_) hK28 (fun _ _ h => by cases h)
    refine Ops.go (v := (Value.slice A31 l33.length c32)) (by kernel_rfl) (Runs.append (ts := #[41, 41]) (ty := 41) (vs := [(Value.slice none 0 0), (Value.slice A (posS S n) c)]) (by kernel_rfl) hr26) (d := (some 40)) (by kernel_rfl) rfl ?_
    replace K0 := K0.trans K30 (U := (fun i => i = r)) (fun i h1 h2 => h2) (fun i h1 h2 => by exact h2.elim)
    replace Hr := Hr.keep K30 (fun h => h)
    replace H4 := H4.keep K30 (fun h => h)
    replace hO := own_keep0 hO K30
    replace F23 := (Rd.keep0 (by omega) F23 K30)
    clear K30 hr26 hK28 hg29
    refine og 1 [(0, (ptr r)), (3, (ptr b1)), (4, (i64 0)), (5, (i64 ((posS S n : Nat) : Int))), (7, (Value.slice A31 l33.length c32))] 9 ?_
    refine od ?_
    refine qs ?_
    refine qg ?_
    refine og 2 [(0, (ptr r)), (3, (ptr b1)), (4, (i64 0)), (5, (i64 ((posS S n : Nat) : Int))), (7, (Value.slice A31 l33.length c32)), (41, (Value.slice A31 l33.length c32)), (42, (ptr b1))] 2 ?_
    refine Ops.go (v := (Value.string (str n))) (by kernel_rfl) (Runs.load (t := 9) (a := ⟨b1, 0, none⟩) (by kernel_rfl) (H4.loads (by kernel_rfl))) (d := (some 43)) (by kernel_rfl) rfl ?_
    refine og 1 [(0, (ptr r)), (4, (i64 0)), (5, (i64 ((posS S n : Nat) : Int))), (7, (Value.slice A31 l33.length c32)), (41, (Value.slice A31 l33.length c32)), (43, (Value.string (str n))), (44, (Value.pointer (some ⟨b1, 1, none⟩)))] 4 ?_
    refine Ops.go (v := (i64 k)) (by kernel_rfl) (Runs.load (t := 2) (a := ⟨b1, 1, none⟩) (by kernel_rfl) (H4.loads (by kernel_rfl))) (d := (some 45)) (by kernel_rfl) rfl ?_
    refine og 1 [(0, (ptr r)), (4, (i64 0)), (5, (i64 ((posS S n : Nat) : Int))), (7, (Value.slice A31 l33.length c32)), (41, (Value.slice A31 l33.length c32)), (46, (agg [(Value.string (str n)), (i64 k), (Value.string ByteArray.empty)]))] 6 ?_
    refine Ops.new (o := rowL [(Value.string (str n)), (i64 k), (Value.string ByteArray.empty)] 97) (V := fun b => (Value.slice (some ⟨b, 0, none⟩) 1 1)) (by kernel_rfl) (d := (some 47)) (by kernel_rfl) (fun b => rfl) (fun b40 w41 hb42 H43 K44 hs45 => ?_)
    have lb40r : r < b40 := by have := Hr.lt; omega
    have lb40b1 : b1 < b40 := by have := H4.lt; omega
    have nb40 : w.heap.size ≤ b40 := by have := K0.size; omega
    have ob46 : ∀ i, ((Value.slice A S.length c)).ownBlock = some i → i < b40 := fun i hi => by have := (World.ownsRow.lt hO i hi).2; omega
    have ob47 : ∀ i, ((Value.slice A31 l33.length c32)).ownBlock = some i → i < b40 := fun i hi => by have := (World.ownsRow.lt hO27 i hi).2; omega
    replace K0 := K0.trans K44 (U := (fun i => i = r)) (fun i h1 h2 => h2) (fun i h1 h2 => by exact h2.elim)
    replace Hr := Hr.keep K44 (fun h => h)
    replace H4 := H4.keep K44 (fun h => h)
    replace hO := own_keep0 hO K44
    replace F23 := (Rd.keep0 (by omega) F23 K44)
    replace hO27 := own_keep0 hO27 K44
    clear K44 hs45
    obtain ⟨v48, w49, hr50, hO51, hK52, hg53⟩ := OwnT.app (ty := 41) AccM.three AccM.one tyA hO27 (show RdT _ 3 AccM.cells _ [(⟨n, k, ([] : List UInt8)⟩ : AccM)] from Rd.lit H43 (n := 1) rfl (by decide)) (by (try simp only [List.length_append]); (try simp only [List.length_cons]); (try simp only [List.length_nil]); omega) (by (try simp only [List.length_append]); (try simp only [List.length_cons]); (try simp only [List.length_nil]); omega) K0.size
    obtain ⟨A55, c56, rfl⟩ := RdT.form AccM.three (by decide) (OwnT.rd hO51)
    obtain ⟨l57, hl58⟩ : ∃ z, z = l33 ++ [(⟨n, k, ([] : List UInt8)⟩ : AccM)] := ⟨_, rfl⟩
    rw [← hl58] at hr50 hO51 hg53
    have hn59 : l57.length = l33.length + 1 := by simp [hl58]
    have ob60 : ∀ i, ((Value.slice A55 l57.length c56)).ownBlock = some i → i ≠ r := fun i hi => by rcases hg53 i hi with h | h; (have := ob36 i h; omega); (have := Hr.lt; omega)
    have ob61 : ∀ i, ((Value.slice A55 l57.length c56)).ownBlock = some i → i ≠ b1 := fun i hi => by rcases hg53 i hi with h | h; (have := ob37 i h; omega); (have := H4.lt; omega)
    have ob62 : ∀ i, ((Value.slice A55 l57.length c56)).ownBlock = some i → i ≠ b40 := fun i hi => by rcases hg53 i hi with h | h; (have := ob47 i h; omega); (have := H43.lt; omega)
    have oo63 : ∀ i, ((Value.slice A S.length c)).ownBlock = some i → ((Value.slice A55 l57.length c56)).ownBlock = some i → False := fun i hi hs => by rcases hg53 i hs with h | h; (exact oo38 i hi h); (have := (World.ownsRow.lt hO i hi).2; omega)
    have oo64 : ∀ i, ((Value.slice A55 l57.length c56)).ownBlock = some i → ((Value.slice A S.length c)).ownBlock = some i → False := fun i hi hs => oo63 i hs hi
    have K54 := hK52
    refine Ops.go (v := (Value.slice A55 l57.length c56)) (by kernel_rfl) (Runs.append (ts := #[41, 41]) (ty := 41) (vs := [(Value.slice A31 l33.length c32), (Value.slice (some ⟨b40, 0, none⟩) 1 1)]) (by kernel_rfl) hr50) (d := (some 48)) (by kernel_rfl) rfl ?_
    replace K0 := K0.trans K54 (U := (fun i => i = r)) (fun i h1 h2 => h2) (fun i h1 h2 => by have h2 : ((Value.slice A31 l33.length c32)).ownBlock = some i := h2; exfalso; have := (World.ownsRow.lt hO27 i h2).1; omega)
    replace Hr := Hr.keep K54 (by intro h; change ((Value.slice A31 l33.length c32)).ownBlock = some r at h; have := ob36 r h; omega)
    replace H4 := H4.keep K54 (by intro h; change ((Value.slice A31 l33.length c32)).ownBlock = some b1 at h; have := ob37 b1 h; omega)
    replace H43 := H43.keep K54 (by intro h; change ((Value.slice A31 l33.length c32)).ownBlock = some b40 at h; have := ob47 b40 h; omega)
    replace hO := own_keep hO K54 (fun i hi hs => by have hs : ((Value.slice A31 l33.length c32)).ownBlock = some i := hs; exact oo38 i hi hs)
    clear F23
    clear hO27
    clear K54 hr50 hK52 hg53
    refine og 1 [(0, (ptr r)), (4, (i64 0)), (5, (i64 ((posS S n : Nat) : Int))), (7, (Value.slice A55 l57.length c56))] 9 ?_
    refine od ?_
    refine qs ?_
    refine qg ?_
    refine og 4 [(0, (ptr r)), (4, (i64 0)), (5, (i64 ((posS S n : Nat) : Int))), (7, (Value.slice A55 l57.length c56)), (49, (Value.slice A55 l57.length c56)), (52, (ptr r))] 4 ?_
    refine Ops.go (v := (Value.slice A S.length c)) (by kernel_rfl) (Runs.load (t := 41) (a := ⟨r, 0, none⟩) (by kernel_rfl) (Hr.loads (by kernel_rfl))) (d := (some 53)) (by kernel_rfl) rfl ?_
    refine og 1 [(0, (ptr r)), (4, (i64 0)), (7, (Value.slice A55 l57.length c56)), (49, (Value.slice A55 l57.length c56)), (53, (Value.slice A S.length c)), (54, (i64 ((posS S n : Nat) : Int)))] 6 ?_
    obtain ⟨A67, hr65, F66⟩ := run_lo (P := Tryz.prog) (t := 41) (e := 97) AccM.three (by decide) (by kernel_rfl) (by kernel_rfl) (OwnT.rd hO) (k := (posS S n)) (by omega)
    refine Ops.go (v := (Value.slice A67 (S.length - (posS S n)) (c - (posS S n)))) (by kernel_rfl) ((Runs.slice (by kernel_rfl) hr65)) (d := (some 55)) (by kernel_rfl) rfl ?_
    obtain ⟨v68, w69, hr70, hO71, hK72, hg73⟩ := OwnT.app (ty := 41) AccM.three AccM.one tyA hO51 F66 (by (try simp only [List.length_append]); (try simp only [List.length_cons]); (try simp only [List.length_nil]); omega) (by (try simp only [List.length_append]); (try simp only [List.length_cons]); (try simp only [List.length_nil]); omega) K0.size
    obtain ⟨A75, c76, rfl⟩ := RdT.form AccM.three (by decide) (OwnT.rd hO71)
    obtain ⟨l77, hl78⟩ : ∃ z, z = l57 ++ S.drop (posS S n) := ⟨_, rfl⟩
    rw [← hl78] at hr70 hO71 hg73
    have hn79 : l77.length = l57.length + (S.drop (posS S n)).length := by simp [hl78]
    have ob80 : ∀ i, ((Value.slice A75 l77.length c76)).ownBlock = some i → i ≠ r := fun i hi => by rcases hg73 i hi with h | h; (have := ob60 i h; omega); (have := Hr.lt; omega)
    have ob81 : ∀ i, ((Value.slice A75 l77.length c76)).ownBlock = some i → i ≠ b1 := fun i hi => by rcases hg73 i hi with h | h; (have := ob61 i h; omega); (have := H4.lt; omega)
    have ob82 : ∀ i, ((Value.slice A75 l77.length c76)).ownBlock = some i → i ≠ b40 := fun i hi => by rcases hg73 i hi with h | h; (have := ob62 i h; omega); (have := H43.lt; omega)
    have oo83 : ∀ i, ((Value.slice A S.length c)).ownBlock = some i → ((Value.slice A75 l77.length c76)).ownBlock = some i → False := fun i hi hs => by rcases hg73 i hs with h | h; (exact oo63 i hi h); (have := (World.ownsRow.lt hO i hi).2; omega)
    have oo84 : ∀ i, ((Value.slice A75 l77.length c76)).ownBlock = some i → ((Value.slice A S.length c)).ownBlock = some i → False := fun i hi hs => oo83 i hs hi
    have K74 := hK72
    refine Ops.go (v := (Value.slice A75 l77.length c76)) (by kernel_rfl) (Runs.append (ts := #[41, 41]) (ty := 41) (vs := [(Value.slice A55 l57.length c56), (Value.slice A67 (S.length - (posS S n)) (c - (posS S n)))]) (by kernel_rfl) hr70) (d := (some 56)) (by kernel_rfl) rfl ?_
    replace K0 := K0.trans K74 (U := (fun i => i = r)) (fun i h1 h2 => h2) (fun i h1 h2 => by have h2 : ((Value.slice A55 l57.length c56)).ownBlock = some i := h2; exfalso; have := (World.ownsRow.lt hO51 i h2).1; omega)
    replace Hr := Hr.keep K74 (by intro h; change ((Value.slice A55 l57.length c56)).ownBlock = some r at h; have := ob60 r h; omega)
    replace H4 := H4.keep K74 (by intro h; change ((Value.slice A55 l57.length c56)).ownBlock = some b1 at h; have := ob61 b1 h; omega)
    replace H43 := H43.keep K74 (by intro h; change ((Value.slice A55 l57.length c56)).ownBlock = some b40 at h; have := ob62 b40 h; omega)
    replace hO := own_keep hO K74 (fun i hi hs => by have hs : ((Value.slice A55 l57.length c56)).ownBlock = some i := hs; exact oo63 i hi hs)
    clear hO51
    clear F66
    clear K74 hr70 hK72 hg73
    refine og 1 [(0, (ptr r)), (4, (i64 0)), (7, (Value.slice A75 l77.length c76))] 9 ?_
    refine od ?_
    refine qs ?_
    refine qg ?_
    refine og 4 [(4, (i64 0)), (58, (Value.slice A75 l77.length c76)), (60, (ptr r))] 4 ?_
    refine Ops.put (t := 41) (b := r) (off := 0) (v := (Value.slice A75 l77.length c76)) (ys := [(Value.slice A75 l77.length c76)]) (by kernel_rfl) (by kernel_rfl) Hr (by kernel_rfl) (d := none) (by kernel_rfl) rfl (fun w85 H86 K87 => ?_)
    clear Hr
    replace K0 := K0.trans K87 (U := (fun i => i = r)) (fun i h1 h2 => h2) (fun i h1 h2 => by have h2 : i = r := h2; show i = r; omega)
    replace H4 := H4.keep K87 (by intro h; change b1 = r at h; omega)
    replace H43 := H43.keep K87 (by intro h; change b40 = r at h; omega)
    replace hO := own_keep hO K87 (fun i hi hs => by have hs : i = r := hs; have := hne i hi; omega)
    replace hO71 := own_keep hO71 K87 (fun i hi hs => by have hs : i = r := hs; have := ob80 i hi; omega)
    clear K87
    refine od ?_
    refine qs ?_
    refine qg ?_
    refine og 1 [(4, (i64 0))] 1 ?_
    refine od ?_
    refine q_ret (by kernel_rfl) ?_
    refine ⟨(i64 0), retv_tmp rfl rfl, ?_⟩
    have e1 : putE S n k = 0 := by unfold putE; rw [if_neg (by rw [(bnot_false h12)]; decide), if_neg (by omega), if_neg (by rw [hg]; decide), if_neg (by omega)]
    have e2 : l77 = putS S n k := by unfold putS; rw [if_pos e1, ← ins_split, hl78, hl58, hl34]; simp only [List.nil_append, List.append_assoc]
    rw [e2] at H86 hO71
    rw [e1]
    exact ⟨_, _, rfl, K0.mono (fun i _ h => .inl h), H86, own_base hO71 hbw, fun i hi => .inr (World.ownsRow.lt hO71 i hi).1⟩

theorem RPut_some (w : World) (base r : Nat) (A : Option Addr) (c : Nat) (S : List AccM) (n : List UInt8) (k : Int) (Hr : Has w r (rowL [.slice A S.length c] 43)) (hO : OwnT w base 97 3 AccM.cells (.slice A S.length c) S) (hne : ∀ i, (Value.slice A S.length c).ownBlock = some i → i ≠ r) (hS : Accs S) (hbw : base ≤ w.heap.size) (hk : -9223372036854775808 ≤ k ∧ k ≤ 9223372036854775807) (a : AccM) (hg : getS S n = some a) : Calls Tryz.prog 53 ⟨[(ptr r), (agg [(Value.string (str n)), (i64 k)])]⟩ w (fun e w' => ∃ A' c', e = .returned (i64 (putE S n k)) ∧ Keeps (fun i => i = r ∨ (Value.slice A S.length c).ownBlock = some i) w w' ∧ Has w' r (rowL [.slice A' (putS S n k).length c'] 43) ∧ OwnT w' base 97 3 AccM.cells (.slice A' (putS S n k).length c') (putS S n k) ∧ ∀ i, (Value.slice A' (putS S n k).length c').ownBlock = some i → (Value.slice A S.length c).ownBlock = some i ∨ w.heap.size ≤ i) := by
 have hR := OwnT.rd hO
 have Hrl := Hr.lt
 have hcap := RdT.len AccM.three (by decide) hR
 unfold maxLen at hcap
 have hSl := hS.len
 have hfs := find_some hS hg
 have hpl := posS_le S n
 have htk : (S.take (posS S n)).length = posS S n := by rw [List.length_take]; omega
 have hdk : (S.drop (posS S n)).length = S.length - posS S n := List.length_drop
 have K0 : Keeps (fun i => i = r) w w := (Keeps.refl w).mono (fun _ _ h => h.elim)
 refine q_calls Tryz.func53 (by kernel_rfl) (by kernel_rfl) ?_
 refine qs ?_
 refine qg ?_
 refine Ops.new (o := rowL [(Value.string (str n)), (i64 k)] 52) (V := fun b => (ptr b)) (by kernel_rfl) (d := (some 3)) (by kernel_rfl) (fun b => rfl) (fun b1 w2 hb3 H4 K5 hs6 => ?_)
 have lb1r : r < b1 := by have := Hr.lt; omega
 have nb1 : w.heap.size ≤ b1 := by have := K0.size; omega
 have ob7 : ∀ i, ((Value.slice A S.length c)).ownBlock = some i → i < b1 := fun i hi => by have := (World.ownsRow.lt hO i hi).2; omega
 replace K0 := K0.trans K5 (U := (fun i => i = r)) (fun i h1 h2 => h2) (fun i h1 h2 => by exact h2.elim)
 replace Hr := Hr.keep K5 (fun h => h)
 replace hO := own_keep0 hO K5
 clear K5 hs6
 refine og 1 [(0, (ptr r)), (3, (ptr b1)), (4, (i64 0))] 2 ?_
 refine od ?_
 refine qs ?_
 refine qg ?_
 refine og 2 [(0, (ptr r)), (3, (ptr b1)), (4, (i64 0)), (9, (ptr r)), (10, (ptr b1))] 2 ?_
 refine Ops.go (v := (Value.string (str n))) (by kernel_rfl) (Runs.load (t := 9) (a := ⟨b1, 0, none⟩) (by kernel_rfl) (H4.loads (by kernel_rfl))) (d := (some 11)) (by kernel_rfl) rfl ?_
 refine Ops.call (by kernel_rfl) (d := (some 12)) (by kernel_rfl) (find_calls _ r A c S n Hr (OwnT.rd hO)) ?_
 rintro _ w9 ⟨rfl, K8⟩
 refine ⟨_, _, rfl, rfl, ?_⟩
 replace K0 := K0.trans K8 (U := (fun i => i = r)) (fun i h1 h2 => h2) (fun i h1 h2 => by exact h2.elim)
 replace Hr := Hr.keep K8 (fun h => h)
 replace H4 := H4.keep K8 (fun h => h)
 replace hO := own_keep0 hO K8
 clear K8
 refine og 5 [(0, (ptr r)), (3, (ptr b1)), (4, (i64 0)), (5, (i64 ((posS S n : Nat) : Int))), (6, (Value.bool (hasS S n)))] 9 ?_
 refine od ?_
 refine qs ?_
 refine q_block (id := 0) (by kernel_rfl) ?_
 refine qs ?_
 refine qg ?_
 refine og 1 [(0, (ptr r)), (3, (ptr b1)), (4, (i64 0)), (5, (i64 ((posS S n : Nat) : Int))), (6, (Value.bool (hasS S n))), (16, (ptr b1))] 1 ?_
 refine Ops.go (v := (Value.string (str n))) (by kernel_rfl) (Runs.load (t := 9) (a := ⟨b1, 0, none⟩) (by kernel_rfl) (H4.loads (by kernel_rfl))) (d := (some 17)) (by kernel_rfl) rfl ?_
 refine Ops.call (by kernel_rfl) (d := (some 18)) (by kernel_rfl) (RName_calls _ n) ?_
 rintro _ w11 ⟨rfl, K10⟩
 refine ⟨_, _, rfl, rfl, ?_⟩
 replace K0 := K0.trans K10 (U := (fun i => i = r)) (fun i h1 h2 => h2) (fun i h1 h2 => by exact h2.elim)
 replace Hr := Hr.keep K10 (fun h => h)
 replace H4 := H4.keep K10 (fun h => h)
 replace hO := own_keep0 hO K10
 clear K10
 refine og 2 [(0, (ptr r)), (3, (ptr b1)), (4, (i64 0)), (5, (i64 ((posS S n : Nat) : Int))), (6, (Value.bool (hasS S n))), (15, (Value.bool (!(nameOk n))))] 5 ?_
 refine od ?_
 refine q_cond (o := .tmp 15) (b := (!(nameOk n))) (by kernel_rfl) rfl (fun h12 => ?_) (fun h12 => ?_)
 ·rw [h12]
  have p13 : (nameOk n) = false := (bnot_true h12)
  refine qs ?_
  refine qg ?_
  refine og 1 [(0, (ptr r)), (3, (ptr b1)), (4, (i64 46)), (5, (i64 ((posS S n : Nat) : Int))), (6, (Value.bool (hasS S n)))] 1 ?_
  refine od ?_
  refine q_ret (by kernel_rfl) ?_
  refine ⟨(i64 46), retv_tmp rfl rfl, ?_⟩
  have e1 : putE S n k = 46 := by unfold putE; rw [if_pos (bnot_true h12)]
  have e2 : putS S n k = S := by unfold putS; rw [if_neg (by rw [e1]; decide)]
  rw [e1, e2]
  exact ⟨A, c, rfl, K0.mono (fun i _ h => .inl h), Hr, hO, fun i h => .inl h⟩
 ·rw [h12]
  have p14 : (nameOk n) = true := (bnot_false h12)
  refine qs ?_
  refine qg ?_
  refine og 1 [(0, (ptr r)), (3, (ptr b1)), (4, (i64 0)), (5, (i64 ((posS S n : Nat) : Int))), (6, (Value.bool (hasS S n))), (21, (Value.pointer (some ⟨b1, 1, none⟩)))] 1 ?_
  refine Ops.go (v := (i64 k)) (by kernel_rfl) (Runs.load (t := 2) (a := ⟨b1, 1, none⟩) (by kernel_rfl) (H4.loads (by kernel_rfl))) (d := (some 22)) (by kernel_rfl) rfl ?_
  refine og 2 [(0, (ptr r)), (3, (ptr b1)), (4, (i64 0)), (5, (i64 ((posS S n : Nat) : Int))), (6, (Value.bool (hasS S n))), (20, (Value.bool (decide (k < 0))))] 4 ?_
  refine od ?_
  refine q_cond (o := .tmp 20) (b := (decide (k < 0))) (by kernel_rfl) rfl (fun h15 => ?_) (fun h15 => ?_)
  ·rw [h15]
   have p16 : k < 0 := of_decide_eq_true h15
   refine qs ?_
   refine qg ?_
   refine og 1 [(0, (ptr r)), (3, (ptr b1)), (4, (i64 47)), (5, (i64 ((posS S n : Nat) : Int))), (6, (Value.bool (hasS S n)))] 1 ?_
   refine od ?_
   refine q_ret (by kernel_rfl) ?_
   refine ⟨(i64 47), retv_tmp rfl rfl, ?_⟩
   have e1 : putE S n k = 47 := by unfold putE; rw [if_neg (by rw [(bnot_false h12)]; decide)]; rw [if_pos (by omega)]
   have e2 : putS S n k = S := by unfold putS; rw [if_neg (by rw [e1]; decide)]
   rw [e1, e2]
   exact ⟨A, c, rfl, K0.mono (fun i _ h => .inl h), Hr, hO, fun i h => .inl h⟩
  ·rw [h15]
   have p17 : ¬ (k < 0) := of_decide_eq_false h15
   refine qs ?_
   refine qg ?_
   refine og 2 [(0, (ptr r)), (3, (ptr b1)), (4, (i64 0)), (5, (i64 ((posS S n : Nat) : Int))), (24, (Value.bool (hasS S n)))] 2 ?_
   refine od ?_
   have h18 : (hasS S n) = true := hfs.1
   rw [h18]
   refine q_then (o := .tmp 24) (by kernel_rfl) rfl ?_
   refine qs ?_
   refine qg ?_
   refine og 1 [(0, (ptr r)), (3, (ptr b1)), (4, (i64 41)), (5, (i64 ((posS S n : Nat) : Int)))] 1 ?_
   refine od ?_
   refine q_ret (by kernel_rfl) ?_
   refine ⟨(i64 41), retv_tmp rfl rfl, ?_⟩
   have e1 : putE S n k = 41 := by unfold putE; rw [if_neg (by rw [(bnot_false h12)]; decide)]; rw [if_neg (by omega), if_pos (by rw [hg]; rfl)]
   have e2 : putS S n k = S := by unfold putS; rw [if_neg (by rw [e1]; decide)]
   rw [e1, e2]
   exact ⟨A, c, rfl, K0.mono (fun i _ h => .inl h), Hr, hO, fun i h => .inl h⟩

theorem RPut_calls (w : World) (base r : Nat) (A : Option Addr) (c : Nat) (S : List AccM) (n : List UInt8) (k : Int) (Hr : Has w r (rowL [.slice A S.length c] 43)) (hO : OwnT w base 97 3 AccM.cells (.slice A S.length c) S) (hne : ∀ i, (Value.slice A S.length c).ownBlock = some i → i ≠ r) (hS : Accs S) (hbw : base ≤ w.heap.size) (hk : -9223372036854775808 ≤ k ∧ k ≤ 9223372036854775807) : Calls Tryz.prog 53 ⟨[(ptr r), (agg [(Value.string (str n)), (i64 k)])]⟩ w (fun e w' => ∃ A' c', e = .returned (i64 (putE S n k)) ∧ Keeps (fun i => i = r ∨ (Value.slice A S.length c).ownBlock = some i) w w' ∧ Has w' r (rowL [.slice A' (putS S n k).length c'] 43) ∧ OwnT w' base 97 3 AccM.cells (.slice A' (putS S n k).length c') (putS S n k) ∧ ∀ i, (Value.slice A' (putS S n k).length c').ownBlock = some i → (Value.slice A S.length c).ownBlock = some i ∨ w.heap.size ≤ i) := by
 cases hg : getS S n with
 | none => exact RPut_none w base r A c S n k Hr hO hne hS hbw hk hg
 | some a => exact RPut_some w base r A c S n k Hr hO hne hS hbw hk a hg

theorem ROpen_calls (w : World) (base r : Nat) (A : Option Addr) (c : Nat) (S : List AccM) (n : List UInt8) (Hr : Has w r (rowL [.slice A S.length c] 43)) (hO : OwnT w base 97 3 AccM.cells (.slice A S.length c) S) (hne : ∀ i, (Value.slice A S.length c).ownBlock = some i → i ≠ r) (hS : Accs S) (hbw : base ≤ w.heap.size) : Calls Tryz.prog 47 ⟨[(ptr r), (Value.string (str n))]⟩ w (fun e w' => ∃ A' c', e = .returned (i64 (putE S n 0)) ∧ Keeps (fun i => i = r ∨ (Value.slice A S.length c).ownBlock = some i) w w' ∧ Has w' r (rowL [.slice A' (putS S n 0).length c'] 43) ∧ OwnT w' base 97 3 AccM.cells (.slice A' (putS S n 0).length c') (putS S n 0) ∧ ∀ i, (Value.slice A' (putS S n 0).length c').ownBlock = some i → (Value.slice A S.length c).ownBlock = some i ∨ w.heap.size ≤ i) := by
 have hR := OwnT.rd hO
 have Hrl := Hr.lt
 have hcap := RdT.len AccM.three (by decide) hR
 unfold maxLen at hcap
 have K0 : Keeps (fun i => i = r ∨ (Value.slice A S.length c).ownBlock = some i) w w := (Keeps.refl w).mono (fun _ _ h => h.elim)
 refine q_calls Tryz.func47 (by kernel_rfl) (by kernel_rfl) ?_
 refine qs ?_
 refine qg ?_
 refine og 1 [(0, (ptr r)), (1, (Value.string (str n))), (4, (i64 0))] 1 ?_
 refine od ?_
 refine qs ?_
 refine qg ?_
 refine og 3 [(4, (i64 0)), (5, (ptr r)), (7, (agg [(Value.string (str n)), (i64 0)]))] 3 ?_
 refine Ops.call (by kernel_rfl) (d := (some 8)) (by kernel_rfl) (RPut_calls _ base r A c S n 0 Hr hO hne hS ((Nat.le_trans hbw K0.size)) (by omega)) ?_
 rintro _ w3 ⟨A1, c2, rfl, K4, H5, hO6, hg7⟩
 have ob8 : ∀ i, ((Value.slice A1 ((putS S n 0).length) c2)).ownBlock = some i → i ≠ r := fun i hi => by rcases hg7 i hi with h | h; (have := hne i h; omega); (have := Hr.lt; omega)
 have hgw9 : ∀ i, ((Value.slice A1 ((putS S n 0).length) c2)).ownBlock = some i → ((Value.slice A S.length c)).ownBlock = some i ∨ w.heap.size ≤ i := fun i hi => (hg7 i hi).elim .inl fun h => .inr (Nat.le_trans K0.size h)
 refine ⟨_, _, rfl, rfl, ?_⟩
 replace K0 := K0.trans K4 (U := (fun i => i = r ∨ ((Value.slice A S.length c)).ownBlock = some i)) (fun i h1 h2 => h2) (fun i h1 h2 => by have h2 : i = r ∨ ((Value.slice A S.length c)).ownBlock = some i := h2; rcases h2 with h2 | h2; (exact .inl h2); (exact .inr (h2)))
 clear hO
 clear K4
 refine og 1 [(4, (i64 (putE S n 0)))] 5 ?_
 refine od ?_
 refine q_ret (by kernel_rfl) ?_
 refine ⟨(i64 (putE S n 0)), retv_tmp rfl rfl, ?_⟩
 exact ⟨_, _, rfl, K0, H5, hO6, fun i hi => (hg7 i hi).elim .inl fun h => .inr (by omega)⟩
end Go.Proofs.YtooginpgclcldaaGreatDoor
