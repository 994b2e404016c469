/- the reference's book: what is changed of an account -/
import Derived.Test.YtooginpgclcldaaGreatDoorProg
import Derived.Test.YtooginpgclcldaaGreatDoorRA
import Derived.Test.YtooginpgclcldaaGreatDoorOJ
import Derived.Test.YtooginpgclcldaaGreatDoorLX
set_option linter.unusedVariables false
namespace Go.Proofs.YtooginpgclcldaaGreatDoor
open Go.Q Go.RowKit

theorem RAdd_none (w : World) (base r : Nat) (A : Option Addr) (c : Nat) (S : List AccM) (n : List UInt8) (x : Int) (Hr : Has w r (rowL [.slice A S.length c] 43)) (hO : OwnT w base 97 3 AccM.cells (.slice A S.length c) S) (hne : ∀ i, (Value.slice A S.length c).ownBlock = some i → i ≠ r) (hS : Accs S) (hx : -9223372036854775808 ≤ x ∧ x ≤ 9223372036854775807) (hg : getS S n = none) : Calls Tryz.prog 48 ⟨[(ptr r), (Value.string (str n)), (i64 x)]⟩ w (fun e w' => ∃ A' c', e = .returned (i64 (chgE (addF x) S n)) ∧ Keeps (fun i => i = r ∨ (Value.slice A S.length c).ownBlock = some i) w w' ∧ Has w' r (rowL [.slice A' (chgS (addF x) S n).length c'] 43) ∧ OwnT w' base 97 3 AccM.cells (.slice A' (chgS (addF x) S n).length c') (chgS (addF x) S n) ∧ ∀ i, (Value.slice A' (chgS (addF x) S n).length c').ownBlock = some i → (Value.slice A S.length c).ownBlock = some i ∨ w.heap.size ≤ i) := by
 have hR := OwnT.rd hO
 have Hrl := Hr.lt
 have hcap := RdT.len AccM.three (by decide) hR
 unfold maxLen at hcap
 have hfn := find_none hg
 have K0 : Keeps none_ w w := Keeps.refl w
 refine q_calls Tryz.func48 (by kernel_rfl) (by kernel_rfl) ?_
 refine qs ?_
 refine qg ?_
 refine og 1 [(0, (ptr r)), (1, (Value.string (str n))), (2, (i64 x)), (6, (i64 0))] 1 ?_
 refine od ?_
 refine qs ?_
 refine qg ?_
 refine og 2 [(0, (ptr r)), (2, (i64 x)), (6, (i64 0)), (10, (ptr r)), (11, (Value.string (str n)))] 2 ?_
 refine Ops.call (by kernel_rfl) (d := (some 12)) (by kernel_rfl) (find_calls _ r A c S n Hr (OwnT.rd hO)) ?_
 rintro _ w2 ⟨rfl, K1⟩
 refine ⟨_, _, rfl, rfl, ?_⟩
 replace K0 := K0.t0 K1
 replace Hr := Hr.keep K1 (fun h => h)
 replace hO := own_keep0 hO K1
 clear K1
 refine og 5 [(0, (ptr r)), (2, (i64 x)), (6, (i64 0)), (7, (i64 ((posS S n : Nat) : Int))), (8, (Value.bool (hasS S n)))] 8 ?_
 refine od ?_
 refine qs ?_
 refine q_block (id := 0) (by kernel_rfl) ?_
 refine qs ?_
 refine qg ?_
 refine og 3 [(0, (ptr r)), (2, (i64 x)), (6, (i64 0)), (7, (i64 ((posS S n : Nat) : Int))), (15, (Value.bool (!(hasS S n))))] 3 ?_
 refine od ?_
 have h3 : (!(hasS S n)) = true := by rw [show (hasS S n) = false from hfn]; rfl
 rw [h3]
 refine q_then (o := .tmp 15) (by kernel_rfl) rfl ?_
 refine qs ?_
 refine qg ?_
 refine og 1 [(0, (ptr r)), (2, (i64 x)), (6, (i64 40)), (7, (i64 ((posS S n : Nat) : Int)))] 1 ?_
 refine od ?_
 refine q_ret (by kernel_rfl) ?_
 refine ⟨(i64 40), retv_tmp rfl rfl, ?_⟩
 have e1 : chgE (addF x) S n = 40 := by unfold chgE; rw [hg]
 have e2 : chgS (addF x) S n = S := by unfold chgS; rw [hg]
 rw [e1, e2]
 exact ⟨A, c, rfl, K0.mono fun _ _ h => h.elim, Hr, hO, fun i h => .inl h⟩

theorem RAdd_some (w : World) (base r : Nat) (A : Option Addr) (c : Nat) (S : List AccM) (n : List UInt8) (x : Int) (Hr : Has w r (rowL [.slice A S.length c] 43)) (hO : OwnT w base 97 3 AccM.cells (.slice A S.length c) S) (hne : ∀ i, (Value.slice A S.length c).ownBlock = some i → i ≠ r) (hS : Accs S) (hx : -9223372036854775808 ≤ x ∧ x ≤ 9223372036854775807) (a : AccM) (hg : getS S n = some a) : Calls Tryz.prog 48 ⟨[(ptr r), (Value.string (str n)), (i64 x)]⟩ w (fun e w' => ∃ A' c', e = .returned (i64 (chgE (addF x) S n)) ∧ Keeps (fun i => i = r ∨ (Value.slice A S.length c).ownBlock = some i) w w' ∧ Has w' r (rowL [.slice A' (chgS (addF x) S n).length c'] 43) ∧ OwnT w' base 97 3 AccM.cells (.slice A' (chgS (addF x) S n).length c') (chgS (addF x) S n) ∧ ∀ i, (Value.slice A' (chgS (addF x) S n).length c').ownBlock = some i → (Value.slice A S.length c).ownBlock = some i ∨ w.heap.size ≤ i) := by
 have hR := OwnT.rd hO
 have Hrl := Hr.lt
 have hcap := RdT.len AccM.three (by decide) hR
 unfold maxLen at hcap
 have hfs := find_some hS hg
 have hf2 := hfs.2
 have hfl := (List.getElem?_eq_some_iff.1 hf2).1
 have hao := hS.ok a (getS_some hg).1
 have ha1 := hao.lo
 have ha2 := hao.hi
 obtain ⟨gb, cur, hA, hgb, Hg, hcl, hca, hput⟩ := OwnT.open AccM.three (by decide) hf2 hO
 have c0 : cur[posS S n * 3]? = some (.string (str a.name)) := hca 0 _ rfl
 have c1 : cur[posS S n * 3 + 1]? = some (i64 a.amt) := hca 1 _ rfl
 have c2 : cur[posS S n * 3 + 2]? = some (.string (str a.own)) := hca 2 _ rfl
 have hgr : gb ≠ r := hne gb (by rw [hA]; rfl)
 have Hgl := Hg.lt
 have K0 : Keeps (fun i => i = gb) w w := (Keeps.refl w).mono (fun _ _ h => h.elim)
 refine q_calls Tryz.func48 (by kernel_rfl) (by kernel_rfl) ?_
 refine qs ?_
 refine qg ?_
 refine og 1 [(0, (ptr r)), (1, (Value.string (str n))), (2, (i64 x)), (6, (i64 0))] 1 ?_
 refine od ?_
 refine qs ?_
 refine qg ?_
 refine og 2 [(0, (ptr r)), (2, (i64 x)), (6, (i64 0)), (10, (ptr r)), (11, (Value.string (str n)))] 2 ?_
 refine Ops.call (by kernel_rfl) (d := (some 12)) (by kernel_rfl) (find_calls _ r A c S n Hr (OwnT.rd hO)) ?_
 rintro _ w2 ⟨rfl, K1⟩
 refine ⟨_, _, rfl, rfl, ?_⟩
 replace K0 := K0.trans K1 (U := (fun i => i = gb)) (fun i h1 h2 => h2) (fun i h1 h2 => by exact h2.elim)
 replace Hr := Hr.keep K1 (fun h => h)
 replace Hg := Hg.keep K1 (fun h => h)
 replace hO := own_keep0 hO K1
 clear K1
 refine og 5 [(0, (ptr r)), (2, (i64 x)), (6, (i64 0)), (7, (i64 ((posS S n : Nat) : Int))), (8, (Value.bool (hasS S n)))] 8 ?_
 refine od ?_
 refine qs ?_
 refine q_block (id := 0) (by kernel_rfl) ?_
 refine qs ?_
 refine qg ?_
 refine og 3 [(0, (ptr r)), (2, (i64 x)), (6, (i64 0)), (7, (i64 ((posS S n : Nat) : Int))), (15, (Value.bool (!(hasS S n))))] 3 ?_
 refine od ?_
 have h3 : (!(hasS S n)) = false := by rw [show (hasS S n) = true from hfs.1]; rfl
 rw [h3]
 refine q_else (o := .tmp 15) (by kernel_rfl) rfl ?_
 refine qs ?_
 refine qg ?_
 refine og 3 [(0, (ptr r)), (2, (i64 x)), (6, (i64 0)), (7, (i64 ((posS S n : Nat) : Int))), (18, (Value.bool (decide (x < 1))))] 3 ?_
 refine od ?_
 refine q_cond (o := .tmp 18) (b := (decide (x < 1))) (by kernel_rfl) rfl (fun h4 => ?_) (fun h4 => ?_)
 ·rw [h4]
  have p5 : x < 1 := of_decide_eq_true h4
  refine qs ?_
  refine qg ?_
  refine og 1 [(0, (ptr r)), (2, (i64 x)), (6, (i64 47)), (7, (i64 ((posS S n : Nat) : Int)))] 1 ?_
  refine od ?_
  refine q_ret (by kernel_rfl) ?_
  refine ⟨(i64 47), retv_tmp rfl rfl, ?_⟩
  have e : (addF x) (a.amt, a.own) = (47, a.amt, a.own) := by unfold addF; simp only; first | (rw [if_pos (by first | omega | (simp_all; done) | (simp_all; omega))]; done) | (rw [if_neg (by first | omega | (simp_all; done) | (simp_all; omega)), if_pos (by first | omega | (simp_all; done) | (simp_all; omega))]; done) | (rw [if_neg (by first | omega | (simp_all; done) | (simp_all; omega)), if_neg (by first | omega | (simp_all; done) | (simp_all; omega))]; done) | (rw [if_neg (by first | omega | (simp_all; done) | (simp_all; omega))]; done)
  have e1 : chgE (addF x) S n = 47 := by unfold chgE; rw [hg]; show ((addF x) (a.amt, a.own)).1 = _; rw [e]
  have e2 : chgS (addF x) S n = S := by unfold chgS; rw [hg]; show setS S n ((addF x) (a.amt, a.own)).2 = _; rw [e]; exact set_same hS hg
  rw [e1, e2]
  exact ⟨A, c, rfl, K0.mono fun i _ h => .inr (by rw [hA]; exact congrArg some (Eq.symm h)), Hr, hO, fun i h => .inl h⟩
 ·rw [h4]
  have p6 : ¬ (x < 1) := of_decide_eq_false h4
  refine qs ?_
  refine qg ?_
  refine og 4 [(0, (ptr r)), (2, (i64 x)), (6, (i64 0)), (7, (i64 ((posS S n : Nat) : Int))), (22, (i64 x)), (25, (ptr r))] 4 ?_
  refine Ops.go (v := (Value.slice A S.length c)) (by kernel_rfl) (Runs.load (t := 41) (a := ⟨r, 0, none⟩) (by kernel_rfl) (Hr.loads (by kernel_rfl))) (d := (some 26)) (by kernel_rfl) rfl ?_
  refine og 1 [(0, (ptr r)), (2, (i64 x)), (6, (i64 0)), (7, (i64 ((posS S n : Nat) : Int))), (22, (i64 x)), (26, (Value.slice A S.length c)), (27, (i64 ((posS S n : Nat) : Int)))] 6 ?_
  refine Ops.go (by kernel_rfl) (Runs.ixSliceE (k := IntKind.i64) (t := 41) (len := S.length) (cap := c) (s := 3) (off' := (posS S n) * 3) (i := ((posS S n : Nat) : Int)) hA (by kernel_rfl) (by kernel_rfl) (by omega) (by omega) (by omega)) (d := (some 28)) (by kernel_rfl) rfl ?_
  refine og 1 [(0, (ptr r)), (2, (i64 x)), (6, (i64 0)), (7, (i64 ((posS S n : Nat) : Int))), (22, (i64 x)), (29, (Value.pointer (some ⟨gb, (posS S n) * 3 + 1, none⟩)))] 8 ?_
  refine Ops.go (v := (i64 a.amt)) (by kernel_rfl) (Runs.load (t := 2) (a := ⟨gb, (posS S n) * 3 + 1, none⟩) (by kernel_rfl) (Hg.loads (loadC1 (by kernel_rfl) c1))) (d := (some 30)) (by kernel_rfl) rfl ?_
  refine og 1 [(0, (ptr r)), (2, (i64 x)), (6, (i64 0)), (7, (i64 ((posS S n : Nat) : Int))), (22, (i64 x)), (31, (i64 (IntKind.i64.wrap (9223372036854775807 - a.amt))))] 10 ?_
  have e7 : IntKind.i64.wrap (9223372036854775807 - a.amt) = 9223372036854775807 - a.amt := wrap_i64 (by omega) (by omega)
  rw [e7]
  refine og 2 [(0, (ptr r)), (2, (i64 x)), (6, (i64 0)), (7, (i64 ((posS S n : Nat) : Int))), (21, (Value.bool (decide (x > 9223372036854775807 - a.amt))))] 12 ?_
  refine od ?_
  refine q_cond (o := .tmp 21) (b := (decide (x > 9223372036854775807 - a.amt))) (by kernel_rfl) rfl (fun h8 => ?_) (fun h8 => ?_)
  ·rw [h8]
   have p9 : x > 9223372036854775807 - a.amt := of_decide_eq_true h8
   refine qs ?_
   refine qg ?_
   refine og 1 [(0, (ptr r)), (2, (i64 x)), (6, (i64 43)), (7, (i64 ((posS S n : Nat) : Int)))] 1 ?_
   refine od ?_
   refine q_ret (by kernel_rfl) ?_
   refine ⟨(i64 43), retv_tmp rfl rfl, ?_⟩
   have e : (addF x) (a.amt, a.own) = (43, a.amt, a.own) := by unfold addF; simp only; first | (rw [if_pos (by first | omega | (simp_all; done) | (simp_all; omega))]; done) | (rw [if_neg (by first | omega | (simp_all; done) | (simp_all; omega)), if_pos (by first | omega | (simp_all; done) | (simp_all; omega))]; done) | (rw [if_neg (by first | omega | (simp_all; done) | (simp_all; omega)), if_neg (by first | omega | (simp_all; done) | (simp_all; omega))]; done) | (rw [if_neg (by first | omega | (simp_all; done) | (simp_all; omega))]; done)
   have e1 : chgE (addF x) S n = 43 := by unfold chgE; rw [hg]; show ((addF x) (a.amt, a.own)).1 = _; rw [e]
   have e2 : chgS (addF x) S n = S := by unfold chgS; rw [hg]; show setS S n ((addF x) (a.amt, a.own)).2 = _; rw [e]; exact set_same hS hg
   rw [e1, e2]
   exact ⟨A, c, rfl, K0.mono fun i _ h => .inr (by rw [hA]; exact congrArg some (Eq.symm h)), Hr, hO, fun i h => .inl h⟩
  ·rw [h8]
   have p10 : ¬ (x > 9223372036854775807 - a.amt) := of_decide_eq_false h8
   refine q_skip (by kernel_rfl) ?_
   refine qs ?_
   refine q_draw (fun wz => Keeps (fun i => i = gb) w2 wz) 18 (by kernel_rfl) (by kernel_rfl) (by kernel_rfl) (fun w11 K12 _ _ => ⟨(K12.mono (fun _ _ h => h.elim)), ?_⟩)
   replace K0 := K0.trans K12 (U := (fun i => i = gb)) (fun i h1 h2 => h2) (fun i h1 h2 => by exact h2.elim)
   replace Hr := Hr.keep K12 (fun h => h)
   replace Hg := Hg.keep K12 (fun h => h)
   replace hO := own_keep0 hO K12
   refine Dr.strong (S' := (fun wz => Keeps (fun i => i = gb) w11 wz)) ((Keeps.refl w11).mono (fun _ _ h => h.elim)) (fun wz hx => K12.trans hx (fun i _ h => h.elim) (fun _ _ h => h)) ?_
   clear K12
   refine Dr.takes (fuel' := 15) (is' := [2, 1, 0]) [0, 1, 2] [(0, (ptr r)), (2, (i64 x)), (6, (i64 0)), (7, (i64 ((posS S n : Nat) : Int))), (35, (ptr r))] (by kernel_rfl) rfl (by kernel_rfl) ?_
   refine Dr.take (i := 3) (v := (Value.slice A S.length c)) (by kernel_rfl) (by kernel_rfl) (fun wz hS => Runs.load (t := 41) (a := ⟨r, 0, none⟩) (by kernel_rfl) ((Hr.keep hS (by intro h; change r = gb at h; omega)).loads (by kernel_rfl))) (d := (some 36)) (by kernel_rfl) rfl ?_
   refine Dr.takes (fuel' := 10) (is' := [7, 6, 5, 4, 3, 2, 1, 0]) [4, 5, 6, 7] [(2, (i64 x)), (6, (i64 0)), (7, (i64 ((posS S n : Nat) : Int))), (36, (Value.slice A S.length c)), (37, (i64 ((posS S n : Nat) : Int))), (40, (ptr r))] (by kernel_rfl) rfl (by kernel_rfl) ?_
   refine Dr.take (i := 8) (v := (Value.slice A S.length c)) (by kernel_rfl) (by kernel_rfl) (fun wz hS => Runs.load (t := 41) (a := ⟨r, 0, none⟩) (by kernel_rfl) ((Hr.keep hS (by intro h; change r = gb at h; omega)).loads (by kernel_rfl))) (d := (some 41)) (by kernel_rfl) rfl ?_
   refine Dr.takes (fuel' := 8) (is' := [9, 8, 7, 6, 5, 4, 3, 2, 1, 0]) [9] [(2, (i64 x)), (6, (i64 0)), (36, (Value.slice A S.length c)), (37, (i64 ((posS S n : Nat) : Int))), (41, (Value.slice A S.length c)), (42, (i64 ((posS S n : Nat) : Int)))] (by kernel_rfl) rfl (by kernel_rfl) ?_
   refine Dr.take (i := 10) (v := (Value.pointer (some ⟨gb, (posS S n) * 3, none⟩))) (by kernel_rfl) (by kernel_rfl) (fun wz hS => Runs.ixSliceE (k := IntKind.i64) (t := 41) (len := S.length) (cap := c) (s := 3) (off' := (posS S n) * 3) (i := ((posS S n : Nat) : Int)) hA (by kernel_rfl) (by kernel_rfl) (by omega) (by omega) (by omega)) (d := (some 43)) (by kernel_rfl) rfl ?_
   refine Dr.takes (fuel' := 5) (is' := [13, 11, 10, 9, 8, 7, 6, 5, 4, 3, 2, 1, 0]) [11, 13] [(6, (i64 0)), (36, (Value.slice A S.length c)), (37, (i64 ((posS S n : Nat) : Int))), (44, (Value.pointer (some ⟨gb, (posS S n) * 3 + 1, none⟩))), (46, (i64 x))] (by kernel_rfl) rfl (by kernel_rfl) ?_
   refine Dr.go (i := 12) (v := (i64 a.amt)) (by kernel_rfl) (by kernel_rfl) (Runs.load (t := 2) (a := ⟨gb, (posS S n) * 3 + 1, none⟩) (by kernel_rfl) (Hg.loads (loadC1 (by kernel_rfl) c1))) (d := (some 45)) (by kernel_rfl) rfl ((Keeps.refl _).mono (fun _ _ h => h.elim)) ?_
   refine Dr.takes (fuel' := 3) (is' := [14, 12, 13, 11, 10, 9, 8, 7, 6, 5, 4, 3, 2, 1, 0]) [14] [(6, (i64 0)), (36, (Value.slice A S.length c)), (37, (i64 ((posS S n : Nat) : Int))), (47, (i64 (IntKind.i64.wrap (a.amt + x))))] (by kernel_rfl) rfl (by kernel_rfl) ?_
   have e13 : IntKind.i64.wrap (a.amt + x) = a.amt + x := wrap_i64 (by omega) (by omega)
   rw [e13]
   refine Dr.take (i := 15) (v := (Value.pointer (some ⟨gb, (posS S n) * 3, none⟩))) (by kernel_rfl) (by kernel_rfl) (fun wz hS => Runs.ixSliceE (k := IntKind.i64) (t := 41) (len := S.length) (cap := c) (s := 3) (off' := (posS S n) * 3) (i := ((posS S n : Nat) : Int)) hA (by kernel_rfl) (by kernel_rfl) (by omega) (by omega) (by omega)) (d := (some 48)) (by kernel_rfl) rfl ?_
   refine Dr.takes (fuel' := 1) (is' := [16, 15, 14, 12, 13, 11, 10, 9, 8, 7, 6, 5, 4, 3, 2, 1, 0]) [16] [(6, (i64 0)), (47, (i64 (a.amt + x))), (49, (Value.pointer (some ⟨gb, (posS S n) * 3 + 1, none⟩)))] (by kernel_rfl) rfl (by kernel_rfl) ?_
   refine Dr.put (i := 17) (t := 2) (b := gb) (off := (posS S n) * 3 + 1) (v := (i64 (a.amt + x))) (ys := (cur.set ((posS S n) * 3 + 1) (i64 (a.amt + x)))) (by kernel_rfl) (by kernel_rfl) (by kernel_rfl) Hg (storeC1 (by kernel_rfl) rfl (by omega) rfl) (d := none) (by kernel_rfl) rfl (fun w14 H15 K16 => ?_)
   clear Hg
   replace K0 := K0.trans K16 (U := (fun i => i = gb)) (fun i h1 h2 => h2) (fun i h1 h2 => by have h2 : i = gb := h2; show i = gb; omega)
   replace Hr := Hr.keep K16 (by intro h; change r = gb at h; omega)
   clear hO
   refine ⟨K16, ?_⟩
   refine Dr.strong (S' := (fun wz => Keeps (fun i => i = gb) w14 wz)) ((Keeps.refl w14).mono (fun _ _ h => h.elim)) (fun wz hx => K16.trans hx (fun i _ h => by have h : i = gb := h; show i = gb; omega) (fun _ _ h => h)) ?_
   clear K16
   refine Dr.done (by kernel_rfl) ?_
   refine qs ?_
   refine qg ?_
   refine og 1 [(6, (i64 0))] 1 ?_
   refine od ?_
   refine q_ret (by kernel_rfl) ?_
   refine ⟨(i64 0), retv_tmp rfl rfl, ?_⟩
   have e : (addF x) (a.amt, a.own) = (0, a.amt + x, a.own) := by unfold addF; simp only; first | (rw [if_pos (by first | omega | (simp_all; done) | (simp_all; omega))]; done) | (rw [if_neg (by first | omega | (simp_all; done) | (simp_all; omega)), if_pos (by first | omega | (simp_all; done) | (simp_all; omega))]; done) | (rw [if_neg (by first | omega | (simp_all; done) | (simp_all; omega)), if_neg (by first | omega | (simp_all; done) | (simp_all; omega))]; done) | (rw [if_neg (by first | omega | (simp_all; done) | (simp_all; omega))]; done)
   have e1 : chgE (addF x) S n = 0 := by unfold chgE; rw [hg]; show ((addF x) (a.amt, a.own)).1 = _; rw [e]
   have e2 : chgS (addF x) S n = S.set (posS S n) ⟨n, a.amt + x, a.own⟩ := by unfold chgS; rw [hg]; show setS S n ((addF x) (a.amt, a.own)).2 = _; rw [e]; exact set_at hS hg _
   have hq := hput 1 (i64 (a.amt + x)) ⟨n, a.amt + x, a.own⟩ (by decide) (by rw [← (getS_some hg).2]; rfl) _ H15
   rw [e1, e2, List.length_set]
   exact ⟨A, c, rfl, K0.mono fun i _ h => .inr (by rw [hA]; exact congrArg some (Eq.symm h)), Hr, hq, fun i h => .inl h⟩

theorem RAdd_calls (w : World) (base r : Nat) (A : Option Addr) (c : Nat) (S : List AccM) (n : List UInt8) (x : Int) (Hr : Has w r (rowL [.slice A S.length c] 43)) (hO : OwnT w base 97 3 AccM.cells (.slice A S.length c) S) (hne : ∀ i, (Value.slice A S.length c).ownBlock = some i → i ≠ r) (hS : Accs S) (hx : -9223372036854775808 ≤ x ∧ x ≤ 9223372036854775807) : Calls Tryz.prog 48 ⟨[(ptr r), (Value.string (str n)), (i64 x)]⟩ w (fun e w' => ∃ A' c', e = .returned (i64 (chgE (addF x) S n)) ∧ Keeps (fun i => i = r ∨ (Value.slice A S.length c).ownBlock = some i) w w' ∧ Has w' r (rowL [.slice A' (chgS (addF x) S n).length c'] 43) ∧ OwnT w' base 97 3 AccM.cells (.slice A' (chgS (addF x) S n).length c') (chgS (addF x) S n) ∧ ∀ i, (Value.slice A' (chgS (addF x) S n).length c').ownBlock = some i → (Value.slice A S.length c).ownBlock = some i ∨ w.heap.size ≤ i) := by
 cases hg : getS S n with
 | none => exact RAdd_none w base r A c S n x Hr hO hne hS hx hg
 | some a => exact RAdd_some w base r A c S n x Hr hO hne hS hx a hg

theorem RTake_none (w : World) (base r : Nat) (A : Option Addr) (c : Nat) (S : List AccM) (n : List UInt8) (x : Int) (Hr : Has w r (rowL [.slice A S.length c] 43)) (hO : OwnT w base 97 3 AccM.cells (.slice A S.length c) S) (hne : ∀ i, (Value.slice A S.length c).ownBlock = some i → i ≠ r) (hS : Accs S) (hx : -9223372036854775808 ≤ x ∧ x ≤ 9223372036854775807) (hg : getS S n = none) : Calls Tryz.prog 49 ⟨[(ptr r), (Value.string (str n)), (i64 x)]⟩ w (fun e w' => ∃ A' c', e = .returned (i64 (chgE (takeF x) S n)) ∧ Keeps (fun i => i = r ∨ (Value.slice A S.length c).ownBlock = some i) w w' ∧ Has w' r (rowL [.slice A' (chgS (takeF x) S n).length c'] 43) ∧ OwnT w' base 97 3 AccM.cells (.slice A' (chgS (takeF x) S n).length c') (chgS (takeF x) S n) ∧ ∀ i, (Value.slice A' (chgS (takeF x) S n).length c').ownBlock = some i → (Value.slice A S.length c).ownBlock = some i ∨ w.heap.size ≤ i) := by
 have hR := OwnT.rd hO
 have Hrl := Hr.lt
 have hcap := RdT.len AccM.three (by decide) hR
 unfold maxLen at hcap
 have hfn := find_none hg
 have K0 : Keeps none_ w w := Keeps.refl w
 refine q_calls Tryz.func49 (by kernel_rfl) (by kernel_rfl) ?_
 refine qs ?_
 refine qg ?_
 refine og 1 [(0, (ptr r)), (1, (Value.string (str n))), (2, (i64 x)), (6, (i64 0))] 1 ?_
 refine od ?_
 refine qs ?_
 refine qg ?_
 refine og 2 [(0, (ptr r)), (2, (i64 x)), (6, (i64 0)), (10, (ptr r)), (11, (Value.string (str n)))] 2 ?_
 refine Ops.call (by kernel_rfl) (d := (some 12)) (by kernel_rfl) (find_calls _ r A c S n Hr (OwnT.rd hO)) ?_
 rintro _ w2 ⟨rfl, K1⟩
 refine ⟨_, _, rfl, rfl, ?_⟩
 replace K0 := K0.t0 K1
 replace Hr := Hr.keep K1 (fun h => h)
 replace hO := own_keep0 hO K1
 clear K1
 refine og 5 [(0, (ptr r)), (2, (i64 x)), (6, (i64 0)), (7, (i64 ((posS S n : Nat) : Int))), (8, (Value.bool (hasS S n)))] 8 ?_
 refine od ?_
 refine qs ?_
 refine q_block (id := 0) (by kernel_rfl) ?_
 refine qs ?_
 refine qg ?_
 refine og 3 [(0, (ptr r)), (2, (i64 x)), (6, (i64 0)), (7, (i64 ((posS S n : Nat) : Int))), (15, (Value.bool (!(hasS S n))))] 3 ?_
 refine od ?_
 have h3 : (!(hasS S n)) = true := by rw [show (hasS S n) = false from hfn]; rfl
 rw [h3]
 refine q_then (o := .tmp 15) (by kernel_rfl) rfl ?_
 refine qs ?_
 refine qg ?_
 refine og 1 [(0, (ptr r)), (2, (i64 x)), (6, (i64 40)), (7, (i64 ((posS S n : Nat) : Int)))] 1 ?_
 refine od ?_
 refine q_ret (by kernel_rfl) ?_
 refine ⟨(i64 40), retv_tmp rfl rfl, ?_⟩
 have e1 : chgE (takeF x) S n = 40 := by unfold chgE; rw [hg]
 have e2 : chgS (takeF x) S n = S := by unfold chgS; rw [hg]
 rw [e1, e2]
 exact ⟨A, c, rfl, K0.mono fun _ _ h => h.elim, Hr, hO, fun i h => .inl h⟩

theorem RTake_some (w : World) (base r : Nat) (A : Option Addr) (c : Nat) (S : List AccM) (n : List UInt8) (x : Int) (Hr : Has w r (rowL [.slice A S.length c] 43)) (hO : OwnT w base 97 3 AccM.cells (.slice A S.length c) S) (hne : ∀ i, (Value.slice A S.length c).ownBlock = some i → i ≠ r) (hS : Accs S) (hx : -9223372036854775808 ≤ x ∧ x ≤ 9223372036854775807) (a : AccM) (hg : getS S n = some a) : Calls Tryz.prog 49 ⟨[(ptr r), (Value.string (str n)), (i64 x)]⟩ w (fun e w' => ∃ A' c', e = .returned (i64 (chgE (takeF x) S n)) ∧ Keeps (fun i => i = r ∨ (Value.slice A S.length c).ownBlock = some i) w w' ∧ Has w' r (rowL [.slice A' (chgS (takeF x) S n).length c'] 43) ∧ OwnT w' base 97 3 AccM.cells (.slice A' (chgS (takeF x) S n).length c') (chgS (takeF x) S n) ∧ ∀ i, (Value.slice A' (chgS (takeF x) S n).length c').ownBlock = some i → (Value.slice A S.length c).ownBlock = some i ∨ w.heap.size ≤ i) := by
 have hR := OwnT.rd hO
 have Hrl := Hr.lt
 have hcap := RdT.len AccM.three (by decide) hR
 unfold maxLen at hcap
 have hfs := find_some hS hg
 have hf2 := hfs.2
 have hfl := (List.getElem?_eq_some_iff.1 hf2).1
 have hao := hS.ok a (getS_some hg).1
 have ha1 := hao.lo
 have ha2 := hao.hi
 obtain ⟨gb, cur, hA, hgb, Hg, hcl, hca, hput⟩ := OwnT.open AccM.three (by decide) hf2 hO
 have c0 : cur[posS S n * 3]? = some (.string (str a.name)) := hca 0 _ rfl
 have c1 : cur[posS S n * 3 + 1]? = some (i64 a.amt) := hca 1 _ rfl
 have c2 : cur[posS S n * 3 + 2]? = some (.string (str a.own)) := hca 2 _ rfl
 have hgr : gb ≠ r := hne gb (by rw [hA]; rfl)
 have Hgl := Hg.lt
 have K0 : Keeps (fun i => i = gb) w w := (Keeps.refl w).mono (fun _ _ h => h.elim)
 refine q_calls Tryz.func49 (by kernel_rfl) (by kernel_rfl) ?_
 refine qs ?_
 refine qg ?_
 refine og 1 [(0, (ptr r)), (1, (Value.string (str n))), (2, (i64 x)), (6, (i64 0))] 1 ?_
 refine od ?_
 refine qs ?_
 refine qg ?_
 refine og 2 [(0, (ptr r)), (2, (i64 x)), (6, (i64 0)), (10, (ptr r)), (11, (Value.string (str n)))] 2 ?_
 refine Ops.call (by kernel_rfl) (d := (some 12)) (by kernel_rfl) (find_calls _ r A c S n Hr (OwnT.rd hO)) ?_
 rintro _ w2 ⟨rfl, K1⟩
 refine ⟨_, _, rfl, rfl, ?_⟩
 replace K0 := K0.trans K1 (U := (fun i => i = gb)) (fun i h1 h2 => h2) (fun i h1 h2 => by exact h2.elim)
 replace Hr := Hr.keep K1 (fun h => h)
 replace Hg := Hg.keep K1 (fun h => h)
 replace hO := own_keep0 hO K1
 clear K1
 refine og 5 [(0, (ptr r)), (2, (i64 x)), (6, (i64 0)), (7, (i64 ((posS S n : Nat) : Int))), (8, (Value.bool (hasS S n)))] 8 ?_
 refine od ?_
 refine qs ?_
 refine q_block (id := 0) (by kernel_rfl) ?_
 refine qs ?_
 refine qg ?_
 refine og 3 [(0, (ptr r)), (2, (i64 x)), (6, (i64 0)), (7, (i64 ((posS S n : Nat) : Int))), (15, (Value.bool (!(hasS S n))))] 3 ?_
 refine od ?_
 have h3 : (!(hasS S n)) = false := by rw [show (hasS S n) = true from hfs.1]; rfl
 rw [h3]
 refine q_else (o := .tmp 15) (by kernel_rfl) rfl ?_
 refine qs ?_
 refine qg ?_
 refine og 3 [(0, (ptr r)), (2, (i64 x)), (6, (i64 0)), (7, (i64 ((posS S n : Nat) : Int))), (18, (Value.bool (decide (x < 1))))] 3 ?_
 refine od ?_
 refine q_cond (o := .tmp 18) (b := (decide (x < 1))) (by kernel_rfl) rfl (fun h4 => ?_) (fun h4 => ?_)
 ·rw [h4]
  have p5 : x < 1 := of_decide_eq_true h4
  refine qs ?_
  refine qg ?_
  refine og 1 [(0, (ptr r)), (2, (i64 x)), (6, (i64 47)), (7, (i64 ((posS S n : Nat) : Int)))] 1 ?_
  refine od ?_
  refine q_ret (by kernel_rfl) ?_
  refine ⟨(i64 47), retv_tmp rfl rfl, ?_⟩
  have e : (takeF x) (a.amt, a.own) = (47, a.amt, a.own) := by unfold takeF; simp only; first | (rw [if_pos (by first | omega | (simp_all; done) | (simp_all; omega))]; done) | (rw [if_neg (by first | omega | (simp_all; done) | (simp_all; omega)), if_pos (by first | omega | (simp_all; done) | (simp_all; omega))]; done) | (rw [if_neg (by first | omega | (simp_all; done) | (simp_all; omega)), if_neg (by first | omega | (simp_all; done) | (simp_all; omega))]; done) | (rw [if_neg (by first | omega | (simp_all; done) | (simp_all; omega))]; done)
  have e1 : chgE (takeF x) S n = 47 := by unfold chgE; rw [hg]; show ((takeF x) (a.amt, a.own)).1 = _; rw [e]
  have e2 : chgS (takeF x) S n = S := by unfold chgS; rw [hg]; show setS S n ((takeF x) (a.amt, a.own)).2 = _; rw [e]; exact set_same hS hg
  rw [e1, e2]
  exact ⟨A, c, rfl, K0.mono fun i _ h => .inr (by rw [hA]; exact congrArg some (Eq.symm h)), Hr, hO, fun i h => .inl h⟩
 ·rw [h4]
  have p6 : ¬ (x < 1) := of_decide_eq_false h4
  refine qs ?_
  refine qg ?_
  refine og 4 [(0, (ptr r)), (2, (i64 x)), (6, (i64 0)), (7, (i64 ((posS S n : Nat) : Int))), (22, (i64 x)), (25, (ptr r))] 4 ?_
  refine Ops.go (v := (Value.slice A S.length c)) (by kernel_rfl) (Runs.load (t := 41) (a := ⟨r, 0, none⟩) (by kernel_rfl) (Hr.loads (by kernel_rfl))) (d := (some 26)) (by kernel_rfl) rfl ?_
  refine og 1 [(0, (ptr r)), (2, (i64 x)), (6, (i64 0)), (7, (i64 ((posS S n : Nat) : Int))), (22, (i64 x)), (26, (Value.slice A S.length c)), (27, (i64 ((posS S n : Nat) : Int)))] 6 ?_
  refine Ops.go (by kernel_rfl) (Runs.ixSliceE (k := IntKind.i64) (t := 41) (len := S.length) (cap := c) (s := 3) (off' := (posS S n) * 3) (i := ((posS S n : Nat) : Int)) hA (by kernel_rfl) (by kernel_rfl) (by omega) (by omega) (by omega)) (d := (some 28)) (by kernel_rfl) rfl ?_
  refine og 1 [(0, (ptr r)), (2, (i64 x)), (6, (i64 0)), (7, (i64 ((posS S n : Nat) : Int))), (22, (i64 x)), (29, (Value.pointer (some ⟨gb, (posS S n) * 3 + 1, none⟩)))] 8 ?_
  refine Ops.go (v := (i64 a.amt)) (by kernel_rfl) (Runs.load (t := 2) (a := ⟨gb, (posS S n) * 3 + 1, none⟩) (by kernel_rfl) (Hg.loads (loadC1 (by kernel_rfl) c1))) (d := (some 30)) (by kernel_rfl) rfl ?_
  refine og 2 [(0, (ptr r)), (2, (i64 x)), (6, (i64 0)), (7, (i64 ((posS S n : Nat) : Int))), (21, (Value.bool (decide (x > a.amt))))] 11 ?_
  refine od ?_
  refine q_cond (o := .tmp 21) (b := (decide (x > a.amt))) (by kernel_rfl) rfl (fun h7 => ?_) (fun h7 => ?_)
  ·rw [h7]
   have p8 : x > a.amt := of_decide_eq_true h7
   refine qs ?_
   refine qg ?_
   refine og 1 [(0, (ptr r)), (2, (i64 x)), (6, (i64 42)), (7, (i64 ((posS S n : Nat) : Int)))] 1 ?_
   refine od ?_
   refine q_ret (by kernel_rfl) ?_
   refine ⟨(i64 42), retv_tmp rfl rfl, ?_⟩
   have e : (takeF x) (a.amt, a.own) = (42, a.amt, a.own) := by unfold takeF; simp only; first | (rw [if_pos (by first | omega | (simp_all; done) | (simp_all; omega))]; done) | (rw [if_neg (by first | omega | (simp_all; done) | (simp_all; omega)), if_pos (by first | omega | (simp_all; done) | (simp_all; omega))]; done) | (rw [if_neg (by first | omega | (simp_all; done) | (simp_all; omega)), if_neg (by first | omega | (simp_all; done) | (simp_all; omega))]; done) | (rw [if_neg (by first | omega | (simp_all; done) | (simp_all; omega))]; done)
   have e1 : chgE (takeF x) S n = 42 := by unfold chgE; rw [hg]; show ((takeF x) (a.amt, a.own)).1 = _; rw [e]
   have e2 : chgS (takeF x) S n = S := by unfold chgS; rw [hg]; show setS S n ((takeF x) (a.amt, a.own)).2 = _; rw [e]; exact set_same hS hg
   rw [e1, e2]
   exact ⟨A, c, rfl, K0.mono fun i _ h => .inr (by rw [hA]; exact congrArg some (Eq.symm h)), Hr, hO, fun i h => .inl h⟩
  ·rw [h7]
   have p9 : ¬ (x > a.amt) := of_decide_eq_false h7
   refine q_skip (by kernel_rfl) ?_
   refine qs ?_
   refine q_draw (fun wz => Keeps (fun i => i = gb) w2 wz) 18 (by kernel_rfl) (by kernel_rfl) (by kernel_rfl) (fun w10 K11 _ _ => ⟨(K11.mono (fun _ _ h => h.elim)), ?_⟩)
   replace K0 := K0.trans K11 (U := (fun i => i = gb)) (fun i h1 h2 => h2) (fun i h1 h2 => by exact h2.elim)
   replace Hr := Hr.keep K11 (fun h => h)
   replace Hg := Hg.keep K11 (fun h => h)
   replace hO := own_keep0 hO K11
   refine Dr.strong (S' := (fun wz => Keeps (fun i => i = gb) w10 wz)) ((Keeps.refl w10).mono (fun _ _ h => h.elim)) (fun wz hx => K11.trans hx (fun i _ h => h.elim) (fun _ _ h => h)) ?_
   clear K11
   refine Dr.takes (fuel' := 15) (is' := [2, 1, 0]) [0, 1, 2] [(0, (ptr r)), (2, (i64 x)), (6, (i64 0)), (7, (i64 ((posS S n : Nat) : Int))), (34, (ptr r))] (by kernel_rfl) rfl (by kernel_rfl) ?_
   refine Dr.take (i := 3) (v := (Value.slice A S.length c)) (by kernel_rfl) (by kernel_rfl) (fun wz hS => Runs.load (t := 41) (a := ⟨r, 0, none⟩) (by kernel_rfl) ((Hr.keep hS (by intro h; change r = gb at h; omega)).loads (by kernel_rfl))) (d := (some 35)) (by kernel_rfl) rfl ?_
   refine Dr.takes (fuel' := 10) (is' := [7, 6, 5, 4, 3, 2, 1, 0]) [4, 5, 6, 7] [(2, (i64 x)), (6, (i64 0)), (7, (i64 ((posS S n : Nat) : Int))), (35, (Value.slice A S.length c)), (36, (i64 ((posS S n : Nat) : Int))), (39, (ptr r))] (by kernel_rfl) rfl (by kernel_rfl) ?_
   refine Dr.take (i := 8) (v := (Value.slice A S.length c)) (by kernel_rfl) (by kernel_rfl) (fun wz hS => Runs.load (t := 41) (a := ⟨r, 0, none⟩) (by kernel_rfl) ((Hr.keep hS (by intro h; change r = gb at h; omega)).loads (by kernel_rfl))) (d := (some 40)) (by kernel_rfl) rfl ?_
   refine Dr.takes (fuel' := 8) (is' := [9, 8, 7, 6, 5, 4, 3, 2, 1, 0]) [9] [(2, (i64 x)), (6, (i64 0)), (35, (Value.slice A S.length c)), (36, (i64 ((posS S n : Nat) : Int))), (40, (Value.slice A S.length c)), (41, (i64 ((posS S n : Nat) : Int)))] (by kernel_rfl) rfl (by kernel_rfl) ?_
   refine Dr.take (i := 10) (v := (Value.pointer (some ⟨gb, (posS S n) * 3, none⟩))) (by kernel_rfl) (by kernel_rfl) (fun wz hS => Runs.ixSliceE (k := IntKind.i64) (t := 41) (len := S.length) (cap := c) (s := 3) (off' := (posS S n) * 3) (i := ((posS S n : Nat) : Int)) hA (by kernel_rfl) (by kernel_rfl) (by omega) (by omega) (by omega)) (d := (some 42)) (by kernel_rfl) rfl ?_
   refine Dr.takes (fuel' := 5) (is' := [13, 11, 10, 9, 8, 7, 6, 5, 4, 3, 2, 1, 0]) [11, 13] [(6, (i64 0)), (35, (Value.slice A S.length c)), (36, (i64 ((posS S n : Nat) : Int))), (43, (Value.pointer (some ⟨gb, (posS S n) * 3 + 1, none⟩))), (45, (i64 x))] (by kernel_rfl) rfl (by kernel_rfl) ?_
   refine Dr.go (i := 12) (v := (i64 a.amt)) (by kernel_rfl) (by kernel_rfl) (Runs.load (t := 2) (a := ⟨gb, (posS S n) * 3 + 1, none⟩) (by kernel_rfl) (Hg.loads (loadC1 (by kernel_rfl) c1))) (d := (some 44)) (by kernel_rfl) rfl ((Keeps.refl _).mono (fun _ _ h => h.elim)) ?_
   refine Dr.takes (fuel' := 3) (is' := [14, 12, 13, 11, 10, 9, 8, 7, 6, 5, 4, 3, 2, 1, 0]) [14] [(6, (i64 0)), (35, (Value.slice A S.length c)), (36, (i64 ((posS S n : Nat) : Int))), (46, (i64 (IntKind.i64.wrap (a.amt - x))))] (by kernel_rfl) rfl (by kernel_rfl) ?_
   have e12 : IntKind.i64.wrap (a.amt - x) = a.amt - x := wrap_i64 (by omega) (by omega)
   rw [e12]
   refine Dr.take (i := 15) (v := (Value.pointer (some ⟨gb, (posS S n) * 3, none⟩))) (by kernel_rfl) (by kernel_rfl) (fun wz hS => Runs.ixSliceE (k := IntKind.i64) (t := 41) (len := S.length) (cap := c) (s := 3) (off' := (posS S n) * 3) (i := ((posS S n : Nat) : Int)) hA (by kernel_rfl) (by kernel_rfl) (by omega) (by omega) (by omega)) (d := (some 47)) (by kernel_rfl) rfl ?_
   refine Dr.takes (fuel' := 1) (is' := [16, 15, 14, 12, 13, 11, 10, 9, 8, 7, 6, 5, 4, 3, 2, 1, 0]) [16] [(6, (i64 0)), (46, (i64 (a.amt - x))), (48, (Value.pointer (some ⟨gb, (posS S n) * 3 + 1, none⟩)))] (by kernel_rfl) rfl (by kernel_rfl) ?_
   refine Dr.put (i := 17) (t := 2) (b := gb) (off := (posS S n) * 3 + 1) (v := (i64 (a.amt - x))) (ys := (cur.set ((posS S n) * 3 + 1) (i64 (a.amt - x)))) (by kernel_rfl) (by kernel_rfl) (by kernel_rfl) Hg (storeC1 (by kernel_rfl) rfl (by omega) rfl) (d := none) (by kernel_rfl) rfl (fun w13 H14 K15 => ?_)
   clear Hg
   replace K0 := K0.trans K15 (U := (fun i => i = gb)) (fun i h1 h2 => h2) (fun i h1 h2 => by have h2 : i = gb := h2; show i = gb; omega)
   replace Hr := Hr.keep K15 (by intro h; change r = gb at h; omega)
   clear hO
   refine ⟨K15, ?_⟩
   refine Dr.strong (S' := (fun wz => Keeps (fun i => i = gb) w13 wz)) ((Keeps.refl w13).mono (fun _ _ h => h.elim)) (fun wz hx => K15.trans hx (fun i _ h => by have h : i = gb := h; show i = gb; omega) (fun _ _ h => h)) ?_
   clear K15
   refine Dr.done (by kernel_rfl) ?_
   refine qs ?_
   refine qg ?_
   refine og 1 [(6, (i64 0))] 1 ?_
   refine od ?_
   refine q_ret (by kernel_rfl) ?_
   refine ⟨(i64 0), retv_tmp rfl rfl, ?_⟩
   have e : (takeF x) (a.amt, a.own) = (0, a.amt - x, a.own) := by unfold takeF; simp only; first | (rw [if_pos (by first | omega | (simp_all; done) | (simp_all; omega))]; done) | (rw [if_neg (by first | omega | (simp_all; done) | (simp_all; omega)), if_pos (by first | omega | (simp_all; done) | (simp_all; omega))]; done) | (rw [if_neg (by first | omega | (simp_all; done) | (simp_all; omega)), if_neg (by first | omega | (simp_all; done) | (simp_all; omega))]; done) | (rw [if_neg (by first | omega | (simp_all; done) | (simp_all; omega))]; done)
   have e1 : chgE (takeF x) S n = 0 := by unfold chgE; rw [hg]; show ((takeF x) (a.amt, a.own)).1 = _; rw [e]
   have e2 : chgS (takeF x) S n = S.set (posS S n) ⟨n, a.amt - x, a.own⟩ := by unfold chgS; rw [hg]; show setS S n ((takeF x) (a.amt, a.own)).2 = _; rw [e]; exact set_at hS hg _
   have hq := hput 1 (i64 (a.amt - x)) ⟨n, a.amt - x, a.own⟩ (by decide) (by rw [← (getS_some hg).2]; rfl) _ H14
   rw [e1, e2, List.length_set]
   exact ⟨A, c, rfl, K0.mono fun i _ h => .inr (by rw [hA]; exact congrArg some (Eq.symm h)), Hr, hq, fun i h => .inl h⟩

theorem RTake_calls (w : World) (base r : Nat) (A : Option Addr) (c : Nat) (S : List AccM) (n : List UInt8) (x : Int) (Hr : Has w r (rowL [.slice A S.length c] 43)) (hO : OwnT w base 97 3 AccM.cells (.slice A S.length c) S) (hne : ∀ i, (Value.slice A S.length c).ownBlock = some i → i ≠ r) (hS : Accs S) (hx : -9223372036854775808 ≤ x ∧ x ≤ 9223372036854775807) : Calls Tryz.prog 49 ⟨[(ptr r), (Value.string (str n)), (i64 x)]⟩ w (fun e w' => ∃ A' c', e = .returned (i64 (chgE (takeF x) S n)) ∧ Keeps (fun i => i = r ∨ (Value.slice A S.length c).ownBlock = some i) w w' ∧ Has w' r (rowL [.slice A' (chgS (takeF x) S n).length c'] 43) ∧ OwnT w' base 97 3 AccM.cells (.slice A' (chgS (takeF x) S n).length c') (chgS (takeF x) S n) ∧ ∀ i, (Value.slice A' (chgS (takeF x) S n).length c').ownBlock = some i → (Value.slice A S.length c).ownBlock = some i ∨ w.heap.size ≤ i) := by
 cases hg : getS S n with
 | none => exact RTake_none w base r A c S n x Hr hO hne hS hx hg
 | some a => exact RTake_some w base r A c S n x Hr hO hne hS hx a hg

theorem RHold_none (w : World) (base r : Nat) (A : Option Addr) (c : Nat) (S : List AccM) (n : List UInt8) (x : List UInt8) (Hr : Has w r (rowL [.slice A S.length c] 43)) (hO : OwnT w base 97 3 AccM.cells (.slice A S.length c) S) (hne : ∀ i, (Value.slice A S.length c).ownBlock = some i → i ≠ r) (hS : Accs S) (hg : getS S n = none) : Calls Tryz.prog 50 ⟨[(ptr r), (Value.string (str n)), (Value.string (str x))]⟩ w (fun e w' => ∃ A' c', e = .returned (i64 (chgE (holdF x) S n)) ∧ Keeps (fun i => i = r ∨ (Value.slice A S.length c).ownBlock = some i) w w' ∧ Has w' r (rowL [.slice A' (chgS (holdF x) S n).length c'] 43) ∧ OwnT w' base 97 3 AccM.cells (.slice A' (chgS (holdF x) S n).length c') (chgS (holdF x) S n) ∧ ∀ i, (Value.slice A' (chgS (holdF x) S n).length c').ownBlock = some i → (Value.slice A S.length c).ownBlock = some i ∨ w.heap.size ≤ i) := by
 have hR := OwnT.rd hO
 have Hrl := Hr.lt
 have hcap := RdT.len AccM.three (by decide) hR
 unfold maxLen at hcap
 have hfn := find_none hg
 have K0 : Keeps none_ w w := Keeps.refl w
 refine q_calls Tryz.func50 (by kernel_rfl) (by kernel_rfl) ?_
 refine qs ?_
 refine qg ?_
 refine og 1 [(0, (ptr r)), (1, (Value.string (str n))), (2, (Value.string (str x))), (6, (i64 0))] 1 ?_
 refine od ?_
 refine qs ?_
 refine qg ?_
 refine og 2 [(0, (ptr r)), (2, (Value.string (str x))), (6, (i64 0)), (10, (ptr r)), (11, (Value.string (str n)))] 2 ?_
 refine Ops.call (by kernel_rfl) (d := (some 12)) (by kernel_rfl) (find_calls _ r A c S n Hr (OwnT.rd hO)) ?_
 rintro _ w2 ⟨rfl, K1⟩
 refine ⟨_, _, rfl, rfl, ?_⟩
 replace K0 := K0.t0 K1
 replace Hr := Hr.keep K1 (fun h => h)
 replace hO := own_keep0 hO K1
 clear K1
 refine og 5 [(0, (ptr r)), (2, (Value.string (str x))), (6, (i64 0)), (7, (i64 ((posS S n : Nat) : Int))), (8, (Value.bool (hasS S n)))] 8 ?_
 refine od ?_
 refine qs ?_
 refine q_block (id := 0) (by kernel_rfl) ?_
 refine qs ?_
 refine qg ?_
 refine og 3 [(0, (ptr r)), (2, (Value.string (str x))), (6, (i64 0)), (7, (i64 ((posS S n : Nat) : Int))), (15, (Value.bool (!(hasS S n))))] 3 ?_
 refine od ?_
 have h3 : (!(hasS S n)) = true := by rw [show (hasS S n) = false from hfn]; rfl
 rw [h3]
 refine q_then (o := .tmp 15) (by kernel_rfl) rfl ?_
 refine qs ?_
 refine qg ?_
 refine og 1 [(0, (ptr r)), (2, (Value.string (str x))), (6, (i64 40)), (7, (i64 ((posS S n : Nat) : Int)))] 1 ?_
 refine od ?_
 refine q_ret (by kernel_rfl) ?_
 refine ⟨(i64 40), retv_tmp rfl rfl, ?_⟩
 have e1 : chgE (holdF x) S n = 40 := by unfold chgE; rw [hg]
 have e2 : chgS (holdF x) S n = S := by unfold chgS; rw [hg]
 rw [e1, e2]
 exact ⟨A, c, rfl, K0.mono fun _ _ h => h.elim, Hr, hO, fun i h => .inl h⟩

theorem RHold_some (w : World) (base r : Nat) (A : Option Addr) (c : Nat) (S : List AccM) (n : List UInt8) (x : List UInt8) (Hr : Has w r (rowL [.slice A S.length c] 43)) (hO : OwnT w base 97 3 AccM.cells (.slice A S.length c) S) (hne : ∀ i, (Value.slice A S.length c).ownBlock = some i → i ≠ r) (hS : Accs S) (a : AccM) (hg : getS S n = some a) : Calls Tryz.prog 50 ⟨[(ptr r), (Value.string (str n)), (Value.string (str x))]⟩ w (fun e w' => ∃ A' c', e = .returned (i64 (chgE (holdF x) S n)) ∧ Keeps (fun i => i = r ∨ (Value.slice A S.length c).ownBlock = some i) w w' ∧ Has w' r (rowL [.slice A' (chgS (holdF x) S n).length c'] 43) ∧ OwnT w' base 97 3 AccM.cells (.slice A' (chgS (holdF x) S n).length c') (chgS (holdF x) S n) ∧ ∀ i, (Value.slice A' (chgS (holdF x) S n).length c').ownBlock = some i → (Value.slice A S.length c).ownBlock = some i ∨ w.heap.size ≤ i) := by
 have hR := OwnT.rd hO
 have Hrl := Hr.lt
 have hcap := RdT.len AccM.three (by decide) hR
 unfold maxLen at hcap
 have hfs := find_some hS hg
 have hf2 := hfs.2
 have hfl := (List.getElem?_eq_some_iff.1 hf2).1
 have hao := hS.ok a (getS_some hg).1
 have ha1 := hao.lo
 have ha2 := hao.hi
 obtain ⟨gb, cur, hA, hgb, Hg, hcl, hca, hput⟩ := OwnT.open AccM.three (by decide) hf2 hO
 have c0 : cur[posS S n * 3]? = some (.string (str a.name)) := hca 0 _ rfl
 have c1 : cur[posS S n * 3 + 1]? = some (i64 a.amt) := hca 1 _ rfl
 have c2 : cur[posS S n * 3 + 2]? = some (.string (str a.own)) := hca 2 _ rfl
 have hgr : gb ≠ r := hne gb (by rw [hA]; rfl)
 have Hgl := Hg.lt
 have K0 : Keeps (fun i => i = gb) w w := (Keeps.refl w).mono (fun _ _ h => h.elim)
 refine q_calls Tryz.func50 (by kernel_rfl) (by kernel_rfl) ?_
 refine qs ?_
 refine qg ?_
 refine og 1 [(0, (ptr r)), (1, (Value.string (str n))), (2, (Value.string (str x))), (6, (i64 0))] 1 ?_
 refine od ?_
 refine qs ?_
 refine qg ?_
 refine og 2 [(0, (ptr r)), (2, (Value.string (str x))), (6, (i64 0)), (10, (ptr r)), (11, (Value.string (str n)))] 2 ?_
 refine Ops.call (by kernel_rfl) (d := (some 12)) (by kernel_rfl) (find_calls _ r A c S n Hr (OwnT.rd hO)) ?_
 rintro _ w2 ⟨rfl, K1⟩
 refine ⟨_, _, rfl, rfl, ?_⟩
 replace K0 := K0.trans K1 (U := (fun i => i = gb)) (fun i h1 h2 => h2) (fun i h1 h2 => by exact h2.elim)
 replace Hr := Hr.keep K1 (fun h => h)
 replace Hg := Hg.keep K1 (fun h => h)
 replace hO := own_keep0 hO K1
 clear K1
 refine og 5 [(0, (ptr r)), (2, (Value.string (str x))), (6, (i64 0)), (7, (i64 ((posS S n : Nat) : Int))), (8, (Value.bool (hasS S n)))] 8 ?_
 refine od ?_
 refine qs ?_
 refine q_block (id := 0) (by kernel_rfl) ?_
 refine qs ?_
 refine qg ?_
 refine og 3 [(0, (ptr r)), (2, (Value.string (str x))), (6, (i64 0)), (7, (i64 ((posS S n : Nat) : Int))), (15, (Value.bool (!(hasS S n))))] 3 ?_
 refine od ?_
 have h3 : (!(hasS S n)) = false := by rw [show (hasS S n) = true from hfs.1]; rfl
 rw [h3]
 refine q_else (o := .tmp 15) (by kernel_rfl) rfl ?_
 refine qs ?_
 refine qg ?_
 refine og 1 [(0, (ptr r)), (2, (Value.string (str x))), (6, (i64 0)), (7, (i64 ((posS S n : Nat) : Int))), (19, (Value.string (str x)))] 1 ?_
 refine Ops.go (v := (Value.bool (x == ([] : List UInt8)))) (by kernel_rfl) (Runs.streq (t := 9) (by kernel_rfl)) (d := (some 20)) (by kernel_rfl) rfl ?_
 refine og 1 [(0, (ptr r)), (2, (Value.string (str x))), (6, (i64 0)), (7, (i64 ((posS S n : Nat) : Int))), (21, (Value.bool (x == ([] : List UInt8))))] 3 ?_
 refine Ops.split (x == ([] : List UInt8)) (fun h4 => ?_) (fun h4 => ?_)
 ·rw [h4]
  have p5 : (x == ([] : List UInt8)) = true := h4
  refine og 5 [(0, (ptr r)), (2, (Value.string (str x))), (6, (i64 0)), (7, (i64 ((posS S n : Nat) : Int))), (18, (Value.bool true))] 8 ?_
  refine od ?_
  refine q_then (o := .tmp 18) (by kernel_rfl) rfl ?_
  refine qs ?_
  refine qg ?_
  refine og 1 [(0, (ptr r)), (2, (Value.string (str x))), (6, (i64 1)), (7, (i64 ((posS S n : Nat) : Int)))] 1 ?_
  refine od ?_
  refine q_ret (by kernel_rfl) ?_
  refine ⟨(i64 1), retv_tmp rfl rfl, ?_⟩
  have e : (holdF x) (a.amt, a.own) = (1, a.amt, a.own) := by unfold holdF; simp only; first | (rw [if_pos (by first | omega | (simp_all; done) | (simp_all; omega))]; done) | (rw [if_neg (by first | omega | (simp_all; done) | (simp_all; omega)), if_pos (by first | omega | (simp_all; done) | (simp_all; omega))]; done) | (rw [if_neg (by first | omega | (simp_all; done) | (simp_all; omega)), if_neg (by first | omega | (simp_all; done) | (simp_all; omega))]; done) | (rw [if_neg (by first | omega | (simp_all; done) | (simp_all; omega))]; done)
  have e1 : chgE (holdF x) S n = 1 := by unfold chgE; rw [hg]; show ((holdF x) (a.amt, a.own)).1 = _; rw [e]
  have e2 : chgS (holdF x) S n = S := by unfold chgS; rw [hg]; show setS S n ((holdF x) (a.amt, a.own)).2 = _; rw [e]; exact set_same hS hg
  rw [e1, e2]
  exact ⟨A, c, rfl, K0.mono fun i _ h => .inr (by rw [hA]; exact congrArg some (Eq.symm h)), Hr, hO, fun i h => .inl h⟩
 ·rw [h4]
  have p6 : (x == ([] : List UInt8)) = false := h4
  refine og 5 [(0, (ptr r)), (2, (Value.string (str x))), (6, (i64 0)), (7, (i64 ((posS S n : Nat) : Int))), (18, (Value.bool (decide (((x.length : Nat) : Int) > 65536))))] 8 ?_
  refine od ?_
  refine q_cond (o := .tmp 18) (b := (decide (((x.length : Nat) : Int) > 65536))) (by kernel_rfl) rfl (fun h7 => ?_) (fun h7 => ?_)
  ·rw [h7]
   have p8 : ((x.length : Nat) : Int) > 65536 := of_decide_eq_true h7
   refine qs ?_
   refine qg ?_
   refine og 1 [(0, (ptr r)), (2, (Value.string (str x))), (6, (i64 1)), (7, (i64 ((posS S n : Nat) : Int)))] 1 ?_
   refine od ?_
   refine q_ret (by kernel_rfl) ?_
   refine ⟨(i64 1), retv_tmp rfl rfl, ?_⟩
   have e : (holdF x) (a.amt, a.own) = (1, a.amt, a.own) := by unfold holdF; simp only; first | (rw [if_pos (by first | omega | (simp_all; done) | (simp_all; omega))]; done) | (rw [if_neg (by first | omega | (simp_all; done) | (simp_all; omega)), if_pos (by first | omega | (simp_all; done) | (simp_all; omega))]; done) | (rw [if_neg (by first | omega | (simp_all; done) | (simp_all; omega)), if_neg (by first | omega | (simp_all; done) | (simp_all; omega))]; done) | (rw [if_neg (by first | omega | (simp_all; done) | (simp_all; omega))]; done)
   have e1 : chgE (holdF x) S n = 1 := by unfold chgE; rw [hg]; show ((holdF x) (a.amt, a.own)).1 = _; rw [e]
   have e2 : chgS (holdF x) S n = S := by unfold chgS; rw [hg]; show setS S n ((holdF x) (a.amt, a.own)).2 = _; rw [e]; exact set_same hS hg
   rw [e1, e2]
   exact ⟨A, c, rfl, K0.mono fun i _ h => .inr (by rw [hA]; exact congrArg some (Eq.symm h)), Hr, hO, fun i h => .inl h⟩
  ·rw [h7]
   have p9 : ¬ (((x.length : Nat) : Int) > 65536) := of_decide_eq_false h7
   refine qs ?_
   refine qg ?_
   refine og 3 [(0, (ptr r)), (2, (Value.string (str x))), (6, (i64 0)), (7, (i64 ((posS S n : Nat) : Int))), (29, (ptr r))] 3 ?_
   refine Ops.go (v := (Value.slice A S.length c)) (by kernel_rfl) (Runs.load (t := 41) (a := ⟨r, 0, none⟩) (by kernel_rfl) (Hr.loads (by kernel_rfl))) (d := (some 30)) (by kernel_rfl) rfl ?_
   refine og 1 [(0, (ptr r)), (2, (Value.string (str x))), (6, (i64 0)), (7, (i64 ((posS S n : Nat) : Int))), (30, (Value.slice A S.length c)), (31, (i64 ((posS S n : Nat) : Int)))] 5 ?_
   refine Ops.go (by kernel_rfl) (Runs.ixSliceE (k := IntKind.i64) (t := 41) (len := S.length) (cap := c) (s := 3) (off' := (posS S n) * 3) (i := ((posS S n : Nat) : Int)) hA (by kernel_rfl) (by kernel_rfl) (by omega) (by omega) (by omega)) (d := (some 32)) (by kernel_rfl) rfl ?_
   refine og 1 [(0, (ptr r)), (2, (Value.string (str x))), (6, (i64 0)), (7, (i64 ((posS S n : Nat) : Int))), (33, (Value.pointer (some ⟨gb, (posS S n) * 3 + 2, none⟩)))] 7 ?_
   refine Ops.go (v := (Value.string (str a.own))) (by kernel_rfl) (Runs.load (t := 9) (a := ⟨gb, (posS S n) * 3 + 2, none⟩) (by kernel_rfl) (Hg.loads (loadC1 (by kernel_rfl) c2))) (d := (some 34)) (by kernel_rfl) rfl ?_
   refine Ops.go (v := (Value.bool (!(a.own == ([] : List UInt8))))) (by kernel_rfl) (Runs.strne (t := 9) (by kernel_rfl)) (d := (some 35)) (by kernel_rfl) rfl ?_
   refine og 1 [(0, (ptr r)), (2, (Value.string (str x))), (6, (i64 0)), (7, (i64 ((posS S n : Nat) : Int))), (36, (Value.bool (!(a.own == ([] : List UInt8)))))] 10 ?_
   refine Ops.split (!(a.own == ([] : List UInt8))) (fun h10 => ?_) (fun h10 => ?_)
   ·rw [h10]
    have p11 : (a.own == ([] : List UInt8)) = false := (bnot_true h10)
    refine og 3 [(0, (ptr r)), (2, (Value.string (str x))), (6, (i64 0)), (7, (i64 ((posS S n : Nat) : Int))), (36, (Value.bool true)), (39, (ptr r))] 13 ?_
    refine Ops.go (v := (Value.slice A S.length c)) (by kernel_rfl) (Runs.load (t := 41) (a := ⟨r, 0, none⟩) (by kernel_rfl) (Hr.loads (by kernel_rfl))) (d := (some 40)) (by kernel_rfl) rfl ?_
    refine og 1 [(0, (ptr r)), (2, (Value.string (str x))), (6, (i64 0)), (7, (i64 ((posS S n : Nat) : Int))), (36, (Value.bool true)), (40, (Value.slice A S.length c)), (41, (i64 ((posS S n : Nat) : Int)))] 15 ?_
    refine Ops.go (by kernel_rfl) (Runs.ixSliceE (k := IntKind.i64) (t := 41) (len := S.length) (cap := c) (s := 3) (off' := (posS S n) * 3) (i := ((posS S n : Nat) : Int)) hA (by kernel_rfl) (by kernel_rfl) (by omega) (by omega) (by omega)) (d := (some 42)) (by kernel_rfl) rfl ?_
    refine og 1 [(0, (ptr r)), (2, (Value.string (str x))), (6, (i64 0)), (7, (i64 ((posS S n : Nat) : Int))), (36, (Value.bool true)), (43, (Value.pointer (some ⟨gb, (posS S n) * 3 + 2, none⟩)))] 17 ?_
    refine Ops.go (v := (Value.string (str a.own))) (by kernel_rfl) (Runs.load (t := 9) (a := ⟨gb, (posS S n) * 3 + 2, none⟩) (by kernel_rfl) (Hg.loads (loadC1 (by kernel_rfl) c2))) (d := (some 44)) (by kernel_rfl) rfl ?_
    refine og 1 [(0, (ptr r)), (2, (Value.string (str x))), (6, (i64 0)), (7, (i64 ((posS S n : Nat) : Int))), (36, (Value.bool true)), (44, (Value.string (str a.own))), (45, (Value.string (str x)))] 19 ?_
    refine Ops.go (v := (Value.bool (!(a.own == x)))) (by kernel_rfl) (Runs.strne (t := 9) (by kernel_rfl)) (d := (some 46)) (by kernel_rfl) rfl ?_
    refine og 2 [(0, (ptr r)), (2, (Value.string (str x))), (6, (i64 0)), (7, (i64 ((posS S n : Nat) : Int))), (26, (Value.bool (!(a.own == x))))] 22 ?_
    refine od ?_
    refine q_cond (o := .tmp 26) (b := (!(a.own == x))) (by kernel_rfl) rfl (fun h12 => ?_) (fun h12 => ?_)
    ·rw [h12]
     have p13 : (a.own == x) = false := (bnot_true h12)
     refine qs ?_
     refine qg ?_
     refine og 1 [(0, (ptr r)), (2, (Value.string (str x))), (6, (i64 5)), (7, (i64 ((posS S n : Nat) : Int)))] 1 ?_
     refine od ?_
     refine q_ret (by kernel_rfl) ?_
     refine ⟨(i64 5), retv_tmp rfl rfl, ?_⟩
     have e : (holdF x) (a.amt, a.own) = (5, a.amt, a.own) := by unfold holdF; simp only; first | (rw [if_pos (by first | omega | (simp_all; done) | (simp_all; omega))]; done) | (rw [if_neg (by first | omega | (simp_all; done) | (simp_all; omega)), if_pos (by first | omega | (simp_all; done) | (simp_all; omega))]; done) | (rw [if_neg (by first | omega | (simp_all; done) | (simp_all; omega)), if_neg (by first | omega | (simp_all; done) | (simp_all; omega))]; done) | (rw [if_neg (by first | omega | (simp_all; done) | (simp_all; omega))]; done)
     have e1 : chgE (holdF x) S n = 5 := by unfold chgE; rw [hg]; show ((holdF x) (a.amt, a.own)).1 = _; rw [e]
     have e2 : chgS (holdF x) S n = S := by unfold chgS; rw [hg]; show setS S n ((holdF x) (a.amt, a.own)).2 = _; rw [e]; exact set_same hS hg
     rw [e1, e2]
     exact ⟨A, c, rfl, K0.mono fun i _ h => .inr (by rw [hA]; exact congrArg some (Eq.symm h)), Hr, hO, fun i h => .inl h⟩
    ·rw [h12]
     have p14 : (a.own == x) = true := (bnot_false h12)
     refine q_skip (by kernel_rfl) ?_
     refine qs ?_
     refine qg ?_
     refine og 3 [(2, (Value.string (str x))), (6, (i64 0)), (7, (i64 ((posS S n : Nat) : Int))), (50, (ptr r))] 3 ?_
     refine Ops.go (v := (Value.slice A S.length c)) (by kernel_rfl) (Runs.load (t := 41) (a := ⟨r, 0, none⟩) (by kernel_rfl) (Hr.loads (by kernel_rfl))) (d := (some 51)) (by kernel_rfl) rfl ?_
     refine og 2 [(6, (i64 0)), (51, (Value.slice A S.length c)), (52, (i64 ((posS S n : Nat) : Int))), (53, (Value.string (str x)))] 6 ?_
     refine Ops.go (by kernel_rfl) (Runs.ixSliceE (k := IntKind.i64) (t := 41) (len := S.length) (cap := c) (s := 3) (off' := (posS S n) * 3) (i := ((posS S n : Nat) : Int)) hA (by kernel_rfl) (by kernel_rfl) (by omega) (by omega) (by omega)) (d := (some 54)) (by kernel_rfl) rfl ?_
     refine og 1 [(6, (i64 0)), (53, (Value.string (str x))), (55, (Value.pointer (some ⟨gb, (posS S n) * 3 + 2, none⟩)))] 8 ?_
     refine Ops.put (t := 9) (b := gb) (off := (posS S n) * 3 + 2) (v := (Value.string (str x))) (ys := (cur.set ((posS S n) * 3 + 2) (Value.string (str x)))) (by kernel_rfl) (by kernel_rfl) Hg (storeC1 (by kernel_rfl) rfl (by omega) rfl) (d := none) (by kernel_rfl) rfl (fun w15 H16 K17 => ?_)
     clear Hg
     replace K0 := K0.trans K17 (U := (fun i => i = gb)) (fun i h1 h2 => h2) (fun i h1 h2 => by have h2 : i = gb := h2; show i = gb; omega)
     replace Hr := Hr.keep K17 (by intro h; change r = gb at h; omega)
     clear hO
     clear K17
     refine od ?_
     refine qs ?_
     refine qg ?_
     refine og 1 [(6, (i64 0))] 1 ?_
     refine od ?_
     refine q_ret (by kernel_rfl) ?_
     refine ⟨(i64 0), retv_tmp rfl rfl, ?_⟩
     have e : (holdF x) (a.amt, a.own) = (0, a.amt, x) := by unfold holdF; simp only; first | (rw [if_pos (by first | omega | (simp_all; done) | (simp_all; omega))]; done) | (rw [if_neg (by first | omega | (simp_all; done) | (simp_all; omega)), if_pos (by first | omega | (simp_all; done) | (simp_all; omega))]; done) | (rw [if_neg (by first | omega | (simp_all; done) | (simp_all; omega)), if_neg (by first | omega | (simp_all; done) | (simp_all; omega))]; done) | (rw [if_neg (by first | omega | (simp_all; done) | (simp_all; omega))]; done)
     have e1 : chgE (holdF x) S n = 0 := by unfold chgE; rw [hg]; show ((holdF x) (a.amt, a.own)).1 = _; rw [e]
     have e2 : chgS (holdF x) S n = S.set (posS S n) ⟨n, a.amt, x⟩ := by unfold chgS; rw [hg]; show setS S n ((holdF x) (a.amt, a.own)).2 = _; rw [e]; exact set_at hS hg _
     have hq := hput 2 (Value.string (str x)) ⟨n, a.amt, x⟩ (by decide) (by rw [← (getS_some hg).2]; rfl) _ H16
     rw [e1, e2, List.length_set]
     exact ⟨A, c, rfl, K0.mono fun i _ h => .inr (by rw [hA]; exact congrArg some (Eq.symm h)), Hr, hq, fun i h => .inl h⟩
   ·rw [h10]
    have p18 : (a.own == ([] : List UInt8)) = true := (bnot_false h10)
    refine og 12 [(0, (ptr r)), (2, (Value.string (str x))), (6, (i64 0)), (7, (i64 ((posS S n : Nat) : Int))), (26, (Value.bool false))] 22 ?_
    refine od ?_
    refine q_else (o := .tmp 26) (by kernel_rfl) rfl ?_
    refine q_skip (by kernel_rfl) ?_
    refine qs ?_
    refine qg ?_
    refine og 3 [(2, (Value.string (str x))), (6, (i64 0)), (7, (i64 ((posS S n : Nat) : Int))), (50, (ptr r))] 3 ?_
    refine Ops.go (v := (Value.slice A S.length c)) (by kernel_rfl) (Runs.load (t := 41) (a := ⟨r, 0, none⟩) (by kernel_rfl) (Hr.loads (by kernel_rfl))) (d := (some 51)) (by kernel_rfl) rfl ?_
    refine og 2 [(6, (i64 0)), (51, (Value.slice A S.length c)), (52, (i64 ((posS S n : Nat) : Int))), (53, (Value.string (str x)))] 6 ?_
    refine Ops.go (by kernel_rfl) (Runs.ixSliceE (k := IntKind.i64) (t := 41) (len := S.length) (cap := c) (s := 3) (off' := (posS S n) * 3) (i := ((posS S n : Nat) : Int)) hA (by kernel_rfl) (by kernel_rfl) (by omega) (by omega) (by omega)) (d := (some 54)) (by kernel_rfl) rfl ?_
    refine og 1 [(6, (i64 0)), (53, (Value.string (str x))), (55, (Value.pointer (some ⟨gb, (posS S n) * 3 + 2, none⟩)))] 8 ?_
    refine Ops.put (t := 9) (b := gb) (off := (posS S n) * 3 + 2) (v := (Value.string (str x))) (ys := (cur.set ((posS S n) * 3 + 2) (Value.string (str x)))) (by kernel_rfl) (by kernel_rfl) Hg (storeC1 (by kernel_rfl) rfl (by omega) rfl) (d := none) (by kernel_rfl) rfl (fun w19 H20 K21 => ?_)
    clear Hg
    replace K0 := K0.trans K21 (U := (fun i => i = gb)) (fun i h1 h2 => h2) (fun i h1 h2 => by have h2 : i = gb := h2; show i = gb; omega)
    replace Hr := Hr.keep K21 (by intro h; change r = gb at h; omega)
    clear hO
    clear K21
    refine od ?_
    refine qs ?_
    refine qg ?_
    refine og 1 [(6, (i64 0))] 1 ?_
    refine od ?_
    refine q_ret (by kernel_rfl) ?_
    refine ⟨(i64 0), retv_tmp rfl rfl, ?_⟩
    have e : (holdF x) (a.amt, a.own) = (0, a.amt, x) := by unfold holdF; simp only; first | (rw [if_pos (by first | omega | (simp_all; done) | (simp_all; omega))]; done) | (rw [if_neg (by first | omega | (simp_all; done) | (simp_all; omega)), if_pos (by first | omega | (simp_all; done) | (simp_all; omega))]; done) | (rw [if_neg (by first | omega | (simp_all; done) | (simp_all; omega)), if_neg (by first | omega | (simp_all; done) | (simp_all; omega))]; done) | (rw [if_neg (by first | omega | (simp_all; done) | (simp_all; omega))]; done)
    have e1 : chgE (holdF x) S n = 0 := by unfold chgE; rw [hg]; show ((holdF x) (a.amt, a.own)).1 = _; rw [e]
    have e2 : chgS (holdF x) S n = S.set (posS S n) ⟨n, a.amt, x⟩ := by unfold chgS; rw [hg]; show setS S n ((holdF x) (a.amt, a.own)).2 = _; rw [e]; exact set_at hS hg _
    have hq := hput 2 (Value.string (str x)) ⟨n, a.amt, x⟩ (by decide) (by rw [← (getS_some hg).2]; rfl) _ H20
    rw [e1, e2, List.length_set]
    exact ⟨A, c, rfl, K0.mono fun i _ h => .inr (by rw [hA]; exact congrArg some (Eq.symm h)), Hr, hq, fun i h => .inl h⟩

theorem RHold_calls (w : World) (base r : Nat) (A : Option Addr) (c : Nat) (S : List AccM) (n : List UInt8) (x : List UInt8) (Hr : Has w r (rowL [.slice A S.length c] 43)) (hO : OwnT w base 97 3 AccM.cells (.slice A S.length c) S) (hne : ∀ i, (Value.slice A S.length c).ownBlock = some i → i ≠ r) (hS : Accs S) : Calls Tryz.prog 50 ⟨[(ptr r), (Value.string (str n)), (Value.string (str x))]⟩ w (fun e w' => ∃ A' c', e = .returned (i64 (chgE (holdF x) S n)) ∧ Keeps (fun i => i = r ∨ (Value.slice A S.length c).ownBlock = some i) w w' ∧ Has w' r (rowL [.slice A' (chgS (holdF x) S n).length c'] 43) ∧ OwnT w' base 97 3 AccM.cells (.slice A' (chgS (holdF x) S n).length c') (chgS (holdF x) S n) ∧ ∀ i, (Value.slice A' (chgS (holdF x) S n).length c').ownBlock = some i → (Value.slice A S.length c).ownBlock = some i ∨ w.heap.size ≤ i) := by
 cases hg : getS S n with
 | none => exact RHold_none w base r A c S n x Hr hO hne hS hg
 | some a => exact RHold_some w base r A c S n x Hr hO hne hS a hg

theorem RFree_none (w : World) (base r : Nat) (A : Option Addr) (c : Nat) (S : List AccM) (n : List UInt8) (x : List UInt8) (Hr : Has w r (rowL [.slice A S.length c] 43)) (hO : OwnT w base 97 3 AccM.cells (.slice A S.length c) S) (hne : ∀ i, (Value.slice A S.length c).ownBlock = some i → i ≠ r) (hS : Accs S) (hg : getS S n = none) : Calls Tryz.prog 52 ⟨[(ptr r), (Value.string (str n)), (Value.string (str x))]⟩ w (fun e w' => ∃ A' c', e = .returned (i64 (chgE (freeF x) S n)) ∧ Keeps (fun i => i = r ∨ (Value.slice A S.length c).ownBlock = some i) w w' ∧ Has w' r (rowL [.slice A' (chgS (freeF x) S n).length c'] 43) ∧ OwnT w' base 97 3 AccM.cells (.slice A' (chgS (freeF x) S n).length c') (chgS (freeF x) S n) ∧ ∀ i, (Value.slice A' (chgS (freeF x) S n).length c').ownBlock = some i → (Value.slice A S.length c).ownBlock = some i ∨ w.heap.size ≤ i) := by
 have hR := OwnT.rd hO
 have Hrl := Hr.lt
 have hcap := RdT.len AccM.three (by decide) hR
 unfold maxLen at hcap
 have hfn := find_none hg
 have K0 : Keeps none_ w w := Keeps.refl w
 refine q_calls Tryz.func52 (by kernel_rfl) (by kernel_rfl) ?_
 refine qs ?_
 refine qg ?_
 refine og 1 [(0, (ptr r)), (1, (Value.string (str n))), (2, (Value.string (str x))), (6, (i64 0))] 1 ?_
 refine od ?_
 refine qs ?_
 refine qg ?_
 refine og 2 [(0, (ptr r)), (2, (Value.string (str x))), (6, (i64 0)), (10, (ptr r)), (11, (Value.string (str n)))] 2 ?_
 refine Ops.call (by kernel_rfl) (d := (some 12)) (by kernel_rfl) (find_calls _ r A c S n Hr (OwnT.rd hO)) ?_
 rintro _ w2 ⟨rfl, K1⟩
 refine ⟨_, _, rfl, rfl, ?_⟩
 replace K0 := K0.t0 K1
 replace Hr := Hr.keep K1 (fun h => h)
 replace hO := own_keep0 hO K1
 clear K1
 refine og 5 [(0, (ptr r)), (2, (Value.string (str x))), (6, (i64 0)), (7, (i64 ((posS S n : Nat) : Int))), (8, (Value.bool (hasS S n)))] 8 ?_
 refine od ?_
 refine qs ?_
 refine q_block (id := 0) (by kernel_rfl) ?_
 refine qs ?_
 refine qg ?_
 refine og 3 [(0, (ptr r)), (2, (Value.string (str x))), (6, (i64 0)), (7, (i64 ((posS S n : Nat) : Int))), (15, (Value.bool (!(hasS S n))))] 3 ?_
 refine od ?_
 have h3 : (!(hasS S n)) = true := by rw [show (hasS S n) = false from hfn]; rfl
 rw [h3]
 refine q_then (o := .tmp 15) (by kernel_rfl) rfl ?_
 refine qs ?_
 refine qg ?_
 refine og 1 [(0, (ptr r)), (2, (Value.string (str x))), (6, (i64 40)), (7, (i64 ((posS S n : Nat) : Int)))] 1 ?_
 refine od ?_
 refine q_ret (by kernel_rfl) ?_
 refine ⟨(i64 40), retv_tmp rfl rfl, ?_⟩
 have e1 : chgE (freeF x) S n = 40 := by unfold chgE; rw [hg]
 have e2 : chgS (freeF x) S n = S := by unfold chgS; rw [hg]
 rw [e1, e2]
 exact ⟨A, c, rfl, K0.mono fun _ _ h => h.elim, Hr, hO, fun i h => .inl h⟩

theorem RFree_some (w : World) (base r : Nat) (A : Option Addr) (c : Nat) (S : List AccM) (n : List UInt8) (x : List UInt8) (Hr : Has w r (rowL [.slice A S.length c] 43)) (hO : OwnT w base 97 3 AccM.cells (.slice A S.length c) S) (hne : ∀ i, (Value.slice A S.length c).ownBlock = some i → i ≠ r) (hS : Accs S) (a : AccM) (hg : getS S n = some a) : Calls Tryz.prog 52 ⟨[(ptr r), (Value.string (str n)), (Value.string (str x))]⟩ w (fun e w' => ∃ A' c', e = .returned (i64 (chgE (freeF x) S n)) ∧ Keeps (fun i => i = r ∨ (Value.slice A S.length c).ownBlock = some i) w w' ∧ Has w' r (rowL [.slice A' (chgS (freeF x) S n).length c'] 43) ∧ OwnT w' base 97 3 AccM.cells (.slice A' (chgS (freeF x) S n).length c') (chgS (freeF x) S n) ∧ ∀ i, (Value.slice A' (chgS (freeF x) S n).length c').ownBlock = some i → (Value.slice A S.length c).ownBlock = some i ∨ w.heap.size ≤ i) := by
 have hR := OwnT.rd hO
 have Hrl := Hr.lt
 have hcap := RdT.len AccM.three (by decide) hR
 unfold maxLen at hcap
 have hfs := find_some hS hg
 have hf2 := hfs.2
 have hfl := (List.getElem?_eq_some_iff.1 hf2).1
 have hao := hS.ok a (getS_some hg).1
 have ha1 := hao.lo
 have ha2 := hao.hi
 obtain ⟨gb, cur, hA, hgb, Hg, hcl, hca, hput⟩ := OwnT.open AccM.three (by decide) hf2 hO
 have c0 : cur[posS S n * 3]? = some (.string (str a.name)) := hca 0 _ rfl
 have c1 : cur[posS S n * 3 + 1]? = some (i64 a.amt) := hca 1 _ rfl
 have c2 : cur[posS S n * 3 + 2]? = some (.string (str a.own)) := hca 2 _ rfl
 have hgr : gb ≠ r := hne gb (by rw [hA]; rfl)
 have Hgl := Hg.lt
 have K0 : Keeps (fun i => i = gb) w w := (Keeps.refl w).mono (fun _ _ h => h.elim)
 refine q_calls Tryz.func52 (by kernel_rfl) (by kernel_rfl) ?_
 refine qs ?_
 refine qg ?_
 refine og 1 [(0, (ptr r)), (1, (Value.string (str n))), (2, (Value.string (str x))), (6, (i64 0))] 1 ?_
 refine od ?_
 refine qs ?_
 refine qg ?_
 refine og 2 [(0, (ptr r)), (2, (Value.string (str x))), (6, (i64 0)), (10, (ptr r)), (11, (Value.string (str n)))] 2 ?_
 refine Ops.call (by kernel_rfl) (d := (some 12)) (by kernel_rfl) (find_calls _ r A c S n Hr (OwnT.rd hO)) ?_
 rintro _ w2 ⟨rfl, K1⟩
 refine ⟨_, _, rfl, rfl, ?_⟩
 replace K0 := K0.trans K1 (U := (fun i => i = gb)) (fun i h1 h2 => h2) (fun i h1 h2 => by exact h2.elim)
 replace Hr := Hr.keep K1 (fun h => h)
 replace Hg := Hg.keep K1 (fun h => h)
 replace hO := own_keep0 hO K1
 clear K1
 refine og 5 [(0, (ptr r)), (2, (Value.string (str x))), (6, (i64 0)), (7, (i64 ((posS S n : Nat) : Int))), (8, (Value.bool (hasS S n)))] 8 ?_
 refine od ?_
 refine qs ?_
 refine q_block (id := 0) (by kernel_rfl) ?_
 refine qs ?_
 refine qg ?_
 refine og 3 [(0, (ptr r)), (2, (Value.string (str x))), (6, (i64 0)), (7, (i64 ((posS S n : Nat) : Int))), (15, (Value.bool (!(hasS S n))))] 3 ?_
 refine od ?_
 have h3 : (!(hasS S n)) = false := by rw [show (hasS S n) = true from hfs.1]; rfl
 rw [h3]
 refine q_else (o := .tmp 15) (by kernel_rfl) rfl ?_
 refine qs ?_
 refine qg ?_
 refine og 1 [(0, (ptr r)), (2, (Value.string (str x))), (6, (i64 0)), (7, (i64 ((posS S n : Nat) : Int))), (19, (Value.string (str x)))] 1 ?_
 refine Ops.go (v := (Value.bool (x == ([] : List UInt8)))) (by kernel_rfl) (Runs.streq (t := 9) (by kernel_rfl)) (d := (some 20)) (by kernel_rfl) rfl ?_
 refine og 1 [(0, (ptr r)), (2, (Value.string (str x))), (6, (i64 0)), (7, (i64 ((posS S n : Nat) : Int))), (21, (Value.bool (x == ([] : List UInt8))))] 3 ?_
 refine Ops.split (x == ([] : List UInt8)) (fun h4 => ?_) (fun h4 => ?_)
 ·rw [h4]
  have p5 : (x == ([] : List UInt8)) = true := h4
  refine og 12 [(0, (ptr r)), (6, (i64 0)), (7, (i64 ((posS S n : Nat) : Int))), (18, (Value.bool true))] 15 ?_
  refine od ?_
  refine q_then (o := .tmp 18) (by kernel_rfl) rfl ?_
  refine qs ?_
  refine qg ?_
  refine og 1 [(0, (ptr r)), (6, (i64 5)), (7, (i64 ((posS S n : Nat) : Int)))] 1 ?_
  refine od ?_
  refine q_ret (by kernel_rfl) ?_
  refine ⟨(i64 5), retv_tmp rfl rfl, ?_⟩
  have e : (freeF x) (a.amt, a.own) = (5, a.amt, a.own) := by unfold freeF; simp only; first | (rw [if_pos (by first | omega | (simp_all; done) | (simp_all; omega))]; done) | (rw [if_neg (by first | omega | (simp_all; done) | (simp_all; omega)), if_pos (by first | omega | (simp_all; done) | (simp_all; omega))]; done) | (rw [if_neg (by first | omega | (simp_all; done) | (simp_all; omega)), if_neg (by first | omega | (simp_all; done) | (simp_all; omega))]; done) | (rw [if_neg (by first | omega | (simp_all; done) | (simp_all; omega))]; done)
  have e1 : chgE (freeF x) S n = 5 := by unfold chgE; rw [hg]; show ((freeF x) (a.amt, a.own)).1 = _; rw [e]
  have e2 : chgS (freeF x) S n = S := by unfold chgS; rw [hg]; show setS S n ((freeF x) (a.amt, a.own)).2 = _; rw [e]; exact set_same hS hg
  rw [e1, e2]
  exact ⟨A, c, rfl, K0.mono fun i _ h => .inr (by rw [hA]; exact congrArg some (Eq.symm h)), Hr, hO, fun i h => .inl h⟩
 ·rw [h4]
  have p6 : (x == ([] : List UInt8)) = false := h4
  refine og 3 [(0, (ptr r)), (2, (Value.string (str x))), (6, (i64 0)), (7, (i64 ((posS S n : Nat) : Int))), (21, (Value.bool false)), (24, (ptr r))] 6 ?_
  refine Ops.go (v := (Value.slice A S.length c)) (by kernel_rfl) (Runs.load (t := 41) (a := ⟨r, 0, none⟩) (by kernel_rfl) (Hr.loads (by kernel_rfl))) (d := (some 25)) (by kernel_rfl) rfl ?_
  refine og 1 [(0, (ptr r)), (2, (Value.string (str x))), (6, (i64 0)), (7, (i64 ((posS S n : Nat) : Int))), (21, (Value.bool false)), (25, (Value.slice A S.length c)), (26, (i64 ((posS S n : Nat) : Int)))] 8 ?_
  refine Ops.go (by kernel_rfl) (Runs.ixSliceE (k := IntKind.i64) (t := 41) (len := S.length) (cap := c) (s := 3) (off' := (posS S n) * 3) (i := ((posS S n : Nat) : Int)) hA (by kernel_rfl) (by kernel_rfl) (by omega) (by omega) (by omega)) (d := (some 27)) (by kernel_rfl) rfl ?_
  refine og 1 [(0, (ptr r)), (2, (Value.string (str x))), (6, (i64 0)), (7, (i64 ((posS S n : Nat) : Int))), (21, (Value.bool false)), (28, (Value.pointer (some ⟨gb, (posS S n) * 3 + 2, none⟩)))] 10 ?_
  refine Ops.go (v := (Value.string (str a.own))) (by kernel_rfl) (Runs.load (t := 9) (a := ⟨gb, (posS S n) * 3 + 2, none⟩) (by kernel_rfl) (Hg.loads (loadC1 (by kernel_rfl) c2))) (d := (some 29)) (by kernel_rfl) rfl ?_
  refine og 1 [(0, (ptr r)), (6, (i64 0)), (7, (i64 ((posS S n : Nat) : Int))), (21, (Value.bool false)), (29, (Value.string (str a.own))), (30, (Value.string (str x)))] 12 ?_
  refine Ops.go (v := (Value.bool (!(a.own == x)))) (by kernel_rfl) (Runs.strne (t := 9) (by kernel_rfl)) (d := (some 31)) (by kernel_rfl) rfl ?_
  refine og 2 [(0, (ptr r)), (6, (i64 0)), (7, (i64 ((posS S n : Nat) : Int))), (18, (Value.bool (!(a.own == x))))] 15 ?_
  refine od ?_
  refine q_cond (o := .tmp 18) (b := (!(a.own == x))) (by kernel_rfl) rfl (fun h7 => ?_) (fun h7 => ?_)
  ·rw [h7]
   have p8 : (a.own == x) = false := (bnot_true h7)
   refine qs ?_
   refine qg ?_
   refine og 1 [(0, (ptr r)), (6, (i64 5)), (7, (i64 ((posS S n : Nat) : Int)))] 1 ?_
   refine od ?_
   refine q_ret (by kernel_rfl) ?_
   refine ⟨(i64 5), retv_tmp rfl rfl, ?_⟩
   have e : (freeF x) (a.amt, a.own) = (5, a.amt, a.own) := by unfold freeF; simp only; first | (rw [if_pos (by first | omega | (simp_all; done) | (simp_all; omega))]; done) | (rw [if_neg (by first | omega | (simp_all; done) | (simp_all; omega)), if_pos (by first | omega | (simp_all; done) | (simp_all; omega))]; done) | (rw [if_neg (by first | omega | (simp_all; done) | (simp_all; omega)), if_neg (by first | omega | (simp_all; done) | (simp_all; omega))]; done) | (rw [if_neg (by first | omega | (simp_all; done) | (simp_all; omega))]; done)
   have e1 : chgE (freeF x) S n = 5 := by unfold chgE; rw [hg]; show ((freeF x) (a.amt, a.own)).1 = _; rw [e]
   have e2 : chgS (freeF x) S n = S := by unfold chgS; rw [hg]; show setS S n ((freeF x) (a.amt, a.own)).2 = _; rw [e]; exact set_same hS hg
   rw [e1, e2]
   exact ⟨A, c, rfl, K0.mono fun i _ h => .inr (by rw [hA]; exact congrArg some (Eq.symm h)), Hr, hO, fun i h => .inl h⟩
  ·rw [h7]
   have p9 : (a.own == x) = true := (bnot_false h7)
   refine q_skip (by kernel_rfl) ?_
   refine qs ?_
   refine qg ?_
   refine og 3 [(6, (i64 0)), (7, (i64 ((posS S n : Nat) : Int))), (35, (ptr r))] 3 ?_
   refine Ops.go (v := (Value.slice A S.length c)) (by kernel_rfl) (Runs.load (t := 41) (a := ⟨r, 0, none⟩) (by kernel_rfl) (Hr.loads (by kernel_rfl))) (d := (some 36)) (by kernel_rfl) rfl ?_
   refine og 1 [(6, (i64 0)), (36, (Value.slice A S.length c)), (37, (i64 ((posS S n : Nat) : Int)))] 5 ?_
   refine Ops.go (by kernel_rfl) (Runs.ixSliceE (k := IntKind.i64) (t := 41) (len := S.length) (cap := c) (s := 3) (off' := (posS S n) * 3) (i := ((posS S n : Nat) : Int)) hA (by kernel_rfl) (by kernel_rfl) (by omega) (by omega) (by omega)) (d := (some 38)) (by kernel_rfl) rfl ?_
   refine og 1 [(6, (i64 0)), (39, (Value.pointer (some ⟨gb, (posS S n) * 3 + 2, none⟩)))] 7 ?_
   refine Ops.put (t := 9) (b := gb) (off := (posS S n) * 3 + 2) (v := (Value.string (str ([] : List UInt8)))) (ys := (cur.set ((posS S n) * 3 + 2) (Value.string (str ([] : List UInt8))))) (by kernel_rfl) (by kernel_rfl) Hg (storeC1 (by kernel_rfl) rfl (by omega) rfl) (d := none) (by kernel_rfl) rfl (fun w10 H11 K12 => ?_)
   clear Hg
   replace K0 := K0.trans K12 (U := (fun i => i = gb)) (fun i h1 h2 => h2) (fun i h1 h2 => by have h2 : i = gb := h2; show i = gb; omega)
   replace Hr := Hr.keep K12 (by intro h; change r = gb at h; omega)
   clear hO
   clear K12
   refine od ?_
   refine qs ?_
   refine qg ?_
   refine og 1 [(6, (i64 0))] 1 ?_
   refine od ?_
   refine q_ret (by kernel_rfl) ?_
   refine ⟨(i64 0), retv_tmp rfl rfl, ?_⟩
   have e : (freeF x) (a.amt, a.own) = (0, a.amt, ([] : List UInt8)) := by unfold freeF; simp only; first | (rw [if_pos (by first | omega | (simp_all; done) | (simp_all; omega))]; done) | (rw [if_neg (by first | omega | (simp_all; done) | (simp_all; omega)), if_pos (by first | omega | (simp_all; done) | (simp_all; omega))]; done) | (rw [if_neg (by first | omega | (simp_all; done) | (simp_all; omega)), if_neg (by first | omega | (simp_all; done) | (simp_all; omega))]; done) | (rw [if_neg (by first | omega | (simp_all; done) | (simp_all; omega))]; done)
   have e1 : chgE (freeF x) S n = 0 := by unfold chgE; rw [hg]; show ((freeF x) (a.amt, a.own)).1 = _; rw [e]
   have e2 : chgS (freeF x) S n = S.set (posS S n) ⟨n, a.amt, ([] : List UInt8)⟩ := by unfold chgS; rw [hg]; show setS S n ((freeF x) (a.amt, a.own)).2 = _; rw [e]; exact set_at hS hg _
   have hq := hput 2 (Value.string (str ([] : List UInt8))) ⟨n, a.amt, ([] : List UInt8)⟩ (by decide) (by rw [← (getS_some hg).2]; rfl) _ H11
   rw [e1, e2, List.length_set]
   exact ⟨A, c, rfl, K0.mono fun i _ h => .inr (by rw [hA]; exact congrArg some (Eq.symm h)), Hr, hq, fun i h => .inl h⟩

theorem RFree_calls (w : World) (base r : Nat) (A : Option Addr) (c : Nat) (S : List AccM) (n : List UInt8) (x : List UInt8) (Hr : Has w r (rowL [.slice A S.length c] 43)) (hO : OwnT w base 97 3 AccM.cells (.slice A S.length c) S) (hne : ∀ i, (Value.slice A S.length c).ownBlock = some i → i ≠ r) (hS : Accs S) : Calls Tryz.prog 52 ⟨[(ptr r), (Value.string (str n)), (Value.string (str x))]⟩ w (fun e w' => ∃ A' c', e = .returned (i64 (chgE (freeF x) S n)) ∧ Keeps (fun i => i = r ∨ (Value.slice A S.length c).ownBlock = some i) w w' ∧ Has w' r (rowL [.slice A' (chgS (freeF x) S n).length c'] 43) ∧ OwnT w' base 97 3 AccM.cells (.slice A' (chgS (freeF x) S n).length c') (chgS (freeF x) S n) ∧ ∀ i, (Value.slice A' (chgS (freeF x) S n).length c').ownBlock = some i → (Value.slice A S.length c).ownBlock = some i ∨ w.heap.size ≤ i) := by
 cases hg : getS S n with
 | none => exact RFree_none w base r A c S n x Hr hO hne hS hg
 | some a => exact RFree_some w base r A c S n x Hr hO hne hS a hg
end Go.Proofs.YtooginpgclcldaaGreatDoor
