/- the reference's book: what is seen of it -/
import Derived.Test.YtooginpgclcldaaGreatDoorProg
import Derived.Test.YtooginpgclcldaaGreatDoorOK
import Derived.Test.YtooginpgclcldaaGreatDoorKA
import Derived.Test.YtooginpgclcldaaGreatDoorLX
set_option linter.unusedVariables false
namespace Go.Proofs.YtooginpgclcldaaGreatDoor
open Go.Q Go.RowKit

theorem find_calls (w : World) (r : Nat) (A : Option Addr) (c : Nat) (S : List AccM) (n : List UInt8) (Hr : Has w r (rowL [.slice A S.length c] 43)) (hR : RdT w 3 AccM.cells (.slice A S.length c) S) : Calls Tryz.prog 73 ⟨[(ptr r), (Value.string (str n))]⟩ w (fun e w' => e = .returned (.tuple #[i64 ((posS S n : Nat) : Int), .bool (hasS S n)]) ∧ Keeps none_ w w') := by
 have Hrl := Hr.lt
 have hcap := RdT.len AccM.three (by decide) hR
 unfold maxLen at hcap
 have K0 : Keeps none_ w w := Keeps.refl w
 refine q_calls Tryz.func73 (by kernel_rfl) (by kernel_rfl) ?_
 refine qs ?_
 refine qg ?_
 refine og 2 [(0, (ptr r)), (1, (Value.string (str n))), (4, (i64 0)), (5, (Value.bool false))] 2 ?_
 refine od ?_
 refine qs ?_
 refine qg ?_
 refine og 1 [(0, (ptr r)), (1, (Value.string (str n))), (4, (i64 0)), (5, (Value.bool false)), (6, (i64 0))] 1 ?_
 refine od ?_
 refine qs ?_
 refine q_block (id := 0) (by kernel_rfl) ?_
 refine q_keep (R := [(0, (ptr r)), (1, (Value.string (str n))), (4, (i64 0)), (5, (Value.bool false)), (6, (i64 0))]) (by kernel_rfl) ?_
 refine q_loop (fun (i : Nat) L (wx : World) => L = [(0, (ptr r)), (1, (Value.string (str n))), (4, (i64 0)), (5, (Value.bool false)), (6, (i64 ((i : Nat) : Int)))] ∧ i ≤ posS S n ∧ Keeps none_ w wx ∧ Has wx r (rowL [(Value.slice A S.length c)] 43)) (fun (i : Nat) => S.length - i) 0 (by kernel_rfl) ⟨rfl, Nat.zero_le _, K0, Hr⟩ ?_
 clear Hr K0
 rintro i _ w1 ⟨rfl, hi, K2, H3⟩
 have hpl := posS_le S n
 refine qs ?_
 refine qs ?_
 refine qg ?_
 refine og 4 [(0, (ptr r)), (1, (Value.string (str n))), (4, (i64 0)), (5, (Value.bool false)), (6, (i64 ((i : Nat) : Int))), (7, (i64 ((i : Nat) : Int))), (10, (ptr r))] 4 ?_
 refine Ops.go (v := (Value.slice A S.length c)) (by kernel_rfl) (Runs.load (t := 41) (a := ⟨r, 0, none⟩) (by kernel_rfl) (H3.loads (by kernel_rfl))) (d := (some 11)) (by kernel_rfl) rfl ?_
 refine og 3 [(0, (ptr r)), (1, (Value.string (str n))), (4, (i64 0)), (5, (Value.bool false)), (6, (i64 ((i : Nat) : Int))), (14, (Value.bool (decide (((i : Nat) : Int) < ((S.length : Nat) : Int)))))] 8 ?_
 refine Ops.split (decide (((i : Nat) : Int) < ((S.length : Nat) : Int))) (fun h4 => ?_) (fun h4 => ?_)
 ·rw [h4]
  have p5 : ((i : Nat) : Int) < ((S.length : Nat) : Int) := of_decide_eq_true h4
  obtain ⟨a, ha⟩ : ∃ y, S[i]? = some y := ⟨_, List.getElem?_eq_getElem (by omega)⟩
  obtain ⟨rb6, ro7, hA8⟩ := Rd.addr (Rd.keep0 (by decide) hR K2) (by omega)
  refine og 3 [(0, (ptr r)), (1, (Value.string (str n))), (4, (i64 0)), (5, (Value.bool false)), (6, (i64 ((i : Nat) : Int))), (14, (Value.bool true)), (17, (ptr r))] 11 ?_
  refine Ops.go (v := (Value.slice A S.length c)) (by kernel_rfl) (Runs.load (t := 41) (a := ⟨r, 0, none⟩) (by kernel_rfl) (H3.loads (by kernel_rfl))) (d := (some 18)) (by kernel_rfl) rfl ?_
  refine og 1 [(0, (ptr r)), (1, (Value.string (str n))), (4, (i64 0)), (5, (Value.bool false)), (6, (i64 ((i : Nat) : Int))), (14, (Value.bool true)), (18, (Value.slice A S.length c)), (19, (i64 ((i : Nat) : Int)))] 13 ?_
  refine Ops.go (by kernel_rfl) (Runs.ixSliceE (k := IntKind.i64) (t := 41) (len := S.length) (cap := c) (s := 3) (off' := ro7 + i * 3) (i := ((i : Nat) : Int)) hA8 (by kernel_rfl) (by kernel_rfl) (by omega) (by omega) (by omega)) (d := (some 20)) (by kernel_rfl) rfl ?_
  refine og 1 [(0, (ptr r)), (1, (Value.string (str n))), (4, (i64 0)), (5, (Value.bool false)), (6, (i64 ((i : Nat) : Int))), (14, (Value.bool true)), (21, (Value.pointer (some ⟨rb6, ro7 + i * 3, none⟩)))] 15 ?_
  refine Ops.go (v := (Value.string (str a.name))) (by kernel_rfl) (Runs.load (t := 9) (a := ⟨rb6, ro7 + i * 3, none⟩) (by kernel_rfl) (RdT.ldf (f := AccM.cells) (x := a) (o := 0) AccM.three (Rd.keep0 (by decide) hR K2) (by kernel_rfl) hA8 ha rfl)) (d := (some 22)) (by kernel_rfl) rfl ?_
  refine og 1 [(0, (ptr r)), (1, (Value.string (str n))), (4, (i64 0)), (5, (Value.bool false)), (6, (i64 ((i : Nat) : Int))), (14, (Value.bool true)), (22, (Value.string (str a.name))), (23, (Value.string (str n)))] 17 ?_
  refine Ops.go (v := (Value.bool (decide (a.name < n)))) (by kernel_rfl) (Runs.strlss (t := 9) (by kernel_rfl)) (d := (some 24)) (by kernel_rfl) rfl ?_
  refine og 1 [(0, (ptr r)), (1, (Value.string (str n))), (4, (i64 0)), (5, (Value.bool false)), (6, (i64 ((i : Nat) : Int))), (25, (Value.bool (decide (a.name < n))))] 19 ?_
  refine od ?_
  refine q_cond (o := .tmp 25) (b := (decide (a.name < n))) (by kernel_rfl) rfl (fun h9 => ?_) (fun h9 => ?_)
  ·rw [h9]
   have p10 : (decide (a.name < n)) = true := h9
   have hlt := of_decide_eq_true h9
   refine q_skip (by kernel_rfl) ?_
   refine q_block (id := 1) (by kernel_rfl) ?_
   refine qg ?_
   refine og 2 [(0, (ptr r)), (1, (Value.string (str n))), (4, (i64 0)), (5, (Value.bool false)), (6, (i64 ((i : Nat) : Int))), (25, (Value.bool true)), (27, (i64 (IntKind.i64.wrap (((i : Nat) : Int) + 1))))] 2 ?_
   have e11 : IntKind.i64.wrap (((i : Nat) : Int) + 1) = ((i + 1 : Nat) : Int) := by rw [wrap_i64 (by omega) (by omega)]; omega
   rw [e11]
   clear e11
   refine og 1 [(0, (ptr r)), (1, (Value.string (str n))), (4, (i64 0)), (5, (Value.bool false)), (6, (i64 ((i + 1 : Nat) : Int))), (25, (Value.bool true))] 3 ?_
   refine Ops.keep (R := [(0, (ptr r)), (1, (Value.string (str n))), (4, (i64 0)), (5, (Value.bool false)), (6, (i64 ((i + 1 : Nat) : Int)))]) (by kernel_rfl) ?_
   refine od ?_
   exact ⟨i + 1, ⟨rfl, (pos_step ha hlt hi), K2, H3⟩, (show S.length - (i + 1) < S.length - i from by omega)⟩
  ·rw [h9]
   have p12 : (decide (a.name < n)) = false := h9
   have hpe := pos_exit ha (of_decide_eq_false h9) hi
   refine q_exit (id := 0) (by kernel_rfl) ?_
   refine qs ?_
   refine q_draw (fun wz => Keeps none_ w1 wz) 22 (by kernel_rfl) (by kernel_rfl) (by kernel_rfl) (fun w13 K14 _ _ => ⟨K14, ?_⟩)
   replace K2 := K2.trans K14 (U := none_) (fun i h1 h2 => h2) (fun i h1 h2 => by exact h2)
   replace H3 := H3.keep K14 (fun h => h)
   refine Dr.strong (S' := (fun wz => Keeps none_ w13 wz)) (Keeps.refl w13) (fun wz hx => K14.trans hx (fun i _ h => h) (fun _ _ h => h)) ?_
   clear K14
   refine Dr.takes (fuel' := 17) (is' := [4, 3, 2, 1, 0]) [0, 1, 2, 3, 4] [(0, (ptr r)), (1, (Value.string (str n))), (4, (i64 0)), (5, (Value.bool false)), (6, (i64 ((i : Nat) : Int))), (28, (i64 ((i : Nat) : Int))), (29, (i64 ((i : Nat) : Int))), (32, (ptr r))] (by kernel_rfl) rfl (by kernel_rfl) ?_
   refine Dr.take (i := 5) (v := (Value.slice A S.length c)) (by kernel_rfl) (by kernel_rfl) (fun wz hS => Runs.load (t := 41) (a := ⟨r, 0, none⟩) (by kernel_rfl) ((H3.keep hS (fun h => h)).loads (by kernel_rfl))) (d := (some 33)) (by kernel_rfl) rfl ?_
   refine Dr.takes (fuel' := 12) (is' := [20, 8, 7, 6, 5, 4, 3, 2, 1, 0]) [6, 7, 8, 20] [(0, (ptr r)), (1, (Value.string (str n))), (4, (i64 ((i : Nat) : Int))), (5, (Value.bool false)), (6, (i64 ((i : Nat) : Int))), (36, (Value.bool (decide (((i : Nat) : Int) < ((S.length : Nat) : Int)))))] (by kernel_rfl) rfl (by kernel_rfl) ?_
   rw [h4]
   refine Dr.takes (fuel' := 9) (is' := [11, 10, 9, 20, 8, 7, 6, 5, 4, 3, 2, 1, 0]) [9, 10, 11] [(1, (Value.string (str n))), (4, (i64 ((i : Nat) : Int))), (5, (Value.bool false)), (6, (i64 ((i : Nat) : Int))), (36, (Value.bool true)), (39, (ptr r))] (by kernel_rfl) rfl (by kernel_rfl) ?_
   refine Dr.take (i := 12) (v := (Value.slice A S.length c)) (by kernel_rfl) (by kernel_rfl) (fun wz hS => Runs.load (t := 41) (a := ⟨r, 0, none⟩) (by kernel_rfl) ((H3.keep hS (fun h => h)).loads (by kernel_rfl))) (d := (some 40)) (by kernel_rfl) rfl ?_
   refine Dr.takes (fuel' := 7) (is' := [13, 12, 11, 10, 9, 20, 8, 7, 6, 5, 4, 3, 2, 1, 0]) [13] [(1, (Value.string (str n))), (4, (i64 ((i : Nat) : Int))), (5, (Value.bool false)), (36, (Value.bool true)), (40, (Value.slice A S.length c)), (41, (i64 ((i : Nat) : Int)))] (by kernel_rfl) rfl (by kernel_rfl) ?_
   refine Dr.take (i := 14) (v := (Value.pointer (some ⟨rb6, ro7 + i * 3, none⟩))) (by kernel_rfl) (by kernel_rfl) (fun wz hS => Runs.ixSliceE (k := IntKind.i64) (t := 41) (len := S.length) (cap := c) (s := 3) (off' := ro7 + i * 3) (i := ((i : Nat) : Int)) hA8 (by kernel_rfl) (by kernel_rfl) (by omega) (by omega) (by omega)) (d := (some 42)) (by kernel_rfl) rfl ?_
   refine Dr.takes (fuel' := 5) (is' := [15, 14, 13, 12, 11, 10, 9, 20, 8, 7, 6, 5, 4, 3, 2, 1, 0]) [15] [(1, (Value.string (str n))), (4, (i64 ((i : Nat) : Int))), (5, (Value.bool false)), (36, (Value.bool true)), (43, (Value.pointer (some ⟨rb6, ro7 + i * 3, none⟩)))] (by kernel_rfl) rfl (by kernel_rfl) ?_
   refine Dr.take (i := 16) (v := (Value.string (str a.name))) (by kernel_rfl) (by kernel_rfl) (fun wz hS => Runs.load (t := 9) (a := ⟨rb6, ro7 + i * 3, none⟩) (by kernel_rfl) (RdT.ldf (f := AccM.cells) (x := a) (o := 0) AccM.three (Rd.keep0 (by decide) hR (K2.trans hS (fun _ _ h => h) (fun _ _ h => h))) (by kernel_rfl) hA8 ha rfl)) (d := (some 44)) (by kernel_rfl) rfl ?_
   refine Dr.takes (fuel' := 3) (is' := [17, 16, 15, 14, 13, 12, 11, 10, 9, 20, 8, 7, 6, 5, 4, 3, 2, 1, 0]) [17] [(4, (i64 ((i : Nat) : Int))), (5, (Value.bool false)), (36, (Value.bool true)), (44, (Value.string (str a.name))), (45, (Value.string (str n)))] (by kernel_rfl) rfl (by kernel_rfl) ?_
   refine Dr.take (i := 18) (v := (Value.bool (a.name == n))) (by kernel_rfl) (by kernel_rfl) (fun wz hS => Runs.streq (t := 9) (by kernel_rfl)) (d := (some 46)) (by kernel_rfl) rfl ?_
   refine Dr.takes (fuel' := 0) (is' := [21, 19, 18, 17, 16, 15, 14, 13, 12, 11, 10, 9, 20, 8, 7, 6, 5, 4, 3, 2, 1, 0]) [19, 21] [(4, (i64 ((i : Nat) : Int))), (5, (Value.bool (a.name == n)))] (by kernel_rfl) rfl (by kernel_rfl) ?_
   refine Dr.done (by kernel_rfl) ?_
   refine q_ret (by kernel_rfl) ?_
   refine ⟨(Value.tuple #[(i64 ((i : Nat) : Int)), (Value.bool (a.name == n))]), retv_tmp2 rfl rfl rfl, ?_⟩
   have e : hasS S n = (a.name == n) := has_at (by rw [← hpe]; exact ha)
   exact ⟨by rw [e, ← hpe], K2⟩
 ·rw [h4]
  have p15 : ¬ (((i : Nat) : Int) < ((S.length : Nat) : Int)) := of_decide_eq_false h4
  refine og 11 [(0, (ptr r)), (1, (Value.string (str n))), (4, (i64 0)), (5, (Value.bool false)), (6, (i64 ((i : Nat) : Int))), (25, (Value.bool false))] 19 ?_
  refine od ?_
  refine q_else (o := .tmp 25) (by kernel_rfl) rfl ?_
  refine q_exit (id := 0) (by kernel_rfl) ?_
  refine qs ?_
  refine q_draw (fun wz => Keeps none_ w1 wz) 22 (by kernel_rfl) (by kernel_rfl) (by kernel_rfl) (fun w16 K17 _ _ => ⟨K17, ?_⟩)
  replace K2 := K2.trans K17 (U := none_) (fun i h1 h2 => h2) (fun i h1 h2 => by exact h2)
  replace H3 := H3.keep K17 (fun h => h)
  refine Dr.strong (S' := (fun wz => Keeps none_ w16 wz)) (Keeps.refl w16) (fun wz hx => K17.trans hx (fun i _ h => h) (fun _ _ h => h)) ?_
  clear K17
  refine Dr.takes (fuel' := 17) (is' := [4, 3, 2, 1, 0]) [0, 1, 2, 3, 4] [(0, (ptr r)), (1, (Value.string (str n))), (4, (i64 0)), (5, (Value.bool false)), (6, (i64 ((i : Nat) : Int))), (28, (i64 ((i : Nat) : Int))), (29, (i64 ((i : Nat) : Int))), (32, (ptr r))] (by kernel_rfl) rfl (by kernel_rfl) ?_
  refine Dr.take (i := 5) (v := (Value.slice A S.length c)) (by kernel_rfl) (by kernel_rfl) (fun wz hS => Runs.load (t := 41) (a := ⟨r, 0, none⟩) (by kernel_rfl) ((H3.keep hS (fun h => h)).loads (by kernel_rfl))) (d := (some 33)) (by kernel_rfl) rfl ?_
  refine Dr.takes (fuel' := 12) (is' := [20, 8, 7, 6, 5, 4, 3, 2, 1, 0]) [6, 7, 8, 20] [(0, (ptr r)), (1, (Value.string (str n))), (4, (i64 ((i : Nat) : Int))), (5, (Value.bool false)), (6, (i64 ((i : Nat) : Int))), (36, (Value.bool (decide (((i : Nat) : Int) < ((S.length : Nat) : Int)))))] (by kernel_rfl) rfl (by kernel_rfl) ?_
  rw [h4]
  refine Dr.takes (fuel' := 0) (is' := [21, 19, 18, 17, 16, 15, 14, 13, 12, 11, 10, 9, 20, 8, 7, 6, 5, 4, 3, 2, 1, 0]) [9, 10, 11, 12, 13, 14, 15, 16, 17, 18, 19, 21] [(4, (i64 ((i : Nat) : Int))), (5, (Value.bool false))] (by kernel_rfl) rfl (by kernel_rfl) ?_
  refine Dr.done (by kernel_rfl) ?_
  refine q_ret (by kernel_rfl) ?_
  refine ⟨(Value.tuple #[(i64 ((i : Nat) : Int)), (Value.bool false)]), retv_tmp2 rfl rfl rfl, ?_⟩
  have hpe := pos_end (by omega) hi
  have e : hasS S n = false := has_end (by omega)
  exact ⟨by rw [e, ← hpe], K2⟩

theorem RGet_none (w : World) (r : Nat) (A : Option Addr) (c : Nat) (S : List AccM) (n : List UInt8) (Hr : Has w r (rowL [.slice A S.length c] 43)) (hR : RdT w 3 AccM.cells (.slice A S.length c) S) (hS : Accs S) (hg : getS S n = none) : Calls Tryz.prog 35 ⟨[(ptr r), (Value.string (str n))]⟩ w (fun e w' => e = .returned (Value.tuple #[(i64 ((amtE S n).1)), (i64 ((amtE S n).2))]) ∧ Keeps none_ w w') := by
 have Hrl := Hr.lt
 have hcap := RdT.len AccM.three (by decide) hR
 unfold maxLen at hcap
 have hfn := find_none hg
 have K0 : Keeps none_ w w := Keeps.refl w
 refine q_calls Tryz.func35 (by kernel_rfl) (by kernel_rfl) ?_
 refine qs ?_
 refine qg ?_
 refine og 2 [(0, (ptr r)), (1, (Value.string (str n))), (4, (i64 0)), (5, (i64 0))] 2 ?_
 refine od ?_
 refine qs ?_
 refine qg ?_
 refine og 2 [(0, (ptr r)), (4, (i64 0)), (5, (i64 0)), (9, (ptr r)), (10, (Value.string (str n)))] 2 ?_
 refine Ops.call (by kernel_rfl) (d := (some 11)) (by kernel_rfl) (find_calls _ r A c S n Hr hR) ?_
 rintro _ w2 ⟨rfl, K1⟩
 refine ⟨_, _, rfl, rfl, ?_⟩
 replace K0 := K0.t0 K1
 replace Hr := Hr.keep K1 (fun h => h)
 replace hR := (Rd.keep0 (by omega) hR K1)
 clear K1
 refine og 5 [(0, (ptr r)), (4, (i64 0)), (5, (i64 0)), (6, (i64 ((posS S n : Nat) : Int))), (7, (Value.bool (hasS S n)))] 8 ?_
 refine od ?_
 refine qs ?_
 refine qs ?_
 refine qg ?_
 refine og 2 [(0, (ptr r)), (4, (i64 0)), (5, (i64 0)), (6, (i64 ((posS S n : Nat) : Int))), (15, (Value.bool (!(hasS S n))))] 2 ?_
 refine od ?_
 have h3 : (!(hasS S n)) = true := by rw [show (hasS S n) = false from hfn]; rfl
 rw [h3]
 refine q_then (o := .tmp 15) (by kernel_rfl) rfl ?_
 refine qs ?_
 refine qg ?_
 refine og 2 [(0, (ptr r)), (4, (i64 0)), (5, (i64 40)), (6, (i64 ((posS S n : Nat) : Int)))] 2 ?_
 refine od ?_
 refine q_ret (by kernel_rfl) ?_
 refine ⟨(Value.tuple #[(i64 0), (i64 40)]), retv_tmp2 rfl rfl rfl, ?_⟩
 exact ⟨by unfold amtE; rw [hg], K0⟩

theorem RGet_some (w : World) (r : Nat) (A : Option Addr) (c : Nat) (S : List AccM) (n : List UInt8) (Hr : Has w r (rowL [.slice A S.length c] 43)) (hR : RdT w 3 AccM.cells (.slice A S.length c) S) (hS : Accs S) (a : AccM) (hg : getS S n = some a) : Calls Tryz.prog 35 ⟨[(ptr r), (Value.string (str n))]⟩ w (fun e w' => e = .returned (Value.tuple #[(i64 ((amtE S n).1)), (i64 ((amtE S n).2))]) ∧ Keeps none_ w w') := by
 have Hrl := Hr.lt
 have hcap := RdT.len AccM.three (by decide) hR
 unfold maxLen at hcap
 have hfs := find_some hS hg
 have hf2 := hfs.2
 have hfl := (List.getElem?_eq_some_iff.1 hf2).1
 have hao := hS.ok a (getS_some hg).1
 have ha1 := hao.lo
 have ha2 := hao.hi
 have K0 : Keeps none_ w w := Keeps.refl w
 refine q_calls Tryz.func35 (by kernel_rfl) (by kernel_rfl) ?_
 refine qs ?_
 refine qg ?_
 refine og 2 [(0, (ptr r)), (1, (Value.string (str n))), (4, (i64 0)), (5, (i64 0))] 2 ?_
 refine od ?_
 refine qs ?_
 refine qg ?_
 refine og 2 [(0, (ptr r)), (4, (i64 0)), (5, (i64 0)), (9, (ptr r)), (10, (Value.string (str n)))] 2 ?_
 refine Ops.call (by kernel_rfl) (d := (some 11)) (by kernel_rfl) (find_calls _ r A c S n Hr hR) ?_
 rintro _ w2 ⟨rfl, K1⟩
 refine ⟨_, _, rfl, rfl, ?_⟩
 replace K0 := K0.t0 K1
 replace Hr := Hr.keep K1 (fun h => h)
 replace hR := (Rd.keep0 (by omega) hR K1)
 clear K1
 obtain ⟨rb3, ro4, hA5⟩ := Rd.addr hR (by omega)
 refine og 5 [(0, (ptr r)), (4, (i64 0)), (5, (i64 0)), (6, (i64 ((posS S n : Nat) : Int))), (7, (Value.bool (hasS S n)))] 8 ?_
 refine od ?_
 refine qs ?_
 refine qs ?_
 refine qg ?_
 refine og 2 [(0, (ptr r)), (4, (i64 0)), (5, (i64 0)), (6, (i64 ((posS S n : Nat) : Int))), (15, (Value.bool (!(hasS S n))))] 2 ?_
 refine od ?_
 have h6 : (!(hasS S n)) = false := by rw [show (hasS S n) = true from hfs.1]; rfl
 rw [h6]
 refine q_else (o := .tmp 15) (by kernel_rfl) rfl ?_
 refine q_skip (by kernel_rfl) ?_
 refine qs ?_
 refine qg ?_
 refine og 3 [(4, (i64 0)), (5, (i64 0)), (6, (i64 ((posS S n : Nat) : Int))), (18, (ptr r))] 3 ?_
 refine Ops.go (v := (Value.slice A S.length c)) (by kernel_rfl) (Runs.load (t := 41) (a := ⟨r, 0, none⟩) (by kernel_rfl) (Hr.loads (by kernel_rfl))) (d := (some 19)) (by kernel_rfl) rfl ?_
 refine og 1 [(4, (i64 0)), (5, (i64 0)), (19, (Value.slice A S.length c)), (20, (i64 ((posS S n : Nat) : Int)))] 5 ?_
 refine Ops.go (by kernel_rfl) (Runs.ixSliceE (k := IntKind.i64) (t := 41) (len := S.length) (cap := c) (s := 3) (off' := ro4 + (posS S n) * 3) (i := ((posS S n : Nat) : Int)) hA5 (by kernel_rfl) (by kernel_rfl) (by omega) (by omega) (by omega)) (d := (some 21)) (by kernel_rfl) rfl ?_
 refine og 1 [(4, (i64 0)), (5, (i64 0)), (22, (Value.pointer (some ⟨rb3, ro4 + (posS S n) * 3 + 1, none⟩)))] 7 ?_
 refine Ops.go (v := (i64 a.amt)) (by kernel_rfl) (Runs.load (t := 2) (a := ⟨rb3, ro4 + (posS S n) * 3 + 1, none⟩) (by kernel_rfl) (RdT.ldf (f := AccM.cells) (x := a) (o := 1) AccM.three hR (by kernel_rfl) hA5 hf2 rfl)) (d := (some 23)) (by kernel_rfl) rfl ?_
 refine og 2 [(4, (i64 a.amt)), (5, (i64 0))] 10 ?_
 refine od ?_
 refine q_ret (by kernel_rfl) ?_
 refine ⟨(Value.tuple #[(i64 a.amt), (i64 0)]), retv_tmp2 rfl rfl rfl, ?_⟩
 exact ⟨by unfold amtE; rw [hg], K0⟩

theorem RGet_calls (w : World) (r : Nat) (A : Option Addr) (c : Nat) (S : List AccM) (n : List UInt8) (Hr : Has w r (rowL [.slice A S.length c] 43)) (hR : RdT w 3 AccM.cells (.slice A S.length c) S) (hS : Accs S) : Calls Tryz.prog 35 ⟨[(ptr r), (Value.string (str n))]⟩ w (fun e w' => e = .returned (Value.tuple #[(i64 ((amtE S n).1)), (i64 ((amtE S n).2))]) ∧ Keeps none_ w w') := by
 cases hg : getS S n with
 | none => exact RGet_none w r A c S n Hr hR hS hg
 | some a => exact RGet_some w r A c S n Hr hR hS a hg

theorem RBy_none (w : World) (r : Nat) (A : Option Addr) (c : Nat) (S : List AccM) (n : List UInt8) (Hr : Has w r (rowL [.slice A S.length c] 43)) (hR : RdT w 3 AccM.cells (.slice A S.length c) S) (hS : Accs S) (hg : getS S n = none) : Calls Tryz.prog 38 ⟨[(ptr r), (Value.string (str n))]⟩ w (fun e w' => e = .returned (Value.string (str (ownE S n))) ∧ Keeps none_ w w') := by
 have Hrl := Hr.lt
 have hcap := RdT.len AccM.three (by decide) hR
 unfold maxLen at hcap
 have hfn := find_none hg
 have K0 : Keeps none_ w w := Keeps.refl w
 refine q_calls Tryz.func38 (by kernel_rfl) (by kernel_rfl) ?_
 refine qs ?_
 refine qg ?_
 refine og 1 [(0, (ptr r)), (1, (Value.string (str n))), (4, (Value.string (str ([] : List UInt8))))] 1 ?_
 refine od ?_
 refine qs ?_
 refine qg ?_
 refine og 2 [(0, (ptr r)), (4, (Value.string (str ([] : List UInt8)))), (8, (ptr r)), (9, (Value.string (str n)))] 2 ?_
 refine Ops.call (by kernel_rfl) (d := (some 10)) (by kernel_rfl) (find_calls _ r A c S n Hr hR) ?_
 rintro _ w2 ⟨rfl, K1⟩
 refine ⟨_, _, rfl, rfl, ?_⟩
 replace K0 := K0.t0 K1
 replace Hr := Hr.keep K1 (fun h => h)
 replace hR := (Rd.keep0 (by omega) hR K1)
 clear K1
 refine og 5 [(0, (ptr r)), (4, (Value.string (str ([] : List UInt8)))), (5, (i64 ((posS S n : Nat) : Int))), (6, (Value.bool (hasS S n)))] 8 ?_
 refine od ?_
 refine qs ?_
 refine qs ?_
 refine qg ?_
 refine og 2 [(0, (ptr r)), (4, (Value.string (str ([] : List UInt8)))), (5, (i64 ((posS S n : Nat) : Int))), (14, (Value.bool (!(hasS S n))))] 2 ?_
 refine od ?_
 have h3 : (!(hasS S n)) = true := by rw [show (hasS S n) = false from hfn]; rfl
 rw [h3]
 refine q_then (o := .tmp 14) (by kernel_rfl) rfl ?_
 refine qs ?_
 refine qg ?_
 refine og 1 [(0, (ptr r)), (4, (Value.string (str ([] : List UInt8)))), (5, (i64 ((posS S n : Nat) : Int)))] 1 ?_
 refine od ?_
 refine q_ret (by kernel_rfl) ?_
 refine ⟨(Value.string (str ([] : List UInt8))), retv_tmp rfl rfl, ?_⟩
 exact ⟨by unfold ownE; rw [hg], K0⟩

theorem RBy_some (w : World) (r : Nat) (A : Option Addr) (c : Nat) (S : List AccM) (n : List UInt8) (Hr : Has w r (rowL [.slice A S.length c] 43)) (hR : RdT w 3 AccM.cells (.slice A S.length c) S) (hS : Accs S) (a : AccM) (hg : getS S n = some a) : Calls Tryz.prog 38 ⟨[(ptr r), (Value.string (str n))]⟩ w (fun e w' => e = .returned (Value.string (str (ownE S n))) ∧ Keeps none_ w w') := by
 have Hrl := Hr.lt
 have hcap := RdT.len AccM.three (by decide) hR
 unfold maxLen at hcap
 have hfs := find_some hS hg
 have hf2 := hfs.2
 have hfl := (List.getElem?_eq_some_iff.1 hf2).1
 have hao := hS.ok a (getS_some hg).1
 have ha1 := hao.lo
 have ha2 := hao.hi
 have K0 : Keeps none_ w w := Keeps.refl w
 refine q_calls Tryz.func38 (by kernel_rfl) (by kernel_rfl) ?_
 refine qs ?_
 refine qg ?_
 refine og 1 [(0, (ptr r)), (1, (Value.string (str n))), (4, (Value.string (str ([] : List UInt8))))] 1 ?_
 refine od ?_
 refine qs ?_
 refine qg ?_
 refine og 2 [(0, (ptr r)), (4, (Value.string (str ([] : List UInt8)))), (8, (ptr r)), (9, (Value.string (str n)))] 2 ?_
 refine Ops.call (by kernel_rfl) (d := (some 10)) (by kernel_rfl) (find_calls _ r A c S n Hr hR) ?_
 rintro _ w2 ⟨rfl, K1⟩
 refine ⟨_, _, rfl, rfl, ?_⟩
 replace K0 := K0.t0 K1
 replace Hr := Hr.keep K1 (fun h => h)
 replace hR := (Rd.keep0 (by omega) hR K1)
 clear K1
 obtain ⟨rb3, ro4, hA5⟩ := Rd.addr hR (by omega)
 refine og 5 [(0, (ptr r)), (4, (Value.string (str ([] : List UInt8)))), (5, (i64 ((posS S n : Nat) : Int))), (6, (Value.bool (hasS S n)))] 8 ?_
 refine od ?_
 refine qs ?_
 refine qs ?_
 refine qg ?_
 refine og 2 [(0, (ptr r)), (4, (Value.string (str ([] : List UInt8)))), (5, (i64 ((posS S n : Nat) : Int))), (14, (Value.bool (!(hasS S n))))] 2 ?_
 refine od ?_
 have h6 : (!(hasS S n)) = false := by rw [show (hasS S n) = true from hfs.1]; rfl
 rw [h6]
 refine q_else (o := .tmp 14) (by kernel_rfl) rfl ?_
 refine q_skip (by kernel_rfl) ?_
 refine qs ?_
 refine qg ?_
 refine og 3 [(4, (Value.string (str ([] : List UInt8)))), (5, (i64 ((posS S n : Nat) : Int))), (17, (ptr r))] 3 ?_
 refine Ops.go (v := (Value.slice A S.length c)) (by kernel_rfl) (Runs.load (t := 41) (a := ⟨r, 0, none⟩) (by kernel_rfl) (Hr.loads (by kernel_rfl))) (d := (some 18)) (by kernel_rfl) rfl ?_
 refine og 1 [(4, (Value.string (str ([] : List UInt8)))), (18, (Value.slice A S.length c)), (19, (i64 ((posS S n : Nat) : Int)))] 5 ?_
 refine Ops.go (by kernel_rfl) (Runs.ixSliceE (k := IntKind.i64) (t := 41) (len := S.length) (cap := c) (s := 3) (off' := ro4 + (posS S n) * 3) (i := ((posS S n : Nat) : Int)) hA5 (by kernel_rfl) (by kernel_rfl) (by omega) (by omega) (by omega)) (d := (some 20)) (by kernel_rfl) rfl ?_
 refine og 1 [(4, (Value.string (str ([] : List UInt8)))), (21, (Value.pointer (some ⟨rb3, ro4 + (posS S n) * 3 + 2, none⟩)))] 7 ?_
 refine Ops.go (v := (Value.string (str a.own))) (by kernel_rfl) (Runs.load (t := 9) (a := ⟨rb3, ro4 + (posS S n) * 3 + 2, none⟩) (by kernel_rfl) (RdT.ldf (f := AccM.cells) (x := a) (o := 2) AccM.three hR (by kernel_rfl) hA5 hf2 rfl)) (d := (some 22)) (by kernel_rfl) rfl ?_
 refine og 1 [(4, (Value.string (str a.own)))] 9 ?_
 refine od ?_
 refine q_ret (by kernel_rfl) ?_
 refine ⟨(Value.string (str a.own)), retv_tmp rfl rfl, ?_⟩
 exact ⟨by unfold ownE; rw [hg], K0⟩

theorem RBy_calls (w : World) (r : Nat) (A : Option Addr) (c : Nat) (S : List AccM) (n : List UInt8) (Hr : Has w r (rowL [.slice A S.length c] 43)) (hR : RdT w 3 AccM.cells (.slice A S.length c) S) (hS : Accs S) : Calls Tryz.prog 38 ⟨[(ptr r), (Value.string (str n))]⟩ w (fun e w' => e = .returned (Value.string (str (ownE S n))) ∧ Keeps none_ w w') := by
 cases hg : getS S n with
 | none => exact RBy_none w r A c S n Hr hR hS hg
 | some a => exact RBy_some w r A c S n Hr hR hS a hg
end Go.Proofs.YtooginpgclcldaaGreatDoor
