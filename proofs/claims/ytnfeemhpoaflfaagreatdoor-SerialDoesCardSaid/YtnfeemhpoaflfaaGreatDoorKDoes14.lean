/- What the claim stands on, part 14: rules of the walk, contracts of the functions, plain laws. -/
import Derived.Test.YtnfeemhpoaflfaaGreatDoorProg
import Derived.Test.YtnfeemhpoaflfaaGreatDoorKDoes13
import Derived.Test.YtnfeemhpoaflfaaGreatDoorKDoes6
import Derived.Test.YtnfeemhpoaflfaaGreatDoorKDoes12
import Derived.Test.YtnfeemhpoaflfaaGreatDoorKDoes9
import Derived.Test.YtnfeemhpoaflfaaGreatDoorKDoes10
set_option linter.unusedVariables false
namespace Go.Proofs.YtnfeemhpoaflfaaGreatDoor
open Go.Q Go.RowKit
theorem tyRK2 : ElemTy Tryz.prog 43 90 10 120 := elemTy (by kernel_rfl)

set_option maxHeartbeats 4000000 in
theorem Rsorted_calls (w : World) (r : Nat) (A : Option Addr) (c : Nat) (S : List RowM) (B : Option Addr) (d : Nat) (K : List KeptM) (Hr : Has w r (rowL [.slice A S.length c, .slice B K.length d] 45)) (hR : RdT w 2 RowM.cells (.slice A S.length c) S) (hQ : RdT w 10 kref (.slice B K.length d) K) (hKl : K.length ≤ 1000) : Calls Tryz.prog 43 ⟨[(ptr r)]⟩ w (fun e w' => ∃ A' c', e = .returned (.slice A' (sortK K).length c') ∧ Keeps none_ w w' ∧ OwnT w' w.heap.size 90 10 kref (.slice A' (sortK K).length c') (sortK K)) := by
 have Hrl := Hr.lt
 have hcap := RdT.len RowM.two (by decide) hR
 have hcapk := RdT.len kref10 (by decide) hQ
 unfold maxLen at hcap hcapk
 have K0 : Keeps none_ w w := Keeps.refl w
 refine q_calls Tryz.func43 (by kernel_rfl) (by kernel_rfl) ?_
 refine qs ?_
 refine qg ?_
 refine og 1 [(0, (ptr r)), (2, (Value.slice none 0 0))] 1 ?_
 refine od ?_
 refine qs ?_
 refine qg ?_
 refine og 1 [(0, (ptr r)), (2, (Value.slice none 0 0)), (3, (Value.slice none 0 0))] 1 ?_
 refine od ?_
 refine qs ?_
 refine qs ?_
 refine qg ?_
 refine og 1 [(0, (ptr r)), (2, (Value.slice none 0 0)), (3, (Value.slice none 0 0)), (4, (i64 0))] 1 ?_
 refine od ?_
 refine q_block (id := 0) (by kernel_rfl) ?_
 refine q_keep (R := [(0, (ptr r)), (2, (Value.slice none 0 0)), (3, (Value.slice none 0 0)), (4, (i64 0))]) (by kernel_rfl) ?_
 refine q_loop (fun (gs : (Option Addr) × Nat × Nat × (List KeptM)) L (wx : World) => match gs with | (VA, vc, i, l) => L = [(0, (ptr r)), (2, (Value.slice none 0 0)), (3, (Value.slice VA l.length vc)), (4, (i64 ((i : Nat) : Int)))] ∧ OwnT wx w.heap.size 90 10 kref (Value.slice VA l.length vc) l ∧ (∀ i, ((Value.slice VA l.length vc)).ownBlock = some i → i ≠ r) ∧ i ≤ K.length ∧ l = sortK (K.take i) ∧ l.length = i ∧ Keeps none_ w wx ∧ Has wx r (rowL [(Value.slice A S.length c), (Value.slice B K.length d)] 45)) (fun (gs : (Option Addr) × Nat × Nat × (List KeptM)) => match gs with | (VA, vc, i, l) => K.length - i) (none, 0, 0, []) (by kernel_rfl) ⟨rfl, (OwnT.nil _ _ _ _ _), (fun i hi => by cases hi), Nat.zero_le _, rfl, rfl, K0, Hr⟩ ?_
 clear Hr K0
 rintro ⟨VA, vc, i, l⟩ _ w1 ⟨rfl, hOV, obVr, hi, hE, hli, K2, H3⟩
 refine qs ?_
 refine qs ?_
 refine qg ?_
 refine og 4 [(0, (ptr r)), (2, (Value.slice none 0 0)), (3, (Value.slice VA l.length vc)), (4, (i64 ((i : Nat) : Int))), (7, (i64 ((i : Nat) : Int))), (10, (Value.pointer (some ⟨r, 1, none⟩)))] 4 ?_
 refine Ops.go (v := (Value.slice B K.length d)) (by kernel_rfl) (Runs.load (t := 43) (a := ⟨r, 1, none⟩) (by kernel_rfl) (H3.loads (by kernel_rfl))) (d := (some 11)) (by kernel_rfl) rfl ?_
 refine og 2 [(0, (ptr r)), (2, (Value.slice none 0 0)), (3, (Value.slice VA l.length vc)), (4, (i64 ((i : Nat) : Int))), (13, (Value.bool (decide (((i : Nat) : Int) < ((K.length : Nat) : Int)))))] 7 ?_
 refine od ?_
 refine q_cond (o := .tmp 13) (b := (decide (((i : Nat) : Int) < ((K.length : Nat) : Int)))) (by kernel_rfl) rfl (fun h4 => ?_) (fun h4 => ?_)
 ·rw [h4]
  have p5 : ((i : Nat) : Int) < ((K.length : Nat) : Int) := of_decide_eq_true h4
  obtain ⟨x, hx⟩ : ∃ y, K[i]? = some y := ⟨_, List.getElem?_eq_getElem (by omega)⟩
  obtain ⟨rb6, ro7, hA8⟩ := Rd.addr (Rd.keep0 (by decide) hQ K2) (by omega)
  refine q_skip (by kernel_rfl) ?_
  refine qs ?_
  refine q_block (id := 1) (by kernel_rfl) ?_
  refine qs ?_
  refine qg ?_
  refine og 1 [(0, (ptr r)), (2, (Value.slice none 0 0)), (3, (Value.slice VA l.length vc)), (4, (i64 ((i : Nat) : Int))), (5, (i64 0)), (13, (Value.bool true))] 1 ?_
  refine od ?_
  refine qs ?_
  refine q_block (id := 2) (by kernel_rfl) ?_
  refine q_keep (R := [(0, (ptr r)), (2, (Value.slice none 0 0)), (3, (Value.slice VA l.length vc)), (4, (i64 ((i : Nat) : Int))), (5, (i64 0)), (13, (Value.bool true))]) (by kernel_rfl) ?_
  refine q_loop (fun (kk : Nat) L (wx : World) => L = [(0, (ptr r)), (2, (Value.slice none 0 0)), (3, (Value.slice VA l.length vc)), (4, (i64 ((i : Nat) : Int))), (5, (i64 ((kk : Nat) : Int))), (13, (Value.bool true))] ∧ OwnT wx w.heap.size 90 10 kref (Value.slice VA l.length vc) l ∧ kk ≤ posK l x ∧ Keeps none_ w wx ∧ Has wx r (rowL [(Value.slice A S.length c), (Value.slice B K.length d)] 45)) (fun (kk : Nat) => l.length - kk) 0 (by kernel_rfl) ⟨rfl, hOV, Nat.zero_le _, K2, H3⟩ ?_
  clear H3 hOV K2
  rintro kk _ w9 ⟨rfl, hC0, hkk, K10, H11⟩
  have hpl := posk_le l x
  refine qs ?_
  refine qs ?_
  refine q_draw (fun wz => Keeps none_ w9 wz) 58 (by kernel_rfl) (by kernel_rfl) (by kernel_rfl) (fun w12 K13 _ _ => ⟨K13, ?_⟩)
  replace K10 := K10.trans K13 (U := none_) (fun i h1 h2 => h2) (fun i h1 h2 => by exact h2)
  replace H11 := H11.keep K13 (fun h => h)
  replace hC0 := own_keep0 hC0 K13
  refine Dr.strong (S' := (fun wz => Keeps none_ w12 wz)) (Keeps.refl w12) (fun wz hx => K13.trans hx (fun i _ h => h) (fun _ _ h => h)) ?_
  clear K13
  refine Dr.takes (fuel' := 53) (is' := [4, 3, 2, 1, 0]) [0, 1, 2, 3, 4] [(0, (ptr r)), (2, (Value.slice none 0 0)), (3, (Value.slice VA l.length vc)), (4, (i64 ((i : Nat) : Int))), (5, (i64 ((kk : Nat) : Int))), (13, (Value.bool true)), (20, (Value.bool (decide (((kk : Nat) : Int) < ((l.length : Nat) : Int)))))] (by kernel_rfl) rfl (by kernel_rfl) ?_
  refine Dr.split (decide (((kk : Nat) : Int) < ((l.length : Nat) : Int))) (fun h14 => ?_) (fun h14 => ?_)
  ·rw [h14]
   have p15 : ((kk : Nat) : Int) < ((l.length : Nat) : Int) := of_decide_eq_true h14
   obtain ⟨z, hz⟩ : ∃ y, l[kk]? = some y := ⟨_, List.getElem?_eq_getElem (by omega)⟩
   obtain ⟨rb16, ro17, hA18⟩ := Rd.addr (OwnT.rd hC0) (by omega)
   refine Dr.takes (fuel' := 51) (is' := [6, 5, 4, 3, 2, 1, 0]) [5, 6] [(0, (ptr r)), (2, (Value.slice none 0 0)), (3, (Value.slice VA l.length vc)), (4, (i64 ((i : Nat) : Int))), (5, (i64 ((kk : Nat) : Int))), (13, (Value.bool true)), (20, (Value.bool true)), (21, (Value.slice VA l.length vc)), (22, (i64 ((kk : Nat) : Int)))] (by kernel_rfl) rfl (by kernel_rfl) ?_
   refine Dr.take (i := 7) (v := (Value.pointer (some ⟨rb16, ro17 + kk * 10, none⟩))) (by kernel_rfl) (by kernel_rfl) (fun wz hS => Runs.ixSliceE (k := IntKind.i64) (t := 43) (len := l.length) (cap := vc) (s := 10) (off' := ro17 + kk * 10) (i := ((kk : Nat) : Int)) hA18 (by kernel_rfl) (by kernel_rfl) (by omega) (by omega) (by omega)) (d := (some 23)) (by kernel_rfl) rfl ?_
   refine Dr.takes (fuel' := 48) (is' := [9, 8, 7, 6, 5, 4, 3, 2, 1, 0]) [8, 9] [(0, (ptr r)), (2, (Value.slice none 0 0)), (3, (Value.slice VA l.length vc)), (4, (i64 ((i : Nat) : Int))), (5, (i64 ((kk : Nat) : Int))), (13, (Value.bool true)), (20, (Value.bool true)), (25, (Value.pointer (some ⟨rb16, ro17 + kk * 10 + 1, none⟩)))] (by kernel_rfl) rfl (by kernel_rfl) ?_
   refine Dr.take (i := 10) (v := (Value.string (str z.op.frm))) (by kernel_rfl) (by kernel_rfl) (fun wz hS => Runs.load (t := 9) (a := ⟨rb16, ro17 + kk * 10 + 1, none⟩) (by kernel_rfl) (RdT.ldf (f := kref) (x := z) (o := 1) kref10 (OwnT.rd (own_keep0 hC0 hS)) (by kernel_rfl) hA18 hz rfl)) (d := (some 26)) (by kernel_rfl) rfl ?_
   refine Dr.takes (fuel' := 44) (is' := [13, 12, 11, 10, 9, 8, 7, 6, 5, 4, 3, 2, 1, 0]) [11, 12, 13] [(0, (ptr r)), (2, (Value.slice none 0 0)), (3, (Value.slice VA l.length vc)), (4, (i64 ((i : Nat) : Int))), (5, (i64 ((kk : Nat) : Int))), (13, (Value.bool true)), (20, (Value.bool true)), (26, (Value.string (str z.op.frm))), (29, (Value.pointer (some ⟨r, 1, none⟩)))] (by kernel_rfl) rfl (by kernel_rfl) ?_
   refine Dr.take (i := 14) (v := (Value.slice B K.length d)) (by kernel_rfl) (by kernel_rfl) (fun wz hS => Runs.load (t := 43) (a := ⟨r, 1, none⟩) (by kernel_rfl) ((H11.keep hS (fun h => h)).loads (by kernel_rfl))) (d := (some 30)) (by kernel_rfl) rfl ?_
   refine Dr.takes (fuel' := 42) (is' := [15, 14, 13, 12, 11, 10, 9, 8, 7, 6, 5, 4, 3, 2, 1, 0]) [15] [(0, (ptr r)), (2, (Value.slice none 0 0)), (3, (Value.slice VA l.length vc)), (4, (i64 ((i : Nat) : Int))), (5, (i64 ((kk : Nat) : Int))), (13, (Value.bool true)), (20, (Value.bool true)), (26, (Value.string (str z.op.frm))), (30, (Value.slice B K.length d)), (31, (i64 ((i : Nat) : Int)))] (by kernel_rfl) rfl (by kernel_rfl) ?_
   refine Dr.take (i := 16) (v := (Value.pointer (some ⟨rb6, ro7 + i * 10, none⟩))) (by kernel_rfl) (by kernel_rfl) (fun wz hS => Runs.ixSliceE (k := IntKind.i64) (t := 43) (len := K.length) (cap := d) (s := 10) (off' := ro7 + i * 10) (i := ((i : Nat) : Int)) hA8 (by kernel_rfl) (by kernel_rfl) (by omega) (by omega) (by omega)) (d := (some 32)) (by kernel_rfl) rfl ?_
   refine Dr.takes (fuel' := 39) (is' := [18, 17, 16, 15, 14, 13, 12, 11, 10, 9, 8, 7, 6, 5, 4, 3, 2, 1, 0]) [17, 18] [(0, (ptr r)), (2, (Value.slice none 0 0)), (3, (Value.slice VA l.length vc)), (4, (i64 ((i : Nat) : Int))), (5, (i64 ((kk : Nat) : Int))), (13, (Value.bool true)), (20, (Value.bool true)), (26, (Value.string (str z.op.frm))), (34, (Value.pointer (some ⟨rb6, ro7 + i * 10 + 1, none⟩)))] (by kernel_rfl) rfl (by kernel_rfl) ?_
   refine Dr.take (i := 19) (v := (Value.string (str x.op.frm))) (by kernel_rfl) (by kernel_rfl) (fun wz hS => Runs.load (t := 9) (a := ⟨rb6, ro7 + i * 10 + 1, none⟩) (by kernel_rfl) (RdT.ldf (f := kref) (x := x) (o := 1) kref10 (Rd.keep0 (by decide) hQ (K10.trans hS (fun _ _ h => h) (fun _ _ h => h))) (by kernel_rfl) hA8 hx rfl)) (d := (some 35)) (by kernel_rfl) rfl ?_
   refine Dr.take (i := 20) (v := (Value.bool (decide (z.op.frm < x.op.frm)))) (by kernel_rfl) (by kernel_rfl) (fun wz hS => Runs.strlss (t := 9) (by kernel_rfl)) (d := (some 36)) (by kernel_rfl) rfl ?_
   refine Dr.takes (fuel' := 36) (is' := [21, 20, 19, 18, 17, 16, 15, 14, 13, 12, 11, 10, 9, 8, 7, 6, 5, 4, 3, 2, 1, 0]) [21] [(0, (ptr r)), (2, (Value.slice none 0 0)), (3, (Value.slice VA l.length vc)), (4, (i64 ((i : Nat) : Int))), (5, (i64 ((kk : Nat) : Int))), (13, (Value.bool true)), (20, (Value.bool true)), (37, (Value.bool (decide (z.op.frm < x.op.frm))))] (by kernel_rfl) rfl (by kernel_rfl) ?_
   refine Dr.split (decide (z.op.frm < x.op.frm)) (fun h19 => ?_) (fun h19 => ?_)
   ·rw [h19]
    have p20 : (decide (z.op.frm < x.op.frm)) = true := h19
    have hlt : ltI z.id x.id := .inl (of_decide_eq_true h19)
    refine Dr.takes (fuel' := 0) (is' := [57, 56, 55, 54, 53, 52, 51, 50, 49, 48, 47, 46, 45, 44, 43, 42, 41, 40, 39, 38, 37, 36, 35, 34, 33, 32, 31, 30, 29, 28, 27, 26, 25, 24, 23, 22, 21, 20, 19, 18, 17, 16, 15, 14, 13, 12, 11, 10, 9, 8, 7, 6, 5, 4, 3, 2, 1, 0]) [22, 23, 24, 25, 26, 27, 28, 29, 30, 31, 32, 33, 34, 35, 36, 37, 38, 39, 40, 41, 42, 43, 44, 45, 46, 47, 48, 49, 50, 51, 52, 53, 54, 55, 56, 57] [(0, (ptr r)), (2, (Value.slice none 0 0)), (3, (Value.slice VA l.length vc)), (4, (i64 ((i : Nat) : Int))), (5, (i64 ((kk : Nat) : Int))), (13, (Value.bool true)), (73, (Value.bool true))] (by kernel_rfl) rfl (by kernel_rfl) ?_
    refine Dr.done (by kernel_rfl) ?_
    refine q_then (o := .tmp 73) (by kernel_rfl) rfl ?_
    refine q_skip (by kernel_rfl) ?_
    refine q_block (id := 3) (by kernel_rfl) ?_
    refine qg ?_
    refine og 2 [(0, (ptr r)), (2, (Value.slice none 0 0)), (3, (Value.slice VA l.length vc)), (4, (i64 ((i : Nat) : Int))), (5, (i64 ((kk : Nat) : Int))), (13, (Value.bool true)), (73, (Value.bool true)), (75, (i64 (IntKind.i64.wrap (((kk : Nat) : Int) + 1))))] 2 ?_
    have e21 : IntKind.i64.wrap (((kk : Nat) : Int) + 1) = ((kk + 1 : Nat) : Int) := by rw [wrap_i64 (by omega) (by omega)]; omega
    rw [e21]
    clear e21
    refine og 1 [(0, (ptr r)), (2, (Value.slice none 0 0)), (3, (Value.slice VA l.length vc)), (4, (i64 ((i : Nat) : Int))), (5, (i64 ((kk + 1 : Nat) : Int))), (13, (Value.bool true)), (73, (Value.bool true))] 3 ?_
    refine Ops.keep (R := [(0, (ptr r)), (2, (Value.slice none 0 0)), (3, (Value.slice VA l.length vc)), (4, (i64 ((i : Nat) : Int))), (5, (i64 ((kk + 1 : Nat) : Int))), (13, (Value.bool true))]) (by kernel_rfl) ?_
    refine od ?_
    exact ⟨kk + 1, ⟨rfl, hC0, (posk_step hz hlt hkk), K10, H11⟩, (show l.length - (kk + 1) < l.length - kk from by omega)⟩
   ·rw [h19]
    have p22 : (decide (z.op.frm < x.op.frm)) = false := h19
    have hnf := of_decide_eq_false h19
    refine Dr.takes (fuel' := 34) (is' := [23, 22, 21, 20, 19, 18, 17, 16, 15, 14, 13, 12, 11, 10, 9, 8, 7, 6, 5, 4, 3, 2, 1, 0]) [22, 23] [(0, (ptr r)), (2, (Value.slice none 0 0)), (3, (Value.slice VA l.length vc)), (4, (i64 ((i : Nat) : Int))), (5, (i64 ((kk : Nat) : Int))), (13, (Value.bool true)), (20, (Value.bool true)), (37, (Value.bool false)), (38, (Value.slice VA l.length vc)), (39, (i64 ((kk : Nat) : Int)))] (by kernel_rfl) rfl (by kernel_rfl) ?_
    refine Dr.take (i := 24) (v := (Value.pointer (some ⟨rb16, ro17 + kk * 10, none⟩))) (by kernel_rfl) (by kernel_rfl) (fun wz hS => Runs.ixSliceE (k := IntKind.i64) (t := 43) (len := l.length) (cap := vc) (s := 10) (off' := ro17 + kk * 10) (i := ((kk : Nat) : Int)) hA18 (by kernel_rfl) (by kernel_rfl) (by omega) (by omega) (by omega)) (d := (some 40)) (by kernel_rfl) rfl ?_
    refine Dr.takes (fuel' := 31) (is' := [26, 25, 24, 23, 22, 21, 20, 19, 18, 17, 16, 15, 14, 13, 12, 11, 10, 9, 8, 7, 6, 5, 4, 3, 2, 1, 0]) [25, 26] [(0, (ptr r)), (2, (Value.slice none 0 0)), (3, (Value.slice VA l.length vc)), (4, (i64 ((i : Nat) : Int))), (5, (i64 ((kk : Nat) : Int))), (13, (Value.bool true)), (20, (Value.bool true)), (37, (Value.bool false)), (42, (Value.pointer (some ⟨rb16, ro17 + kk * 10 + 1, none⟩)))] (by kernel_rfl) rfl (by kernel_rfl) ?_
    refine Dr.take (i := 27) (v := (Value.string (str z.op.frm))) (by kernel_rfl) (by kernel_rfl) (fun wz hS => Runs.load (t := 9) (a := ⟨rb16, ro17 + kk * 10 + 1, none⟩) (by kernel_rfl) (RdT.ldf (f := kref) (x := z) (o := 1) kref10 (OwnT.rd (own_keep0 hC0 hS)) (by kernel_rfl) hA18 hz rfl)) (d := (some 43)) (by kernel_rfl) rfl ?_
    refine Dr.takes (fuel' := 27) (is' := [30, 29, 28, 27, 26, 25, 24, 23, 22, 21, 20, 19, 18, 17, 16, 15, 14, 13, 12, 11, 10, 9, 8, 7, 6, 5, 4, 3, 2, 1, 0]) [28, 29, 30] [(0, (ptr r)), (2, (Value.slice none 0 0)), (3, (Value.slice VA l.length vc)), (4, (i64 ((i : Nat) : Int))), (5, (i64 ((kk : Nat) : Int))), (13, (Value.bool true)), (20, (Value.bool true)), (37, (Value.bool false)), (43, (Value.string (str z.op.frm))), (46, (Value.pointer (some ⟨r, 1, none⟩)))] (by kernel_rfl) rfl (by kernel_rfl) ?_
    refine Dr.take (i := 31) (v := (Value.slice B K.length d)) (by kernel_rfl) (by kernel_rfl) (fun wz hS => Runs.load (t := 43) (a := ⟨r, 1, none⟩) (by kernel_rfl) ((H11.keep hS (fun h => h)).loads (by kernel_rfl))) (d := (some 47)) (by kernel_rfl) rfl ?_
    refine Dr.takes (fuel' := 25) (is' := [32, 31, 30, 29, 28, 27, 26, 25, 24, 23, 22, 21, 20, 19, 18, 17, 16, 15, 14, 13, 12, 11, 10, 9, 8, 7, 6, 5, 4, 3, 2, 1, 0]) [32] [(0, (ptr r)), (2, (Value.slice none 0 0)), (3, (Value.slice VA l.length vc)), (4, (i64 ((i : Nat) : Int))), (5, (i64 ((kk : Nat) : Int))), (13, (Value.bool true)), (20, (Value.bool true)), (37, (Value.bool false)), (43, (Value.string (str z.op.frm))), (47, (Value.slice B K.length d)), (48, (i64 ((i : Nat) : Int)))] (by kernel_rfl) rfl (by kernel_rfl) ?_
    refine Dr.take (i := 33) (v := (Value.pointer (some ⟨rb6, ro7 + i * 10, none⟩))) (by kernel_rfl) (by kernel_rfl) (fun wz hS => Runs.ixSliceE (k := IntKind.i64) (t := 43) (len := K.length) (cap := d) (s := 10) (off' := ro7 + i * 10) (i := ((i : Nat) : Int)) hA8 (by kernel_rfl) (by kernel_rfl) (by omega) (by omega) (by omega)) (d := (some 49)) (by kernel_rfl) rfl ?_
    refine Dr.takes (fuel' := 22) (is' := [35, 34, 33, 32, 31, 30, 29, 28, 27, 26, 25, 24, 23, 22, 21, 20, 19, 18, 17, 16, 15, 14, 13, 12, 11, 10, 9, 8, 7, 6, 5, 4, 3, 2, 1, 0]) [34, 35] [(0, (ptr r)), (2, (Value.slice none 0 0)), (3, (Value.slice VA l.length vc)), (4, (i64 ((i : Nat) : Int))), (5, (i64 ((kk : Nat) : Int))), (13, (Value.bool true)), (20, (Value.bool true)), (37, (Value.bool false)), (43, (Value.string (str z.op.frm))), (51, (Value.pointer (some ⟨rb6, ro7 + i * 10 + 1, none⟩)))] (by kernel_rfl) rfl (by kernel_rfl) ?_
    refine Dr.take (i := 36) (v := (Value.string (str x.op.frm))) (by kernel_rfl) (by kernel_rfl) (fun wz hS => Runs.load (t := 9) (a := ⟨rb6, ro7 + i * 10 + 1, none⟩) (by kernel_rfl) (RdT.ldf (f := kref) (x := x) (o := 1) kref10 (Rd.keep0 (by decide) hQ (K10.trans hS (fun _ _ h => h) (fun _ _ h => h))) (by kernel_rfl) hA8 hx rfl)) (d := (some 52)) (by kernel_rfl) rfl ?_
    refine Dr.take (i := 37) (v := (Value.bool (z.op.frm == x.op.frm))) (by kernel_rfl) (by kernel_rfl) (fun wz hS => Runs.streq (t := 9) (by kernel_rfl)) (d := (some 53)) (by kernel_rfl) rfl ?_
    refine Dr.takes (fuel' := 19) (is' := [38, 37, 36, 35, 34, 33, 32, 31, 30, 29, 28, 27, 26, 25, 24, 23, 22, 21, 20, 19, 18, 17, 16, 15, 14, 13, 12, 11, 10, 9, 8, 7, 6, 5, 4, 3, 2, 1, 0]) [38] [(0, (ptr r)), (2, (Value.slice none 0 0)), (3, (Value.slice VA l.length vc)), (4, (i64 ((i : Nat) : Int))), (5, (i64 ((kk : Nat) : Int))), (13, (Value.bool true)), (20, (Value.bool true)), (37, (Value.bool false)), (54, (Value.bool (z.op.frm == x.op.frm)))] (by kernel_rfl) rfl (by kernel_rfl) ?_
    refine Dr.split (z.op.frm == x.op.frm) (fun h23 => ?_) (fun h23 => ?_)
    ·rw [h23]
     have p24 : (z.op.frm == x.op.frm) = true := h23
     have hfe : z.op.frm = x.op.frm := eq_of_beq h23
     refine Dr.takes (fuel' := 17) (is' := [40, 39, 38, 37, 36, 35, 34, 33, 32, 31, 30, 29, 28, 27, 26, 25, 24, 23, 22, 21, 20, 19, 18, 17, 16, 15, 14, 13, 12, 11, 10, 9, 8, 7, 6, 5, 4, 3, 2, 1, 0]) [39, 40] [(0, (ptr r)), (2, (Value.slice none 0 0)), (3, (Value.slice VA l.length vc)), (4, (i64 ((i : Nat) : Int))), (5, (i64 ((kk : Nat) : Int))), (13, (Value.bool true)), (20, (Value.bool true)), (37, (Value.bool false)), (54, (Value.bool true)), (55, (Value.slice VA l.length vc)), (56, (i64 ((kk : Nat) : Int)))] (by kernel_rfl) rfl (by kernel_rfl) ?_
     refine Dr.take (i := 41) (v := (Value.pointer (some ⟨rb16, ro17 + kk * 10, none⟩))) (by kernel_rfl) (by kernel_rfl) (fun wz hS => Runs.ixSliceE (k := IntKind.i64) (t := 43) (len := l.length) (cap := vc) (s := 10) (off' := ro17 + kk * 10) (i := ((kk : Nat) : Int)) hA18 (by kernel_rfl) (by kernel_rfl) (by omega) (by omega) (by omega)) (d := (some 57)) (by kernel_rfl) rfl ?_
     refine Dr.takes (fuel' := 14) (is' := [43, 42, 41, 40, 39, 38, 37, 36, 35, 34, 33, 32, 31, 30, 29, 28, 27, 26, 25, 24, 23, 22, 21, 20, 19, 18, 17, 16, 15, 14, 13, 12, 11, 10, 9, 8, 7, 6, 5, 4, 3, 2, 1, 0]) [42, 43] [(0, (ptr r)), (2, (Value.slice none 0 0)), (3, (Value.slice VA l.length vc)), (4, (i64 ((i : Nat) : Int))), (5, (i64 ((kk : Nat) : Int))), (13, (Value.bool true)), (20, (Value.bool true)), (37, (Value.bool false)), (54, (Value.bool true)), (59, (Value.pointer (some ⟨rb16, ro17 + kk * 10 + 4, none⟩)))] (by kernel_rfl) rfl (by kernel_rfl) ?_
     refine Dr.take (i := 44) (v := (Value.string (str z.op.key))) (by kernel_rfl) (by kernel_rfl) (fun wz hS => Runs.load (t := 9) (a := ⟨rb16, ro17 + kk * 10 + 4, none⟩) (by kernel_rfl) (RdT.ldf (f := kref) (x := z) (o := 4) kref10 (OwnT.rd (own_keep0 hC0 hS)) (by kernel_rfl) hA18 hz rfl)) (d := (some 60)) (by kernel_rfl) rfl ?_
     refine Dr.takes (fuel' := 10) (is' := [47, 46, 45, 44, 43, 42, 41, 40, 39, 38, 37, 36, 35, 34, 33, 32, 31, 30, 29, 28, 27, 26, 25, 24, 23, 22, 21, 20, 19, 18, 17, 16, 15, 14, 13, 12, 11, 10, 9, 8, 7, 6, 5, 4, 3, 2, 1, 0]) [45, 46, 47] [(0, (ptr r)), (2, (Value.slice none 0 0)), (3, (Value.slice VA l.length vc)), (4, (i64 ((i : Nat) : Int))), (5, (i64 ((kk : Nat) : Int))), (13, (Value.bool true)), (20, (Value.bool true)), (37, (Value.bool false)), (54, (Value.bool true)), (60, (Value.string (str z.op.key))), (63, (Value.pointer (some ⟨r, 1, none⟩)))] (by kernel_rfl) rfl (by kernel_rfl) ?_
     refine Dr.take (i := 48) (v := (Value.slice B K.length d)) (by kernel_rfl) (by kernel_rfl) (fun wz hS => Runs.load (t := 43) (a := ⟨r, 1, none⟩) (by kernel_rfl) ((H11.keep hS (fun h => h)).loads (by kernel_rfl))) (d := (some 64)) (by kernel_rfl) rfl ?_
     refine Dr.takes (fuel' := 8) (is' := [49, 48, 47, 46, 45, 44, 43, 42, 41, 40, 39, 38, 37, 36, 35, 34, 33, 32, 31, 30, 29, 28, 27, 26, 25, 24, 23, 22, 21, 20, 19, 18, 17, 16, 15, 14, 13, 12, 11, 10, 9, 8, 7, 6, 5, 4, 3, 2, 1, 0]) [49] [(0, (ptr r)), (2, (Value.slice none 0 0)), (3, (Value.slice VA l.length vc)), (4, (i64 ((i : Nat) : Int))), (5, (i64 ((kk : Nat) : Int))), (13, (Value.bool true)), (20, (Value.bool true)), (37, (Value.bool false)), (54, (Value.bool true)), (60, (Value.string (str z.op.key))), (64, (Value.slice B K.length d)), (65, (i64 ((i : Nat) : Int)))] (by kernel_rfl) rfl (by kernel_rfl) ?_
     refine Dr.take (i := 50) (v := (Value.pointer (some ⟨rb6, ro7 + i * 10, none⟩))) (by kernel_rfl) (by kernel_rfl) (fun wz hS => Runs.ixSliceE (k := IntKind.i64) (t := 43) (len := K.length) (cap := d) (s := 10) (off' := ro7 + i * 10) (i := ((i : Nat) : Int)) hA8 (by kernel_rfl) (by kernel_rfl) (by omega) (by omega) (by omega)) (d := (some 66)) (by kernel_rfl) rfl ?_
     refine Dr.takes (fuel' := 5) (is' := [52, 51, 50, 49, 48, 47, 46, 45, 44, 43, 42, 41, 40, 39, 38, 37, 36, 35, 34, 33, 32, 31, 30, 29, 28, 27, 26, 25, 24, 23, 22, 21, 20, 19, 18, 17, 16, 15, 14, 13, 12, 11, 10, 9, 8, 7, 6, 5, 4, 3, 2, 1, 0]) [51, 52] [(0, (ptr r)), (2, (Value.slice none 0 0)), (3, (Value.slice VA l.length vc)), (4, (i64 ((i : Nat) : Int))), (5, (i64 ((kk : Nat) : Int))), (13, (Value.bool true)), (20, (Value.bool true)), (37, (Value.bool false)), (54, (Value.bool true)), (60, (Value.string (str z.op.key))), (68, (Value.pointer (some ⟨rb6, ro7 + i * 10 + 4, none⟩)))] (by kernel_rfl) rfl (by kernel_rfl) ?_
     refine Dr.take (i := 53) (v := (Value.string (str x.op.key))) (by kernel_rfl) (by kernel_rfl) (fun wz hS => Runs.load (t := 9) (a := ⟨rb6, ro7 + i * 10 + 4, none⟩) (by kernel_rfl) (RdT.ldf (f := kref) (x := x) (o := 4) kref10 (Rd.keep0 (by decide) hQ (K10.trans hS (fun _ _ h => h) (fun _ _ h => h))) (by kernel_rfl) hA8 hx rfl)) (d := (some 69)) (by kernel_rfl) rfl ?_
     refine Dr.take (i := 54) (v := (Value.bool (decide (z.op.key < x.op.key)))) (by kernel_rfl) (by kernel_rfl) (fun wz hS => Runs.strlss (t := 9) (by kernel_rfl)) (d := (some 70)) (by kernel_rfl) rfl ?_
     refine Dr.takes (fuel' := 0) (is' := [57, 56, 55, 54, 53, 52, 51, 50, 49, 48, 47, 46, 45, 44, 43, 42, 41, 40, 39, 38, 37, 36, 35, 34, 33, 32, 31, 30, 29, 28, 27, 26, 25, 24, 23, 22, 21, 20, 19, 18, 17, 16, 15, 14, 13, 12, 11, 10, 9, 8, 7, 6, 5, 4, 3, 2, 1, 0]) [55, 56, 57] [(0, (ptr r)), (2, (Value.slice none 0 0)), (3, (Value.slice VA l.length vc)), (4, (i64 ((i : Nat) : Int))), (5, (i64 ((kk : Nat) : Int))), (13, (Value.bool true)), (73, (Value.bool (decide (z.op.key < x.op.key))))] (by kernel_rfl) rfl (by kernel_rfl) ?_
     refine Dr.done (by kernel_rfl) ?_
     refine q_cond (o := .tmp 73) (b := (decide (z.op.key < x.op.key))) (by kernel_rfl) rfl (fun h25 => ?_) (fun h25 => ?_)
     ·rw [h25]
      have p26 : (decide (z.op.key < x.op.key)) = true := h25
      have hlt : ltI z.id x.id := .inr ⟨hfe, of_decide_eq_true h25⟩
      refine q_skip (by kernel_rfl) ?_
      refine q_block (id := 3) (by kernel_rfl) ?_
      refine qg ?_
      refine og 2 [(0, (ptr r)), (2, (Value.slice none 0 0)), (3, (Value.slice VA l.length vc)), (4, (i64 ((i : Nat) : Int))), (5, (i64 ((kk : Nat) : Int))), (13, (Value.bool true)), (73, (Value.bool true)), (75, (i64 (IntKind.i64.wrap (((kk : Nat) : Int) + 1))))] 2 ?_
      have e27 : IntKind.i64.wrap (((kk : Nat) : Int) + 1) = ((kk + 1 : Nat) : Int) := by rw [wrap_i64 (by omega) (by omega)]; omega
      rw [e27]
      clear e27
      refine og 1 [(0, (ptr r)), (2, (Value.slice none 0 0)), (3, (Value.slice VA l.length vc)), (4, (i64 ((i : Nat) : Int))), (5, (i64 ((kk + 1 : Nat) : Int))), (13, (Value.bool true)), (73, (Value.bool true))] 3 ?_
      refine Ops.keep (R := [(0, (ptr r)), (2, (Value.slice none 0 0)), (3, (Value.slice VA l.length vc)), (4, (i64 ((i : Nat) : Int))), (5, (i64 ((kk + 1 : Nat) : Int))), (13, (Value.bool true))]) (by kernel_rfl) ?_
      refine od ?_
      exact ⟨kk + 1, ⟨rfl, hC0, (posk_step hz hlt hkk), K10, H11⟩, (show l.length - (kk + 1) < l.length - kk from by omega)⟩
     ·rw [h25]
      have p28 : (decide (z.op.key < x.op.key)) = false := h25
      have hpe := posk_exit hz (nlt_id hnf (fun q => of_decide_eq_false h25 q.2)) hkk
      have htk : (l.take kk).length = kk := by rw [List.length_take]; omega
      have hdk : (l.drop kk).length = l.length - kk := List.length_drop
      refine q_exit (id := 2) (by kernel_rfl) ?_
      refine qs ?_
      refine qg ?_
      refine og 1 [(0, (ptr r)), (2, (Value.slice none 0 0)), (3, (Value.slice VA l.length vc)), (4, (i64 ((i : Nat) : Int))), (5, (i64 ((kk : Nat) : Int))), (6, (Value.slice none 0 0)), (13, (Value.bool true)), (73, (Value.bool false))] 1 ?_
      refine od ?_
      refine qs ?_
      refine qg ?_
      refine og 3 [(0, (ptr r)), (2, (Value.slice none 0 0)), (3, (Value.slice VA l.length vc)), (4, (i64 ((i : Nat) : Int))), (5, (i64 ((kk : Nat) : Int))), (6, (Value.slice none 0 0)), (13, (Value.bool true)), (73, (Value.bool false)), (76, (Value.slice none 0 0)), (77, (Value.slice VA l.length vc)), (78, (i64 ((kk : Nat) : Int)))] 3 ?_
      obtain ⟨hr29, F30⟩ := run_hi (P := Tryz.prog) (t := 43) (e := 90) kref10 (by decide) (by kernel_rfl) (by kernel_rfl) (OwnT.rd hC0) (k := kk) (by omega)
      refine Ops.go (v := (Value.slice VA kk vc)) (by kernel_rfl) ((Runs.slice (by kernel_rfl) hr29)) (d := (some 79)) (by kernel_rfl) rfl ?_
      obtain ⟨v31, w32, hr33, hO34, hK35, hg36⟩ := OwnT.app (ty := 43) kref10 kref_one tyRK2 (OwnT.nil _ w.heap.size 90 10 kref) F30 (by (try simp only [List.length_append]); (try simp only [List.length_cons]); (try simp only [List.length_nil]); omega) (by (try simp only [List.length_append]); (try simp only [List.length_cons]); (try simp only [List.length_nil]); omega) K10.size
      obtain ⟨A38, c39, rfl⟩ := RdT.form kref10 (by decide) (OwnT.rd hO34)
      obtain ⟨l40, hl41⟩ : ∃ z, z = [] ++ l.take kk := ⟨_, rfl⟩
      rw [← hl41] at hr33 hO34 hg36
      have hn42 : l40.length = 0 + (l.take kk).length := by simp [hl41]
      have ob43 : ∀ i, ((Value.slice A38 l40.length c39)).ownBlock = some i → i ≠ r := fun i hi => by rcases hg36 i hi with h | h; (cases h); (have := H11.lt; omega)
      have oo44 : ∀ i, ((Value.slice VA l.length vc)).ownBlock = some i → ((Value.slice A38 l40.length c39)).ownBlock = some i → False := fun i hi hs => by rcases hg36 i hs with h | h; (cases h); (have := (World.ownsRow.lt hC0 i hi).2; omega)
      have oo45 : ∀ i, ((Value.slice A38 l40.length c39)).ownBlock = some i → ((Value.slice VA l.length vc)).ownBlock = some i → False := fun i hi hs => oo44 i hs hi
      have K37 := Keeps.mono (U := none_) hK35 (fun _ _ h => by cases h)
      refine Ops.go (v := (Value.slice A38 l40.length c39)) (by kernel_rfl) (Runs.append (ts := #[43, 43]) (ty := 43) (vs := [(Value.slice none 0 0), (Value.slice VA kk vc)]) (by kernel_rfl) hr33) (d := (some 80)) (by kernel_rfl) rfl ?_
      replace K10 := K10.trans K37 (U := none_) (fun i h1 h2 => h2) (fun i h1 h2 => by exact h2)
      replace H11 := H11.keep K37 (fun h => h)
      replace hC0 := own_keep0 hC0 K37
      replace F30 := (Rd.keep0 (by omega) F30 K37)
      clear K37 hr33 hK35 hg36
      refine og 1 [(0, (ptr r)), (2, (Value.slice none 0 0)), (3, (Value.slice VA l.length vc)), (4, (i64 ((i : Nat) : Int))), (5, (i64 ((kk : Nat) : Int))), (6, (Value.slice A38 l40.length c39)), (13, (Value.bool true)), (73, (Value.bool false))] 6 ?_
      refine od ?_
      refine qs ?_
      refine qg ?_
      refine og 4 [(0, (ptr r)), (2, (Value.slice none 0 0)), (3, (Value.slice VA l.length vc)), (4, (i64 ((i : Nat) : Int))), (5, (i64 ((kk : Nat) : Int))), (6, (Value.slice A38 l40.length c39)), (13, (Value.bool true)), (73, (Value.bool false)), (81, (Value.slice A38 l40.length c39)), (84, (Value.pointer (some ⟨r, 1, none⟩)))] 4 ?_
      refine Ops.go (v := (Value.slice B K.length d)) (by kernel_rfl) (Runs.load (t := 43) (a := ⟨r, 1, none⟩) (by kernel_rfl) (H11.loads (by kernel_rfl))) (d := (some 85)) (by kernel_rfl) rfl ?_
      refine og 1 [(0, (ptr r)), (2, (Value.slice none 0 0)), (3, (Value.slice VA l.length vc)), (4, (i64 ((i : Nat) : Int))), (5, (i64 ((kk : Nat) : Int))), (6, (Value.slice A38 l40.length c39)), (13, (Value.bool true)), (73, (Value.bool false)), (81, (Value.slice A38 l40.length c39)), (85, (Value.slice B K.length d)), (86, (i64 ((i : Nat) : Int)))] 6 ?_
      refine Ops.go (by kernel_rfl) (Runs.ixSliceE (k := IntKind.i64) (t := 43) (len := K.length) (cap := d) (s := 10) (off' := ro7 + i * 10) (i := ((i : Nat) : Int)) hA8 (by kernel_rfl) (by kernel_rfl) (by omega) (by omega) (by omega)) (d := (some 87)) (by kernel_rfl) rfl ?_
      refine Ops.go (v := (agg [(i64 x.op.kind), (Value.string (str x.op.frm)), (Value.string (str x.op.to)), (i64 x.op.amount), (Value.string (str x.op.key)), (i64 x.op.slot), (i64 x.op.shard), (i64 x.why), (i64 0), (Value.slice none 0 0)])) (by kernel_rfl) (Runs.load (t := 90) (a := ⟨rb6, ro7 + i * 10, none⟩) (by kernel_rfl) (RdT.ld (f := kref) (x := x) kref10 (Rd.keep0 (by decide) hQ K10) (by kernel_rfl) (by kernel_rfl) hA8 hx)) (d := (some 88)) (by kernel_rfl) rfl ?_
      refine Ops.new (o := rowL [(i64 x.op.kind), (Value.string (str x.op.frm)), (Value.string (str x.op.to)), (i64 x.op.amount), (Value.string (str x.op.key)), (i64 x.op.slot), (i64 x.op.shard), (i64 x.why), (i64 0), (Value.slice none 0 0)] 90) (V := fun b => (Value.slice (some ⟨b, 0, none⟩) 1 1)) (by kernel_rfl) (d := (some 89)) (by kernel_rfl) (fun b => rfl) (fun b46 w47 hb48 H49 K50 hs51 => ?_)
      have lb46r : r < b46 := by have := H11.lt; omega
      have nb46 : w.heap.size ≤ b46 := by have := K10.size; omega
      have ob52 : ∀ i, ((Value.slice VA l.length vc)).ownBlock = some i → i < b46 := fun i hi => by have := (World.ownsRow.lt hC0 i hi).2; omega
      have ob53 : ∀ i, ((Value.slice A38 l40.length c39)).ownBlock = some i → i < b46 := fun i hi => by have := (World.ownsRow.lt hO34 i hi).2; omega
      replace K10 := K10.trans K50 (U := none_) (fun i h1 h2 => h2) (fun i h1 h2 => by exact h2)
      replace H11 := H11.keep K50 (fun h => h)
      replace hC0 := own_keep0 hC0 K50
      replace F30 := (Rd.keep0 (by omega) F30 K50)
      replace hO34 := own_keep0 hO34 K50
      clear K50 hs51
      obtain ⟨v54, w55, hr56, hO57, hK58, hg59⟩ := OwnT.app (ty := 43) kref10 kref_one tyRK2 hO34 (show RdT _ 10 kref _ [x] from Rd.lit H49 (n := 1) rfl (by decide)) (by (try simp only [List.length_append]); (try simp only [List.length_cons]); (try simp only [List.length_nil]); omega) (by (try simp only [List.length_append]); (try simp only [List.length_cons]); (try simp only [List.length_nil]); omega) K10.size
      obtain ⟨A61, c62, rfl⟩ := RdT.form kref10 (by decide) (OwnT.rd hO57)
      obtain ⟨l63, hl64⟩ : ∃ z, z = l40 ++ [x] := ⟨_, rfl⟩
      rw [← hl64] at hr56 hO57 hg59
      have hn65 : l63.length = l40.length + 1 := by simp [hl64]
      have ob66 : ∀ i, ((Value.slice A61 l63.length c62)).ownBlock = some i → i ≠ r := fun i hi => by rcases hg59 i hi with h | h; (have := ob43 i h; omega); (have := H11.lt; omega)
      have ob67 : ∀ i, ((Value.slice A61 l63.length c62)).ownBlock = some i → i ≠ b46 := fun i hi => by rcases hg59 i hi with h | h; (have := ob53 i h; omega); (have := H49.lt; omega)
      have oo68 : ∀ i, ((Value.slice VA l.length vc)).ownBlock = some i → ((Value.slice A61 l63.length c62)).ownBlock = some i → False := fun i hi hs => by rcases hg59 i hs with h | h; (exact oo44 i hi h); (have := (World.ownsRow.lt hC0 i hi).2; omega)
      have oo69 : ∀ i, ((Value.slice A61 l63.length c62)).ownBlock = some i → ((Value.slice VA l.length vc)).ownBlock = some i → False := fun i hi hs => oo68 i hs hi
      have K60 := hK58
      refine Ops.go (v := (Value.slice A61 l63.length c62)) (by kernel_rfl) (Runs.append (ts := #[43, 43]) (ty := 43) (vs := [(Value.slice A38 l40.length c39), (Value.slice (some ⟨b46, 0, none⟩) 1 1)]) (by kernel_rfl) hr56) (d := (some 90)) (by kernel_rfl) rfl ?_
      replace K10 := K10.trans K60 (U := none_) (fun i h1 h2 => h2) (fun i h1 h2 => by have h2 : ((Value.slice A38 l40.length c39)).ownBlock = some i := h2; exfalso; have := (World.ownsRow.lt hO34 i h2).1; omega)
      replace H11 := H11.keep K60 (by intro h; change ((Value.slice A38 l40.length c39)).ownBlock = some r at h; have := ob43 r h; omega)
      replace H49 := H49.keep K60 (by intro h; change ((Value.slice A38 l40.length c39)).ownBlock = some b46 at h; have := ob53 b46 h; omega)
      replace hC0 := own_keep hC0 K60 (fun i hi hs => by have hs : ((Value.slice A38 l40.length c39)).ownBlock = some i := hs; exact oo44 i hi hs)
      clear F30
      clear hO34
      clear K60 hr56 hK58 hg59
      refine og 1 [(0, (ptr r)), (2, (Value.slice none 0 0)), (3, (Value.slice VA l.length vc)), (4, (i64 ((i : Nat) : Int))), (5, (i64 ((kk : Nat) : Int))), (6, (Value.slice A61 l63.length c62)), (13, (Value.bool true)), (73, (Value.bool false))] 11 ?_
      refine od ?_
      refine qs ?_
      refine qg ?_
      refine og 3 [(0, (ptr r)), (2, (Value.slice none 0 0)), (3, (Value.slice VA l.length vc)), (4, (i64 ((i : Nat) : Int))), (5, (i64 ((kk : Nat) : Int))), (6, (Value.slice A61 l63.length c62)), (13, (Value.bool true)), (73, (Value.bool false)), (91, (Value.slice A61 l63.length c62)), (92, (Value.slice VA l.length vc)), (93, (i64 ((kk : Nat) : Int)))] 3 ?_
      obtain ⟨A72, hr70, F71⟩ := run_lo (P := Tryz.prog) (t := 43) (e := 90) kref10 (by decide) (by kernel_rfl) (by kernel_rfl) (OwnT.rd hC0) (k := kk) (by omega)
      refine Ops.go (v := (Value.slice A72 (l.length - kk) (vc - kk))) (by kernel_rfl) ((Runs.slice (by kernel_rfl) hr70)) (d := (some 94)) (by kernel_rfl) rfl ?_
      obtain ⟨v73, w74, hr75, hO76, hK77, hg78⟩ := OwnT.app (ty := 43) kref10 kref_one tyRK2 hO57 F71 (by (try simp only [List.length_append]); (try simp only [List.length_cons]); (try simp only [List.length_nil]); omega) (by (try simp only [List.length_append]); (try simp only [List.length_cons]); (try simp only [List.length_nil]); omega) K10.size
      obtain ⟨A80, c81, rfl⟩ := RdT.form kref10 (by decide) (OwnT.rd hO76)
      obtain ⟨l82, hl83⟩ : ∃ z, z = l63 ++ l.drop kk := ⟨_, rfl⟩
      rw [← hl83] at hr75 hO76 hg78
      have hn84 : l82.length = l63.length + (l.drop kk).length := by simp [hl83]
      have ob85 : ∀ i, ((Value.slice A80 l82.length c81)).ownBlock = some i → i ≠ r := fun i hi => by rcases hg78 i hi with h | h; (have := ob66 i h; omega); (have := H11.lt; omega)
      have ob86 : ∀ i, ((Value.slice A80 l82.length c81)).ownBlock = some i → i ≠ b46 := fun i hi => by rcases hg78 i hi with h | h; (have := ob67 i h; omega); (have := H49.lt; omega)
      have oo87 : ∀ i, ((Value.slice VA l.length vc)).ownBlock = some i → ((Value.slice A80 l82.length c81)).ownBlock = some i → False := fun i hi hs => by rcases hg78 i hs with h | h; (exact oo68 i hi h); (have := (World.ownsRow.lt hC0 i hi).2; omega)
      have oo88 : ∀ i, ((Value.slice A80 l82.length c81)).ownBlock = some i → ((Value.slice VA l.length vc)).ownBlock = some i → False := fun i hi hs => oo87 i hs hi
      have K79 := hK77
      refine Ops.go (v := (Value.slice A80 l82.length c81)) (by kernel_rfl) (Runs.append (ts := #[43, 43]) (ty := 43) (vs := [(Value.slice A61 l63.length c62), (Value.slice A72 (l.length - kk) (vc - kk))]) (by kernel_rfl) hr75) (d := (some 95)) (by kernel_rfl) rfl ?_
      replace K10 := K10.trans K79 (U := none_) (fun i h1 h2 => h2) (fun i h1 h2 => by have h2 : ((Value.slice A61 l63.length c62)).ownBlock = some i := h2; exfalso; have := (World.ownsRow.lt hO57 i h2).1; omega)
      replace H11 := H11.keep K79 (by intro h; change ((Value.slice A61 l63.length c62)).ownBlock = some r at h; have := ob66 r h; omega)
      replace H49 := H49.keep K79 (by intro h; change ((Value.slice A61 l63.length c62)).ownBlock = some b46 at h; have := ob67 b46 h; omega)
      replace hC0 := own_keep hC0 K79 (fun i hi hs => by have hs : ((Value.slice A61 l63.length c62)).ownBlock = some i := hs; exact oo68 i hi hs)
      clear hO57
      clear F71
      clear K79 hr75 hK77 hg78
      refine og 1 [(0, (ptr r)), (2, (Value.slice none 0 0)), (3, (Value.slice VA l.length vc)), (4, (i64 ((i : Nat) : Int))), (5, (i64 ((kk : Nat) : Int))), (6, (Value.slice A80 l82.length c81)), (13, (Value.bool true)), (73, (Value.bool false))] 6 ?_
      refine od ?_
      refine qg ?_
      refine og 2 [(0, (ptr r)), (2, (Value.slice none 0 0)), (3, (Value.slice A80 l82.length c81)), (4, (i64 ((i : Nat) : Int))), (5, (i64 ((kk : Nat) : Int))), (6, (Value.slice A80 l82.length c81)), (13, (Value.bool true)), (73, (Value.bool false))] 2 ?_
      refine od ?_
      refine qg ?_
      refine og 2 [(0, (ptr r)), (2, (Value.slice none 0 0)), (3, (Value.slice A80 l82.length c81)), (4, (i64 ((i : Nat) : Int))), (5, (i64 ((kk : Nat) : Int))), (6, (Value.slice A80 l82.length c81)), (13, (Value.bool true)), (15, (i64 (IntKind.i64.wrap (((i : Nat) : Int) + 1)))), (73, (Value.bool false))] 2 ?_
      have e89 : IntKind.i64.wrap (((i : Nat) : Int) + 1) = ((i + 1 : Nat) : Int) := by rw [wrap_i64 (by omega) (by omega)]; omega
      rw [e89]
      clear e89
      refine og 1 [(0, (ptr r)), (2, (Value.slice none 0 0)), (3, (Value.slice A80 l82.length c81)), (4, (i64 ((i + 1 : Nat) : Int))), (5, (i64 ((kk : Nat) : Int))), (6, (Value.slice A80 l82.length c81)), (13, (Value.bool true)), (73, (Value.bool false))] 3 ?_
      refine Ops.keep (R := [(0, (ptr r)), (2, (Value.slice none 0 0)), (3, (Value.slice A80 l82.length c81)), (4, (i64 ((i + 1 : Nat) : Int)))]) (by kernel_rfl) ?_
      refine od ?_
      exact ⟨(A80, c81, i + 1, l82), ⟨rfl, hO76, ob85, (by omega), (by rw [sortk_take hx, ← hE, insk_split, ← hpe, hl83, hl64, hl41]; simp only [List.nil_append, List.append_assoc]), (by omega), K10, H11⟩, (show K.length - (i + 1) < K.length - i from by omega)⟩
    ·rw [h23]
     have p90 : (z.op.frm == x.op.frm) = false := h23
     have hpe := posk_exit hz (nlt_id hnf (fun q => ne_of_beq_false h23 q.1)) hkk
     have htk : (l.take kk).length = kk := by rw [List.length_take]; omega
     have hdk : (l.drop kk).length = l.length - kk := List.length_drop
     refine Dr.takes (fuel' := 0) (is' := [57, 56, 55, 54, 53, 52, 51, 50, 49, 48, 47, 46, 45, 44, 43, 42, 41, 40, 39, 38, 37, 36, 35, 34, 33, 32, 31, 30, 29, 28, 27, 26, 25, 24, 23, 22, 21, 20, 19, 18, 17, 16, 15, 14, 13, 12, 11, 10, 9, 8, 7, 6, 5, 4, 3, 2, 1, 0]) [39, 40, 41, 42, 43, 44, 45, 46, 47, 48, 49, 50, 51, 52, 53, 54, 55, 56, 57] [(0, (ptr r)), (2, (Value.slice none 0 0)), (3, (Value.slice VA l.length vc)), (4, (i64 ((i : Nat) : Int))), (5, (i64 ((kk : Nat) : Int))), (13, (Value.bool true)), (73, (Value.bool false))] (by kernel_rfl) rfl (by kernel_rfl) ?_
     refine Dr.done (by kernel_rfl) ?_
     refine q_else (o := .tmp 73) (by kernel_rfl) rfl ?_
     refine q_exit (id := 2) (by kernel_rfl) ?_
     refine qs ?_
     refine qg ?_
     refine og 1 [(0, (ptr r)), (2, (Value.slice none 0 0)), (3, (Value.slice VA l.length vc)), (4, (i64 ((i : Nat) : Int))), (5, (i64 ((kk : Nat) : Int))), (6, (Value.slice none 0 0)), (13, (Value.bool true)), (73, (Value.bool false))] 1 ?_
     refine od ?_
     refine qs ?_
     refine qg ?_
     refine og 3 [(0, (ptr r)), (2, (Value.slice none 0 0)), (3, (Value.slice VA l.length vc)), (4, (i64 ((i : Nat) : Int))), (5, (i64 ((kk : Nat) : Int))), (6, (Value.slice none 0 0)), (13, (Value.bool true)), (73, (Value.bool false)), (76, (Value.slice none 0 0)), (77, (Value.slice VA l.length vc)), (78, (i64 ((kk : Nat) : Int)))] 3 ?_
     obtain ⟨hr91, F92⟩ := run_hi (P := Tryz.prog) (t := 43) (e := 90) kref10 (by decide) (by kernel_rfl) (by kernel_rfl) (OwnT.rd hC0) (k := kk) (by omega)
     refine Ops.go (v := (Value.slice VA kk vc)) (by kernel_rfl) ((Runs.slice (by kernel_rfl) hr91)) (d := (some 79)) (by kernel_rfl) rfl ?_
     obtain ⟨v93, w94, hr95, hO96, hK97, hg98⟩ := OwnT.app (ty := 43) kref10 kref_one tyRK2 (OwnT.nil _ w.heap.size 90 10 kref) F92 (by (try simp only [List.length_append]); (try simp only [List.length_cons]); (try simp only [List.length_nil]); omega) (by (try simp only [List.length_append]); (try simp only [List.length_cons]); (try simp only [List.length_nil]); omega) K10.size
     obtain ⟨A100, c101, rfl⟩ := RdT.form kref10 (by decide) (OwnT.rd hO96)
     obtain ⟨l102, hl103⟩ : ∃ z, z = [] ++ l.take kk := ⟨_, rfl⟩
     rw [← hl103] at hr95 hO96 hg98
     have hn104 : l102.length = 0 + (l.take kk).length := by simp [hl103]
     have ob105 : ∀ i, ((Value.slice A100 l102.length c101)).ownBlock = some i → i ≠ r := fun i hi => by rcases hg98 i hi with h | h; (cases h); (have := H11.lt; omega)
     have oo106 : ∀ i, ((Value.slice VA l.length vc)).ownBlock = some i → ((Value.slice A100 l102.length c101)).ownBlock = some i → False := fun i hi hs => by rcases hg98 i hs with h | h; (cases h); (have := (World.ownsRow.lt hC0 i hi).2; omega)
     have oo107 : ∀ i, ((Value.slice A100 l102.length c101)).ownBlock = some i → ((Value.slice VA l.length vc)).ownBlock = some i → False := fun i hi hs => oo106 i hs hi
     have K99 := Keeps.mono (U := none_) hK97 (fun _ _ h => by cases h)
     refine Ops.go (v := (Value.slice A100 l102.length c101)) (by kernel_rfl) (Runs.append (ts := #[43, 43]) (ty := 43) (vs := [(Value.slice none 0 0), (Value.slice VA kk vc)]) (by kernel_rfl) hr95) (d := (some 80)) (by kernel_rfl) rfl ?_
     replace K10 := K10.trans K99 (U := none_) (fun i h1 h2 => h2) (fun i h1 h2 => by exact h2)
     replace H11 := H11.keep K99 (fun h => h)
     replace hC0 := own_keep0 hC0 K99
     replace F92 := (Rd.keep0 (by omega) F92 K99)
     clear K99 hr95 hK97 hg98
     refine og 1 [(0, (ptr r)), (2, (Value.slice none 0 0)), (3, (Value.slice VA l.length vc)), (4, (i64 ((i : Nat) : Int))), (5, (i64 ((kk : Nat) : Int))), (6, (Value.slice A100 l102.length c101)), (13, (Value.bool true)), (73, (Value.bool false))] 6 ?_
     refine od ?_
     refine qs ?_
     refine qg ?_
     refine og 4 [(0, (ptr r)), (2, (Value.slice none 0 0)), (3, (Value.slice VA l.length vc)), (4, (i64 ((i : Nat) : Int))), (5, (i64 ((kk : Nat) : Int))), (6, (Value.slice A100 l102.length c101)), (13, (Value.bool true)), (73, (Value.bool false)), (81, (Value.slice A100 l102.length c101)), (84, (Value.pointer (some ⟨r, 1, none⟩)))] 4 ?_
     refine Ops.go (v := (Value.slice B K.length d)) (by kernel_rfl) (Runs.load (t := 43) (a := ⟨r, 1, none⟩) (by kernel_rfl) (H11.loads (by kernel_rfl))) (d := (some 85)) (by kernel_rfl) rfl ?_
     refine og 1 [(0, (ptr r)), (2, (Value.slice none 0 0)), (3, (Value.slice VA l.length vc)), (4, (i64 ((i : Nat) : Int))), (5, (i64 ((kk : Nat) : Int))), (6, (Value.slice A100 l102.length c101)), (13, (Value.bool true)), (73, (Value.bool false)), (81, (Value.slice A100 l102.length c101)), (85, (Value.slice B K.length d)), (86, (i64 ((i : Nat) : Int)))] 6 ?_
     refine Ops.go (by kernel_rfl) (Runs.ixSliceE (k := IntKind.i64) (t := 43) (len := K.length) (cap := d) (s := 10) (off' := ro7 + i * 10) (i := ((i : Nat) : Int)) hA8 (by kernel_rfl) (by kernel_rfl) (by omega) (by omega) (by omega)) (d := (some 87)) (by kernel_rfl) rfl ?_
     refine Ops.go (v := (agg [(i64 x.op.kind), (Value.string (str x.op.frm)), (Value.string (str x.op.to)), (i64 x.op.amount), (Value.string (str x.op.key)), (i64 x.op.slot), (i64 x.op.shard), (i64 x.why), (i64 0), (Value.slice none 0 0)])) (by kernel_rfl) (Runs.load (t := 90) (a := ⟨rb6, ro7 + i * 10, none⟩) (by kernel_rfl) (RdT.ld (f := kref) (x := x) kref10 (Rd.keep0 (by decide) hQ K10) (by kernel_rfl) (by kernel_rfl) hA8 hx)) (d := (some 88)) (by kernel_rfl) rfl ?_
     refine Ops.new (o := rowL [(i64 x.op.kind), (Value.string (str x.op.frm)), (Value.string (str x.op.to)), (i64 x.op.amount), (Value.string (str x.op.key)), (i64 x.op.slot), (i64 x.op.shard), (i64 x.why), (i64 0), (Value.slice none 0 0)] 90) (V := fun b => (Value.slice (some ⟨b, 0, none⟩) 1 1)) (by kernel_rfl) (d := (some 89)) (by kernel_rfl) (fun b => rfl) (fun b108 w109 hb110 H111 K112 hs113 => ?_)
     have lb108r : r < b108 := by have := H11.lt; omega
     have nb108 : w.heap.size ≤ b108 := by have := K10.size; omega
     have ob114 : ∀ i, ((Value.slice VA l.length vc)).ownBlock = some i → i < b108 := fun i hi => by have := (World.ownsRow.lt hC0 i hi).2; omega
     have ob115 : ∀ i, ((Value.slice A100 l102.length c101)).ownBlock = some i → i < b108 := fun i hi => by have := (World.ownsRow.lt hO96 i hi).2; omega
     replace K10 := K10.trans K112 (U := none_) (fun i h1 h2 => h2) (fun i h1 h2 => by exact h2)
     replace H11 := H11.keep K112 (fun h => h)
     replace hC0 := own_keep0 hC0 K112
     replace F92 := (Rd.keep0 (by omega) F92 K112)
     replace hO96 := own_keep0 hO96 K112
     clear K112 hs113
     obtain ⟨v116, w117, hr118, hO119, hK120, hg121⟩ := OwnT.app (ty := 43) kref10 kref_one tyRK2 hO96 (show RdT _ 10 kref _ [x] from Rd.lit H111 (n := 1) rfl (by decide)) (by (try simp only [List.length_append]); (try simp only [List.length_cons]); (try simp only [List.length_nil]); omega) (by (try simp only [List.length_append]); (try simp only [List.length_cons]); (try simp only [List.length_nil]); omega) K10.size
     obtain ⟨A123, c124, rfl⟩ := RdT.form kref10 (by decide) (OwnT.rd hO119)
     obtain ⟨l125, hl126⟩ : ∃ z, z = l102 ++ [x] := ⟨_, rfl⟩
     rw [← hl126] at hr118 hO119 hg121
     have hn127 : l125.length = l102.length + 1 := by simp [hl126]
     have ob128 : ∀ i, ((Value.slice A123 l125.length c124)).ownBlock = some i → i ≠ r := fun i hi => by rcases hg121 i hi with h | h; (have := ob105 i h; omega); (have := H11.lt; omega)
     have ob129 : ∀ i, ((Value.slice A123 l125.length c124)).ownBlock = some i → i ≠ b108 := fun i hi => by rcases hg121 i hi with h | h; (have := ob115 i h; omega); (have := H111.lt; omega)
     have oo130 : ∀ i, ((Value.slice VA l.length vc)).ownBlock = some i → ((Value.slice A123 l125.length c124)).ownBlock = some i → False := fun i hi hs => by rcases hg121 i hs with h | h; (exact oo106 i hi h); (have := (World.ownsRow.lt hC0 i hi).2; omega)
     have oo131 : ∀ i, ((Value.slice A123 l125.length c124)).ownBlock = some i → ((Value.slice VA l.length vc)).ownBlock = some i → False := fun i hi hs => oo130 i hs hi
     have K122 := hK120
     refine Ops.go (v := (Value.slice A123 l125.length c124)) (by kernel_rfl) (Runs.append (ts := #[43, 43]) (ty := 43) (vs := [(Value.slice A100 l102.length c101), (Value.slice (some ⟨b108, 0, none⟩) 1 1)]) (by kernel_rfl) hr118) (d := (some 90)) (by kernel_rfl) rfl ?_
     replace K10 := K10.trans K122 (U := none_) (fun i h1 h2 => h2) (fun i h1 h2 => by have h2 : ((Value.slice A100 l102.length c101)).ownBlock = some i := h2; exfalso; have := (World.ownsRow.lt hO96 i h2).1; omega)
     replace H11 := H11.keep K122 (by intro h; change ((Value.slice A100 l102.length c101)).ownBlock = some r at h; have := ob105 r h; omega)
     replace H111 := H111.keep K122 (by intro h; change ((Value.slice A100 l102.length c101)).ownBlock = some b108 at h; have := ob115 b108 h; omega)
     replace hC0 := own_keep hC0 K122 (fun i hi hs => by have hs : ((Value.slice A100 l102.length c101)).ownBlock = some i := hs; exact oo106 i hi hs)
     clear F92
     clear hO96
     clear K122 hr118 hK120 hg121
     refine og 1 [(0, (ptr r)), (2, (Value.slice none 0 0)), (3, (Value.slice VA l.length vc)), (4, (i64 ((i : Nat) : Int))), (5, (i64 ((kk : Nat) : Int))), (6, (Value.slice A123 l125.length c124)), (13, (Value.bool true)), (73, (Value.bool false))] 11 ?_
     refine od ?_
     refine qs ?_
     refine qg ?_
     refine og 3 [(0, (ptr r)), (2, (Value.slice none 0 0)), (3, (Value.slice VA l.length vc)), (4, (i64 ((i : Nat) : Int))), (5, (i64 ((kk : Nat) : Int))), (6, (Value.slice A123 l125.length c124)), (13, (Value.bool true)), (73, (Value.bool false)), (91, (Value.slice A123 l125.length c124)), (92, (Value.slice VA l.length vc)), (93, (i64 ((kk : Nat) : Int)))] 3 ?_
     obtain ⟨A134, hr132, F133⟩ := run_lo (P := Tryz.prog) (t := 43) (e := 90) kref10 (by decide) (by kernel_rfl) (by kernel_rfl) (OwnT.rd hC0) (k := kk) (by omega)
     refine Ops.go (v := (Value.slice A134 (l.length - kk) (vc - kk))) (by kernel_rfl) ((Runs.slice (by kernel_rfl) hr132)) (d := (some 94)) (by kernel_rfl) rfl ?_
     obtain ⟨v135, w136, hr137, hO138, hK139, hg140⟩ := OwnT.app (ty := 43) kref10 kref_one tyRK2 hO119 F133 (by (try simp only [List.length_append]); (try simp only [List.length_cons]); (try simp only [List.length_nil]); omega) (by (try simp only [List.length_append]); (try simp only [List.length_cons]); (try simp only [List.length_nil]); omega) K10.size
     obtain ⟨A142, c143, rfl⟩ := RdT.form kref10 (by decide) (OwnT.rd hO138)
     obtain ⟨l144, hl145⟩ : ∃ z, z = l125 ++ l.drop kk := ⟨_, rfl⟩
     rw [← hl145] at hr137 hO138 hg140
     have hn146 : l144.length = l125.length + (l.drop kk).length := by simp [hl145]
     have ob147 : ∀ i, ((Value.slice A142 l144.length c143)).ownBlock = some i → i ≠ r := fun i hi => by rcases hg140 i hi with h | h; (have := ob128 i h; omega); (have := H11.lt; omega)
     have ob148 : ∀ i, ((Value.slice A142 l144.length c143)).ownBlock = some i → i ≠ b108 := fun i hi => by rcases hg140 i hi with h | h; (have := ob129 i h; omega); (have := H111.lt; omega)
     have oo149 : ∀ i, ((Value.slice VA l.length vc)).ownBlock = some i → ((Value.slice A142 l144.length c143)).ownBlock = some i → False := fun i hi hs => by rcases hg140 i hs with h | h; (exact oo130 i hi h); (have := (World.ownsRow.lt hC0 i hi).2; omega)
     have oo150 : ∀ i, ((Value.slice A142 l144.length c143)).ownBlock = some i → ((Value.slice VA l.length vc)).ownBlock = some i → False := fun i hi hs => oo149 i hs hi
     have K141 := hK139
     refine Ops.go (v := (Value.slice A142 l144.length c143)) (by kernel_rfl) (Runs.append (ts := #[43, 43]) (ty := 43) (vs := [(Value.slice A123 l125.length c124), (Value.slice A134 (l.length - kk) (vc - kk))]) (by kernel_rfl) hr137) (d := (some 95)) (by kernel_rfl) rfl ?_
     replace K10 := K10.trans K141 (U := none_) (fun i h1 h2 => h2) (fun i h1 h2 => by have h2 : ((Value.slice A123 l125.length c124)).ownBlock = some i := h2; exfalso; have := (World.ownsRow.lt hO119 i h2).1; omega)
     replace H11 := H11.keep K141 (by intro h; change ((Value.slice A123 l125.length c124)).ownBlock = some r at h; have := ob128 r h; omega)
     replace H111 := H111.keep K141 (by intro h; change ((Value.slice A123 l125.length c124)).ownBlock = some b108 at h; have := ob129 b108 h; omega)
     replace hC0 := own_keep hC0 K141 (fun i hi hs => by have hs : ((Value.slice A123 l125.length c124)).ownBlock = some i := hs; exact oo130 i hi hs)
     clear hO119
     clear F133
     clear K141 hr137 hK139 hg140
     refine og 1 [(0, (ptr r)), (2, (Value.slice none 0 0)), (3, (Value.slice VA l.length vc)), (4, (i64 ((i : Nat) : Int))), (5, (i64 ((kk : Nat) : Int))), (6, (Value.slice A142 l144.length c143)), (13, (Value.bool true)), (73, (Value.bool false))] 6 ?_
     refine od ?_
     refine qg ?_
     refine og 2 [(0, (ptr r)), (2, (Value.slice none 0 0)), (3, (Value.slice A142 l144.length c143)), (4, (i64 ((i : Nat) : Int))), (5, (i64 ((kk : Nat) : Int))), (6, (Value.slice A142 l144.length c143)), (13, (Value.bool true)), (73, (Value.bool false))] 2 ?_
     refine od ?_
     refine qg ?_
     refine og 2 [(0, (ptr r)), (2, (Value.slice none 0 0)), (3, (Value.slice A142 l144.length c143)), (4, (i64 ((i : Nat) : Int))), (5, (i64 ((kk : Nat) : Int))), (6, (Value.slice A142 l144.length c143)), (13, (Value.bool true)), (15, (i64 (IntKind.i64.wrap (((i : Nat) : Int) + 1)))), (73, (Value.bool false))] 2 ?_
     have e151 : IntKind.i64.wrap (((i : Nat) : Int) + 1) = ((i + 1 : Nat) : Int) := by rw [wrap_i64 (by omega) (by omega)]; omega
     rw [e151]
     clear e151
     refine og 1 [(0, (ptr r)), (2, (Value.slice none 0 0)), (3, (Value.slice A142 l144.length c143)), (4, (i64 ((i + 1 : Nat) : Int))), (5, (i64 ((kk : Nat) : Int))), (6, (Value.slice A142 l144.length c143)), (13, (Value.bool true)), (73, (Value.bool false))] 3 ?_
     refine Ops.keep (R := [(0, (ptr r)), (2, (Value.slice none 0 0)), (3, (Value.slice A142 l144.length c143)), (4, (i64 ((i + 1 : Nat) : Int)))]) (by kernel_rfl) ?_
     refine od ?_
     exact ⟨(A142, c143, i + 1, l144), ⟨rfl, hO138, ob147, (by omega), (by rw [sortk_take hx, ← hE, insk_split, ← hpe, hl145, hl126, hl103]; simp only [List.nil_append, List.append_assoc]), (by omega), K10, H11⟩, (show K.length - (i + 1) < K.length - i from by omega)⟩
  ·rw [h14]
   have p152 : ¬ (((kk : Nat) : Int) < ((l.length : Nat) : Int)) := of_decide_eq_false h14
   have hpe := posk_end (x := x) (by omega) hkk
   have htk : (l.take kk).length = kk := by rw [List.length_take]; omega
   have hdk : (l.drop kk).length = l.length - kk := List.length_drop
   refine Dr.takes (fuel' := 0) (is' := [57, 56, 55, 54, 53, 52, 51, 50, 49, 48, 47, 46, 45, 44, 43, 42, 41, 40, 39, 38, 37, 36, 35, 34, 33, 32, 31, 30, 29, 28, 27, 26, 25, 24, 23, 22, 21, 20, 19, 18, 17, 16, 15, 14, 13, 12, 11, 10, 9, 8, 7, 6, 5, 4, 3, 2, 1, 0]) [5, 6, 7, 8, 9, 10, 11, 12, 13, 14, 15, 16, 17, 18, 19, 20, 21, 22, 23, 24, 25, 26, 27, 28, 29, 30, 31, 32, 33, 34, 35, 36, 37, 38, 39, 40, 41, 42, 43, 44, 45, 46, 47, 48, 49, 50, 51, 52, 53, 54, 55, 56, 57] [(0, (ptr r)), (2, (Value.slice none 0 0)), (3, (Value.slice VA l.length vc)), (4, (i64 ((i : Nat) : Int))), (5, (i64 ((kk : Nat) : Int))), (13, (Value.bool true)), (73, (Value.bool false))] (by kernel_rfl) rfl (by kernel_rfl) ?_
   refine Dr.done (by kernel_rfl) ?_
   refine q_else (o := .tmp 73) (by kernel_rfl) rfl ?_
   refine q_exit (id := 2) (by kernel_rfl) ?_
   refine qs ?_
   refine qg ?_
   refine og 1 [(0, (ptr r)), (2, (Value.slice none 0 0)), (3, (Value.slice VA l.length vc)), (4, (i64 ((i : Nat) : Int))), (5, (i64 ((kk : Nat) : Int))), (6, (Value.slice none 0 0)), (13, (Value.bool true)), (73, (Value.bool false))] 1 ?_
   refine od ?_
   refine qs ?_
   refine qg ?_
   refine og 3 [(0, (ptr r)), (2, (Value.slice none 0 0)), (3, (Value.slice VA l.length vc)), (4, (i64 ((i : Nat) : Int))), (5, (i64 ((kk : Nat) : Int))), (6, (Value.slice none 0 0)), (13, (Value.bool true)), (73, (Value.bool false)), (76, (Value.slice none 0 0)), (77, (Value.slice VA l.length vc)), (78, (i64 ((kk : Nat) : Int)))] 3 ?_
   obtain ⟨hr153, F154⟩ := run_hi (P := Tryz.prog) (t := 43) (e := 90) kref10 (by decide) (by kernel_rfl) (by kernel_rfl) (OwnT.rd hC0) (k := kk) (by omega)
   refine Ops.go (v := (Value.slice VA kk vc)) (by kernel_rfl) ((Runs.slice (by kernel_rfl) hr153)) (d := (some 79)) (by kernel_rfl) rfl ?_
   obtain ⟨v155, w156, hr157, hO158, hK159, hg160⟩ := OwnT.app (ty := 43) kref10 kref_one tyRK2 (OwnT.nil _ w.heap.size 90 10 kref) F154 (by (try simp only [List.length_append]); (try simp only [List.length_cons]); (try simp only [List.length_nil]); omega) (by (try simp only [List.length_append]); (try simp only [List.length_cons]); (try simp only [List.length_nil]); omega) K10.size
   obtain ⟨A162, c163, rfl⟩ := RdT.form kref10 (by decide) (OwnT.rd hO158)
   obtain ⟨l164, hl165⟩ : ∃ z, z = [] ++ l.take kk := ⟨_, rfl⟩
   rw [← hl165] at hr157 hO158 hg160
   have hn166 : l164.length = 0 + (l.take kk).length := by simp [hl165]
   have ob167 : ∀ i, ((Value.slice A162 l164.length c163)).ownBlock = some i → i ≠ r := fun i hi => by rcases hg160 i hi with h | h; (cases h); (have := H11.lt; omega)
   have oo168 : ∀ i, ((Value.slice VA l.length vc)).ownBlock = some i → ((Value.slice A162 l164.length c163)).ownBlock = some i → False := fun i hi hs => by rcases hg160 i hs with h | h; (cases h); (have := (World.ownsRow.lt hC0 i hi).2; omega)
   have oo169 : ∀ i, ((Value.slice A162 l164.length c163)).ownBlock = some i → ((Value.slice VA l.length vc)).ownBlock = some i → False := fun i hi hs => oo168 i hs hi
   have K161 := Keeps.mono (U := none_) hK159 (fun _ _ h => by cases h)
   refine Ops.go (v := (Value.slice A162 l164.length c163)) (by kernel_rfl) (Runs.append (ts := #[43, 43]) (ty := 43) (vs := [(Value.slice none 0 0), (Value.slice VA kk vc)]) (by kernel_rfl) hr157) (d := (some 80)) (by kernel_rfl) rfl ?_
   replace K10 := K10.trans K161 (U := none_) (fun i h1 h2 => h2) (fun i h1 h2 => by exact h2)
   replace H11 := H11.keep K161 (fun h => h)
   replace hC0 := own_keep0 hC0 K161
   replace F154 := (Rd.keep0 (by omega) F154 K161)
   clear K161 hr157 hK159 hg160
   refine og 1 [(0, (ptr r)), (2, (Value.slice none 0 0)), (3, (Value.slice VA l.length vc)), (4, (i64 ((i : Nat) : Int))), (5, (i64 ((kk : Nat) : Int))), (6, (Value.slice A162 l164.length c163)), (13, (Value.bool true)), (73, (Value.bool false))] 6 ?_
   refine od ?_
   refine qs ?_
   refine qg ?_
   refine og 4 [(0, (ptr r)), (2, (Value.slice none 0 0)), (3, (Value.slice VA l.length vc)), (4, (i64 ((i : Nat) : Int))), (5, (i64 ((kk : Nat) : Int))), (6, (Value.slice A162 l164.length c163)), (13, (Value.bool true)), (73, (Value.bool false)), (81, (Value.slice A162 l164.length c163)), (84, (Value.pointer (some ⟨r, 1, none⟩)))] 4 ?_
   refine Ops.go (v := (Value.slice B K.length d)) (by kernel_rfl) (Runs.load (t := 43) (a := ⟨r, 1, none⟩) (by kernel_rfl) (H11.loads (by kernel_rfl))) (d := (some 85)) (by kernel_rfl) rfl ?_
   refine og 1 [(0, (ptr r)), (2, (Value.slice none 0 0)), (3, (Value.slice VA l.length vc)), (4, (i64 ((i : Nat) : Int))), (5, (i64 ((kk : Nat) : Int))), (6, (Value.slice A162 l164.length c163)), (13, (Value.bool true)), (73, (Value.bool false)), (81, (Value.slice A162 l164.length c163)), (85, (Value.slice B K.length d)), (86, (i64 ((i : Nat) : Int)))] 6 ?_
   refine Ops.go (by kernel_rfl) (Runs.ixSliceE (k := IntKind.i64) (t := 43) (len := K.length) (cap := d) (s := 10) (off' := ro7 + i * 10) (i := ((i : Nat) : Int)) hA8 (by kernel_rfl) (by kernel_rfl) (by omega) (by omega) (by omega)) (d := (some 87)) (by kernel_rfl) rfl ?_
   refine Ops.go (v := (agg [(i64 x.op.kind), (Value.string (str x.op.frm)), (Value.string (str x.op.to)), (i64 x.op.amount), (Value.string (str x.op.key)), (i64 x.op.slot), (i64 x.op.shard), (i64 x.why), (i64 0), (Value.slice none 0 0)])) (by kernel_rfl) (Runs.load (t := 90) (a := ⟨rb6, ro7 + i * 10, none⟩) (by kernel_rfl) (RdT.ld (f := kref) (x := x) kref10 (Rd.keep0 (by decide) hQ K10) (by kernel_rfl) (by kernel_rfl) hA8 hx)) (d := (some 88)) (by kernel_rfl) rfl ?_
   refine Ops.new (o := rowL [(i64 x.op.kind), (Value.string (str x.op.frm)), (Value.string (str x.op.to)), (i64 x.op.amount), (Value.string (str x.op.key)), (i64 x.op.slot), (i64 x.op.shard), (i64 x.why), (i64 0), (Value.slice none 0 0)] 90) (V := fun b => (Value.slice (some ⟨b, 0, none⟩) 1 1)) (by kernel_rfl) (d := (some 89)) (by kernel_rfl) (fun b => rfl) (fun b170 w171 hb172 H173 K174 hs175 => ?_)
   have lb170r : r < b170 := by have := H11.lt; omega
   have nb170 : w.heap.size ≤ b170 := by have := K10.size; omega
   have ob176 : ∀ i, ((Value.slice VA l.length vc)).ownBlock = some i → i < b170 := fun i hi => by have := (World.ownsRow.lt hC0 i hi).2; omega
   have ob177 : ∀ i, ((Value.slice A162 l164.length c163)).ownBlock = some i → i < b170 := fun i hi => by have := (World.ownsRow.lt hO158 i hi).2; omega
   replace K10 := K10.trans K174 (U := none_) (fun i h1 h2 => h2) (fun i h1 h2 => by exact h2)
   replace H11 := H11.keep K174 (fun h => h)
   replace hC0 := own_keep0 hC0 K174
   replace F154 := (Rd.keep0 (by omega) F154 K174)
   replace hO158 := own_keep0 hO158 K174
   clear K174 hs175
   obtain ⟨v178, w179, hr180, hO181, hK182, hg183⟩ := OwnT.app (ty := 43) kref10 kref_one tyRK2 hO158 (show RdT _ 10 kref _ [x] from Rd.lit H173 (n := 1) rfl (by decide)) (by (try simp only [List.length_append]); (try simp only [List.length_cons]); (try simp only [List.length_nil]); omega) (by (try simp only [List.length_append]); (try simp only [List.length_cons]); (try simp only [List.length_nil]); omega) K10.size
   obtain ⟨A185, c186, rfl⟩ := RdT.form kref10 (by decide) (OwnT.rd hO181)
   obtain ⟨l187, hl188⟩ : ∃ z, z = l164 ++ [x] := ⟨_, rfl⟩
   rw [← hl188] at hr180 hO181 hg183
   have hn189 : l187.length = l164.length + 1 := by simp [hl188]
   have ob190 : ∀ i, ((Value.slice A185 l187.length c186)).ownBlock = some i → i ≠ r := fun i hi => by rcases hg183 i hi with h | h; (have := ob167 i h; omega); (have := H11.lt; omega)
   have ob191 : ∀ i, ((Value.slice A185 l187.length c186)).ownBlock = some i → i ≠ b170 := fun i hi => by rcases hg183 i hi with h | h; (have := ob177 i h; omega); (have := H173.lt; omega)
   have oo192 : ∀ i, ((Value.slice VA l.length vc)).ownBlock = some i → ((Value.slice A185 l187.length c186)).ownBlock = some i → False := fun i hi hs => by rcases hg183 i hs with h | h; (exact oo168 i hi h); (have := (World.ownsRow.lt hC0 i hi).2; omega)
   have oo193 : ∀ i, ((Value.slice A185 l187.length c186)).ownBlock = some i → ((Value.slice VA l.length vc)).ownBlock = some i → False := fun i hi hs => oo192 i hs hi
   have K184 := hK182
   refine Ops.go (v := (Value.slice A185 l187.length c186)) (by kernel_rfl) (Runs.append (ts := #[43, 43]) (ty := 43) (vs := [(Value.slice A162 l164.length c163), (Value.slice (some ⟨b170, 0, none⟩) 1 1)]) (by kernel_rfl) hr180) (d := (some 90)) (by kernel_rfl) rfl ?_
   replace K10 := K10.trans K184 (U := none_) (fun i h1 h2 => h2) (fun i h1 h2 => by have h2 : ((Value.slice A162 l164.length c163)).ownBlock = some i := h2; exfalso; have := (World.ownsRow.lt hO158 i h2).1; omega)
   replace H11 := H11.keep K184 (by intro h; change ((Value.slice A162 l164.length c163)).ownBlock = some r at h; have := ob167 r h; omega)
   replace H173 := H173.keep K184 (by intro h; change ((Value.slice A162 l164.length c163)).ownBlock = some b170 at h; have := ob177 b170 h; omega)
   replace hC0 := own_keep hC0 K184 (fun i hi hs => by have hs : ((Value.slice A162 l164.length c163)).ownBlock = some i := hs; exact oo168 i hi hs)
   clear F154
   clear hO158
   clear K184 hr180 hK182 hg183
   refine og 1 [(0, (ptr r)), (2, (Value.slice none 0 0)), (3, (Value.slice VA l.length vc)), (4, (i64 ((i : Nat) : Int))), (5, (i64 ((kk : Nat) : Int))), (6, (Value.slice A185 l187.length c186)), (13, (Value.bool true)), (73, (Value.bool false))] 11 ?_
   refine od ?_
   refine qs ?_
   refine qg ?_
   refine og 3 [(0, (ptr r)), (2, (Value.slice none 0 0)), (3, (Value.slice VA l.length vc)), (4, (i64 ((i : Nat) : Int))), (5, (i64 ((kk : Nat) : Int))), (6, (Value.slice A185 l187.length c186)), (13, (Value.bool true)), (73, (Value.bool false)), (91, (Value.slice A185 l187.length c186)), (92, (Value.slice VA l.length vc)), (93, (i64 ((kk : Nat) : Int)))] 3 ?_
   obtain ⟨A196, hr194, F195⟩ := run_lo (P := Tryz.prog) (t := 43) (e := 90) kref10 (by decide) (by kernel_rfl) (by kernel_rfl) (OwnT.rd hC0) (k := kk) (by omega)
   refine Ops.go (v := (Value.slice A196 (l.length - kk) (vc - kk))) (by kernel_rfl) ((Runs.slice (by kernel_rfl) hr194)) (d := (some 94)) (by kernel_rfl) rfl ?_
   obtain ⟨v197, w198, hr199, hO200, hK201, hg202⟩ := OwnT.app (ty := 43) kref10 kref_one tyRK2 hO181 F195 (by (try simp only [List.length_append]); (try simp only [List.length_cons]); (try simp only [List.length_nil]); omega) (by (try simp only [List.length_append]); (try simp only [List.length_cons]); (try simp only [List.length_nil]); omega) K10.size
   obtain ⟨A204, c205, rfl⟩ := RdT.form kref10 (by decide) (OwnT.rd hO200)
   obtain ⟨l206, hl207⟩ : ∃ z, z = l187 ++ l.drop kk := ⟨_, rfl⟩
   rw [← hl207] at hr199 hO200 hg202
   have hn208 : l206.length = l187.length + (l.drop kk).length := by simp [hl207]
   have ob209 : ∀ i, ((Value.slice A204 l206.length c205)).ownBlock = some i → i ≠ r := fun i hi => by rcases hg202 i hi with h | h; (have := ob190 i h; omega); (have := H11.lt; omega)
   have ob210 : ∀ i, ((Value.slice A204 l206.length c205)).ownBlock = some i → i ≠ b170 := fun i hi => by rcases hg202 i hi with h | h; (have := ob191 i h; omega); (have := H173.lt; omega)
   have oo211 : ∀ i, ((Value.slice VA l.length vc)).ownBlock = some i → ((Value.slice A204 l206.length c205)).ownBlock = some i → False := fun i hi hs => by rcases hg202 i hs with h | h; (exact oo192 i hi h); (have := (World.ownsRow.lt hC0 i hi).2; omega)
   have oo212 : ∀ i, ((Value.slice A204 l206.length c205)).ownBlock = some i → ((Value.slice VA l.length vc)).ownBlock = some i → False := fun i hi hs => oo211 i hs hi
   have K203 := hK201
   refine Ops.go (v := (Value.slice A204 l206.length c205)) (by kernel_rfl) (Runs.append (ts := #[43, 43]) (ty := 43) (vs := [(Value.slice A185 l187.length c186), (Value.slice A196 (l.length - kk) (vc - kk))]) (by kernel_rfl) hr199) (d := (some 95)) (by kernel_rfl) rfl ?_
   replace K10 := K10.trans K203 (U := none_) (fun i h1 h2 => h2) (fun i h1 h2 => by have h2 : ((Value.slice A185 l187.length c186)).ownBlock = some i := h2; exfalso; have := (World.ownsRow.lt hO181 i h2).1; omega)
   replace H11 := H11.keep K203 (by intro h; change ((Value.slice A185 l187.length c186)).ownBlock = some r at h; have := ob190 r h; omega)
   replace H173 := H173.keep K203 (by intro h; change ((Value.slice A185 l187.length c186)).ownBlock = some b170 at h; have := ob191 b170 h; omega)
   replace hC0 := own_keep hC0 K203 (fun i hi hs => by have hs : ((Value.slice A185 l187.length c186)).ownBlock = some i := hs; exact oo192 i hi hs)
   clear hO181
   clear F195
   clear K203 hr199 hK201 hg202
   refine og 1 [(0, (ptr r)), (2, (Value.slice none 0 0)), (3, (Value.slice VA l.length vc)), (4, (i64 ((i : Nat) : Int))), (5, (i64 ((kk : Nat) : Int))), (6, (Value.slice A204 l206.length c205)), (13, (Value.bool true)), (73, (Value.bool false))] 6 ?_
   refine od ?_
   refine qg ?_
   refine og 2 [(0, (ptr r)), (2, (Value.slice none 0 0)), (3, (Value.slice A204 l206.length c205)), (4, (i64 ((i : Nat) : Int))), (5, (i64 ((kk : Nat) : Int))), (6, (Value.slice A204 l206.length c205)), (13, (Value.bool true)), (73, (Value.bool false))] 2 ?_
   refine od ?_
   refine qg ?_
   refine og 2 [(0, (ptr r)), (2, (Value.slice none 0 0)), (3, (Value.slice A204 l206.length c205)), (4, (i64 ((i : Nat) : Int))), (5, (i64 ((kk : Nat) : Int))), (6, (Value.slice A204 l206.length c205)), (13, (Value.bool true)), (15, (i64 (IntKind.i64.wrap (((i : Nat) : Int) + 1)))), (73, (Value.bool false))] 2 ?_
   have e213 : IntKind.i64.wrap (((i : Nat) : Int) + 1) = ((i + 1 : Nat) : Int) := by rw [wrap_i64 (by omega) (by omega)]; omega
   rw [e213]
   clear e213
   refine og 1 [(0, (ptr r)), (2, (Value.slice none 0 0)), (3, (Value.slice A204 l206.length c205)), (4, (i64 ((i + 1 : Nat) : Int))), (5, (i64 ((kk : Nat) : Int))), (6, (Value.slice A204 l206.length c205)), (13, (Value.bool true)), (73, (Value.bool false))] 3 ?_
   refine Ops.keep (R := [(0, (ptr r)), (2, (Value.slice none 0 0)), (3, (Value.slice A204 l206.length c205)), (4, (i64 ((i + 1 : Nat) : Int)))]) (by kernel_rfl) ?_
   refine od ?_
   exact ⟨(A204, c205, i + 1, l206), ⟨rfl, hO200, ob209, (by omega), (by rw [sortk_take hx, ← hE, insk_split, ← hpe, hl207, hl188, hl165]; simp only [List.nil_append, List.append_assoc]), (by omega), K10, H11⟩, (show K.length - (i + 1) < K.length - i from by omega)⟩
 ·rw [h4]
  have p214 : ¬ (((i : Nat) : Int) < ((K.length : Nat) : Int)) := of_decide_eq_false h4
  refine q_exit (id := 0) (by kernel_rfl) ?_
  refine qs ?_
  refine qg ?_
  refine og 2 [(2, (Value.slice VA l.length vc))] 2 ?_
  refine od ?_
  refine q_ret (by kernel_rfl) ?_
  refine ⟨(Value.slice VA l.length vc), retv_tmp rfl rfl, ?_⟩
  have e : l = sortK K := by rw [hE, List.take_of_length_le (by omega)]
  rw [e] at hOV
  rw [e]
  exact ⟨_, _, rfl, K2, hOV⟩
end Go.Proofs.YtnfeemhpoaflfaaGreatDoor
namespace Go.Proofs.YtnfeemhpoaflfaaGreatDoor
open Go.Q Go.RowKit

set_option maxHeartbeats 4000000 in
theorem RLText_calls (w : World) (r : Nat) (A : Option Addr) (c : Nat) (S : List RowM) (B : Option Addr) (d : Nat) (K : List KeptM) (tb : Nat) (Hr : Has w r (rowL [.slice A S.length c, .slice B K.length d] 45)) (hR : RdT w 2 RowM.cells (.slice A S.length c) S) (hQ : RdT w 10 kref (.slice B K.length d) K) (hL : Ledg S K) (HT : Tab Tryz.prog w tb) (hSl : S.length ≤ 1000) (hKl : K.length ≤ 1000) : Calls Tryz.prog 19 ⟨[(ptr r)]⟩ w (fun e w' => e = .returned (.string (str (textE S K))) ∧ Keeps none_ w w') := by
 have Hrl := Hr.lt
 have hcap := RdT.len RowM.two (by decide) hR
 have hcapk := RdT.len kref10 (by decide) hQ
 unfold maxLen at hcap hcapk
 have HTl := HT.lt
 have K0 : Keeps none_ w w := Keeps.refl w
 refine q_calls Tryz.func19 (by kernel_rfl) (by kernel_rfl) ?_
 refine qs ?_
 refine qg ?_
 refine og 1 [(0, (ptr r)), (2, (Value.string (str ([] : List UInt8))))] 1 ?_
 refine od ?_
 refine qs ?_
 refine qg ?_
 refine og 1 [(0, (ptr r)), (2, (Value.string (str ([] : List UInt8)))), (3, (Value.slice none 0 0))] 1 ?_
 refine od ?_
 refine qs ?_
 refine qs ?_
 refine qg ?_
 refine og 1 [(0, (ptr r)), (2, (Value.string (str ([] : List UInt8)))), (3, (Value.slice none 0 0)), (4, (i64 0))] 1 ?_
 refine od ?_
 refine q_block (id := 0) (by kernel_rfl) ?_
 refine q_keep (R := [(0, (ptr r)), (2, (Value.string (str ([] : List UInt8)))), (3, (Value.slice none 0 0)), (4, (i64 0))]) (by kernel_rfl) ?_
 refine q_loop (fun (gs : (Option Addr) × Nat × (List UInt8) × Nat) L (wx : World) => match gs with | (BA, Bc, ys, i) => L = [(0, (ptr r)), (2, (Value.string (str ([] : List UInt8)))), (3, (Value.slice BA ys.length Bc)), (4, (i64 ((i : Nat) : Int)))] ∧ OwnB wx w.heap.size 5 (Value.slice BA ys.length Bc) ys ∧ (∀ i, ((Value.slice BA ys.length Bc)).ownBlock = some i → i ≠ r) ∧ (∀ i, ((Value.slice BA ys.length Bc)).ownBlock = some i → i ≠ tb) ∧ i ≤ S.length ∧ ys = (S.take i).flatMap rowT ∧ Keeps none_ w wx ∧ Has wx r (rowL [(Value.slice A S.length c), (Value.slice B K.length d)] 45) ∧ Tab Tryz.prog wx tb) (fun (gs : (Option Addr) × Nat × (List UInt8) × Nat) => match gs with | (BA, Bc, ys, i) => S.length - i) (none, 0, [], 0) (by kernel_rfl) ⟨rfl, (World.ownsRow_nil _ _ _ _), (fun i hi => by cases hi), (fun i hi => by cases hi), Nat.zero_le _, rfl, K0, Hr, HT⟩ ?_
 clear Hr HT K0
 rintro ⟨BA, Bc, ys, i⟩ _ w1 ⟨rfl, hOB, obBr, obBtb, hi, hE, K2, H3, H4⟩
 refine qs ?_
 refine qs ?_
 refine qg ?_
 refine og 4 [(0, (ptr r)), (2, (Value.string (str ([] : List UInt8)))), (3, (Value.slice BA ys.length Bc)), (4, (i64 ((i : Nat) : Int))), (7, (i64 ((i : Nat) : Int))), (10, (ptr r))] 4 ?_
 refine Ops.go (v := (Value.slice A S.length c)) (by kernel_rfl) (Runs.load (t := 28) (a := ⟨r, 0, none⟩) (by kernel_rfl) (H3.loads (by kernel_rfl))) (d := (some 11)) (by kernel_rfl) rfl ?_
 refine og 2 [(0, (ptr r)), (2, (Value.string (str ([] : List UInt8)))), (3, (Value.slice BA ys.length Bc)), (4, (i64 ((i : Nat) : Int))), (13, (Value.bool (decide (((i : Nat) : Int) < ((S.length : Nat) : Int)))))] 7 ?_
 refine od ?_
 refine q_cond (o := .tmp 13) (b := (decide (((i : Nat) : Int) < ((S.length : Nat) : Int)))) (by kernel_rfl) rfl (fun h5 => ?_) (fun h5 => ?_)
 ·rw [h5]
  have p6 : ((i : Nat) : Int) < ((S.length : Nat) : Int) := of_decide_eq_true h5
  obtain ⟨a, ha⟩ : ∃ y, S[i]? = some y := ⟨_, List.getElem?_eq_getElem (by omega)⟩
  have hao := hL.led.ok a (List.mem_of_getElem? ha)
  have hal := (nameOk_len hao.name).2
  have ha1 := hao.lo
  have ha2 := hao.hi
  have hyl := hL.led.flat i
  rw [← hE] at hyl
  obtain ⟨rb7, ro8, hA9⟩ := Rd.addr (Rd.keep0 (by decide) hR K2) (by omega)
  refine q_skip (by kernel_rfl) ?_
  refine qs ?_
  refine q_block (id := 1) (by kernel_rfl) ?_
  refine q_draw (fun wz => Keeps (fun i => ((Value.slice BA ys.length Bc)).ownBlock = some i) w1 wz) 23 (by kernel_rfl) (by kernel_rfl) (by kernel_rfl) (fun w10 K11 _ _ => ⟨(K11.mono (fun _ _ h => h.elim)), ?_⟩)
  replace K2 := K2.trans K11 (U := none_) (fun i h1 h2 => h2) (fun i h1 h2 => by exact h2)
  replace H3 := H3.keep K11 (fun h => h)
  replace H4 := H4.keep K11 (fun h => h)
  replace hOB := own_keep0 hOB K11
  refine Dr.strong (S' := (fun wz => Keeps (fun i => ((Value.slice BA ys.length Bc)).ownBlock = some i) w10 wz)) ((Keeps.refl w10).mono (fun _ _ h => h.elim)) (fun wz hx => K11.trans hx (fun i _ h => h.elim) (fun _ _ h => h)) ?_
  clear K11
  refine Dr.takes (fuel' := 19) (is' := [3, 2, 1, 0]) [0, 1, 2, 3] [(0, (ptr r)), (2, (Value.string (str ([] : List UInt8)))), (3, (Value.slice BA ys.length Bc)), (4, (i64 ((i : Nat) : Int))), (13, (Value.bool true)), (16, (Value.slice BA ys.length Bc)), (19, (ptr r))] (by kernel_rfl) rfl (by kernel_rfl) ?_
  refine Dr.take (i := 4) (v := (Value.slice A S.length c)) (by kernel_rfl) (by kernel_rfl) (fun wz hS => Runs.load (t := 28) (a := ⟨r, 0, none⟩) (by kernel_rfl) ((H3.keep hS (by intro h; change ((Value.slice BA ys.length Bc)).ownBlock = some r at h; have := obBr r h; omega)).loads (by kernel_rfl))) (d := (some 20)) (by kernel_rfl) rfl ?_
  refine Dr.takes (fuel' := 17) (is' := [5, 4, 3, 2, 1, 0]) [5] [(0, (ptr r)), (2, (Value.string (str ([] : List UInt8)))), (3, (Value.slice BA ys.length Bc)), (4, (i64 ((i : Nat) : Int))), (13, (Value.bool true)), (16, (Value.slice BA ys.length Bc)), (20, (Value.slice A S.length c)), (21, (i64 ((i : Nat) : Int)))] (by kernel_rfl) rfl (by kernel_rfl) ?_
  refine Dr.take (i := 6) (v := (Value.pointer (some ⟨rb7, ro8 + i * 2, none⟩))) (by kernel_rfl) (by kernel_rfl) (fun wz hS => Runs.ixSliceE (k := IntKind.i64) (t := 28) (len := S.length) (cap := c) (s := 2) (off' := ro8 + i * 2) (i := ((i : Nat) : Int)) hA9 (by kernel_rfl) (by kernel_rfl) (by omega) (by omega) (by omega)) (d := (some 22)) (by kernel_rfl) rfl ?_
  refine Dr.takes (fuel' := 15) (is' := [7, 6, 5, 4, 3, 2, 1, 0]) [7] [(0, (ptr r)), (2, (Value.string (str ([] : List UInt8)))), (3, (Value.slice BA ys.length Bc)), (4, (i64 ((i : Nat) : Int))), (13, (Value.bool true)), (16, (Value.slice BA ys.length Bc)), (23, (Value.pointer (some ⟨rb7, ro8 + i * 2, none⟩)))] (by kernel_rfl) rfl (by kernel_rfl) ?_
  refine Dr.take (i := 8) (v := (Value.string (str a.name))) (by kernel_rfl) (by kernel_rfl) (fun wz hS => Runs.load (t := 9) (a := ⟨rb7, ro8 + i * 2, none⟩) (by kernel_rfl) (RdT.ldf (f := RowM.cells) (x := a) (o := 0) RowM.two (Rd.keep0 (by decide) hR (K2.trans hS (U := none_) (fun _ _ h => h) (fun i h1 h2 => by have h2 : ((Value.slice BA ys.length Bc)).ownBlock = some i := h2; exfalso; have := (World.ownsRow.lt hOB i h2).1; omega))) (by kernel_rfl) hA9 ha rfl)) (d := (some 24)) (by kernel_rfl) rfl ?_
  refine Dr.take (i := 9) (v := (Value.string (str (a.name ++ [61])))) (by kernel_rfl) (by kernel_rfl) (fun wz hS => Runs.stradd (t := 9) (a := a.name) (b := [61]) (by kernel_rfl) (by simp only [List.length_append, List.length_cons, List.length_nil]; omega)) (d := (some 25)) (by kernel_rfl) rfl ?_
  refine Dr.takes (fuel' := 10) (is' := [12, 11, 10, 9, 8, 7, 6, 5, 4, 3, 2, 1, 0]) [10, 11, 12] [(0, (ptr r)), (2, (Value.string (str ([] : List UInt8)))), (3, (Value.slice BA ys.length Bc)), (4, (i64 ((i : Nat) : Int))), (13, (Value.bool true)), (16, (Value.slice BA ys.length Bc)), (25, (Value.string (str (a.name ++ [61])))), (28, (ptr r))] (by kernel_rfl) rfl (by kernel_rfl) ?_
  refine Dr.take (i := 13) (v := (Value.slice A S.length c)) (by kernel_rfl) (by kernel_rfl) (fun wz hS => Runs.load (t := 28) (a := ⟨r, 0, none⟩) (by kernel_rfl) ((H3.keep hS (by intro h; change ((Value.slice BA ys.length Bc)).ownBlock = some r at h; have := obBr r h; omega)).loads (by kernel_rfl))) (d := (some 29)) (by kernel_rfl) rfl ?_
  refine Dr.takes (fuel' := 8) (is' := [14, 13, 12, 11, 10, 9, 8, 7, 6, 5, 4, 3, 2, 1, 0]) [14] [(0, (ptr r)), (2, (Value.string (str ([] : List UInt8)))), (3, (Value.slice BA ys.length Bc)), (4, (i64 ((i : Nat) : Int))), (13, (Value.bool true)), (16, (Value.slice BA ys.length Bc)), (25, (Value.string (str (a.name ++ [61])))), (29, (Value.slice A S.length c)), (30, (i64 ((i : Nat) : Int)))] (by kernel_rfl) rfl (by kernel_rfl) ?_
  refine Dr.take (i := 15) (v := (Value.pointer (some ⟨rb7, ro8 + i * 2, none⟩))) (by kernel_rfl) (by kernel_rfl) (fun wz hS => Runs.ixSliceE (k := IntKind.i64) (t := 28) (len := S.length) (cap := c) (s := 2) (off' := ro8 + i * 2) (i := ((i : Nat) : Int)) hA9 (by kernel_rfl) (by kernel_rfl) (by omega) (by omega) (by omega)) (d := (some 31)) (by kernel_rfl) rfl ?_
  refine Dr.takes (fuel' := 6) (is' := [16, 15, 14, 13, 12, 11, 10, 9, 8, 7, 6, 5, 4, 3, 2, 1, 0]) [16] [(0, (ptr r)), (2, (Value.string (str ([] : List UInt8)))), (3, (Value.slice BA ys.length Bc)), (4, (i64 ((i : Nat) : Int))), (13, (Value.bool true)), (16, (Value.slice BA ys.length Bc)), (25, (Value.string (str (a.name ++ [61])))), (32, (Value.pointer (some ⟨rb7, ro8 + i * 2 + 1, none⟩)))] (by kernel_rfl) rfl (by kernel_rfl) ?_
  refine Dr.take (i := 17) (v := (i64 a.amount)) (by kernel_rfl) (by kernel_rfl) (fun wz hS => Runs.load (t := 2) (a := ⟨rb7, ro8 + i * 2 + 1, none⟩) (by kernel_rfl) (RdT.ldf (f := RowM.cells) (x := a) (o := 1) RowM.two (Rd.keep0 (by decide) hR (K2.trans hS (U := none_) (fun _ _ h => h) (fun i h1 h2 => by have h2 : ((Value.slice BA ys.length Bc)).ownBlock = some i := h2; exfalso; have := (World.ownsRow.lt hOB i h2).1; omega))) (by kernel_rfl) hA9 ha rfl)) (d := (some 33)) (by kernel_rfl) rfl ?_
  refine Dr.call (i := 18) (by kernel_rfl) (by kernel_rfl) (d := (some 34)) (by kernel_rfl) (fun _ => FormatInt_calls _ tb a.amount H4 (by omega)) ?_
  rintro _ w13 ⟨rfl, K12⟩
  have hn14 := itoa_len (n := a.amount) (by omega)
  replace K2 := K2.trans K12 (U := none_) (fun i h1 h2 => h2) (fun i h1 h2 => by exact h2)
  replace H3 := H3.keep K12 (fun h => h)
  replace H4 := H4.keep K12 (fun h => h)
  replace hOB := own_keep0 hOB K12
  refine ⟨_, _, rfl, rfl, (K12.mono (fun _ _ h => h.elim)), ?_⟩
  refine Dr.strong (S' := (fun wz => Keeps (fun i => ((Value.slice BA ys.length Bc)).ownBlock = some i) w13 wz)) ((Keeps.refl w13).mono (fun _ _ h => h.elim)) (fun wz hx => K12.trans hx (fun i _ h => h.elim) (fun _ _ h => h)) ?_
  clear K12
  refine Dr.take (i := 19) (v := (Value.string (str ((a.name ++ [61]) ++ (Lib.itoa a.amount))))) (by kernel_rfl) (by kernel_rfl) (fun wz hS => Runs.stradd (t := 9) (a := (a.name ++ [61])) (b := (Lib.itoa a.amount)) (by kernel_rfl) (by simp only [List.length_append, List.length_cons, List.length_nil]; omega)) (d := (some 35)) (by kernel_rfl) rfl ?_
  refine Dr.take (i := 20) (v := (Value.string (str (((a.name ++ [61]) ++ (Lib.itoa a.amount)) ++ [32])))) (by kernel_rfl) (by kernel_rfl) (fun wz hS => Runs.stradd (t := 9) (a := ((a.name ++ [61]) ++ (Lib.itoa a.amount))) (b := [32]) (by kernel_rfl) (by simp only [List.length_append, List.length_cons, List.length_nil]; omega)) (d := (some 36)) (by kernel_rfl) rfl ?_
  obtain ⟨v15, w16, hr17, hO18, K19, hg20⟩ := OwnB.app2S (P := Tryz.prog) (t := 66) (u := 9) (ty := 66) (ys := (((a.name ++ [61]) ++ (Lib.itoa a.amount)) ++ [32])) (by kernel_rfl) hOB (by simp only [List.length_append, List.length_cons, List.length_nil]; omega) (K2.size)
  obtain ⟨A21, c22, hf23⟩ := RdB.form (OwnB.rd hO18)
  subst hf23
  have ob24 : ∀ i, ((Value.slice A21 ((ys ++ (((a.name ++ [61]) ++ (Lib.itoa a.amount)) ++ [32])).length) c22)).ownBlock = some i → i ≠ r := fun i hi => by rcases hg20 i hi with h | h; (have := obBr i h; omega); (have := H3.lt; omega)
  have ob25 : ∀ i, ((Value.slice A21 ((ys ++ (((a.name ++ [61]) ++ (Lib.itoa a.amount)) ++ [32])).length) c22)).ownBlock = some i → i ≠ tb := fun i hi => by rcases hg20 i hi with h | h; (have := obBtb i h; omega); (have := H4.lt; omega)
  replace K2 := K2.trans K19 (U := none_) (fun i h1 h2 => h2) (fun i h1 h2 => by have h2 : ((Value.slice BA ys.length Bc)).ownBlock = some i := h2; exfalso; have := (World.ownsRow.lt hOB i h2).1; omega)
  replace H3 := H3.keep K19 (by intro h; change ((Value.slice BA ys.length Bc)).ownBlock = some r at h; have := obBr r h; omega)
  replace H4 := H4.keep K19 (by intro h; change ((Value.slice BA ys.length Bc)).ownBlock = some tb at h; have := obBtb tb h; omega)
  clear hOB
  refine Dr.go (i := 21) (v := (Value.slice A21 ((ys ++ (((a.name ++ [61]) ++ (Lib.itoa a.amount)) ++ [32])).length) c22)) (by kernel_rfl) (by kernel_rfl) (Runs.append (ts := #[66, 9]) (ty := 66) (vs := [(Value.slice BA ys.length Bc), (Value.string (str (((a.name ++ [61]) ++ (Lib.itoa a.amount)) ++ [32])))]) (by kernel_rfl) hr17) (d := (some 37)) (by kernel_rfl) rfl K19 ?_
  refine Dr.strong (S' := (fun wz => Keeps (fun i => ((Value.slice BA ys.length Bc)).ownBlock = some i) w16 wz)) ((Keeps.refl w16).mono (fun _ _ h => h.elim)) (fun wz hx => K19.trans hx (fun i _ h => by have h : ((Value.slice BA ys.length Bc)).ownBlock = some i := h; show ((Value.slice BA ys.length Bc)).ownBlock = some i; exact h) (fun _ _ h => h)) ?_
  clear K19 hr17 hg20
  refine Dr.takes (fuel' := 0) (is' := [22, 21, 20, 19, 18, 17, 16, 15, 14, 13, 12, 11, 10, 9, 8, 7, 6, 5, 4, 3, 2, 1, 0]) [22] [(0, (ptr r)), (2, (Value.string (str ([] : List UInt8)))), (3, (Value.slice A21 ((ys ++ (((a.name ++ [61]) ++ (Lib.itoa a.amount)) ++ [32])).length) c22)), (4, (i64 ((i : Nat) : Int))), (13, (Value.bool true))] (by kernel_rfl) rfl (by kernel_rfl) ?_
  refine Dr.done (by kernel_rfl) ?_
  refine qg ?_
  refine og 2 [(0, (ptr r)), (2, (Value.string (str ([] : List UInt8)))), (3, (Value.slice A21 ((ys ++ (((a.name ++ [61]) ++ (Lib.itoa a.amount)) ++ [32])).length) c22)), (4, (i64 ((i : Nat) : Int))), (13, (Value.bool true)), (15, (i64 (IntKind.i64.wrap (((i : Nat) : Int) + 1))))] 2 ?_
  have e26 : IntKind.i64.wrap (((i : Nat) : Int) + 1) = ((i + 1 : Nat) : Int) := by rw [wrap_i64 (by omega) (by omega)]; omega
  rw [e26]
  clear e26
  refine og 1 [(0, (ptr r)), (2, (Value.string (str ([] : List UInt8)))), (3, (Value.slice A21 ((ys ++ (((a.name ++ [61]) ++ (Lib.itoa a.amount)) ++ [32])).length) c22)), (4, (i64 ((i + 1 : Nat) : Int))), (13, (Value.bool true))] 3 ?_
  refine Ops.keep (R := [(0, (ptr r)), (2, (Value.string (str ([] : List UInt8)))), (3, (Value.slice A21 ((ys ++ (((a.name ++ [61]) ++ (Lib.itoa a.amount)) ++ [32])).length) c22)), (4, (i64 ((i + 1 : Nat) : Int)))]) (by kernel_rfl) ?_
  refine od ?_
  exact ⟨(A21, c22, ys ++ (((a.name ++ [61]) ++ (Lib.itoa a.amount)) ++ [32]), i + 1), ⟨rfl, hO18, ob24, ob25, (by omega), (by rw [flatM_take ha, ← hE]; rfl), K2, H3, H4⟩, (show S.length - (i + 1) < S.length - i from by omega)⟩
 ·rw [h5]
  have p27 : ¬ (((i : Nat) : Int) < ((S.length : Nat) : Int)) := of_decide_eq_false h5
  refine q_exit (id := 0) (by kernel_rfl) ?_
  refine qs ?_
  refine qg ?_
  refine og 1 [(2, (Value.string (str ([] : List UInt8)))), (3, (Value.slice BA ys.length Bc)), (38, (ptr r))] 1 ?_
  refine Ops.call (by kernel_rfl) (d := (some 39)) (by kernel_rfl) (Rsorted_calls _ r A c S B d K H3 (Rd.keep0 (by decide) hR K2) (Rd.keep0 (by decide) hQ K2) (by omega)) ?_
  rintro _ w30 ⟨A28, c29, rfl, K31, hO32⟩
  have ob34 : ∀ i, ((Value.slice A28 ((sortK K).length) c29)).ownBlock = some i → i ≠ r := fun i hi => by have := (World.ownsRow.lt hO32 i hi).1; have := H3.lt; omega
  have ob35 : ∀ i, ((Value.slice A28 ((sortK K).length) c29)).ownBlock = some i → i ≠ tb := fun i hi => by have := (World.ownsRow.lt hO32 i hi).1; have := H4.lt; omega
  have oo36 : ∀ i, ((Value.slice BA ys.length Bc)).ownBlock = some i → ((Value.slice A28 ((sortK K).length) c29)).ownBlock = some i → False := fun i hi hs => by have := (World.ownsRow.lt hO32 i hs).1; have := (World.ownsRow.lt hOB i hi).2; omega
  have oo37 : ∀ i, ((Value.slice A28 ((sortK K).length) c29)).ownBlock = some i → ((Value.slice BA ys.length Bc)).ownBlock = some i → False := fun i hi hs => oo36 i hs hi
  have O33 := own_base hO32 K2.size
  clear hO32
  have hl38 := (sortK_perm K).length_eq
  refine ⟨_, _, rfl, rfl, ?_⟩
  replace K2 := K2.trans K31 (U := none_) (fun i h1 h2 => h2) (fun i h1 h2 => by exact h2)
  replace H3 := H3.keep K31 (fun h => h)
  replace H4 := H4.keep K31 (fun h => h)
  replace hOB := own_keep0 hOB K31
  clear K31
  refine og 1 [(2, (Value.string (str ([] : List UInt8)))), (3, (Value.slice BA ys.length Bc)), (5, (Value.slice A28 ((sortK K).length) c29))] 3 ?_
  refine od ?_
  refine qs ?_
  refine qs ?_
  refine qg ?_
  refine og 1 [(2, (Value.string (str ([] : List UInt8)))), (3, (Value.slice BA ys.length Bc)), (5, (Value.slice A28 ((sortK K).length) c29)), (6, (i64 0))] 1 ?_
  refine od ?_
  refine q_block (id := 2) (by kernel_rfl) ?_
  have hE1 : ys = S.flatMap rowT := by rw [hE, List.take_of_length_le (by omega)]
  have hSf := hL.led.flat S.length
  rw [List.take_of_length_le (Nat.le_refl _)] at hSf
  have hkl2 := (sortK_perm K).length_eq
  clear hE
  refine q_keep (R := [(2, (Value.string (str ([] : List UInt8)))), (3, (Value.slice BA ys.length Bc)), (5, (Value.slice A28 ((sortK K).length) c29)), (6, (i64 0))]) (by kernel_rfl) ?_
  refine q_loop (fun (gs : (Option Addr) × Nat × (List UInt8) × Nat) L (wx : World) => match gs with | (BA, Bc, ys, j) => L = [(2, (Value.string (str ([] : List UInt8)))), (3, (Value.slice BA ys.length Bc)), (5, (Value.slice A28 ((sortK K).length) c29)), (6, (i64 ((j : Nat) : Int)))] ∧ OwnT wx w.heap.size 90 10 kref (Value.slice A28 ((sortK K).length) c29) (sortK K) ∧ (∀ i, ((Value.slice A28 ((sortK K).length) c29)).ownBlock = some i → i ≠ r) ∧ (∀ i, ((Value.slice A28 ((sortK K).length) c29)).ownBlock = some i → i ≠ tb) ∧ (∀ i, ((Value.slice BA ys.length Bc)).ownBlock = some i → ((Value.slice A28 ((sortK K).length) c29)).ownBlock = some i → False) ∧ OwnB wx w.heap.size 5 (Value.slice BA ys.length Bc) ys ∧ (∀ i, ((Value.slice BA ys.length Bc)).ownBlock = some i → i ≠ r) ∧ (∀ i, ((Value.slice BA ys.length Bc)).ownBlock = some i → i ≠ tb) ∧ (∀ i, ((Value.slice A28 ((sortK K).length) c29)).ownBlock = some i → ((Value.slice BA ys.length Bc)).ownBlock = some i → False) ∧ j ≤ (sortK K).length ∧ ys = S.flatMap rowT ++ ((sortK K).take j).flatMap keptT ∧ Keeps none_ w wx ∧ Has wx r (rowL [(Value.slice A S.length c), (Value.slice B K.length d)] 45) ∧ Tab Tryz.prog wx tb) (fun (gs : (Option Addr) × Nat × (List UInt8) × Nat) => match gs with | (BA, Bc, ys, j) => (sortK K).length - j) (BA, Bc, ys, 0) (by kernel_rfl) ⟨rfl, O33, ob34, ob35, oo36, hOB, obBr, obBtb, oo37, Nat.zero_le _, (by rw [hE1]; simp), K2, H3, H4⟩ ?_
  clear H3 H4 hOB O33 K2
  rintro ⟨BA, Bc, ys, j⟩ _ w39 ⟨rfl, hON, obNr, obNtb, ooNB, hOB, obBr, obBtb, ooBN, hi, hE, K40, H41, H42⟩
  refine qs ?_
  refine qs ?_
  refine qg ?_
  refine og 4 [(2, (Value.string (str ([] : List UInt8)))), (3, (Value.slice BA ys.length Bc)), (5, (Value.slice A28 ((sortK K).length) c29)), (6, (i64 ((j : Nat) : Int))), (43, (Value.bool (decide (((j : Nat) : Int) < (((sortK K).length : Nat) : Int)))))] 4 ?_
  refine od ?_
  refine q_cond (o := .tmp 43) (b := (decide (((j : Nat) : Int) < (((sortK K).length : Nat) : Int)))) (by kernel_rfl) rfl (fun h43 => ?_) (fun h43 => ?_)
  ·rw [h43]
   have p44 : ((j : Nat) : Int) < (((sortK K).length : Nat) : Int) := of_decide_eq_true h43
   obtain ⟨y, hy⟩ : ∃ y, (sortK K)[j]? = some y := ⟨_, List.getElem?_eq_getElem (by omega)⟩
   obtain ⟨hyK, hyi, hyg⟩ := kept_at hL.ids hy
   have hyo := hL.ok y hyK
   have hyw := hyo.why
   have hyf := (nameOk_len hyo.frm).2
   have hyk := (nameOk_len hyo.key).2
   have hyl := hL.kflat j
   have hyl2 := congrArg List.length hE
   rw [List.length_append] at hyl2
   obtain ⟨rb45, ro46, hA47⟩ := Rd.addr (OwnT.rd hON) (by omega)
   refine q_skip (by kernel_rfl) ?_
   refine qs ?_
   refine q_block (id := 3) (by kernel_rfl) ?_
   refine q_draw (fun wz => Keeps (fun i => ((Value.slice BA ys.length Bc)).ownBlock = some i) w39 wz) 27 (by kernel_rfl) (by kernel_rfl) (by kernel_rfl) (fun w48 K49 _ _ => ⟨(K49.mono (fun _ _ h => h.elim)), ?_⟩)
   replace K40 := K40.trans K49 (U := none_) (fun i h1 h2 => h2) (fun i h1 h2 => by exact h2)
   replace H41 := H41.keep K49 (fun h => h)
   replace H42 := H42.keep K49 (fun h => h)
   replace hON := own_keep0 hON K49
   replace hOB := own_keep0 hOB K49
   refine Dr.strong (S' := (fun wz => Keeps (fun i => ((Value.slice BA ys.length Bc)).ownBlock = some i) w48 wz)) ((Keeps.refl w48).mono (fun _ _ h => h.elim)) (fun wz hx => K49.trans hx (fun i _ h => h.elim) (fun _ _ h => h)) ?_
   clear K49
   refine Dr.takes (fuel' := 24) (is' := [2, 1, 0]) [0, 1, 2] [(2, (Value.string (str ([] : List UInt8)))), (3, (Value.slice BA ys.length Bc)), (5, (Value.slice A28 ((sortK K).length) c29)), (6, (i64 ((j : Nat) : Int))), (43, (Value.bool true)), (46, (Value.slice BA ys.length Bc)), (47, (Value.slice A28 ((sortK K).length) c29)), (48, (i64 ((j : Nat) : Int)))] (by kernel_rfl) rfl (by kernel_rfl) ?_
   refine Dr.take (i := 3) (v := (Value.pointer (some ⟨rb45, ro46 + j * 10, none⟩))) (by kernel_rfl) (by kernel_rfl) (fun wz hS => Runs.ixSliceE (k := IntKind.i64) (t := 43) (len := ((sortK K).length)) (cap := c29) (s := 10) (off' := ro46 + j * 10) (i := ((j : Nat) : Int)) hA47 (by kernel_rfl) (by kernel_rfl) (by omega) (by omega) (by omega)) (d := (some 49)) (by kernel_rfl) rfl ?_
   refine Dr.takes (fuel' := 21) (is' := [5, 4, 3, 2, 1, 0]) [4, 5] [(2, (Value.string (str ([] : List UInt8)))), (3, (Value.slice BA ys.length Bc)), (5, (Value.slice A28 ((sortK K).length) c29)), (6, (i64 ((j : Nat) : Int))), (43, (Value.bool true)), (46, (Value.slice BA ys.length Bc)), (51, (Value.pointer (some ⟨rb45, ro46 + j * 10 + 1, none⟩)))] (by kernel_rfl) rfl (by kernel_rfl) ?_
   refine Dr.take (i := 6) (v := (Value.string (str y.op.frm))) (by kernel_rfl) (by kernel_rfl) (fun wz hS => Runs.load (t := 9) (a := ⟨rb45, ro46 + j * 10 + 1, none⟩) (by kernel_rfl) (RdT.ldf (f := kref) (x := y) (o := 1) kref10 (OwnT.rd (own_keep hON hS (fun i hi h => by have h : ((Value.slice BA ys.length Bc)).ownBlock = some i := h; (exact ooBN i hi h)))) (by kernel_rfl) hA47 hy rfl)) (d := (some 52)) (by kernel_rfl) rfl ?_
   refine Dr.take (i := 7) (v := (Value.string (str (y.op.frm ++ [47])))) (by kernel_rfl) (by kernel_rfl) (fun wz hS => Runs.stradd (t := 9) (a := y.op.frm) (b := [47]) (by kernel_rfl) (by simp only [List.length_append, List.length_cons, List.length_nil]; omega)) (d := (some 53)) (by kernel_rfl) rfl ?_
   refine Dr.takes (fuel' := 17) (is' := [9, 8, 7, 6, 5, 4, 3, 2, 1, 0]) [8, 9] [(2, (Value.string (str ([] : List UInt8)))), (3, (Value.slice BA ys.length Bc)), (5, (Value.slice A28 ((sortK K).length) c29)), (6, (i64 ((j : Nat) : Int))), (43, (Value.bool true)), (46, (Value.slice BA ys.length Bc)), (53, (Value.string (str (y.op.frm ++ [47])))), (54, (Value.slice A28 ((sortK K).length) c29)), (55, (i64 ((j : Nat) : Int)))] (by kernel_rfl) rfl (by kernel_rfl) ?_
   refine Dr.take (i := 10) (v := (Value.pointer (some ⟨rb45, ro46 + j * 10, none⟩))) (by kernel_rfl) (by kernel_rfl) (fun wz hS => Runs.ixSliceE (k := IntKind.i64) (t := 43) (len := ((sortK K).length)) (cap := c29) (s := 10) (off' := ro46 + j * 10) (i := ((j : Nat) : Int)) hA47 (by kernel_rfl) (by kernel_rfl) (by omega) (by omega) (by omega)) (d := (some 56)) (by kernel_rfl) rfl ?_
   refine Dr.takes (fuel' := 14) (is' := [12, 11, 10, 9, 8, 7, 6, 5, 4, 3, 2, 1, 0]) [11, 12] [(2, (Value.string (str ([] : List UInt8)))), (3, (Value.slice BA ys.length Bc)), (5, (Value.slice A28 ((sortK K).length) c29)), (6, (i64 ((j : Nat) : Int))), (43, (Value.bool true)), (46, (Value.slice BA ys.length Bc)), (53, (Value.string (str (y.op.frm ++ [47])))), (58, (Value.pointer (some ⟨rb45, ro46 + j * 10 + 4, none⟩)))] (by kernel_rfl) rfl (by kernel_rfl) ?_
   refine Dr.take (i := 13) (v := (Value.string (str y.op.key))) (by kernel_rfl) (by kernel_rfl) (fun wz hS => Runs.load (t := 9) (a := ⟨rb45, ro46 + j * 10 + 4, none⟩) (by kernel_rfl) (RdT.ldf (f := kref) (x := y) (o := 4) kref10 (OwnT.rd (own_keep hON hS (fun i hi h => by have h : ((Value.slice BA ys.length Bc)).ownBlock = some i := h; (exact ooBN i hi h)))) (by kernel_rfl) hA47 hy rfl)) (d := (some 59)) (by kernel_rfl) rfl ?_
   refine Dr.take (i := 14) (v := (Value.string (str ((y.op.frm ++ [47]) ++ y.op.key)))) (by kernel_rfl) (by kernel_rfl) (fun wz hS => Runs.stradd (t := 9) (a := (y.op.frm ++ [47])) (b := y.op.key) (by kernel_rfl) (by simp only [List.length_append, List.length_cons, List.length_nil]; omega)) (d := (some 60)) (by kernel_rfl) rfl ?_
   refine Dr.take (i := 15) (v := (Value.string (str (((y.op.frm ++ [47]) ++ y.op.key) ++ [58])))) (by kernel_rfl) (by kernel_rfl) (fun wz hS => Runs.stradd (t := 9) (a := ((y.op.frm ++ [47]) ++ y.op.key)) (b := [58]) (by kernel_rfl) (by simp only [List.length_append, List.length_cons, List.length_nil]; omega)) (d := (some 61)) (by kernel_rfl) rfl ?_
   refine Dr.takes (fuel' := 9) (is' := [17, 16, 15, 14, 13, 12, 11, 10, 9, 8, 7, 6, 5, 4, 3, 2, 1, 0]) [16, 17] [(2, (Value.string (str ([] : List UInt8)))), (3, (Value.slice BA ys.length Bc)), (5, (Value.slice A28 ((sortK K).length) c29)), (6, (i64 ((j : Nat) : Int))), (43, (Value.bool true)), (46, (Value.slice BA ys.length Bc)), (61, (Value.string (str (((y.op.frm ++ [47]) ++ y.op.key) ++ [58])))), (62, (Value.slice A28 ((sortK K).length) c29)), (63, (i64 ((j : Nat) : Int)))] (by kernel_rfl) rfl (by kernel_rfl) ?_
   refine Dr.take (i := 18) (v := (Value.pointer (some ⟨rb45, ro46 + j * 10, none⟩))) (by kernel_rfl) (by kernel_rfl) (fun wz hS => Runs.ixSliceE (k := IntKind.i64) (t := 43) (len := ((sortK K).length)) (cap := c29) (s := 10) (off' := ro46 + j * 10) (i := ((j : Nat) : Int)) hA47 (by kernel_rfl) (by kernel_rfl) (by omega) (by omega) (by omega)) (d := (some 64)) (by kernel_rfl) rfl ?_
   refine Dr.takes (fuel' := 6) (is' := [20, 19, 18, 17, 16, 15, 14, 13, 12, 11, 10, 9, 8, 7, 6, 5, 4, 3, 2, 1, 0]) [19, 20] [(2, (Value.string (str ([] : List UInt8)))), (3, (Value.slice BA ys.length Bc)), (5, (Value.slice A28 ((sortK K).length) c29)), (6, (i64 ((j : Nat) : Int))), (43, (Value.bool true)), (46, (Value.slice BA ys.length Bc)), (61, (Value.string (str (((y.op.frm ++ [47]) ++ y.op.key) ++ [58])))), (66, (Value.pointer (some ⟨rb45, ro46 + j * 10 + 7, none⟩)))] (by kernel_rfl) rfl (by kernel_rfl) ?_
   refine Dr.take (i := 21) (v := (i64 y.why)) (by kernel_rfl) (by kernel_rfl) (fun wz hS => Runs.load (t := 27) (a := ⟨rb45, ro46 + j * 10 + 7, none⟩) (by kernel_rfl) (RdT.ldf (f := kref) (x := y) (o := 7) kref10 (OwnT.rd (own_keep hON hS (fun i hi h => by have h : ((Value.slice BA ys.length Bc)).ownBlock = some i := h; (exact ooBN i hi h)))) (by kernel_rfl) hA47 hy rfl)) (d := (some 67)) (by kernel_rfl) rfl ?_
   refine Dr.call (i := 22) (by kernel_rfl) (by kernel_rfl) (d := (some 68)) (by kernel_rfl) (fun _ => Itoa_calls _ y.why (by omega)) ?_
   rintro _ w51 ⟨rfl, K50⟩
   have hn52 := dec_len (n := y.why.toNat) (by omega)
   replace K40 := K40.trans K50 (U := none_) (fun i h1 h2 => h2) (fun i h1 h2 => by exact h2)
   replace H41 := H41.keep K50 (fun h => h)
   replace H42 := H42.keep K50 (fun h => h)
   replace hON := own_keep0 hON K50
   replace hOB := own_keep0 hOB K50
   refine ⟨_, _, rfl, rfl, (K50.mono (fun _ _ h => h.elim)), ?_⟩
   refine Dr.strong (S' := (fun wz => Keeps (fun i => ((Value.slice BA ys.length Bc)).ownBlock = some i) w51 wz)) ((Keeps.refl w51).mono (fun _ _ h => h.elim)) (fun wz hx => K50.trans hx (fun i _ h => h.elim) (fun _ _ h => h)) ?_
   clear K50
   refine Dr.take (i := 23) (v := (Value.string (str ((((y.op.frm ++ [47]) ++ y.op.key) ++ [58]) ++ (Lib.decDigits y.why.toNat))))) (by kernel_rfl) (by kernel_rfl) (fun wz hS => Runs.stradd (t := 9) (a := (((y.op.frm ++ [47]) ++ y.op.key) ++ [58])) (b := (Lib.decDigits y.why.toNat)) (by kernel_rfl) (by simp only [List.length_append, List.length_cons, List.length_nil]; omega)) (d := (some 69)) (by kernel_rfl) rfl ?_
   refine Dr.take (i := 24) (v := (Value.string (str (((((y.op.frm ++ [47]) ++ y.op.key) ++ [58]) ++ (Lib.decDigits y.why.toNat)) ++ [32])))) (by kernel_rfl) (by kernel_rfl) (fun wz hS => Runs.stradd (t := 9) (a := ((((y.op.frm ++ [47]) ++ y.op.key) ++ [58]) ++ (Lib.decDigits y.why.toNat))) (b := [32]) (by kernel_rfl) (by simp only [List.length_append, List.length_cons, List.length_nil]; omega)) (d := (some 70)) (by kernel_rfl) rfl ?_
   obtain ⟨v53, w54, hr55, hO56, K57, hg58⟩ := OwnB.app2S (P := Tryz.prog) (t := 66) (u := 9) (ty := 66) (ys := (((((y.op.frm ++ [47]) ++ y.op.key) ++ [58]) ++ (Lib.decDigits y.why.toNat)) ++ [32])) (by kernel_rfl) hOB (by simp only [List.length_append, List.length_cons, List.length_nil]; omega) (K40.size)
   obtain ⟨A59, c60, hf61⟩ := RdB.form (OwnB.rd hO56)
   subst hf61
   have ob62 : ∀ i, ((Value.slice A59 ((ys ++ (((((y.op.frm ++ [47]) ++ y.op.key) ++ [58]) ++ (Lib.decDigits y.why.toNat)) ++ [32])).length) c60)).ownBlock = some i → i ≠ r := fun i hi => by rcases hg58 i hi with h | h; (have := obBr i h; omega); (have := H41.lt; omega)
   have ob63 : ∀ i, ((Value.slice A59 ((ys ++ (((((y.op.frm ++ [47]) ++ y.op.key) ++ [58]) ++ (Lib.decDigits y.why.toNat)) ++ [32])).length) c60)).ownBlock = some i → i ≠ tb := fun i hi => by rcases hg58 i hi with h | h; (have := obBtb i h; omega); (have := H42.lt; omega)
   have oo64 : ∀ i, ((Value.slice A28 ((sortK K).length) c29)).ownBlock = some i → ((Value.slice A59 ((ys ++ (((((y.op.frm ++ [47]) ++ y.op.key) ++ [58]) ++ (Lib.decDigits y.why.toNat)) ++ [32])).length) c60)).ownBlock = some i → False := fun i hi hs => by rcases hg58 i hs with h | h; (exact ooBN i hi h); (have := (World.ownsRow.lt hON i hi).2; omega)
   have oo65 : ∀ i, ((Value.slice A59 ((ys ++ (((((y.op.frm ++ [47]) ++ y.op.key) ++ [58]) ++ (Lib.decDigits y.why.toNat)) ++ [32])).length) c60)).ownBlock = some i → ((Value.slice A28 ((sortK K).length) c29)).ownBlock = some i → False := fun i hi hs => oo64 i hs hi
   replace K40 := K40.trans K57 (U := none_) (fun i h1 h2 => h2) (fun i h1 h2 => by have h2 : ((Value.slice BA ys.length Bc)).ownBlock = some i := h2; exfalso; have := (World.ownsRow.lt hOB i h2).1; omega)
   replace H41 := H41.keep K57 (by intro h; change ((Value.slice BA ys.length Bc)).ownBlock = some r at h; have := obBr r h; omega)
   replace H42 := H42.keep K57 (by intro h; change ((Value.slice BA ys.length Bc)).ownBlock = some tb at h; have := obBtb tb h; omega)
   replace hON := own_keep hON K57 (fun i hi hs => by have hs : ((Value.slice BA ys.length Bc)).ownBlock = some i := hs; exact ooBN i hi hs)
   clear hOB
   refine Dr.go (i := 25) (v := (Value.slice A59 ((ys ++ (((((y.op.frm ++ [47]) ++ y.op.key) ++ [58]) ++ (Lib.decDigits y.why.toNat)) ++ [32])).length) c60)) (by kernel_rfl) (by kernel_rfl) (Runs.append (ts := #[66, 9]) (ty := 66) (vs := [(Value.slice BA ys.length Bc), (Value.string (str (((((y.op.frm ++ [47]) ++ y.op.key) ++ [58]) ++ (Lib.decDigits y.why.toNat)) ++ [32])))]) (by kernel_rfl) hr55) (d := (some 71)) (by kernel_rfl) rfl K57 ?_
   refine Dr.strong (S' := (fun wz => Keeps (fun i => ((Value.slice BA ys.length Bc)).ownBlock = some i) w54 wz)) ((Keeps.refl w54).mono (fun _ _ h => h.elim)) (fun wz hx => K57.trans hx (fun i _ h => by have h : ((Value.slice BA ys.length Bc)).ownBlock = some i := h; show ((Value.slice BA ys.length Bc)).ownBlock = some i; exact h) (fun _ _ h => h)) ?_
   clear K57 hr55 hg58
   refine Dr.takes (fuel' := 0) (is' := [26, 25, 24, 23, 22, 21, 20, 19, 18, 17, 16, 15, 14, 13, 12, 11, 10, 9, 8, 7, 6, 5, 4, 3, 2, 1, 0]) [26] [(2, (Value.string (str ([] : List UInt8)))), (3, (Value.slice A59 ((ys ++ (((((y.op.frm ++ [47]) ++ y.op.key) ++ [58]) ++ (Lib.decDigits y.why.toNat)) ++ [32])).length) c60)), (5, (Value.slice A28 ((sortK K).length) c29)), (6, (i64 ((j : Nat) : Int))), (43, (Value.bool true))] (by kernel_rfl) rfl (by kernel_rfl) ?_
   refine Dr.done (by kernel_rfl) ?_
   refine qg ?_
   refine og 2 [(2, (Value.string (str ([] : List UInt8)))), (3, (Value.slice A59 ((ys ++ (((((y.op.frm ++ [47]) ++ y.op.key) ++ [58]) ++ (Lib.decDigits y.why.toNat)) ++ [32])).length) c60)), (5, (Value.slice A28 ((sortK K).length) c29)), (6, (i64 ((j : Nat) : Int))), (43, (Value.bool true)), (45, (i64 (IntKind.i64.wrap (((j : Nat) : Int) + 1))))] 2 ?_
   have e66 : IntKind.i64.wrap (((j : Nat) : Int) + 1) = ((j + 1 : Nat) : Int) := by rw [wrap_i64 (by omega) (by omega)]; omega
   rw [e66]
   clear e66
   refine og 1 [(2, (Value.string (str ([] : List UInt8)))), (3, (Value.slice A59 ((ys ++ (((((y.op.frm ++ [47]) ++ y.op.key) ++ [58]) ++ (Lib.decDigits y.why.toNat)) ++ [32])).length) c60)), (5, (Value.slice A28 ((sortK K).length) c29)), (6, (i64 ((j + 1 : Nat) : Int))), (43, (Value.bool true))] 3 ?_
   refine Ops.keep (R := [(2, (Value.string (str ([] : List UInt8)))), (3, (Value.slice A59 ((ys ++ (((((y.op.frm ++ [47]) ++ y.op.key) ++ [58]) ++ (Lib.decDigits y.why.toNat)) ++ [32])).length) c60)), (5, (Value.slice A28 ((sortK K).length) c29)), (6, (i64 ((j + 1 : Nat) : Int)))]) (by kernel_rfl) ?_
   refine od ?_
   exact ⟨(A59, c60, ys ++ (((((y.op.frm ++ [47]) ++ y.op.key) ++ [58]) ++ (Lib.decDigits y.why.toNat)) ++ [32]), j + 1), ⟨rfl, hON, obNr, obNtb, oo65, hO56, ob62, ob63, oo64, (by omega), (by rw [flatM_take hy, ← List.append_assoc (S.flatMap rowT), ← hE]; rfl), K40, H41, H42⟩, (show (sortK K).length - (j + 1) < (sortK K).length - j from by omega)⟩
  ·rw [h43]
   have p67 : ¬ (((j : Nat) : Int) < (((sortK K).length : Nat) : Int)) := of_decide_eq_false h43
   refine q_exit (id := 2) (by kernel_rfl) ?_
   refine qs ?_
   refine qg ?_
   refine og 1 [(2, (Value.string (str ([] : List UInt8)))), (72, (Value.slice BA ys.length Bc))] 1 ?_
   refine Ops.go (v := (Value.string (str ys))) (by kernel_rfl) (Runs.b2s (s := 66) (d := 9) (e := 5) (by kernel_rfl) (by kernel_rfl) (by kernel_rfl) (OwnB.rd hOB)) (d := (some 73)) (by kernel_rfl) rfl ?_
   refine og 1 [(2, (Value.string (str ys)))] 3 ?_
   refine od ?_
   refine q_ret (by kernel_rfl) ?_
   refine ⟨(Value.string (str ys)), retv_tmp rfl rfl, ?_⟩
   have e : ys = textE S K := by rw [hE, List.take_of_length_le (by omega)]; rfl
   exact ⟨by rw [e], K40⟩
end Go.Proofs.YtnfeemhpoaflfaaGreatDoor
namespace Go.Q
open Go.RowKit
theorem doR_rows (S : List RowM) (K : List KeptM) (o : Opm) : (doR S K o).rows.length ≤ S.length := by
  unfold doR
  repeat' split
  all_goals first | exact Nat.zero_le _ | exact Nat.le_refl _
theorem flatM_perm {α β : Type} (f : α → List β) {l r : List α} (h : l.Perm r) : (l.flatMap f).length = (r.flatMap f).length := by
  induction h with
  | nil => rfl
  | cons x _ ih => rw [List.flatMap_cons, List.flatMap_cons, List.length_append, List.length_append, ih]
  | swap x y l => simp only [List.flatMap_cons, List.length_append]; omega
  | trans _ _ h1 h2 => exact h1.trans h2
theorem text_len (S : List RowM) (K : List KeptM) : (textE S K).length = (S.flatMap rowT).length + (K.flatMap keptT).length := by
  unfold textE
  rw [List.length_append, flatM_perm keptT (sortK_perm K)]
theorem insW_text (S : List RowM) (a : RowM) : ((insW S a).flatMap rowT).length = (S.flatMap rowT).length + (rowT a).length := by
  rw [flatM_perm rowT (insW_perm S a), List.flatMap_append, List.length_append]
  simp
abbrev othE : Opm := ⟨1, [111, 116, 104, 101, 114, 95, 111, 110, 101, 95, 109, 111, 114, 101], [], 0, [107], 0, 0⟩
theorem oth_text {S : List RowM} : (S.flatMap rowT).length ≤ ((actS S (plainE othE)).flatMap rowT).length := by
  unfold actS
  rw [if_pos (show (plainE othE).kind = 1 from rfl)]
  split
  · exact Nat.le_refl _
  · rw [insW_text]; omega
theorem oth_grow {S : List RowM} {K : List KeptM} (h : Fresh K othE) : (textE S K).length < (textE (doS S K othE) (doK S K othE)).length := by
  rw [text_len, text_len, show doS S K othE = actS S (plainE othE) from if_pos h, show doK S K othE = K ++ [⟨plainE othE, actE S (plainE othE)⟩] from if_pos h, List.flatMap_append, List.length_append]
  have h1 := oth_text (S := S)
  have h2 : 0 < ([(⟨plainE othE, actE S (plainE othE)⟩ : KeptM)].flatMap keptT).length := by
    simp only [List.flatMap_cons, List.flatMap_nil, keptT, idT, List.length_append, List.length_cons]; omega
  omega
theorem does_same {S : List RowM} {K : List KeptM} (h : textE S K = textE (doS S K othE) (doK S K othE)) : S = doS S K othE ∧ K.Perm (doK S K othE) := by
  by_cases hf : Fresh K othE
  · have := oth_grow (S := S) hf
    rw [← h] at this
    exact absurd this (Nat.lt_irrefl _)
  · rw [show doS S K othE = S from if_neg hf, show doK S K othE = K from if_neg hf]
    exact ⟨rfl, List.Perm.refl _⟩
theorem does_not {S S' : List RowM} {K K' : List KeptM} {t : Bool} (hL : Ledg S K) (ht : t = true ↔ S = S' ∧ K.Perm K') (h : (textE S K == textE S' K') = false) : t = false := by
  cases t
  · rfl
  · obtain ⟨h1, h2⟩ := ht.1 rfl
    subst h1
    have : textE S K = textE S K' := by unfold textE; rw [sortK_of_perm hL.ids h2]
    rw [this] at h
    simp at h
end Go.Q
namespace Go.Proofs.YtnfeemhpoaflfaaGreatDoor
open Go.Q Go.RowKit

set_option maxHeartbeats 4000000 in
theorem Does_calls (w : World) (OAa : Option Addr) (oca : Nat) (la : List Opm) (tb : Nat) (hLa : RdT w 7 Opm.cells (.slice OAa la.length oca) la) (hLoa : ∀ x ∈ la, x.Ok) (HT : Tab Tryz.prog w tb) : Calls Tryz.prog 6 ⟨[(Value.slice OAa la.length oca)]⟩ w (fun e w' => e = .returned (.bool true) ∧ Keeps none_ w w') := by
 have hcapa := RdT.len Opm.seven (by decide) hLa
 have HTl := HT.lt
 have K0 : Keeps none_ w w := Keeps.refl w
 refine q_calls Tryz.func6 (by kernel_rfl) (by kernel_rfl) ?_
 refine qs ?_
 refine qg ?_
 refine og 1 [(0, (Value.slice OAa la.length oca)), (2, (Value.bool false))] 1 ?_
 refine od ?_
 refine qs ?_
 refine qg ?_
 refine Ops.call (by kernel_rfl) (d := (some 13)) (by kernel_rfl) (New_calls _) ?_
 rintro _ w4 ⟨b1, mb2, kb3, rfl, K5, H6, Hm7, Hk8, hb9, hb10, hb11, hb12, hb13, hb14⟩
 have lb1tb : tb < b1 := by have := HT.lt; omega
 have lmb2tb : tb < mb2 := by have := HT.lt; omega
 have lkb3tb : tb < kb3 := by have := HT.lt; omega
 have nb1 : w.heap.size ≤ b1 := by have := K0.size; omega
 have nmb2 : w.heap.size ≤ mb2 := by have := K0.size; omega
 have nkb3 : w.heap.size ≤ kb3 := by have := K0.size; omega
 refine ⟨_, _, rfl, rfl, ?_⟩
 replace K0 := K0.t0 K5
 replace HT := HT.keep K5 (fun h => h)
 clear K5
 refine og 1 [(0, (Value.slice OAa la.length oca)), (2, (Value.bool false)), (3, (ptr b1))] 2 ?_
 refine od ?_
 refine qs ?_
 refine qs ?_
 refine qg ?_
 refine og 2 [(0, (Value.slice OAa la.length oca)), (2, (Value.bool false)), (3, (ptr b1)), (15, (Value.bool false))] 2 ?_
 refine od ?_
 refine q_else (o := .tmp 15) (by kernel_rfl) rfl ?_
 refine q_skip (by kernel_rfl) ?_
 refine qs ?_
 refine qg ?_
 refine og 1 [(0, (Value.slice OAa la.length oca)), (2, (Value.bool false)), (3, (ptr b1)), (16, (agg [(Value.slice none 0 0), (Value.slice none 0 0)]))] 1 ?_
 refine Ops.new (o := rowL [(Value.slice none 0 0), (Value.slice none 0 0)] 45) (V := fun b => (ptr b)) (by kernel_rfl) (d := (some 17)) (by kernel_rfl) (fun b => rfl) (fun b15 w16 hb17 H18 K19 hs20 => ?_)
 have lb15tb : tb < b15 := by have := HT.lt; omega
 have lb15b1 : b1 < b15 := by have := H6.lt; omega
 have lb15mb2 : mb2 < b15 := by have := Hm7.lt; omega
 have lb15kb3 : kb3 < b15 := by have := Hk8.lt; omega
 have nb15 : w.heap.size ≤ b15 := by have := K0.size; omega
 replace K0 := K0.t0 K19
 replace HT := HT.keep K19 (fun h => h)
 replace H6 := H6.keep K19 (fun h => h)
 replace Hm7 := Hm7.keep K19 (fun h => h)
 replace Hk8 := Hk8.keep K19 (fun h => h)
 clear K19 hs20
 refine og 1 [(0, (Value.slice OAa la.length oca)), (2, (Value.bool false)), (3, (ptr b1)), (4, (ptr b15))] 3 ?_
 refine od ?_
 refine qs ?_
 refine qs ?_
 refine qg ?_
 refine og 1 [(0, (Value.slice OAa la.length oca)), (2, (Value.bool false)), (3, (ptr b1)), (4, (ptr b15)), (5, (i64 0))] 1 ?_
 refine od ?_
 refine q_block (id := 0) (by kernel_rfl) ?_
 refine q_keep (R := [(0, (Value.slice OAa la.length oca)), (3, (ptr b1)), (4, (ptr b15)), (5, (i64 0))]) (by kernel_rfl) ?_
 refine q_loop (fun (gs : Nat × (List (List UInt8 × Int)) × (List RowM) × (List KeptM) × (Option Addr) × Nat × (Option Addr) × Nat) L (wx : World) => match gs with | (ia, mma, SSa, KKa, VA, vc, WA, wc) => L = [(0, (Value.slice OAa la.length oca)), (3, (ptr b1)), (4, (ptr b15)), (5, (i64 ((ia : Nat) : Int)))] ∧ OwnT wx w.heap.size 47 2 RowM.cells (Value.slice VA SSa.length vc) SSa ∧ (∀ i, ((Value.slice VA SSa.length vc)).ownBlock = some i → i ≠ tb) ∧ (∀ i, ((Value.slice VA SSa.length vc)).ownBlock = some i → i ≠ b1) ∧ (∀ i, ((Value.slice VA SSa.length vc)).ownBlock = some i → i ≠ mb2) ∧ (∀ i, ((Value.slice VA SSa.length vc)).ownBlock = some i → i ≠ kb3) ∧ (∀ i, ((Value.slice VA SSa.length vc)).ownBlock = some i → i ≠ b15) ∧ (∀ i, ((Value.slice WA KKa.length wc)).ownBlock = some i → ((Value.slice VA SSa.length vc)).ownBlock = some i → False) ∧ OwnT wx w.heap.size 90 10 kref (Value.slice WA KKa.length wc) KKa ∧ (∀ i, ((Value.slice WA KKa.length wc)).ownBlock = some i → i ≠ tb) ∧ (∀ i, ((Value.slice WA KKa.length wc)).ownBlock = some i → i ≠ b1) ∧ (∀ i, ((Value.slice WA KKa.length wc)).ownBlock = some i → i ≠ mb2) ∧ (∀ i, ((Value.slice WA KKa.length wc)).ownBlock = some i → i ≠ kb3) ∧ (∀ i, ((Value.slice WA KKa.length wc)).ownBlock = some i → i ≠ b15) ∧ (∀ i, ((Value.slice VA SSa.length vc)).ownBlock = some i → ((Value.slice WA KKa.length wc)).ownBlock = some i → False) ∧ ia ≤ 120 ∧ LBook mma SSa KKa ∧ KKa.length ≤ ia ∧ Keeps none_ w wx ∧ Tab Tryz.prog wx tb ∧ Has wx b1 (rowL [(Value.map (some mb2)), (Value.map (some kb3))] 54) ∧ HasMap wx mb2 kstr ki64 mma ∧ HasMap wx kb3 kpair keptv (KKa.map KeptM.kv) ∧ Has wx b15 (rowL [(Value.slice VA SSa.length vc), (Value.slice WA KKa.length wc)] 45)) (fun (gs : Nat × (List (List UInt8 × Int)) × (List RowM) × (List KeptM) × (Option Addr) × Nat × (Option Addr) × Nat) => match gs with | (ia, mma, SSa, KKa, VA, vc, WA, wc) => 120 - ia) (0, [], [], [], none, 0, none, 0) (by kernel_rfl) ⟨rfl, (OwnT.nil _ _ _ _ _), (fun i hi => by cases hi), (fun i hi => by cases hi), (fun i hi => by cases hi), (fun i hi => by cases hi), (fun i hi => by cases hi), (fun _ _ h => by cases h), (OwnT.nil _ _ _ _ _), (fun i hi => by cases hi), (fun i hi => by cases hi), (fun i hi => by cases hi), (fun i hi => by cases hi), (fun i hi => by cases hi), (fun _ _ h => by cases h), Nat.zero_le _, LBook.nil, (by simp), K0, HT, H6, Hm7, Hk8, H18⟩ ?_
 clear HT H6 Hm7 Hk8 H18 K0
 rintro ⟨ia, mma, SSa, KKa, VA, vc, WA, wc⟩ _ w21 ⟨rfl, hON, obNtb, obNb1, obNmb2, obNkb3, obNb15, ooNM, hOM, obMtb, obMb1, obMmb2, obMkb3, obMb15, ooMN, hia, hBma, hkla, K22, H23, H24, H25, H26, H27⟩
 have hlea := hBma.ledg.le
 refine qs ?_
 refine qs ?_
 refine qg ?_
 refine og 5 [(0, (Value.slice OAa la.length oca)), (3, (ptr b1)), (4, (ptr b15)), (5, (i64 ((ia : Nat) : Int))), (22, (Value.bool (decide (((ia : Nat) : Int) < ((la.length : Nat) : Int)))))] 5 ?_
 refine Ops.split (decide (((ia : Nat) : Int) < ((la.length : Nat) : Int))) (fun h28 => ?_) (fun h28 => ?_)
 ·rw [h28]
  have p29 : ((ia : Nat) : Int) < ((la.length : Nat) : Int) := of_decide_eq_true h28
  obtain ⟨xa, hxa⟩ : ∃ y, la[ia]? = some y := ⟨_, List.getElem?_eq_getElem (by omega)⟩
  have hxao := hLoa xa (List.mem_of_getElem? hxa)
  have hxa1 := hxao.amount
  obtain ⟨rb30, ro31, hA32⟩ := Rd.addr (Rd.keep0 (by decide) hLa K22) (by omega)
  refine og 3 [(0, (Value.slice OAa la.length oca)), (3, (ptr b1)), (4, (ptr b15)), (5, (i64 ((ia : Nat) : Int))), (25, (Value.bool (decide (((ia : Nat) : Int) < 120))))] 8 ?_
  refine od ?_
  refine q_cond (o := .tmp 25) (b := (decide (((ia : Nat) : Int) < 120))) (by kernel_rfl) rfl (fun h33 => ?_) (fun h33 => ?_)
  ·rw [h33]
   have p34 : ((ia : Nat) : Int) < 120 := of_decide_eq_true h33
   refine q_skip (by kernel_rfl) ?_
   refine qs ?_
   refine q_block (id := 1) (by kernel_rfl) ?_
   refine qs ?_
   refine qg ?_
   refine og 3 [(0, (Value.slice OAa la.length oca)), (3, (ptr b1)), (4, (ptr b15)), (5, (i64 ((ia : Nat) : Int))), (25, (Value.bool true)), (28, (ptr b1)), (29, (Value.slice OAa la.length oca)), (30, (i64 ((ia : Nat) : Int)))] 3 ?_
   refine Ops.go (by kernel_rfl) (Runs.ixSliceE (k := IntKind.i64) (t := 22) (len := la.length) (cap := oca) (s := 7) (off' := ro31 + ia * 7) (i := ((ia : Nat) : Int)) hA32 (by kernel_rfl) (by kernel_rfl) (by omega) (by omega) (by omega)) (d := (some 31)) (by kernel_rfl) rfl ?_
   refine Ops.go (v := (agg [(i64 xa.kind), (Value.string (str xa.frm)), (Value.string (str xa.to)), (i64 xa.amount), (Value.string (str xa.key)), (i64 xa.slot), (i64 xa.shard)])) (by kernel_rfl) (Runs.load (t := 24) (a := ⟨rb30, ro31 + ia * 7, none⟩) (by kernel_rfl) (RdT.ld (f := Opm.cells) (x := xa) Opm.seven (Rd.keep0 (by decide) hLa K22) (by kernel_rfl) (by kernel_rfl) hA32 hxa)) (d := (some 32)) (by kernel_rfl) rfl ?_
   refine Ops.call (by kernel_rfl) (d := (some 33)) (by kernel_rfl) (Do_calls _ b1 mb2 kb3 mma SSa KKa xa H24 H25 H26 (by omega) hBma (by first | omega | decide | exact ⟨(by decide : (-9223372036854775808 : Int) ≤ 0), (by decide : (0 : Int) ≤ 9223372036854775807)⟩) (by first | omega | decide)) ?_
   rintro _ w38 ⟨m35, A36, c37, rfl, K39, Hm40, Hk41, hB42, hO43⟩
   have ob47 : ∀ i, ((Value.slice A36 ((doR SSa KKa xa).rows.length) c37)).ownBlock = some i → i ≠ tb := fun i hi => by have := (World.ownsRow.lt hO43 i hi).1; have := H23.lt; omega
   have ob48 : ∀ i, ((Value.slice A36 ((doR SSa KKa xa).rows.length) c37)).ownBlock = some i → i ≠ b1 := fun i hi => by have := (World.ownsRow.lt hO43 i hi).1; have := H24.lt; omega
   have ob49 : ∀ i, ((Value.slice A36 ((doR SSa KKa xa).rows.length) c37)).ownBlock = some i → i ≠ mb2 := fun i hi => by have := (World.ownsRow.lt hO43 i hi).1; have := H25.lt; omega
   have ob50 : ∀ i, ((Value.slice A36 ((doR SSa KKa xa).rows.length) c37)).ownBlock = some i → i ≠ kb3 := fun i hi => by have := (World.ownsRow.lt hO43 i hi).1; have := H26.lt; omega
   have ob51 : ∀ i, ((Value.slice A36 ((doR SSa KKa xa).rows.length) c37)).ownBlock = some i → i ≠ b15 := fun i hi => by have := (World.ownsRow.lt hO43 i hi).1; have := H27.lt; omega
   have oo52 : ∀ i, ((Value.slice VA SSa.length vc)).ownBlock = some i → ((Value.slice A36 ((doR SSa KKa xa).rows.length) c37)).ownBlock = some i → False := fun i hi hs => by have := (World.ownsRow.lt hO43 i hs).1; have := (World.ownsRow.lt hON i hi).2; omega
   have oo53 : ∀ i, ((Value.slice A36 ((doR SSa KKa xa).rows.length) c37)).ownBlock = some i → ((Value.slice VA SSa.length vc)).ownBlock = some i → False := fun i hi hs => oo52 i hs hi
   have oo54 : ∀ i, ((Value.slice WA KKa.length wc)).ownBlock = some i → ((Value.slice A36 ((doR SSa KKa xa).rows.length) c37)).ownBlock = some i → False := fun i hi hs => by have := (World.ownsRow.lt hO43 i hs).1; have := (World.ownsRow.lt hOM i hi).2; omega
   have oo55 : ∀ i, ((Value.slice A36 ((doR SSa KKa xa).rows.length) c37)).ownBlock = some i → ((Value.slice WA KKa.length wc)).ownBlock = some i → False := fun i hi hs => oo54 i hs hi
   have O44 := own_base hO43 K22.size
   clear hO43
   have hl45 := hB42.ledg.le
   have hl46 := doK_len SSa KKa xa
   refine ⟨_, _, rfl, rfl, ?_⟩
   replace K22 := K22.trans K39 (U := none_) (fun i h1 h2 => h2) (fun i h1 h2 => by have h2 : i = mb2 ∨ i = kb3 := h2; exfalso; omega)
   replace H23 := H23.keep K39 (by intro h; change tb = mb2 ∨ tb = kb3 at h; omega)
   replace H24 := H24.keep K39 (by intro h; change b1 = mb2 ∨ b1 = kb3 at h; omega)
   replace H27 := H27.keep K39 (by intro h; change b15 = mb2 ∨ b15 = kb3 at h; omega)
   replace hON := own_keep hON K39 (fun i hi hs => by have hs : i = mb2 ∨ i = kb3 := hs; rcases hs with hs | hs; (have := obNmb2 i hi; omega); (have := obNkb3 i hi; omega))
   replace hOM := own_keep hOM K39 (fun i hi hs => by have hs : i = mb2 ∨ i = kb3 := hs; rcases hs with hs | hs; (have := obMmb2 i hi; omega); (have := obMkb3 i hi; omega))
   clear K39
   refine Ops.new (o := rowL [(i64 0), (i64 0), (Value.slice none 0 0)] 30) (V := fun b => (ptr b)) (by kernel_rfl) (d := (some 6)) (by kernel_rfl) (fun b => rfl) (fun b56 w57 hb58 H59 K60 hs61 => ?_)
   have lb56tb : tb < b56 := by have := H23.lt; omega
   have lb56b1 : b1 < b56 := by have := H24.lt; omega
   have lb56mb2 : mb2 < b56 := by have := Hm40.lt; omega
   have lb56kb3 : kb3 < b56 := by have := Hk41.lt; omega
   have lb56b15 : b15 < b56 := by have := H27.lt; omega
   have nb56 : w.heap.size ≤ b56 := by have := K22.size; omega
   have ob62 : ∀ i, ((Value.slice VA SSa.length vc)).ownBlock = some i → i < b56 := fun i hi => by have := (World.ownsRow.lt hON i hi).2; omega
   have ob63 : ∀ i, ((Value.slice WA KKa.length wc)).ownBlock = some i → i < b56 := fun i hi => by have := (World.ownsRow.lt hOM i hi).2; omega
   have ob64 : ∀ i, ((Value.slice A36 ((doR SSa KKa xa).rows.length) c37)).ownBlock = some i → i < b56 := fun i hi => by have := (World.ownsRow.lt O44 i hi).2; omega
   replace K22 := K22.trans K60 (U := none_) (fun i h1 h2 => h2) (fun i h1 h2 => by exact h2)
   replace H23 := H23.keep K60 (fun h => h)
   replace H24 := H24.keep K60 (fun h => h)
   replace Hm40 := Hm40.keep K60 (fun h => h)
   replace Hk41 := Hk41.keep K60 (fun h => h)
   replace H27 := H27.keep K60 (fun h => h)
   replace hON := own_keep0 hON K60
   replace hOM := own_keep0 hOM K60
   replace O44 := own_keep0 O44 K60
   clear K60 hs61
   refine Ops.put (t := 30) (b := b56) (off := 0) (v := (agg [(i64 ((doR SSa KKa xa).why)), (i64 ((doR SSa KKa xa).amount)), (Value.slice A36 ((doR SSa KKa xa).rows.length) c37)])) (ys := [(i64 ((doR SSa KKa xa).why)), (i64 ((doR SSa KKa xa).amount)), (Value.slice A36 ((doR SSa KKa xa).rows.length) c37)]) (by kernel_rfl) (by kernel_rfl) H59 (by kernel_rfl) (d := none) (by kernel_rfl) rfl (fun w65 H66 K67 => ?_)
   clear H59
   replace K22 := K22.trans K67 (U := none_) (fun i h1 h2 => h2) (fun i h1 h2 => by have h2 : i = b56 := h2; exfalso; omega)
   replace H23 := H23.keep K67 (by intro h; change tb = b56 at h; omega)
   replace H24 := H24.keep K67 (by intro h; change b1 = b56 at h; omega)
   replace Hm40 := Hm40.keep K67 (by intro h; change mb2 = b56 at h; omega)
   replace Hk41 := Hk41.keep K67 (by intro h; change kb3 = b56 at h; omega)
   replace H27 := H27.keep K67 (by intro h; change b15 = b56 at h; omega)
   replace hON := own_keep hON K67 (fun i hi hs => by have hs : i = b56 := hs; have := ob62 i hi; omega)
   replace hOM := own_keep hOM K67 (fun i hi hs => by have hs : i = b56 := hs; have := ob63 i hi; omega)
   replace O44 := own_keep O44 K67 (fun i hi hs => by have hs : i = b56 := hs; have := ob64 i hi; omega)
   clear K67
   refine od ?_
   refine qs ?_
   refine qs ?_
   refine q_draw (fun wz => Keeps (fun i => ((Value.slice VA SSa.length vc)).ownBlock = some i ∨ ((Value.slice WA KKa.length wc)).ownBlock = some i ∨ i = b15) w65 wz) 9 (by kernel_rfl) (by kernel_rfl) (by kernel_rfl) (fun w68 K69 _ _ => ⟨(K69.mono (fun _ _ h => h.elim)), ?_⟩)
   replace K22 := K22.trans K69 (U := none_) (fun i h1 h2 => h2) (fun i h1 h2 => by exact h2)
   replace H23 := H23.keep K69 (fun h => h)
   replace H24 := H24.keep K69 (fun h => h)
   replace Hm40 := Hm40.keep K69 (fun h => h)
   replace Hk41 := Hk41.keep K69 (fun h => h)
   replace H27 := H27.keep K69 (fun h => h)
   replace H66 := H66.keep K69 (fun h => h)
   replace hON := own_keep0 hON K69
   replace hOM := own_keep0 hOM K69
   replace O44 := own_keep0 O44 K69
   refine Dr.strong (S' := (fun wz => Keeps (fun i => ((Value.slice VA SSa.length vc)).ownBlock = some i ∨ ((Value.slice WA KKa.length wc)).ownBlock = some i ∨ i = b15) w68 wz)) ((Keeps.refl w68).mono (fun _ _ h => h.elim)) (fun wz hx => K69.trans hx (fun i _ h => h.elim) (fun _ _ h => h)) ?_
   clear K69
   refine Dr.take (i := 0) (v := (agg [(i64 ((doR SSa KKa xa).why)), (i64 ((doR SSa KKa xa).amount)), (Value.slice A36 ((doR SSa KKa xa).rows.length) c37)])) (by kernel_rfl) (by kernel_rfl) (fun wz hS => Runs.load (t := 30) (a := ⟨b56, 0, none⟩) (by kernel_rfl) ((H66.keep hS (by intro h; change ((Value.slice VA SSa.length vc)).ownBlock = some b56 ∨ ((Value.slice WA KKa.length wc)).ownBlock = some b56 ∨ b56 = b15 at h; rcases h with h | h | h; (have := ob62 b56 h; omega); (have := ob63 b56 h; omega); (omega))).loads (by kernel_rfl))) (d := (some 34)) (by kernel_rfl) rfl ?_
   refine Dr.takes (fuel' := 5) (is' := [3, 2, 1, 0]) [1, 2, 3] [(0, (Value.slice OAa la.length oca)), (3, (ptr b1)), (4, (ptr b15)), (5, (i64 ((ia : Nat) : Int))), (6, (ptr b56)), (25, (Value.bool true)), (34, (agg [(i64 ((doR SSa KKa xa).why)), (i64 ((doR SSa KKa xa).amount)), (Value.slice A36 ((doR SSa KKa xa).rows.length) c37)])), (35, (ptr b15)), (36, (Value.slice OAa la.length oca)), (37, (i64 ((ia : Nat) : Int)))] (by kernel_rfl) rfl (by kernel_rfl) ?_
   refine Dr.take (i := 4) (v := (Value.pointer (some ⟨rb30, ro31 + ia * 7, none⟩))) (by kernel_rfl) (by kernel_rfl) (fun wz hS => Runs.ixSliceE (k := IntKind.i64) (t := 22) (len := la.length) (cap := oca) (s := 7) (off' := ro31 + ia * 7) (i := ((ia : Nat) : Int)) hA32 (by kernel_rfl) (by kernel_rfl) (by omega) (by omega) (by omega)) (d := (some 38)) (by kernel_rfl) rfl ?_
   refine Dr.take (i := 5) (v := (agg [(i64 xa.kind), (Value.string (str xa.frm)), (Value.string (str xa.to)), (i64 xa.amount), (Value.string (str xa.key)), (i64 xa.slot), (i64 xa.shard)])) (by kernel_rfl) (by kernel_rfl) (fun wz hS => Runs.load (t := 24) (a := ⟨rb30, ro31 + ia * 7, none⟩) (by kernel_rfl) (RdT.ld (f := Opm.cells) (x := xa) Opm.seven (Rd.keep0 (by decide) hLa (K22.trans hS (U := none_) (fun _ _ h => h) (fun i h1 h2 => by have h2 : ((Value.slice VA SSa.length vc)).ownBlock = some i ∨ ((Value.slice WA KKa.length wc)).ownBlock = some i ∨ i = b15 := h2; rcases h2 with h2 | h2 | h2; (exfalso; have := (World.ownsRow.lt hON i h2).1; omega); (exfalso; have := (World.ownsRow.lt hOM i h2).1; omega); (exfalso; omega)))) (by kernel_rfl) (by kernel_rfl) hA32 hxa)) (d := (some 39)) (by kernel_rfl) rfl ?_
   refine Dr.call (i := 6) (by kernel_rfl) (by kernel_rfl) (d := (some 40)) (by kernel_rfl) (fun _ => RDo_calls _ w.heap.size b15 VA vc SSa WA wc KKa xa H27 hON hOM obNb15 obMb15 ooMN hBma.ledg.led (K22.size) hBma.ledg (by first | omega | decide | exact ⟨(by decide : (-9223372036854775808 : Int) ≤ 0), (by decide : (0 : Int) ≤ 9223372036854775807)⟩) (by first | omega | decide) (by first | omega | decide)) ?_
   rintro _ w86 ⟨A70, c71, B72, d73, A74, c75, rfl, K76, H77, hO78, hP79, hO80, hg81, hg82, oo83, oo84, oo85⟩
   have ob87 : ∀ i, ((Value.slice A70 ((doS SSa KKa xa).length) c71)).ownBlock = some i → i ≠ tb := fun i hi => by rcases hg81 i hi with h | h; (have := obNtb i h; omega); (have := H23.lt; omega)
   have ob88 : ∀ i, ((Value.slice A70 ((doS SSa KKa xa).length) c71)).ownBlock = some i → i ≠ b1 := fun i hi => by rcases hg81 i hi with h | h; (have := obNb1 i h; omega); (have := H24.lt; omega)
   have ob89 : ∀ i, ((Value.slice A70 ((doS SSa KKa xa).length) c71)).ownBlock = some i → i ≠ mb2 := fun i hi => by rcases hg81 i hi with h | h; (have := obNmb2 i h; omega); (have := Hm40.lt; omega)
   have ob90 : ∀ i, ((Value.slice A70 ((doS SSa KKa xa).length) c71)).ownBlock = some i → i ≠ kb3 := fun i hi => by rcases hg81 i hi with h | h; (have := obNkb3 i h; omega); (have := Hk41.lt; omega)
   have ob91 : ∀ i, ((Value.slice A70 ((doS SSa KKa xa).length) c71)).ownBlock = some i → i ≠ b15 := fun i hi => by rcases hg81 i hi with h | h; (have := obNb15 i h; omega); (have := H27.lt; omega)
   have ob92 : ∀ i, ((Value.slice A70 ((doS SSa KKa xa).length) c71)).ownBlock = some i → i ≠ b56 := fun i hi => by rcases hg81 i hi with h | h; (have := ob62 i h; omega); (have := H66.lt; omega)
   have oo93 : ∀ i, ((Value.slice WA KKa.length wc)).ownBlock = some i → ((Value.slice A70 ((doS SSa KKa xa).length) c71)).ownBlock = some i → False := fun i hi hs => by rcases hg81 i hs with h | h; (exact ooNM i hi h); (have := (World.ownsRow.lt hOM i hi).2; omega)
   have oo94 : ∀ i, ((Value.slice A70 ((doS SSa KKa xa).length) c71)).ownBlock = some i → ((Value.slice WA KKa.length wc)).ownBlock = some i → False := fun i hi hs => oo93 i hs hi
   have oo95 : ∀ i, ((Value.slice A36 ((doR SSa KKa xa).rows.length) c37)).ownBlock = some i → ((Value.slice A70 ((doS SSa KKa xa).length) c71)).ownBlock = some i → False := fun i hi hs => by rcases hg81 i hs with h | h; (exact oo53 i hi h); (have := (World.ownsRow.lt O44 i hi).2; omega)
   have oo96 : ∀ i, ((Value.slice A70 ((doS SSa KKa xa).length) c71)).ownBlock = some i → ((Value.slice A36 ((doR SSa KKa xa).rows.length) c37)).ownBlock = some i → False := fun i hi hs => oo95 i hs hi
   have ob97 : ∀ i, ((Value.slice B72 ((doK SSa KKa xa).length) d73)).ownBlock = some i → i ≠ tb := fun i hi => by rcases hg82 i hi with h | h; (have := obMtb i h; omega); (have := H23.lt; omega)
   have ob98 : ∀ i, ((Value.slice B72 ((doK SSa KKa xa).length) d73)).ownBlock = some i → i ≠ b1 := fun i hi => by rcases hg82 i hi with h | h; (have := obMb1 i h; omega); (have := H24.lt; omega)
   have ob99 : ∀ i, ((Value.slice B72 ((doK SSa KKa xa).length) d73)).ownBlock = some i → i ≠ mb2 := fun i hi => by rcases hg82 i hi with h | h; (have := obMmb2 i h; omega); (have := Hm40.lt; omega)
   have ob100 : ∀ i, ((Value.slice B72 ((doK SSa KKa xa).length) d73)).ownBlock = some i → i ≠ kb3 := fun i hi => by rcases hg82 i hi with h | h; (have := obMkb3 i h; omega); (have := Hk41.lt; omega)
   have ob101 : ∀ i, ((Value.slice B72 ((doK SSa KKa xa).length) d73)).ownBlock = some i → i ≠ b15 := fun i hi => by rcases hg82 i hi with h | h; (have := obMb15 i h; omega); (have := H27.lt; omega)
   have ob102 : ∀ i, ((Value.slice B72 ((doK SSa KKa xa).length) d73)).ownBlock = some i → i ≠ b56 := fun i hi => by rcases hg82 i hi with h | h; (have := ob63 i h; omega); (have := H66.lt; omega)
   have oo103 : ∀ i, ((Value.slice VA SSa.length vc)).ownBlock = some i → ((Value.slice B72 ((doK SSa KKa xa).length) d73)).ownBlock = some i → False := fun i hi hs => by rcases hg82 i hs with h | h; (exact ooMN i hi h); (have := (World.ownsRow.lt hON i hi).2; omega)
   have oo104 : ∀ i, ((Value.slice B72 ((doK SSa KKa xa).length) d73)).ownBlock = some i → ((Value.slice VA SSa.length vc)).ownBlock = some i → False := fun i hi hs => oo103 i hs hi
   have oo105 : ∀ i, ((Value.slice A36 ((doR SSa KKa xa).rows.length) c37)).ownBlock = some i → ((Value.slice B72 ((doK SSa KKa xa).length) d73)).ownBlock = some i → False := fun i hi hs => by rcases hg82 i hs with h | h; (exact oo55 i hi h); (have := (World.ownsRow.lt O44 i hi).2; omega)
   have oo106 : ∀ i, ((Value.slice B72 ((doK SSa KKa xa).length) d73)).ownBlock = some i → ((Value.slice A36 ((doR SSa KKa xa).rows.length) c37)).ownBlock = some i → False := fun i hi hs => oo105 i hs hi
   have ob107 : ∀ i, ((Value.slice A74 ((doR SSa KKa xa).rows.length) c75)).ownBlock = some i → i ≠ tb := fun i hi => by have := (World.ownsRow.lt hO80 i hi).1; have := H23.lt; omega
   have ob108 : ∀ i, ((Value.slice A74 ((doR SSa KKa xa).rows.length) c75)).ownBlock = some i → i ≠ b1 := fun i hi => by have := (World.ownsRow.lt hO80 i hi).1; have := H24.lt; omega
   have ob109 : ∀ i, ((Value.slice A74 ((doR SSa KKa xa).rows.length) c75)).ownBlock = some i → i ≠ mb2 := fun i hi => by have := (World.ownsRow.lt hO80 i hi).1; have := Hm40.lt; omega
   have ob110 : ∀ i, ((Value.slice A74 ((doR SSa KKa xa).rows.length) c75)).ownBlock = some i → i ≠ kb3 := fun i hi => by have := (World.ownsRow.lt hO80 i hi).1; have := Hk41.lt; omega
   have ob111 : ∀ i, ((Value.slice A74 ((doR SSa KKa xa).rows.length) c75)).ownBlock = some i → i ≠ b15 := fun i hi => by have := (World.ownsRow.lt hO80 i hi).1; have := H27.lt; omega
   have ob112 : ∀ i, ((Value.slice A74 ((doR SSa KKa xa).rows.length) c75)).ownBlock = some i → i ≠ b56 := fun i hi => by have := (World.ownsRow.lt hO80 i hi).1; have := H66.lt; omega
   have oo113 : ∀ i, ((Value.slice VA SSa.length vc)).ownBlock = some i → ((Value.slice A74 ((doR SSa KKa xa).rows.length) c75)).ownBlock = some i → False := fun i hi hs => by have := (World.ownsRow.lt hO80 i hs).1; have := (World.ownsRow.lt hON i hi).2; omega
   have oo114 : ∀ i, ((Value.slice A74 ((doR SSa KKa xa).rows.length) c75)).ownBlock = some i → ((Value.slice VA SSa.length vc)).ownBlock = some i → False := fun i hi hs => oo113 i hs hi
   have oo115 : ∀ i, ((Value.slice WA KKa.length wc)).ownBlock = some i → ((Value.slice A74 ((doR SSa KKa xa).rows.length) c75)).ownBlock = some i → False := fun i hi hs => by have := (World.ownsRow.lt hO80 i hs).1; have := (World.ownsRow.lt hOM i hi).2; omega
   have oo116 : ∀ i, ((Value.slice A74 ((doR SSa KKa xa).rows.length) c75)).ownBlock = some i → ((Value.slice WA KKa.length wc)).ownBlock = some i → False := fun i hi hs => oo115 i hs hi
   have oo117 : ∀ i, ((Value.slice A36 ((doR SSa KKa xa).rows.length) c37)).ownBlock = some i → ((Value.slice A74 ((doR SSa KKa xa).rows.length) c75)).ownBlock = some i → False := fun i hi hs => by have := (World.ownsRow.lt hO80 i hs).1; have := (World.ownsRow.lt O44 i hi).2; omega
   have oo118 : ∀ i, ((Value.slice A74 ((doR SSa KKa xa).rows.length) c75)).ownBlock = some i → ((Value.slice A36 ((doR SSa KKa xa).rows.length) c37)).ownBlock = some i → False := fun i hi hs => oo117 i hs hi
   have O119 := own_base hO80 K22.size
   clear hO80
   replace K22 := K22.trans K76 (U := none_) (fun i h1 h2 => h2) (fun i h1 h2 => by have h2 : i = b15 ∨ ((Value.slice VA SSa.length vc)).ownBlock = some i ∨ ((Value.slice WA KKa.length wc)).ownBlock = some i := h2; rcases h2 with h2 | h2 | h2; (exfalso; omega); (exfalso; have := (World.ownsRow.lt hON i h2).1; omega); (exfalso; have := (World.ownsRow.lt hOM i h2).1; omega))
   replace H23 := H23.keep K76 (by intro h; change tb = b15 ∨ ((Value.slice VA SSa.length vc)).ownBlock = some tb ∨ ((Value.slice WA KKa.length wc)).ownBlock = some tb at h; rcases h with h | h | h; (omega); (have := obNtb tb h; omega); (have := obMtb tb h; omega))
   replace H24 := H24.keep K76 (by intro h; change b1 = b15 ∨ ((Value.slice VA SSa.length vc)).ownBlock = some b1 ∨ ((Value.slice WA KKa.length wc)).ownBlock = some b1 at h; rcases h with h | h | h; (omega); (have := obNb1 b1 h; omega); (have := obMb1 b1 h; omega))
   replace Hm40 := Hm40.keep K76 (by intro h; change mb2 = b15 ∨ ((Value.slice VA SSa.length vc)).ownBlock = some mb2 ∨ ((Value.slice WA KKa.length wc)).ownBlock = some mb2 at h; rcases h with h | h | h; (omega); (have := obNmb2 mb2 h; omega); (have := obMmb2 mb2 h; omega))
   replace Hk41 := Hk41.keep K76 (by intro h; change kb3 = b15 ∨ ((Value.slice VA SSa.length vc)).ownBlock = some kb3 ∨ ((Value.slice WA KKa.length wc)).ownBlock = some kb3 at h; rcases h with h | h | h; (omega); (have := obNkb3 kb3 h; omega); (have := obMkb3 kb3 h; omega))
   replace H66 := H66.keep K76 (by intro h; change b56 = b15 ∨ ((Value.slice VA SSa.length vc)).ownBlock = some b56 ∨ ((Value.slice WA KKa.length wc)).ownBlock = some b56 at h; rcases h with h | h | h; (omega); (have := ob62 b56 h; omega); (have := ob63 b56 h; omega))
   clear hON
   clear hOM
   replace O44 := own_keep O44 K76 (fun i hi hs => by have hs : i = b15 ∨ ((Value.slice VA SSa.length vc)).ownBlock = some i ∨ ((Value.slice WA KKa.length wc)).ownBlock = some i := hs; rcases hs with hs | hs | hs; (have := ob51 i hi; omega); (exact oo53 i hi hs); (exact oo55 i hi hs))
   refine ⟨_, _, rfl, rfl, (K76.mono (fun i _ h => by have h : i = b15 ∨ ((Value.slice VA SSa.length vc)).ownBlock = some i ∨ ((Value.slice WA KKa.length wc)).ownBlock = some i := h; show ((Value.slice VA SSa.length vc)).ownBlock = some i ∨ ((Value.slice WA KKa.length wc)).ownBlock = some i ∨ i = b15; rcases h with h | h | h; (exact (.inr (.inr h))); (exact (.inl h)); (exact (.inr (.inl h))))), ?_⟩
   refine Dr.strong (S' := (fun wz => Keeps (fun i => ((Value.slice VA SSa.length vc)).ownBlock = some i ∨ ((Value.slice WA KKa.length wc)).ownBlock = some i ∨ i = b15) w86 wz)) ((Keeps.refl w86).mono (fun _ _ h => h.elim)) (fun wz hx => K76.trans hx (fun i _ h => by have h : i = b15 ∨ ((Value.slice VA SSa.length vc)).ownBlock = some i ∨ ((Value.slice WA KKa.length wc)).ownBlock = some i := h; show ((Value.slice VA SSa.length vc)).ownBlock = some i ∨ ((Value.slice WA KKa.length wc)).ownBlock = some i ∨ i = b15; rcases h with h | h | h; (exact (.inr (.inr h))); (exact (.inl h)); (exact (.inr (.inl h)))) (fun _ _ h => h)) ?_
   clear K76
   refine Dr.call (i := 7) (by kernel_rfl) (by kernel_rfl) (d := (some 41)) (by kernel_rfl) (fun _ => SameReply_calls _ A36 c37 (doR SSa KKa xa) A74 c75 (doR SSa KKa xa) (OwnT.rd O44) (OwnT.rd O119)) ?_
   rintro _ w123 ⟨t120, rfl, ht121, K122⟩
   replace K22 := K22.trans K122 (U := none_) (fun i h1 h2 => h2) (fun i h1 h2 => by exact h2)
   replace H23 := H23.keep K122 (fun h => h)
   replace H24 := H24.keep K122 (fun h => h)
   replace Hm40 := Hm40.keep K122 (fun h => h)
   replace Hk41 := Hk41.keep K122 (fun h => h)
   replace H77 := H77.keep K122 (fun h => h)
   replace H66 := H66.keep K122 (fun h => h)
   replace O44 := own_keep0 O44 K122
   replace hO78 := own_keep0 hO78 K122
   replace hP79 := own_keep0 hP79 K122
   replace O119 := own_keep0 O119 K122
   refine ⟨_, _, rfl, rfl, (K122.mono (fun _ _ h => h.elim)), ?_⟩
   refine Dr.strong (S' := (fun wz => Keeps (fun i => ((Value.slice VA SSa.length vc)).ownBlock = some i ∨ ((Value.slice WA KKa.length wc)).ownBlock = some i ∨ i = b15) w123 wz)) ((Keeps.refl w123).mono (fun _ _ h => h.elim)) (fun wz hx => K122.trans hx (fun i _ h => h.elim) (fun _ _ h => h)) ?_
   clear K122
   refine Dr.takes (fuel' := 0) (is' := [8, 7, 6, 5, 4, 3, 2, 1, 0]) [8] [(0, (Value.slice OAa la.length oca)), (3, (ptr b1)), (4, (ptr b15)), (5, (i64 ((ia : Nat) : Int))), (6, (ptr b56)), (25, (Value.bool true)), (42, (Value.bool (!t120)))] (by kernel_rfl) rfl (by kernel_rfl) ?_
   refine Dr.done (by kernel_rfl) ?_
   have h124 : (!t120) = false := by rw [show t120 = true from ht121.2 rfl]; rfl
   rw [h124]
   refine q_else (o := .tmp 42) (by kernel_rfl) rfl ?_
   refine q_skip (by kernel_rfl) ?_
   refine qs ?_
   refine qs ?_
   refine qg ?_
   refine og 1 [(0, (Value.slice OAa la.length oca)), (3, (ptr b1)), (4, (ptr b15)), (5, (i64 ((ia : Nat) : Int))), (6, (ptr b56)), (7, (i64 0)), (25, (Value.bool true)), (42, (Value.bool false))] 1 ?_
   refine od ?_
   refine q_block (id := 2) (by kernel_rfl) ?_
   have hrl := doR_rows SSa KKa xa
   have ob125 : ∀ i, ((Value.slice A36 ((doR SSa KKa xa).rows.length) c37)).ownBlock = some i → i ≠ tb := fun i hi => by have := ob47 i hi; omega
   have ob126 : ∀ i, ((Value.slice A36 ((doR SSa KKa xa).rows.length) c37)).ownBlock = some i → i ≠ b1 := fun i hi => by have := ob48 i hi; omega
   have ob127 : ∀ i, ((Value.slice A36 ((doR SSa KKa xa).rows.length) c37)).ownBlock = some i → i ≠ mb2 := fun i hi => by have := ob49 i hi; omega
   have ob128 : ∀ i, ((Value.slice A36 ((doR SSa KKa xa).rows.length) c37)).ownBlock = some i → i ≠ kb3 := fun i hi => by have := ob50 i hi; omega
   have ob129 : ∀ i, ((Value.slice A36 ((doR SSa KKa xa).rows.length) c37)).ownBlock = some i → i ≠ b15 := fun i hi => by have := ob51 i hi; omega
   have ob130 : ∀ i, ((Value.slice A36 ((doR SSa KKa xa).rows.length) c37)).ownBlock = some i → i ≠ b56 := fun i hi => by have := ob64 i hi; omega
   have ob131 : ∀ i, ((Value.slice A70 ((doS SSa KKa xa).length) c71)).ownBlock = some i → i ≠ tb := fun i hi => by have := ob87 i hi; omega
   have ob132 : ∀ i, ((Value.slice A70 ((doS SSa KKa xa).length) c71)).ownBlock = some i → i ≠ b1 := fun i hi => by have := ob88 i hi; omega
   have ob133 : ∀ i, ((Value.slice A70 ((doS SSa KKa xa).length) c71)).ownBlock = some i → i ≠ mb2 := fun i hi => by have := ob89 i hi; omega
   have ob134 : ∀ i, ((Value.slice A70 ((doS SSa KKa xa).length) c71)).ownBlock = some i → i ≠ kb3 := fun i hi => by have := ob90 i hi; omega
   have ob135 : ∀ i, ((Value.slice A70 ((doS SSa KKa xa).length) c71)).ownBlock = some i → i ≠ b15 := fun i hi => by have := ob91 i hi; omega
   have ob136 : ∀ i, ((Value.slice A70 ((doS SSa KKa xa).length) c71)).ownBlock = some i → i ≠ b56 := fun i hi => by have := ob92 i hi; omega
   have ob137 : ∀ i, ((Value.slice B72 ((doK SSa KKa xa).length) d73)).ownBlock = some i → i ≠ tb := fun i hi => by have := ob97 i hi; omega
   have ob138 : ∀ i, ((Value.slice B72 ((doK SSa KKa xa).length) d73)).ownBlock = some i → i ≠ b1 := fun i hi => by have := ob98 i hi; omega
   have ob139 : ∀ i, ((Value.slice B72 ((doK SSa KKa xa).length) d73)).ownBlock = some i → i ≠ mb2 := fun i hi => by have := ob99 i hi; omega
   have ob140 : ∀ i, ((Value.slice B72 ((doK SSa KKa xa).length) d73)).ownBlock = some i → i ≠ kb3 := fun i hi => by have := ob100 i hi; omega
   have ob141 : ∀ i, ((Value.slice B72 ((doK SSa KKa xa).length) d73)).ownBlock = some i → i ≠ b15 := fun i hi => by have := ob101 i hi; omega
   have ob142 : ∀ i, ((Value.slice B72 ((doK SSa KKa xa).length) d73)).ownBlock = some i → i ≠ b56 := fun i hi => by have := ob102 i hi; omega
   refine q_keep (R := [(0, (Value.slice OAa la.length oca)), (3, (ptr b1)), (4, (ptr b15)), (5, (i64 ((ia : Nat) : Int))), (6, (ptr b56)), (7, (i64 0)), (25, (Value.bool true)), (42, (Value.bool false))]) (by kernel_rfl) ?_
   refine q_loop (fun (gs : Nat × (List RowM)) L (wx : World) => match gs with | (q, ys) => L = [(0, (Value.slice OAa la.length oca)), (3, (ptr b1)), (4, (ptr b15)), (5, (i64 ((ia : Nat) : Int))), (6, (ptr b56)), (7, (i64 ((q : Nat) : Int))), (25, (Value.bool true)), (42, (Value.bool false))] ∧ OwnR wx w.heap.size 47 (.slice A36 ys.length c37) ys ∧ (∀ i, ((Value.slice A36 ((doR SSa KKa xa).rows.length) c37)).ownBlock = some i → i ≠ tb) ∧ (∀ i, ((Value.slice A36 ((doR SSa KKa xa).rows.length) c37)).ownBlock = some i → i ≠ b1) ∧ (∀ i, ((Value.slice A36 ((doR SSa KKa xa).rows.length) c37)).ownBlock = some i → i ≠ mb2) ∧ (∀ i, ((Value.slice A36 ((doR SSa KKa xa).rows.length) c37)).ownBlock = some i → i ≠ kb3) ∧ (∀ i, ((Value.slice A36 ((doR SSa KKa xa).rows.length) c37)).ownBlock = some i → i ≠ b15) ∧ (∀ i, ((Value.slice A36 ((doR SSa KKa xa).rows.length) c37)).ownBlock = some i → i ≠ b56) ∧ (∀ i, ((Value.slice A70 ((doS SSa KKa xa).length) c71)).ownBlock = some i → ((Value.slice A36 ((doR SSa KKa xa).rows.length) c37)).ownBlock = some i → False) ∧ (∀ i, ((Value.slice B72 ((doK SSa KKa xa).length) d73)).ownBlock = some i → ((Value.slice A36 ((doR SSa KKa xa).rows.length) c37)).ownBlock = some i → False) ∧ OwnT wx w.heap.size 47 2 RowM.cells (Value.slice A70 ((doS SSa KKa xa).length) c71) (doS SSa KKa xa) ∧ (∀ i, ((Value.slice A70 ((doS SSa KKa xa).length) c71)).ownBlock = some i → i ≠ tb) ∧ (∀ i, ((Value.slice A70 ((doS SSa KKa xa).length) c71)).ownBlock = some i → i ≠ b1) ∧ (∀ i, ((Value.slice A70 ((doS SSa KKa xa).length) c71)).ownBlock = some i → i ≠ mb2) ∧ (∀ i, ((Value.slice A70 ((doS SSa KKa xa).length) c71)).ownBlock = some i → i ≠ kb3) ∧ (∀ i, ((Value.slice A70 ((doS SSa KKa xa).length) c71)).ownBlock = some i → i ≠ b15) ∧ (∀ i, ((Value.slice A70 ((doS SSa KKa xa).length) c71)).ownBlock = some i → i ≠ b56) ∧ (∀ i, ((Value.slice A36 ((doR SSa KKa xa).rows.length) c37)).ownBlock = some i → ((Value.slice A70 ((doS SSa KKa xa).length) c71)).ownBlock = some i → False) ∧ (∀ i, ((Value.slice B72 ((doK SSa KKa xa).length) d73)).ownBlock = some i → ((Value.slice A70 ((doS SSa KKa xa).length) c71)).ownBlock = some i → False) ∧ OwnT wx w.heap.size 90 10 kref (Value.slice B72 ((doK SSa KKa xa).length) d73) (doK SSa KKa xa) ∧ (∀ i, ((Value.slice B72 ((doK SSa KKa xa).length) d73)).ownBlock = some i → i ≠ tb) ∧ (∀ i, ((Value.slice B72 ((doK SSa KKa xa).length) d73)).ownBlock = some i → i ≠ b1) ∧ (∀ i, ((Value.slice B72 ((doK SSa KKa xa).length) d73)).ownBlock = some i → i ≠ mb2) ∧ (∀ i, ((Value.slice B72 ((doK SSa KKa xa).length) d73)).ownBlock = some i → i ≠ kb3) ∧ (∀ i, ((Value.slice B72 ((doK SSa KKa xa).length) d73)).ownBlock = some i → i ≠ b15) ∧ (∀ i, ((Value.slice B72 ((doK SSa KKa xa).length) d73)).ownBlock = some i → i ≠ b56) ∧ (∀ i, ((Value.slice A36 ((doR SSa KKa xa).rows.length) c37)).ownBlock = some i → ((Value.slice B72 ((doK SSa KKa xa).length) d73)).ownBlock = some i → False) ∧ (∀ i, ((Value.slice A70 ((doS SSa KKa xa).length) c71)).ownBlock = some i → ((Value.slice B72 ((doK SSa KKa xa).length) d73)).ownBlock = some i → False) ∧ q ≤ ((doR SSa KKa xa).rows).length ∧ ys.length = ((doR SSa KKa xa).rows).length ∧ Keeps none_ w wx ∧ Tab Tryz.prog wx tb ∧ Has wx b1 (rowL [(Value.map (some mb2)), (Value.map (some kb3))] 54) ∧ HasMap wx mb2 kstr ki64 m35 ∧ HasMap wx kb3 kpair keptv ((doK SSa KKa xa).map KeptM.kv) ∧ Has wx b15 (rowL [(Value.slice A70 ((doS SSa KKa xa).length) c71), (Value.slice B72 ((doK SSa KKa xa).length) d73)] 45) ∧ Has wx b56 (rowL [(i64 ((doR SSa KKa xa).why)), (i64 ((doR SSa KKa xa).amount)), (Value.slice A36 ((doR SSa KKa xa).rows.length) c37)] 30)) (fun (gs : Nat × (List RowM)) => match gs with | (q, ys) => ((doR SSa KKa xa).rows).length - q) (0, (doR SSa KKa xa).rows) (by kernel_rfl) ⟨rfl, O44, ob125, ob126, ob127, ob128, ob129, ob130, oo96, oo106, hO78, ob131, ob132, ob133, ob134, ob135, ob136, oo95, (fun i h h2 => oo83 i h2 h), hP79, ob137, ob138, ob139, ob140, ob141, ob142, oo105, oo83, Nat.zero_le _, rfl, K22, H23, H24, Hm40, Hk41, H77, H66⟩ ?_
   clear H23 H24 Hm40 Hk41 H77 H66 O44 hO78 hP79 K22
   rintro ⟨q, ys⟩ _ w143 ⟨rfl, hOV, obVtb, obVb1, obVmb2, obVkb3, obVb15, obVb56, ooVN, ooVM, hON, obNtb, obNb1, obNmb2, obNkb3, obNb15, obNb56, ooNV, ooNM, hOM, obMtb, obMb1, obMmb2, obMkb3, obMb15, obMb56, ooMV, ooMN, hq, hyl, K144, H145, H146, H147, H148, H149, H150⟩
   refine qs ?_
   refine qs ?_
   refine qg ?_
   refine og 2 [(0, (Value.slice OAa la.length oca)), (3, (ptr b1)), (4, (ptr b15)), (5, (i64 ((ia : Nat) : Int))), (6, (ptr b56)), (7, (i64 ((q : Nat) : Int))), (25, (Value.bool true)), (42, (Value.bool false)), (43, (i64 ((q : Nat) : Int))), (44, (Value.pointer (some ⟨b56, 2, none⟩)))] 2 ?_
   refine Ops.go (v := (Value.slice A36 ((doR SSa KKa xa).rows.length) c37)) (by kernel_rfl) (Runs.load (t := 28) (a := ⟨b56, 2, none⟩) (by kernel_rfl) (H150.loads (by kernel_rfl))) (d := (some 45)) (by kernel_rfl) rfl ?_
   refine og 2 [(0, (Value.slice OAa la.length oca)), (3, (ptr b1)), (4, (ptr b15)), (5, (i64 ((ia : Nat) : Int))), (6, (ptr b56)), (7, (i64 ((q : Nat) : Int))), (25, (Value.bool true)), (42, (Value.bool false)), (47, (Value.bool (decide (((q : Nat) : Int) < (((doR SSa KKa xa).rows.length : Nat) : Int)))))] 5 ?_
   refine od ?_
   refine q_cond (o := .tmp 47) (b := (decide (((q : Nat) : Int) < (((doR SSa KKa xa).rows.length : Nat) : Int)))) (by kernel_rfl) rfl (fun h151 => ?_) (fun h151 => ?_)
   ·rw [h151]
    have p152 : ((q : Nat) : Int) < (((doR SSa KKa xa).rows.length : Nat) : Int) := of_decide_eq_true h151
    obtain ⟨y, hy⟩ : ∃ y, ys[q]? = some y := ⟨_, List.getElem?_eq_getElem (by omega)⟩
    obtain ⟨gb, cur, hA, hgb, Hg, hcl, hca, hput⟩ := OwnT.open RowM.two (by decide) hy hOV
    have ngb : w.heap.size ≤ gb := hgb
    have Hgl := Hg.lt
    have dgbtb : gb ≠ tb := obVtb gb (by rw [hA]; rfl)
    have dgbb1 : gb ≠ b1 := obVb1 gb (by rw [hA]; rfl)
    have dgbmb2 : gb ≠ mb2 := obVmb2 gb (by rw [hA]; rfl)
    have dgbkb3 : gb ≠ kb3 := obVkb3 gb (by rw [hA]; rfl)
    have dgbb15 : gb ≠ b15 := obVb15 gb (by rw [hA]; rfl)
    have dgbb56 : gb ≠ b56 := obVb56 gb (by rw [hA]; rfl)
    have dgb_N : ∀ i, ((Value.slice A70 ((doS SSa KKa xa).length) c71)).ownBlock = some i → i ≠ gb := fun i hi e => ooVN i hi (by rw [hA, e]; rfl)
    have dgb_M : ∀ i, ((Value.slice B72 ((doK SSa KKa xa).length) d73)).ownBlock = some i → i ≠ gb := fun i hi e => ooVM i hi (by rw [hA, e]; rfl)
    refine q_skip (by kernel_rfl) ?_
    refine qs ?_
    refine q_block (id := 3) (by kernel_rfl) ?_
    refine qg ?_
    refine og 1 [(0, (Value.slice OAa la.length oca)), (3, (ptr b1)), (4, (ptr b15)), (5, (i64 ((ia : Nat) : Int))), (6, (ptr b56)), (7, (i64 ((q : Nat) : Int))), (25, (Value.bool true)), (42, (Value.bool false)), (47, (Value.bool true)), (50, (Value.pointer (some ⟨b56, 2, none⟩)))] 1 ?_
    refine Ops.go (v := (Value.slice A36 ((doR SSa KKa xa).rows.length) c37)) (by kernel_rfl) (Runs.load (t := 28) (a := ⟨b56, 2, none⟩) (by kernel_rfl) (H150.loads (by kernel_rfl))) (d := (some 51)) (by kernel_rfl) rfl ?_
    refine og 1 [(0, (Value.slice OAa la.length oca)), (3, (ptr b1)), (4, (ptr b15)), (5, (i64 ((ia : Nat) : Int))), (6, (ptr b56)), (7, (i64 ((q : Nat) : Int))), (25, (Value.bool true)), (42, (Value.bool false)), (47, (Value.bool true)), (51, (Value.slice A36 ((doR SSa KKa xa).rows.length) c37)), (52, (i64 ((q : Nat) : Int)))] 3 ?_
    refine Ops.go (by kernel_rfl) (Runs.ixSliceE (k := IntKind.i64) (t := 28) (len := ((doR SSa KKa xa).rows.length)) (cap := c37) (s := 2) (off' := q * 2) (i := ((q : Nat) : Int)) hA (by kernel_rfl) (by kernel_rfl) (by omega) (by omega) (by omega)) (d := (some 53)) (by kernel_rfl) rfl ?_
    refine og 1 [(0, (Value.slice OAa la.length oca)), (3, (ptr b1)), (4, (ptr b15)), (5, (i64 ((ia : Nat) : Int))), (6, (ptr b56)), (7, (i64 ((q : Nat) : Int))), (25, (Value.bool true)), (42, (Value.bool false)), (47, (Value.bool true)), (54, (Value.pointer (some ⟨gb, q * 2 + 1, none⟩)))] 5 ?_
    refine Ops.put (t := 2) (b := gb) (off := q * 2 + 1) (v := (i64 99)) (ys := (cur.set (q * 2 + 1) (i64 99))) (by kernel_rfl) (by kernel_rfl) Hg (storeC1 (by kernel_rfl) rfl (by omega) rfl) (d := none) (by kernel_rfl) rfl (fun w153 H154 K155 => ?_)
    clear Hg
    replace K144 := K144.trans K155 (U := none_) (fun i h1 h2 => h2) (fun i h1 h2 => by have h2 : i = gb := h2; exfalso; omega)
    replace H145 := H145.keep K155 (by intro h; change tb = gb at h; omega)
    replace H146 := H146.keep K155 (by intro h; change b1 = gb at h; omega)
    replace H147 := H147.keep K155 (by intro h; change mb2 = gb at h; omega)
    replace H148 := H148.keep K155 (by intro h; change kb3 = gb at h; omega)
    replace H149 := H149.keep K155 (by intro h; change b15 = gb at h; omega)
    replace H150 := H150.keep K155 (by intro h; change b56 = gb at h; omega)
    replace hON := own_keep hON K155 (fun i hi hs => by have hs : i = gb := hs; have := dgb_N i hi; omega)
    replace hOM := own_keep hOM K155 (fun i hi hs => by have hs : i = gb := hs; have := dgb_M i hi; omega)
    clear K155
    refine od ?_
    refine qg ?_
    refine og 2 [(0, (Value.slice OAa la.length oca)), (3, (ptr b1)), (4, (ptr b15)), (5, (i64 ((ia : Nat) : Int))), (6, (ptr b56)), (7, (i64 ((q : Nat) : Int))), (25, (Value.bool true)), (42, (Value.bool false)), (47, (Value.bool true)), (49, (i64 (IntKind.i64.wrap (((q : Nat) : Int) + 1))))] 2 ?_
    have e156 : IntKind.i64.wrap (((q : Nat) : Int) + 1) = ((q + 1 : Nat) : Int) := by rw [wrap_i64 (by omega) (by omega)]; omega
    rw [e156]
    clear e156
    refine og 1 [(0, (Value.slice OAa la.length oca)), (3, (ptr b1)), (4, (ptr b15)), (5, (i64 ((ia : Nat) : Int))), (6, (ptr b56)), (7, (i64 ((q + 1 : Nat) : Int))), (25, (Value.bool true)), (42, (Value.bool false)), (47, (Value.bool true))] 3 ?_
    refine Ops.keep (R := [(0, (Value.slice OAa la.length oca)), (3, (ptr b1)), (4, (ptr b15)), (5, (i64 ((ia : Nat) : Int))), (6, (ptr b56)), (7, (i64 ((q + 1 : Nat) : Int))), (25, (Value.bool true)), (42, (Value.bool false))]) (by kernel_rfl) ?_
    refine od ?_
    exact ⟨(q + 1, ys.set q ⟨y.name, 99⟩), ⟨rfl, (by rw [List.length_set]; exact hput 1 (i64 99) ⟨y.name, 99⟩ (by decide) rfl _ H154), obVtb, obVb1, obVmb2, obVkb3, obVb15, obVb56, ooVN, ooVM, hON, obNtb, obNb1, obNmb2, obNkb3, obNb15, obNb56, ooNV, ooNM, hOM, obMtb, obMb1, obMmb2, obMkb3, obMb15, obMb56, ooMV, ooMN, (by omega), (by rw [List.length_set]; exact hyl), K144, H145, H146, H147, H148, H149, H150⟩, (show ((doR SSa KKa xa).rows).length - (q + 1) < ((doR SSa KKa xa).rows).length - q from by omega)⟩
   ·rw [h151]
    have p157 : ¬ (((q : Nat) : Int) < (((doR SSa KKa xa).rows.length : Nat) : Int)) := of_decide_eq_false h151
    refine q_exit (id := 2) (by kernel_rfl) ?_
    refine qs ?_
    refine qg ?_
    refine og 1 [(0, (Value.slice OAa la.length oca)), (3, (ptr b1)), (4, (ptr b15)), (5, (i64 ((ia : Nat) : Int))), (6, (ptr b56)), (7, (i64 ((q : Nat) : Int))), (25, (Value.bool true)), (42, (Value.bool false)), (47, (Value.bool false)), (56, (ptr b1))] 1 ?_
    refine Ops.call (by kernel_rfl) (d := (some 57)) (by kernel_rfl) (Sum_calls _ b1 mb2 kb3 m35 (doS SSa KKa xa) (doK SSa KKa xa) H146 H147 H148 (by omega) hB42) ?_
    rintro _ w159 ⟨rfl, K158⟩
    refine ⟨_, _, rfl, rfl, ?_⟩
    replace K144 := K144.trans K158 (U := none_) (fun i h1 h2 => h2) (fun i h1 h2 => by exact h2)
    replace H145 := H145.keep K158 (fun h => h)
    replace H146 := H146.keep K158 (fun h => h)
    replace H147 := H147.keep K158 (fun h => h)
    replace H148 := H148.keep K158 (fun h => h)
    replace H149 := H149.keep K158 (fun h => h)
    replace H150 := H150.keep K158 (fun h => h)
    replace hON := own_keep0 hON K158
    replace hOM := own_keep0 hOM K158
    clear K158
    refine og 5 [(0, (Value.slice OAa la.length oca)), (3, (ptr b1)), (4, (ptr b15)), (5, (i64 ((ia : Nat) : Int))), (6, (ptr b56)), (7, (i64 ((q : Nat) : Int))), (8, (i64 ((sumE (doS SSa KKa xa)).1))), (9, (i64 ((sumE (doS SSa KKa xa)).2))), (25, (Value.bool true)), (42, (Value.bool false)), (47, (Value.bool false))] 7 ?_
    refine od ?_
    refine qs ?_
    refine qg ?_
    refine og 1 [(0, (Value.slice OAa la.length oca)), (3, (ptr b1)), (4, (ptr b15)), (5, (i64 ((ia : Nat) : Int))), (6, (ptr b56)), (7, (i64 ((q : Nat) : Int))), (8, (i64 ((sumE (doS SSa KKa xa)).1))), (9, (i64 ((sumE (doS SSa KKa xa)).2))), (25, (Value.bool true)), (42, (Value.bool false)), (47, (Value.bool false)), (61, (ptr b15))] 1 ?_
    refine Ops.call (by kernel_rfl) (d := (some 62)) (by kernel_rfl) (RSum_calls _ b15 A70 c71 (doS SSa KKa xa) B72 d73 (doK SSa KKa xa) H149 (OwnT.rd hON) (OwnT.rd hOM) (hB42.ledg.led)) ?_
    rintro _ w161 ⟨rfl, K160⟩
    refine ⟨_, _, rfl, rfl, ?_⟩
    replace K144 := K144.trans K160 (U := none_) (fun i h1 h2 => h2) (fun i h1 h2 => by exact h2)
    replace H145 := H145.keep K160 (fun h => h)
    replace H146 := H146.keep K160 (fun h => h)
    replace H147 := H147.keep K160 (fun h => h)
    replace H148 := H148.keep K160 (fun h => h)
    replace H149 := H149.keep K160 (fun h => h)
    replace H150 := H150.keep K160 (fun h => h)
    replace hON := own_keep0 hON K160
    replace hOM := own_keep0 hOM K160
    clear K160
    refine og 5 [(0, (Value.slice OAa la.length oca)), (3, (ptr b1)), (4, (ptr b15)), (5, (i64 ((ia : Nat) : Int))), (6, (ptr b56)), (7, (i64 ((q : Nat) : Int))), (8, (i64 ((sumE (doS SSa KKa xa)).1))), (9, (i64 ((sumE (doS SSa KKa xa)).2))), (10, (i64 ((sumE (doS SSa KKa xa)).1))), (11, (i64 ((sumE (doS SSa KKa xa)).2))), (25, (Value.bool true)), (42, (Value.bool false)), (47, (Value.bool false))] 7 ?_
    refine od ?_
    refine qs ?_
    refine qg ?_
    refine og 4 [(0, (Value.slice OAa la.length oca)), (3, (ptr b1)), (4, (ptr b15)), (5, (i64 ((ia : Nat) : Int))), (6, (ptr b56)), (7, (i64 ((q : Nat) : Int))), (8, (i64 ((sumE (doS SSa KKa xa)).1))), (9, (i64 ((sumE (doS SSa KKa xa)).2))), (10, (i64 ((sumE (doS SSa KKa xa)).1))), (11, (i64 ((sumE (doS SSa KKa xa)).2))), (25, (Value.bool true)), (42, (Value.bool false)), (47, (Value.bool false)), (68, (Value.bool (((sumE (doS SSa KKa xa)).1) != ((sumE (doS SSa KKa xa)).1))))] 4 ?_
    have h162 : (((sumE (doS SSa KKa xa)).1) != ((sumE (doS SSa KKa xa)).1)) = false := by simp
    rw [h162]
    refine og 5 [(0, (Value.slice OAa la.length oca)), (3, (ptr b1)), (4, (ptr b15)), (5, (i64 ((ia : Nat) : Int))), (6, (ptr b56)), (7, (i64 ((q : Nat) : Int))), (8, (i64 ((sumE (doS SSa KKa xa)).1))), (9, (i64 ((sumE (doS SSa KKa xa)).2))), (10, (i64 ((sumE (doS SSa KKa xa)).1))), (11, (i64 ((sumE (doS SSa KKa xa)).2))), (25, (Value.bool true)), (42, (Value.bool false)), (47, (Value.bool false)), (73, (Value.bool (((sumE (doS SSa KKa xa)).2) != ((sumE (doS SSa KKa xa)).2))))] 9 ?_
    have h163 : (((sumE (doS SSa KKa xa)).2) != ((sumE (doS SSa KKa xa)).2)) = false := by simp
    rw [h163]
    refine og 1 [(0, (Value.slice OAa la.length oca)), (3, (ptr b1)), (4, (ptr b15)), (5, (i64 ((ia : Nat) : Int))), (6, (ptr b56)), (7, (i64 ((q : Nat) : Int))), (8, (i64 ((sumE (doS SSa KKa xa)).1))), (9, (i64 ((sumE (doS SSa KKa xa)).2))), (10, (i64 ((sumE (doS SSa KKa xa)).1))), (11, (i64 ((sumE (doS SSa KKa xa)).2))), (25, (Value.bool true)), (42, (Value.bool false)), (47, (Value.bool false)), (73, (Value.bool false)), (74, (ptr b1))] 10 ?_
    refine Ops.call (by kernel_rfl) (d := (some 75)) (by kernel_rfl) (Text_calls _ b1 mb2 kb3 m35 (doS SSa KKa xa) (doK SSa KKa xa) tb H146 H147 H148 (by omega) hB42 H145 (by first | omega | decide) (by first | omega | decide)) ?_
    rintro _ w165 ⟨rfl, K164⟩
    refine ⟨_, _, rfl, rfl, ?_⟩
    replace K144 := K144.trans K164 (U := none_) (fun i h1 h2 => h2) (fun i h1 h2 => by exact h2)
    replace H145 := H145.keep K164 (fun h => h)
    replace H146 := H146.keep K164 (fun h => h)
    replace H147 := H147.keep K164 (fun h => h)
    replace H148 := H148.keep K164 (fun h => h)
    replace H149 := H149.keep K164 (fun h => h)
    replace H150 := H150.keep K164 (fun h => h)
    replace hON := own_keep0 hON K164
    replace hOM := own_keep0 hOM K164
    clear K164
    refine og 1 [(0, (Value.slice OAa la.length oca)), (3, (ptr b1)), (4, (ptr b15)), (5, (i64 ((ia : Nat) : Int))), (6, (ptr b56)), (7, (i64 ((q : Nat) : Int))), (8, (i64 ((sumE (doS SSa KKa xa)).1))), (9, (i64 ((sumE (doS SSa KKa xa)).2))), (10, (i64 ((sumE (doS SSa KKa xa)).1))), (11, (i64 ((sumE (doS SSa KKa xa)).2))), (25, (Value.bool true)), (42, (Value.bool false)), (47, (Value.bool false)), (73, (Value.bool false)), (75, (Value.string (str (textE (doS SSa KKa xa) (doK SSa KKa xa))))), (76, (ptr b15))] 12 ?_
    refine Ops.call (by kernel_rfl) (d := (some 77)) (by kernel_rfl) (RLText_calls _ b15 A70 c71 (doS SSa KKa xa) B72 d73 (doK SSa KKa xa) tb H149 (OwnT.rd hON) (OwnT.rd hOM) hB42.ledg H145 (by first | omega | decide) (by first | omega | decide)) ?_
    rintro _ w167 ⟨rfl, K166⟩
    refine ⟨_, _, rfl, rfl, ?_⟩
    replace K144 := K144.trans K166 (U := none_) (fun i h1 h2 => h2) (fun i h1 h2 => by exact h2)
    replace H145 := H145.keep K166 (fun h => h)
    replace H146 := H146.keep K166 (fun h => h)
    replace H147 := H147.keep K166 (fun h => h)
    replace H148 := H148.keep K166 (fun h => h)
    replace H149 := H149.keep K166 (fun h => h)
    replace H150 := H150.keep K166 (fun h => h)
    replace hON := own_keep0 hON K166
    replace hOM := own_keep0 hOM K166
    clear K166
    refine Ops.go (v := (Value.bool (!((textE (doS SSa KKa xa) (doK SSa KKa xa)) == (textE (doS SSa KKa xa) (doK SSa KKa xa)))))) (by kernel_rfl) (Runs.strne (t := 9) (by kernel_rfl)) (d := (some 78)) (by kernel_rfl) rfl ?_
    refine og 1 [(0, (Value.slice OAa la.length oca)), (3, (ptr b1)), (4, (ptr b15)), (5, (i64 ((ia : Nat) : Int))), (6, (ptr b56)), (7, (i64 ((q : Nat) : Int))), (8, (i64 ((sumE (doS SSa KKa xa)).1))), (9, (i64 ((sumE (doS SSa KKa xa)).2))), (10, (i64 ((sumE (doS SSa KKa xa)).1))), (11, (i64 ((sumE (doS SSa KKa xa)).2))), (25, (Value.bool true)), (42, (Value.bool false)), (47, (Value.bool false)), (79, (Value.bool (!((textE (doS SSa KKa xa) (doK SSa KKa xa)) == (textE (doS SSa KKa xa) (doK SSa KKa xa))))))] 15 ?_
    refine od ?_
    have h168 : (!((textE (doS SSa KKa xa) (doK SSa KKa xa)) == (textE (doS SSa KKa xa) (doK SSa KKa xa)))) = false := by simp
    rw [h168]
    refine q_else (o := .tmp 79) (by kernel_rfl) rfl ?_
    refine q_skip (by kernel_rfl) ?_
    refine qg ?_
    refine og 2 [(0, (Value.slice OAa la.length oca)), (3, (ptr b1)), (4, (ptr b15)), (5, (i64 ((ia : Nat) : Int))), (6, (ptr b56)), (7, (i64 ((q : Nat) : Int))), (8, (i64 ((sumE (doS SSa KKa xa)).1))), (9, (i64 ((sumE (doS SSa KKa xa)).2))), (10, (i64 ((sumE (doS SSa KKa xa)).1))), (11, (i64 ((sumE (doS SSa KKa xa)).2))), (25, (Value.bool true)), (27, (i64 (IntKind.i64.wrap (((ia : Nat) : Int) + 1)))), (42, (Value.bool false)), (47, (Value.bool false)), (79, (Value.bool false))] 2 ?_
    have e169 : IntKind.i64.wrap (((ia : Nat) : Int) + 1) = ((ia + 1 : Nat) : Int) := by rw [wrap_i64 (by omega) (by omega)]; omega
    rw [e169]
    clear e169
    refine og 1 [(0, (Value.slice OAa la.length oca)), (3, (ptr b1)), (4, (ptr b15)), (5, (i64 ((ia + 1 : Nat) : Int))), (6, (ptr b56)), (7, (i64 ((q : Nat) : Int))), (8, (i64 ((sumE (doS SSa KKa xa)).1))), (9, (i64 ((sumE (doS SSa KKa xa)).2))), (10, (i64 ((sumE (doS SSa KKa xa)).1))), (11, (i64 ((sumE (doS SSa KKa xa)).2))), (25, (Value.bool true)), (42, (Value.bool false)), (47, (Value.bool false)), (79, (Value.bool false))] 3 ?_
    refine Ops.keep (R := [(0, (Value.slice OAa la.length oca)), (3, (ptr b1)), (4, (ptr b15)), (5, (i64 ((ia + 1 : Nat) : Int)))]) (by kernel_rfl) ?_
    refine od ?_
    exact ⟨(ia + 1, m35, (doS SSa KKa xa), (doK SSa KKa xa), A70, c71, B72, d73), ⟨rfl, hON, obNtb, obNb1, obNmb2, obNkb3, obNb15, ooNM, hOM, obMtb, obMb1, obMmb2, obMkb3, obMb15, ooMN, (by omega), hB42, (by omega), K144, H145, H146, H147, H148, H149⟩, (show 120 - (ia + 1) < 120 - ia from by omega)⟩
  ·rw [h33]
   have p170 : ¬ (((ia : Nat) : Int) < 120) := of_decide_eq_false h33
   refine q_exit (id := 0) (by kernel_rfl) ?_
   refine qs ?_
   refine qg ?_
   refine og 1 [(3, (ptr b1)), (4, (ptr b15)), (80, (ptr b1))] 1 ?_
   refine Ops.call (by kernel_rfl) (d := (some 81)) (by kernel_rfl) (Copy_calls _ b1 mb2 kb3 mma SSa KKa H24 H25 H26 (by omega) hBma) ?_
   rintro _ w174 ⟨b171, mb172, kb173, rfl, K175, H176, Hm177, Hk178, hb179, hb180, hb181, hb182, hb183, hb184⟩
   have lb171tb : tb < b171 := by have := H23.lt; omega
   have lmb172tb : tb < mb172 := by have := H23.lt; omega
   have lkb173tb : tb < kb173 := by have := H23.lt; omega
   have lb171b1 : b1 < b171 := by have := H24.lt; omega
   have lmb172b1 : b1 < mb172 := by have := H24.lt; omega
   have lkb173b1 : b1 < kb173 := by have := H24.lt; omega
   have lb171mb2 : mb2 < b171 := by have := H25.lt; omega
   have lmb172mb2 : mb2 < mb172 := by have := H25.lt; omega
   have lkb173mb2 : mb2 < kb173 := by have := H25.lt; omega
   have lb171kb3 : kb3 < b171 := by have := H26.lt; omega
   have lmb172kb3 : kb3 < mb172 := by have := H26.lt; omega
   have lkb173kb3 : kb3 < kb173 := by have := H26.lt; omega
   have lb171b15 : b15 < b171 := by have := H27.lt; omega
   have lmb172b15 : b15 < mb172 := by have := H27.lt; omega
   have lkb173b15 : b15 < kb173 := by have := H27.lt; omega
   have nb171 : w.heap.size ≤ b171 := by have := K22.size; omega
   have nmb172 : w.heap.size ≤ mb172 := by have := K22.size; omega
   have nkb173 : w.heap.size ≤ kb173 := by have := K22.size; omega
   have ob185 : ∀ i, ((Value.slice VA SSa.length vc)).ownBlock = some i → i ≠ b171 := fun i hi => by have := (World.ownsRow.lt hON i hi).2; omega
   have ob186 : ∀ i, ((Value.slice VA SSa.length vc)).ownBlock = some i → i ≠ mb172 := fun i hi => by have := (World.ownsRow.lt hON i hi).2; omega
   have ob187 : ∀ i, ((Value.slice VA SSa.length vc)).ownBlock = some i → i ≠ kb173 := fun i hi => by have := (World.ownsRow.lt hON i hi).2; omega
   have ob188 : ∀ i, ((Value.slice WA KKa.length wc)).ownBlock = some i → i ≠ b171 := fun i hi => by have := (World.ownsRow.lt hOM i hi).2; omega
   have ob189 : ∀ i, ((Value.slice WA KKa.length wc)).ownBlock = some i → i ≠ mb172 := fun i hi => by have := (World.ownsRow.lt hOM i hi).2; omega
   have ob190 : ∀ i, ((Value.slice WA KKa.length wc)).ownBlock = some i → i ≠ kb173 := fun i hi => by have := (World.ownsRow.lt hOM i hi).2; omega
   refine ⟨_, _, rfl, rfl, ?_⟩
   replace K22 := K22.trans K175 (U := none_) (fun i h1 h2 => h2) (fun i h1 h2 => by exact h2)
   replace H23 := H23.keep K175 (fun h => h)
   replace H24 := H24.keep K175 (fun h => h)
   replace H25 := H25.keep K175 (fun h => h)
   replace H26 := H26.keep K175 (fun h => h)
   replace H27 := H27.keep K175 (fun h => h)
   replace hON := own_keep0 hON K175
   replace hOM := own_keep0 hOM K175
   clear K175
   refine og 1 [(3, (ptr b1)), (4, (ptr b15)), (12, (ptr b171))] 3 ?_
   refine od ?_
   refine qs ?_
   refine qs ?_
   refine qg ?_
   refine og 5 [(3, (ptr b1)), (4, (ptr b15)), (12, (ptr b171)), (84, (Value.bool false)), (85, (ptr b171)), (86, (ptr b1))] 5 ?_
   refine Ops.call (by kernel_rfl) (d := (some 87)) (by kernel_rfl) (Same_calls _ b171 mb172 kb173 mma SSa KKa b1 mb2 kb3 mma SSa KKa H176 Hm177 Hk178 (by omega) hBma H24 H25 H26 (by omega) hBma) ?_
   rintro _ w194 ⟨t191, rfl, ht192, K193⟩
   refine ⟨_, _, rfl, rfl, ?_⟩
   replace K22 := K22.trans K193 (U := none_) (fun i h1 h2 => h2) (fun i h1 h2 => by exact h2)
   replace H23 := H23.keep K193 (fun h => h)
   replace H24 := H24.keep K193 (fun h => h)
   replace H25 := H25.keep K193 (fun h => h)
   replace H26 := H26.keep K193 (fun h => h)
   replace H27 := H27.keep K193 (fun h => h)
   replace H176 := H176.keep K193 (fun h => h)
   replace Hm177 := Hm177.keep K193 (fun h => h)
   replace Hk178 := Hk178.keep K193 (fun h => h)
   replace hON := own_keep0 hON K193
   replace hOM := own_keep0 hOM K193
   clear K193
   refine og 3 [(3, (ptr b1)), (4, (ptr b15)), (12, (ptr b171)), (90, (Value.bool (!t191)))] 9 ?_
   have h195 : (!t191) = false := by rw [show t191 = true from ht192.2 ⟨rfl, List.Perm.refl _⟩]; rfl
   rw [h195]
   refine og 1 [(3, (ptr b1)), (4, (ptr b15)), (12, (ptr b171)), (90, (Value.bool false)), (91, (ptr b1))] 10 ?_
   refine Ops.call (by kernel_rfl) (d := (some 92)) (by kernel_rfl) (Same_nil2 _ b1 mb2 kb3 mma SSa KKa H24 H25 H26 (by omega) hBma) ?_
   rintro _ w199 ⟨rfl, K198⟩
   refine ⟨_, _, rfl, rfl, ?_⟩
   replace K22 := K22.trans K198 (U := none_) (fun i h1 h2 => h2) (fun i h1 h2 => by exact h2)
   replace H23 := H23.keep K198 (fun h => h)
   replace H24 := H24.keep K198 (fun h => h)
   replace H25 := H25.keep K198 (fun h => h)
   replace H26 := H26.keep K198 (fun h => h)
   replace H27 := H27.keep K198 (fun h => h)
   replace H176 := H176.keep K198 (fun h => h)
   replace Hm177 := Hm177.keep K198 (fun h => h)
   replace Hk178 := Hk178.keep K198 (fun h => h)
   replace hON := own_keep0 hON K198
   replace hOM := own_keep0 hOM K198
   clear K198
   refine og 1 [(3, (ptr b1)), (4, (ptr b15)), (12, (ptr b171)), (93, (Value.bool false))] 12 ?_
   refine od ?_
   refine q_else (o := .tmp 93) (by kernel_rfl) rfl ?_
   refine q_skip (by kernel_rfl) ?_
   refine qs ?_
   refine qg ?_
   refine og 2 [(3, (ptr b1)), (4, (ptr b15)), (12, (ptr b171)), (94, (ptr b171)), (95, (agg [(i64 1), (Value.string (str [111, 116, 104, 101, 114, 95, 111, 110, 101, 95, 109, 111, 114, 101])), (Value.string ByteArray.empty), (i64 0), (Value.string (str [107])), (i64 0), (i64 0)]))] 2 ?_
   refine Ops.call (by kernel_rfl) (d := (some 96)) (by kernel_rfl) (Do_calls _ b171 mb172 kb173 mma SSa KKa (⟨1, [111, 116, 104, 101, 114, 95, 111, 110, 101, 95, 109, 111, 114, 101], ([] : List UInt8), 0, [107], 0, 0⟩ : Opm) H176 Hm177 Hk178 (by omega) hBma (by first | omega | decide | exact ⟨(by decide : (-9223372036854775808 : Int) ≤ 0), (by decide : (0 : Int) ≤ 9223372036854775807)⟩) (by first | omega | decide)) ?_
   rintro _ w203 ⟨m200, A201, c202, rfl, K204, Hm205, Hk206, hB207, hO208⟩
   have ob212 : ∀ i, ((Value.slice A201 ((doR SSa KKa (⟨1, [111, 116, 104, 101, 114, 95, 111, 110, 101, 95, 109, 111, 114, 101], ([] : List UInt8), 0, [107], 0, 0⟩ : Opm)).rows.length) c202)).ownBlock = some i → i ≠ tb := fun i hi => by have := (World.ownsRow.lt hO208 i hi).1; have := H23.lt; omega
   have ob213 : ∀ i, ((Value.slice A201 ((doR SSa KKa (⟨1, [111, 116, 104, 101, 114, 95, 111, 110, 101, 95, 109, 111, 114, 101], ([] : List UInt8), 0, [107], 0, 0⟩ : Opm)).rows.length) c202)).ownBlock = some i → i ≠ b1 := fun i hi => by have := (World.ownsRow.lt hO208 i hi).1; have := H24.lt; omega
   have ob214 : ∀ i, ((Value.slice A201 ((doR SSa KKa (⟨1, [111, 116, 104, 101, 114, 95, 111, 110, 101, 95, 109, 111, 114, 101], ([] : List UInt8), 0, [107], 0, 0⟩ : Opm)).rows.length) c202)).ownBlock = some i → i ≠ mb2 := fun i hi => by have := (World.ownsRow.lt hO208 i hi).1; have := H25.lt; omega
   have ob215 : ∀ i, ((Value.slice A201 ((doR SSa KKa (⟨1, [111, 116, 104, 101, 114, 95, 111, 110, 101, 95, 109, 111, 114, 101], ([] : List UInt8), 0, [107], 0, 0⟩ : Opm)).rows.length) c202)).ownBlock = some i → i ≠ kb3 := fun i hi => by have := (World.ownsRow.lt hO208 i hi).1; have := H26.lt; omega
   have ob216 : ∀ i, ((Value.slice A201 ((doR SSa KKa (⟨1, [111, 116, 104, 101, 114, 95, 111, 110, 101, 95, 109, 111, 114, 101], ([] : List UInt8), 0, [107], 0, 0⟩ : Opm)).rows.length) c202)).ownBlock = some i → i ≠ b15 := fun i hi => by have := (World.ownsRow.lt hO208 i hi).1; have := H27.lt; omega
   have ob217 : ∀ i, ((Value.slice A201 ((doR SSa KKa (⟨1, [111, 116, 104, 101, 114, 95, 111, 110, 101, 95, 109, 111, 114, 101], ([] : List UInt8), 0, [107], 0, 0⟩ : Opm)).rows.length) c202)).ownBlock = some i → i ≠ b171 := fun i hi => by have := (World.ownsRow.lt hO208 i hi).1; have := H176.lt; omega
   have ob218 : ∀ i, ((Value.slice A201 ((doR SSa KKa (⟨1, [111, 116, 104, 101, 114, 95, 111, 110, 101, 95, 109, 111, 114, 101], ([] : List UInt8), 0, [107], 0, 0⟩ : Opm)).rows.length) c202)).ownBlock = some i → i ≠ mb172 := fun i hi => by have := (World.ownsRow.lt hO208 i hi).1; have := Hm177.lt; omega
   have ob219 : ∀ i, ((Value.slice A201 ((doR SSa KKa (⟨1, [111, 116, 104, 101, 114, 95, 111, 110, 101, 95, 109, 111, 114, 101], ([] : List UInt8), 0, [107], 0, 0⟩ : Opm)).rows.length) c202)).ownBlock = some i → i ≠ kb173 := fun i hi => by have := (World.ownsRow.lt hO208 i hi).1; have := Hk178.lt; omega
   have oo220 : ∀ i, ((Value.slice VA SSa.length vc)).ownBlock = some i → ((Value.slice A201 ((doR SSa KKa (⟨1, [111, 116, 104, 101, 114, 95, 111, 110, 101, 95, 109, 111, 114, 101], ([] : List UInt8), 0, [107], 0, 0⟩ : Opm)).rows.length) c202)).ownBlock = some i → False := fun i hi hs => by have := (World.ownsRow.lt hO208 i hs).1; have := (World.ownsRow.lt hON i hi).2; omega
   have oo221 : ∀ i, ((Value.slice A201 ((doR SSa KKa (⟨1, [111, 116, 104, 101, 114, 95, 111, 110, 101, 95, 109, 111, 114, 101], ([] : List UInt8), 0, [107], 0, 0⟩ : Opm)).rows.length) c202)).ownBlock = some i → ((Value.slice VA SSa.length vc)).ownBlock = some i → False := fun i hi hs => oo220 i hs hi
   have oo222 : ∀ i, ((Value.slice WA KKa.length wc)).ownBlock = some i → ((Value.slice A201 ((doR SSa KKa (⟨1, [111, 116, 104, 101, 114, 95, 111, 110, 101, 95, 109, 111, 114, 101], ([] : List UInt8), 0, [107], 0, 0⟩ : Opm)).rows.length) c202)).ownBlock = some i → False := fun i hi hs => by have := (World.ownsRow.lt hO208 i hs).1; have := (World.ownsRow.lt hOM i hi).2; omega
   have oo223 : ∀ i, ((Value.slice A201 ((doR SSa KKa (⟨1, [111, 116, 104, 101, 114, 95, 111, 110, 101, 95, 109, 111, 114, 101], ([] : List UInt8), 0, [107], 0, 0⟩ : Opm)).rows.length) c202)).ownBlock = some i → ((Value.slice WA KKa.length wc)).ownBlock = some i → False := fun i hi hs => oo222 i hs hi
   have O209 := own_base hO208 K22.size
   clear hO208
   have hl210 := hB207.ledg.le
   have hl211 := doK_len SSa KKa (⟨1, [111, 116, 104, 101, 114, 95, 111, 110, 101, 95, 109, 111, 114, 101], ([] : List UInt8), 0, [107], 0, 0⟩ : Opm)
   refine ⟨_, _, rfl, rfl, ?_⟩
   replace K22 := K22.trans K204 (U := none_) (fun i h1 h2 => h2) (fun i h1 h2 => by have h2 : i = mb172 ∨ i = kb173 := h2; exfalso; omega)
   replace H23 := H23.keep K204 (by intro h; change tb = mb172 ∨ tb = kb173 at h; omega)
   replace H24 := H24.keep K204 (by intro h; change b1 = mb172 ∨ b1 = kb173 at h; omega)
   replace H25 := H25.keep K204 (by intro h; change mb2 = mb172 ∨ mb2 = kb173 at h; omega)
   replace H26 := H26.keep K204 (by intro h; change kb3 = mb172 ∨ kb3 = kb173 at h; omega)
   replace H27 := H27.keep K204 (by intro h; change b15 = mb172 ∨ b15 = kb173 at h; omega)
   replace H176 := H176.keep K204 (by intro h; change b171 = mb172 ∨ b171 = kb173 at h; omega)
   replace hON := own_keep hON K204 (fun i hi hs => by have hs : i = mb172 ∨ i = kb173 := hs; rcases hs with hs | hs; (have := ob186 i hi; omega); (have := ob187 i hi; omega))
   replace hOM := own_keep hOM K204 (fun i hi hs => by have hs : i = mb172 ∨ i = kb173 := hs; rcases hs with hs | hs; (have := ob189 i hi; omega); (have := ob190 i hi; omega))
   clear K204
   refine od ?_
   refine qs ?_
   refine qg ?_
   refine og 1 [(3, (ptr b1)), (4, (ptr b15)), (12, (ptr b171)), (97, (ptr b1))] 1 ?_
   refine Ops.call (by kernel_rfl) (d := (some 98)) (by kernel_rfl) (Text_calls _ b1 mb2 kb3 mma SSa KKa tb H24 H25 H26 (by omega) hBma H23 (by first | omega | decide) (by first | omega | decide)) ?_
   rintro _ w225 ⟨rfl, K224⟩
   refine ⟨_, _, rfl, rfl, ?_⟩
   replace K22 := K22.trans K224 (U := none_) (fun i h1 h2 => h2) (fun i h1 h2 => by exact h2)
   replace H23 := H23.keep K224 (fun h => h)
   replace H24 := H24.keep K224 (fun h => h)
   replace H25 := H25.keep K224 (fun h => h)
   replace H26 := H26.keep K224 (fun h => h)
   replace H27 := H27.keep K224 (fun h => h)
   replace H176 := H176.keep K224 (fun h => h)
   replace Hm205 := Hm205.keep K224 (fun h => h)
   replace Hk206 := Hk206.keep K224 (fun h => h)
   replace hON := own_keep0 hON K224
   replace hOM := own_keep0 hOM K224
   replace O209 := own_keep0 O209 K224
   clear K224
   refine og 1 [(3, (ptr b1)), (4, (ptr b15)), (12, (ptr b171)), (98, (Value.string (str (textE SSa KKa)))), (99, (ptr b171))] 3 ?_
   refine Ops.call (by kernel_rfl) (d := (some 100)) (by kernel_rfl) (Text_calls _ b171 mb172 kb173 m200 (doS SSa KKa (⟨1, [111, 116, 104, 101, 114, 95, 111, 110, 101, 95, 109, 111, 114, 101], ([] : List UInt8), 0, [107], 0, 0⟩ : Opm)) (doK SSa KKa (⟨1, [111, 116, 104, 101, 114, 95, 111, 110, 101, 95, 109, 111, 114, 101], ([] : List UInt8), 0, [107], 0, 0⟩ : Opm)) tb H176 Hm205 Hk206 (by omega) hB207 H23 (by first | omega | decide) (by first | omega | decide)) ?_
   rintro _ w227 ⟨rfl, K226⟩
   refine ⟨_, _, rfl, rfl, ?_⟩
   replace K22 := K22.trans K226 (U := none_) (fun i h1 h2 => h2) (fun i h1 h2 => by exact h2)
   replace H23 := H23.keep K226 (fun h => h)
   replace H24 := H24.keep K226 (fun h => h)
   replace H25 := H25.keep K226 (fun h => h)
   replace H26 := H26.keep K226 (fun h => h)
   replace H27 := H27.keep K226 (fun h => h)
   replace H176 := H176.keep K226 (fun h => h)
   replace Hm205 := Hm205.keep K226 (fun h => h)
   replace Hk206 := Hk206.keep K226 (fun h => h)
   replace hON := own_keep0 hON K226
   replace hOM := own_keep0 hOM K226
   replace O209 := own_keep0 O209 K226
   clear K226
   refine Ops.go (v := (Value.bool ((textE SSa KKa) == (textE (doS SSa KKa (⟨1, [111, 116, 104, 101, 114, 95, 111, 110, 101, 95, 109, 111, 114, 101], ([] : List UInt8), 0, [107], 0, 0⟩ : Opm)) (doK SSa KKa (⟨1, [111, 116, 104, 101, 114, 95, 111, 110, 101, 95, 109, 111, 114, 101], ([] : List UInt8), 0, [107], 0, 0⟩ : Opm)))))) (by kernel_rfl) (Runs.streq (t := 9) (by kernel_rfl)) (d := (some 101)) (by kernel_rfl) rfl ?_
   refine og 2 [(3, (ptr b1)), (4, (ptr b15)), (101, (Value.bool ((textE SSa KKa) == (textE (doS SSa KKa (⟨1, [111, 116, 104, 101, 114, 95, 111, 110, 101, 95, 109, 111, 114, 101], ([] : List UInt8), 0, [107], 0, 0⟩ : Opm)) (doK SSa KKa (⟨1, [111, 116, 104, 101, 114, 95, 111, 110, 101, 95, 109, 111, 114, 101], ([] : List UInt8), 0, [107], 0, 0⟩ : Opm)))))), (102, (ptr b1)), (103, (ptr b171))] 7 ?_
   refine Ops.call (by kernel_rfl) (d := (some 104)) (by kernel_rfl) (Same_calls _ b1 mb2 kb3 mma SSa KKa b171 mb172 kb173 m200 (doS SSa KKa (⟨1, [111, 116, 104, 101, 114, 95, 111, 110, 101, 95, 109, 111, 114, 101], ([] : List UInt8), 0, [107], 0, 0⟩ : Opm)) (doK SSa KKa (⟨1, [111, 116, 104, 101, 114, 95, 111, 110, 101, 95, 109, 111, 114, 101], ([] : List UInt8), 0, [107], 0, 0⟩ : Opm)) H24 H25 H26 (by omega) hBma H176 Hm205 Hk206 (by omega) hB207) ?_
   rintro _ w231 ⟨t228, rfl, ht229, K230⟩
   refine ⟨_, _, rfl, rfl, ?_⟩
   replace K22 := K22.trans K230 (U := none_) (fun i h1 h2 => h2) (fun i h1 h2 => by exact h2)
   replace H23 := H23.keep K230 (fun h => h)
   replace H24 := H24.keep K230 (fun h => h)
   replace H25 := H25.keep K230 (fun h => h)
   replace H26 := H26.keep K230 (fun h => h)
   replace H27 := H27.keep K230 (fun h => h)
   replace H176 := H176.keep K230 (fun h => h)
   replace Hm205 := Hm205.keep K230 (fun h => h)
   replace Hk206 := Hk206.keep K230 (fun h => h)
   replace hON := own_keep0 hON K230
   replace hOM := own_keep0 hOM K230
   replace O209 := own_keep0 O209 K230
   clear K230
   refine Ops.split ((textE SSa KKa) == (textE (doS SSa KKa (⟨1, [111, 116, 104, 101, 114, 95, 111, 110, 101, 95, 109, 111, 114, 101], ([] : List UInt8), 0, [107], 0, 0⟩ : Opm)) (doK SSa KKa (⟨1, [111, 116, 104, 101, 114, 95, 111, 110, 101, 95, 109, 111, 114, 101], ([] : List UInt8), 0, [107], 0, 0⟩ : Opm)))) (fun h232 => ?_) (fun h232 => ?_)
   ·rw [h232]
    have p233 : ((textE SSa KKa) == (textE (doS SSa KKa (⟨1, [111, 116, 104, 101, 114, 95, 111, 110, 101, 95, 109, 111, 114, 101], ([] : List UInt8), 0, [107], 0, 0⟩ : Opm)) (doK SSa KKa (⟨1, [111, 116, 104, 101, 114, 95, 111, 110, 101, 95, 109, 111, 114, 101], ([] : List UInt8), 0, [107], 0, 0⟩ : Opm)))) = true := h232
    have h234 : t228 = true := ht229.2 (does_same (eq_of_beq h232))
    rw [h234]
    refine og 3 [(4, (ptr b15)), (106, (Value.bool true)), (107, (ptr b1))] 11 ?_
    refine Ops.call (by kernel_rfl) (d := (some 108)) (by kernel_rfl) (Text_calls _ b1 mb2 kb3 mma SSa KKa tb H24 H25 H26 (by omega) hBma H23 (by first | omega | decide) (by first | omega | decide)) ?_
    rintro _ w236 ⟨rfl, K235⟩
    refine ⟨_, _, rfl, rfl, ?_⟩
    replace K22 := K22.trans K235 (U := none_) (fun i h1 h2 => h2) (fun i h1 h2 => by exact h2)
    replace H23 := H23.keep K235 (fun h => h)
    replace H24 := H24.keep K235 (fun h => h)
    replace H25 := H25.keep K235 (fun h => h)
    replace H26 := H26.keep K235 (fun h => h)
    replace H27 := H27.keep K235 (fun h => h)
    replace H176 := H176.keep K235 (fun h => h)
    replace Hm205 := Hm205.keep K235 (fun h => h)
    replace Hk206 := Hk206.keep K235 (fun h => h)
    replace hON := own_keep0 hON K235
    replace hOM := own_keep0 hOM K235
    replace O209 := own_keep0 O209 K235
    clear K235
    refine og 1 [(106, (Value.bool true)), (108, (Value.string (str (textE SSa KKa)))), (109, (ptr b15))] 13 ?_
    refine Ops.call (by kernel_rfl) (d := (some 110)) (by kernel_rfl) (RLText_calls _ b15 VA vc SSa WA wc KKa tb H27 (OwnT.rd hON) (OwnT.rd hOM) hBma.ledg H23 (by first | omega | decide) (by first | omega | decide)) ?_
    rintro _ w238 ⟨rfl, K237⟩
    refine ⟨_, _, rfl, rfl, ?_⟩
    replace K22 := K22.trans K237 (U := none_) (fun i h1 h2 => h2) (fun i h1 h2 => by exact h2)
    replace H23 := H23.keep K237 (fun h => h)
    replace H24 := H24.keep K237 (fun h => h)
    replace H25 := H25.keep K237 (fun h => h)
    replace H26 := H26.keep K237 (fun h => h)
    replace H27 := H27.keep K237 (fun h => h)
    replace H176 := H176.keep K237 (fun h => h)
    replace Hm205 := Hm205.keep K237 (fun h => h)
    replace Hk206 := Hk206.keep K237 (fun h => h)
    replace hON := own_keep0 hON K237
    replace hOM := own_keep0 hOM K237
    replace O209 := own_keep0 O209 K237
    clear K237
    refine Ops.go (v := (Value.bool ((textE SSa KKa) == (textE SSa KKa)))) (by kernel_rfl) (Runs.streq (t := 9) (by kernel_rfl)) (d := (some 111)) (by kernel_rfl) rfl ?_
    refine og 2 [(113, (Value.bool ((textE SSa KKa) == (textE SSa KKa))))] 17 ?_
    have h239 : ((textE SSa KKa) == (textE SSa KKa)) = true := by simp
    rw [h239]
    refine Ops.call (by kernel_rfl) (d := (some 114)) (by kernel_rfl) (known_calls _ tb H23) ?_
    rintro _ w241 ⟨rfl, K240⟩
    refine ⟨_, _, rfl, rfl, ?_⟩
    replace K22 := K22.trans K240 (U := none_) (fun i h1 h2 => h2) (fun i h1 h2 => by exact h2)
    replace H23 := H23.keep K240 (fun h => h)
    replace H24 := H24.keep K240 (fun h => h)
    replace H25 := H25.keep K240 (fun h => h)
    replace H26 := H26.keep K240 (fun h => h)
    replace H27 := H27.keep K240 (fun h => h)
    replace H176 := H176.keep K240 (fun h => h)
    replace Hm205 := Hm205.keep K240 (fun h => h)
    replace Hk206 := Hk206.keep K240 (fun h => h)
    replace hON := own_keep0 hON K240
    replace hOM := own_keep0 hOM K240
    replace O209 := own_keep0 O209 K240
    clear K240
    refine og 2 [(2, (Value.bool true))] 20 ?_
    refine od ?_
    refine q_ret (by kernel_rfl) ?_
    refine ⟨(Value.bool true), retv_tmp rfl rfl, ?_⟩
    exact ⟨rfl, K22⟩
   ·rw [h232]
    have p242 : ((textE SSa KKa) == (textE (doS SSa KKa (⟨1, [111, 116, 104, 101, 114, 95, 111, 110, 101, 95, 109, 111, 114, 101], ([] : List UInt8), 0, [107], 0, 0⟩ : Opm)) (doK SSa KKa (⟨1, [111, 116, 104, 101, 114, 95, 111, 110, 101, 95, 109, 111, 114, 101], ([] : List UInt8), 0, [107], 0, 0⟩ : Opm)))) = false := h232
    have h243 : t228 = false := does_not hBma.ledg ht229 h232
    rw [h243]
    refine og 3 [(4, (ptr b15)), (106, (Value.bool true)), (107, (ptr b1))] 11 ?_
    refine Ops.call (by kernel_rfl) (d := (some 108)) (by kernel_rfl) (Text_calls _ b1 mb2 kb3 mma SSa KKa tb H24 H25 H26 (by omega) hBma H23 (by first | omega | decide) (by first | omega | decide)) ?_
    rintro _ w245 ⟨rfl, K244⟩
    refine ⟨_, _, rfl, rfl, ?_⟩
    replace K22 := K22.trans K244 (U := none_) (fun i h1 h2 => h2) (fun i h1 h2 => by exact h2)
    replace H23 := H23.keep K244 (fun h => h)
    replace H24 := H24.keep K244 (fun h => h)
    replace H25 := H25.keep K244 (fun h => h)
    replace H26 := H26.keep K244 (fun h => h)
    replace H27 := H27.keep K244 (fun h => h)
    replace H176 := H176.keep K244 (fun h => h)
    replace Hm205 := Hm205.keep K244 (fun h => h)
    replace Hk206 := Hk206.keep K244 (fun h => h)
    replace hON := own_keep0 hON K244
    replace hOM := own_keep0 hOM K244
    replace O209 := own_keep0 O209 K244
    clear K244
    refine og 1 [(106, (Value.bool true)), (108, (Value.string (str (textE SSa KKa)))), (109, (ptr b15))] 13 ?_
    refine Ops.call (by kernel_rfl) (d := (some 110)) (by kernel_rfl) (RLText_calls _ b15 VA vc SSa WA wc KKa tb H27 (OwnT.rd hON) (OwnT.rd hOM) hBma.ledg H23 (by first | omega | decide) (by first | omega | decide)) ?_
    rintro _ w247 ⟨rfl, K246⟩
    refine ⟨_, _, rfl, rfl, ?_⟩
    replace K22 := K22.trans K246 (U := none_) (fun i h1 h2 => h2) (fun i h1 h2 => by exact h2)
    replace H23 := H23.keep K246 (fun h => h)
    replace H24 := H24.keep K246 (fun h => h)
    replace H25 := H25.keep K246 (fun h => h)
    replace H26 := H26.keep K246 (fun h => h)
    replace H27 := H27.keep K246 (fun h => h)
    replace H176 := H176.keep K246 (fun h => h)
    replace Hm205 := Hm205.keep K246 (fun h => h)
    replace Hk206 := Hk206.keep K246 (fun h => h)
    replace hON := own_keep0 hON K246
    replace hOM := own_keep0 hOM K246
    replace O209 := own_keep0 O209 K246
    clear K246
    refine Ops.go (v := (Value.bool ((textE SSa KKa) == (textE SSa KKa)))) (by kernel_rfl) (Runs.streq (t := 9) (by kernel_rfl)) (d := (some 111)) (by kernel_rfl) rfl ?_
    refine og 2 [(113, (Value.bool ((textE SSa KKa) == (textE SSa KKa))))] 17 ?_
    have h248 : ((textE SSa KKa) == (textE SSa KKa)) = true := by simp
    rw [h248]
    refine Ops.call (by kernel_rfl) (d := (some 114)) (by kernel_rfl) (known_calls _ tb H23) ?_
    rintro _ w250 ⟨rfl, K249⟩
    refine ⟨_, _, rfl, rfl, ?_⟩
    replace K22 := K22.trans K249 (U := none_) (fun i h1 h2 => h2) (fun i h1 h2 => by exact h2)
    replace H23 := H23.keep K249 (fun h => h)
    replace H24 := H24.keep K249 (fun h => h)
    replace H25 := H25.keep K249 (fun h => h)
    replace H26 := H26.keep K249 (fun h => h)
    replace H27 := H27.keep K249 (fun h => h)
    replace H176 := H176.keep K249 (fun h => h)
    replace Hm205 := Hm205.keep K249 (fun h => h)
    replace Hk206 := Hk206.keep K249 (fun h => h)
    replace hON := own_keep0 hON K249
    replace hOM := own_keep0 hOM K249
    replace O209 := own_keep0 O209 K249
    clear K249
    refine og 2 [(2, (Value.bool true))] 20 ?_
    refine od ?_
    refine q_ret (by kernel_rfl) ?_
    refine ⟨(Value.bool true), retv_tmp rfl rfl, ?_⟩
    exact ⟨rfl, K22⟩
 ·rw [h28]
  have p251 : ¬ (((ia : Nat) : Int) < ((la.length : Nat) : Int)) := of_decide_eq_false h28
  refine og 3 [(0, (Value.slice OAa la.length oca)), (3, (ptr b1)), (4, (ptr b15)), (5, (i64 ((ia : Nat) : Int))), (25, (Value.bool false))] 8 ?_
  refine od ?_
  refine q_else (o := .tmp 25) (by kernel_rfl) rfl ?_
  refine q_exit (id := 0) (by kernel_rfl) ?_
  refine qs ?_
  refine qg ?_
  refine og 1 [(3, (ptr b1)), (4, (ptr b15)), (80, (ptr b1))] 1 ?_
  refine Ops.call (by kernel_rfl) (d := (some 81)) (by kernel_rfl) (Copy_calls _ b1 mb2 kb3 mma SSa KKa H24 H25 H26 (by omega) hBma) ?_
  rintro _ w255 ⟨b252, mb253, kb254, rfl, K256, H257, Hm258, Hk259, hb260, hb261, hb262, hb263, hb264, hb265⟩
  have lb252tb : tb < b252 := by have := H23.lt; omega
  have lmb253tb : tb < mb253 := by have := H23.lt; omega
  have lkb254tb : tb < kb254 := by have := H23.lt; omega
  have lb252b1 : b1 < b252 := by have := H24.lt; omega
  have lmb253b1 : b1 < mb253 := by have := H24.lt; omega
  have lkb254b1 : b1 < kb254 := by have := H24.lt; omega
  have lb252mb2 : mb2 < b252 := by have := H25.lt; omega
  have lmb253mb2 : mb2 < mb253 := by have := H25.lt; omega
  have lkb254mb2 : mb2 < kb254 := by have := H25.lt; omega
  have lb252kb3 : kb3 < b252 := by have := H26.lt; omega
  have lmb253kb3 : kb3 < mb253 := by have := H26.lt; omega
  have lkb254kb3 : kb3 < kb254 := by have := H26.lt; omega
  have lb252b15 : b15 < b252 := by have := H27.lt; omega
  have lmb253b15 : b15 < mb253 := by have := H27.lt; omega
  have lkb254b15 : b15 < kb254 := by have := H27.lt; omega
  have nb252 : w.heap.size ≤ b252 := by have := K22.size; omega
  have nmb253 : w.heap.size ≤ mb253 := by have := K22.size; omega
  have nkb254 : w.heap.size ≤ kb254 := by have := K22.size; omega
  have ob266 : ∀ i, ((Value.slice VA SSa.length vc)).ownBlock = some i → i ≠ b252 := fun i hi => by have := (World.ownsRow.lt hON i hi).2; omega
  have ob267 : ∀ i, ((Value.slice VA SSa.length vc)).ownBlock = some i → i ≠ mb253 := fun i hi => by have := (World.ownsRow.lt hON i hi).2; omega
  have ob268 : ∀ i, ((Value.slice VA SSa.length vc)).ownBlock = some i → i ≠ kb254 := fun i hi => by have := (World.ownsRow.lt hON i hi).2; omega
  have ob269 : ∀ i, ((Value.slice WA KKa.length wc)).ownBlock = some i → i ≠ b252 := fun i hi => by have := (World.ownsRow.lt hOM i hi).2; omega
  have ob270 : ∀ i, ((Value.slice WA KKa.length wc)).ownBlock = some i → i ≠ mb253 := fun i hi => by have := (World.ownsRow.lt hOM i hi).2; omega
  have ob271 : ∀ i, ((Value.slice WA KKa.length wc)).ownBlock = some i → i ≠ kb254 := fun i hi => by have := (World.ownsRow.lt hOM i hi).2; omega
  refine ⟨_, _, rfl, rfl, ?_⟩
  replace K22 := K22.trans K256 (U := none_) (fun i h1 h2 => h2) (fun i h1 h2 => by exact h2)
  replace H23 := H23.keep K256 (fun h => h)
  replace H24 := H24.keep K256 (fun h => h)
  replace H25 := H25.keep K256 (fun h => h)
  replace H26 := H26.keep K256 (fun h => h)
  replace H27 := H27.keep K256 (fun h => h)
  replace hON := own_keep0 hON K256
  replace hOM := own_keep0 hOM K256
  clear K256
  refine og 1 [(3, (ptr b1)), (4, (ptr b15)), (12, (ptr b252))] 3 ?_
  refine od ?_
  refine qs ?_
  refine qs ?_
  refine qg ?_
  refine og 5 [(3, (ptr b1)), (4, (ptr b15)), (12, (ptr b252)), (84, (Value.bool false)), (85, (ptr b252)), (86, (ptr b1))] 5 ?_
  refine Ops.call (by kernel_rfl) (d := (some 87)) (by kernel_rfl) (Same_calls _ b252 mb253 kb254 mma SSa KKa b1 mb2 kb3 mma SSa KKa H257 Hm258 Hk259 (by omega) hBma H24 H25 H26 (by omega) hBma) ?_
  rintro _ w275 ⟨t272, rfl, ht273, K274⟩
  refine ⟨_, _, rfl, rfl, ?_⟩
  replace K22 := K22.trans K274 (U := none_) (fun i h1 h2 => h2) (fun i h1 h2 => by exact h2)
  replace H23 := H23.keep K274 (fun h => h)
  replace H24 := H24.keep K274 (fun h => h)
  replace H25 := H25.keep K274 (fun h => h)
  replace H26 := H26.keep K274 (fun h => h)
  replace H27 := H27.keep K274 (fun h => h)
  replace H257 := H257.keep K274 (fun h => h)
  replace Hm258 := Hm258.keep K274 (fun h => h)
  replace Hk259 := Hk259.keep K274 (fun h => h)
  replace hON := own_keep0 hON K274
  replace hOM := own_keep0 hOM K274
  clear K274
  refine og 3 [(3, (ptr b1)), (4, (ptr b15)), (12, (ptr b252)), (90, (Value.bool (!t272)))] 9 ?_
  have h276 : (!t272) = false := by rw [show t272 = true from ht273.2 ⟨rfl, List.Perm.refl _⟩]; rfl
  rw [h276]
  refine og 1 [(3, (ptr b1)), (4, (ptr b15)), (12, (ptr b252)), (90, (Value.bool false)), (91, (ptr b1))] 10 ?_
  refine Ops.call (by kernel_rfl) (d := (some 92)) (by kernel_rfl) (Same_nil2 _ b1 mb2 kb3 mma SSa KKa H24 H25 H26 (by omega) hBma) ?_
  rintro _ w280 ⟨rfl, K279⟩
  refine ⟨_, _, rfl, rfl, ?_⟩
  replace K22 := K22.trans K279 (U := none_) (fun i h1 h2 => h2) (fun i h1 h2 => by exact h2)
  replace H23 := H23.keep K279 (fun h => h)
  replace H24 := H24.keep K279 (fun h => h)
  replace H25 := H25.keep K279 (fun h => h)
  replace H26 := H26.keep K279 (fun h => h)
  replace H27 := H27.keep K279 (fun h => h)
  replace H257 := H257.keep K279 (fun h => h)
  replace Hm258 := Hm258.keep K279 (fun h => h)
  replace Hk259 := Hk259.keep K279 (fun h => h)
  replace hON := own_keep0 hON K279
  replace hOM := own_keep0 hOM K279
  clear K279
  refine og 1 [(3, (ptr b1)), (4, (ptr b15)), (12, (ptr b252)), (93, (Value.bool false))] 12 ?_
  refine od ?_
  refine q_else (o := .tmp 93) (by kernel_rfl) rfl ?_
  refine q_skip (by kernel_rfl) ?_
  refine qs ?_
  refine qg ?_
  refine og 2 [(3, (ptr b1)), (4, (ptr b15)), (12, (ptr b252)), (94, (ptr b252)), (95, (agg [(i64 1), (Value.string (str [111, 116, 104, 101, 114, 95, 111, 110, 101, 95, 109, 111, 114, 101])), (Value.string ByteArray.empty), (i64 0), (Value.string (str [107])), (i64 0), (i64 0)]))] 2 ?_
  refine Ops.call (by kernel_rfl) (d := (some 96)) (by kernel_rfl) (Do_calls _ b252 mb253 kb254 mma SSa KKa (⟨1, [111, 116, 104, 101, 114, 95, 111, 110, 101, 95, 109, 111, 114, 101], ([] : List UInt8), 0, [107], 0, 0⟩ : Opm) H257 Hm258 Hk259 (by omega) hBma (by first | omega | decide | exact ⟨(by decide : (-9223372036854775808 : Int) ≤ 0), (by decide : (0 : Int) ≤ 9223372036854775807)⟩) (by first | omega | decide)) ?_
  rintro _ w284 ⟨m281, A282, c283, rfl, K285, Hm286, Hk287, hB288, hO289⟩
  have ob293 : ∀ i, ((Value.slice A282 ((doR SSa KKa (⟨1, [111, 116, 104, 101, 114, 95, 111, 110, 101, 95, 109, 111, 114, 101], ([] : List UInt8), 0, [107], 0, 0⟩ : Opm)).rows.length) c283)).ownBlock = some i → i ≠ tb := fun i hi => by have := (World.ownsRow.lt hO289 i hi).1; have := H23.lt; omega
  have ob294 : ∀ i, ((Value.slice A282 ((doR SSa KKa (⟨1, [111, 116, 104, 101, 114, 95, 111, 110, 101, 95, 109, 111, 114, 101], ([] : List UInt8), 0, [107], 0, 0⟩ : Opm)).rows.length) c283)).ownBlock = some i → i ≠ b1 := fun i hi => by have := (World.ownsRow.lt hO289 i hi).1; have := H24.lt; omega
  have ob295 : ∀ i, ((Value.slice A282 ((doR SSa KKa (⟨1, [111, 116, 104, 101, 114, 95, 111, 110, 101, 95, 109, 111, 114, 101], ([] : List UInt8), 0, [107], 0, 0⟩ : Opm)).rows.length) c283)).ownBlock = some i → i ≠ mb2 := fun i hi => by have := (World.ownsRow.lt hO289 i hi).1; have := H25.lt; omega
  have ob296 : ∀ i, ((Value.slice A282 ((doR SSa KKa (⟨1, [111, 116, 104, 101, 114, 95, 111, 110, 101, 95, 109, 111, 114, 101], ([] : List UInt8), 0, [107], 0, 0⟩ : Opm)).rows.length) c283)).ownBlock = some i → i ≠ kb3 := fun i hi => by have := (World.ownsRow.lt hO289 i hi).1; have := H26.lt; omega
  have ob297 : ∀ i, ((Value.slice A282 ((doR SSa KKa (⟨1, [111, 116, 104, 101, 114, 95, 111, 110, 101, 95, 109, 111, 114, 101], ([] : List UInt8), 0, [107], 0, 0⟩ : Opm)).rows.length) c283)).ownBlock = some i → i ≠ b15 := fun i hi => by have := (World.ownsRow.lt hO289 i hi).1; have := H27.lt; omega
  have ob298 : ∀ i, ((Value.slice A282 ((doR SSa KKa (⟨1, [111, 116, 104, 101, 114, 95, 111, 110, 101, 95, 109, 111, 114, 101], ([] : List UInt8), 0, [107], 0, 0⟩ : Opm)).rows.length) c283)).ownBlock = some i → i ≠ b252 := fun i hi => by have := (World.ownsRow.lt hO289 i hi).1; have := H257.lt; omega
  have ob299 : ∀ i, ((Value.slice A282 ((doR SSa KKa (⟨1, [111, 116, 104, 101, 114, 95, 111, 110, 101, 95, 109, 111, 114, 101], ([] : List UInt8), 0, [107], 0, 0⟩ : Opm)).rows.length) c283)).ownBlock = some i → i ≠ mb253 := fun i hi => by have := (World.ownsRow.lt hO289 i hi).1; have := Hm258.lt; omega
  have ob300 : ∀ i, ((Value.slice A282 ((doR SSa KKa (⟨1, [111, 116, 104, 101, 114, 95, 111, 110, 101, 95, 109, 111, 114, 101], ([] : List UInt8), 0, [107], 0, 0⟩ : Opm)).rows.length) c283)).ownBlock = some i → i ≠ kb254 := fun i hi => by have := (World.ownsRow.lt hO289 i hi).1; have := Hk259.lt; omega
  have oo301 : ∀ i, ((Value.slice VA SSa.length vc)).ownBlock = some i → ((Value.slice A282 ((doR SSa KKa (⟨1, [111, 116, 104, 101, 114, 95, 111, 110, 101, 95, 109, 111, 114, 101], ([] : List UInt8), 0, [107], 0, 0⟩ : Opm)).rows.length) c283)).ownBlock = some i → False := fun i hi hs => by have := (World.ownsRow.lt hO289 i hs).1; have := (World.ownsRow.lt hON i hi).2; omega
  have oo302 : ∀ i, ((Value.slice A282 ((doR SSa KKa (⟨1, [111, 116, 104, 101, 114, 95, 111, 110, 101, 95, 109, 111, 114, 101], ([] : List UInt8), 0, [107], 0, 0⟩ : Opm)).rows.length) c283)).ownBlock = some i → ((Value.slice VA SSa.length vc)).ownBlock = some i → False := fun i hi hs => oo301 i hs hi
  have oo303 : ∀ i, ((Value.slice WA KKa.length wc)).ownBlock = some i → ((Value.slice A282 ((doR SSa KKa (⟨1, [111, 116, 104, 101, 114, 95, 111, 110, 101, 95, 109, 111, 114, 101], ([] : List UInt8), 0, [107], 0, 0⟩ : Opm)).rows.length) c283)).ownBlock = some i → False := fun i hi hs => by have := (World.ownsRow.lt hO289 i hs).1; have := (World.ownsRow.lt hOM i hi).2; omega
  have oo304 : ∀ i, ((Value.slice A282 ((doR SSa KKa (⟨1, [111, 116, 104, 101, 114, 95, 111, 110, 101, 95, 109, 111, 114, 101], ([] : List UInt8), 0, [107], 0, 0⟩ : Opm)).rows.length) c283)).ownBlock = some i → ((Value.slice WA KKa.length wc)).ownBlock = some i → False := fun i hi hs => oo303 i hs hi
  have O290 := own_base hO289 K22.size
  clear hO289
  have hl291 := hB288.ledg.le
  have hl292 := doK_len SSa KKa (⟨1, [111, 116, 104, 101, 114, 95, 111, 110, 101, 95, 109, 111, 114, 101], ([] : List UInt8), 0, [107], 0, 0⟩ : Opm)
  refine ⟨_, _, rfl, rfl, ?_⟩
  replace K22 := K22.trans K285 (U := none_) (fun i h1 h2 => h2) (fun i h1 h2 => by have h2 : i = mb253 ∨ i = kb254 := h2; exfalso; omega)
  replace H23 := H23.keep K285 (by intro h; change tb = mb253 ∨ tb = kb254 at h; omega)
  replace H24 := H24.keep K285 (by intro h; change b1 = mb253 ∨ b1 = kb254 at h; omega)
  replace H25 := H25.keep K285 (by intro h; change mb2 = mb253 ∨ mb2 = kb254 at h; omega)
  replace H26 := H26.keep K285 (by intro h; change kb3 = mb253 ∨ kb3 = kb254 at h; omega)
  replace H27 := H27.keep K285 (by intro h; change b15 = mb253 ∨ b15 = kb254 at h; omega)
  replace H257 := H257.keep K285 (by intro h; change b252 = mb253 ∨ b252 = kb254 at h; omega)
  replace hON := own_keep hON K285 (fun i hi hs => by have hs : i = mb253 ∨ i = kb254 := hs; rcases hs with hs | hs; (have := ob267 i hi; omega); (have := ob268 i hi; omega))
  replace hOM := own_keep hOM K285 (fun i hi hs => by have hs : i = mb253 ∨ i = kb254 := hs; rcases hs with hs | hs; (have := ob270 i hi; omega); (have := ob271 i hi; omega))
  clear K285
  refine od ?_
  refine qs ?_
  refine qg ?_
  refine og 1 [(3, (ptr b1)), (4, (ptr b15)), (12, (ptr b252)), (97, (ptr b1))] 1 ?_
  refine Ops.call (by kernel_rfl) (d := (some 98)) (by kernel_rfl) (Text_calls _ b1 mb2 kb3 mma SSa KKa tb H24 H25 H26 (by omega) hBma H23 (by first | omega | decide) (by first | omega | decide)) ?_
  rintro _ w306 ⟨rfl, K305⟩
  refine ⟨_, _, rfl, rfl, ?_⟩
  replace K22 := K22.trans K305 (U := none_) (fun i h1 h2 => h2) (fun i h1 h2 => by exact h2)
  replace H23 := H23.keep K305 (fun h => h)
  replace H24 := H24.keep K305 (fun h => h)
  replace H25 := H25.keep K305 (fun h => h)
  replace H26 := H26.keep K305 (fun h => h)
  replace H27 := H27.keep K305 (fun h => h)
  replace H257 := H257.keep K305 (fun h => h)
  replace Hm286 := Hm286.keep K305 (fun h => h)
  replace Hk287 := Hk287.keep K305 (fun h => h)
  replace hON := own_keep0 hON K305
  replace hOM := own_keep0 hOM K305
  replace O290 := own_keep0 O290 K305
  clear K305
  refine og 1 [(3, (ptr b1)), (4, (ptr b15)), (12, (ptr b252)), (98, (Value.string (str (textE SSa KKa)))), (99, (ptr b252))] 3 ?_
  refine Ops.call (by kernel_rfl) (d := (some 100)) (by kernel_rfl) (Text_calls _ b252 mb253 kb254 m281 (doS SSa KKa (⟨1, [111, 116, 104, 101, 114, 95, 111, 110, 101, 95, 109, 111, 114, 101], ([] : List UInt8), 0, [107], 0, 0⟩ : Opm)) (doK SSa KKa (⟨1, [111, 116, 104, 101, 114, 95, 111, 110, 101, 95, 109, 111, 114, 101], ([] : List UInt8), 0, [107], 0, 0⟩ : Opm)) tb H257 Hm286 Hk287 (by omega) hB288 H23 (by first | omega | decide) (by first | omega | decide)) ?_
  rintro _ w308 ⟨rfl, K307⟩
  refine ⟨_, _, rfl, rfl, ?_⟩
  replace K22 := K22.trans K307 (U := none_) (fun i h1 h2 => h2) (fun i h1 h2 => by exact h2)
  replace H23 := H23.keep K307 (fun h => h)
  replace H24 := H24.keep K307 (fun h => h)
  replace H25 := H25.keep K307 (fun h => h)
  replace H26 := H26.keep K307 (fun h => h)
  replace H27 := H27.keep K307 (fun h => h)
  replace H257 := H257.keep K307 (fun h => h)
  replace Hm286 := Hm286.keep K307 (fun h => h)
  replace Hk287 := Hk287.keep K307 (fun h => h)
  replace hON := own_keep0 hON K307
  replace hOM := own_keep0 hOM K307
  replace O290 := own_keep0 O290 K307
  clear K307
  refine Ops.go (v := (Value.bool ((textE SSa KKa) == (textE (doS SSa KKa (⟨1, [111, 116, 104, 101, 114, 95, 111, 110, 101, 95, 109, 111, 114, 101], ([] : List UInt8), 0, [107], 0, 0⟩ : Opm)) (doK SSa KKa (⟨1, [111, 116, 104, 101, 114, 95, 111, 110, 101, 95, 109, 111, 114, 101], ([] : List UInt8), 0, [107], 0, 0⟩ : Opm)))))) (by kernel_rfl) (Runs.streq (t := 9) (by kernel_rfl)) (d := (some 101)) (by kernel_rfl) rfl ?_
  refine og 2 [(3, (ptr b1)), (4, (ptr b15)), (101, (Value.bool ((textE SSa KKa) == (textE (doS SSa KKa (⟨1, [111, 116, 104, 101, 114, 95, 111, 110, 101, 95, 109, 111, 114, 101], ([] : List UInt8), 0, [107], 0, 0⟩ : Opm)) (doK SSa KKa (⟨1, [111, 116, 104, 101, 114, 95, 111, 110, 101, 95, 109, 111, 114, 101], ([] : List UInt8), 0, [107], 0, 0⟩ : Opm)))))), (102, (ptr b1)), (103, (ptr b252))] 7 ?_
  refine Ops.call (by kernel_rfl) (d := (some 104)) (by kernel_rfl) (Same_calls _ b1 mb2 kb3 mma SSa KKa b252 mb253 kb254 m281 (doS SSa KKa (⟨1, [111, 116, 104, 101, 114, 95, 111, 110, 101, 95, 109, 111, 114, 101], ([] : List UInt8), 0, [107], 0, 0⟩ : Opm)) (doK SSa KKa (⟨1, [111, 116, 104, 101, 114, 95, 111, 110, 101, 95, 109, 111, 114, 101], ([] : List UInt8), 0, [107], 0, 0⟩ : Opm)) H24 H25 H26 (by omega) hBma H257 Hm286 Hk287 (by omega) hB288) ?_
  rintro _ w312 ⟨t309, rfl, ht310, K311⟩
  refine ⟨_, _, rfl, rfl, ?_⟩
  replace K22 := K22.trans K311 (U := none_) (fun i h1 h2 => h2) (fun i h1 h2 => by exact h2)
  replace H23 := H23.keep K311 (fun h => h)
  replace H24 := H24.keep K311 (fun h => h)
  replace H25 := H25.keep K311 (fun h => h)
  replace H26 := H26.keep K311 (fun h => h)
  replace H27 := H27.keep K311 (fun h => h)
  replace H257 := H257.keep K311 (fun h => h)
  replace Hm286 := Hm286.keep K311 (fun h => h)
  replace Hk287 := Hk287.keep K311 (fun h => h)
  replace hON := own_keep0 hON K311
  replace hOM := own_keep0 hOM K311
  replace O290 := own_keep0 O290 K311
  clear K311
  refine Ops.split ((textE SSa KKa) == (textE (doS SSa KKa (⟨1, [111, 116, 104, 101, 114, 95, 111, 110, 101, 95, 109, 111, 114, 101], ([] : List UInt8), 0, [107], 0, 0⟩ : Opm)) (doK SSa KKa (⟨1, [111, 116, 104, 101, 114, 95, 111, 110, 101, 95, 109, 111, 114, 101], ([] : List UInt8), 0, [107], 0, 0⟩ : Opm)))) (fun h313 => ?_) (fun h313 => ?_)
  ·rw [h313]
   have p314 : ((textE SSa KKa) == (textE (doS SSa KKa (⟨1, [111, 116, 104, 101, 114, 95, 111, 110, 101, 95, 109, 111, 114, 101], ([] : List UInt8), 0, [107], 0, 0⟩ : Opm)) (doK SSa KKa (⟨1, [111, 116, 104, 101, 114, 95, 111, 110, 101, 95, 109, 111, 114, 101], ([] : List UInt8), 0, [107], 0, 0⟩ : Opm)))) = true := h313
   have h315 : t309 = true := ht310.2 (does_same (eq_of_beq h313))
   rw [h315]
   refine og 3 [(4, (ptr b15)), (106, (Value.bool true)), (107, (ptr b1))] 11 ?_
   refine Ops.call (by kernel_rfl) (d := (some 108)) (by kernel_rfl) (Text_calls _ b1 mb2 kb3 mma SSa KKa tb H24 H25 H26 (by omega) hBma H23 (by first | omega | decide) (by first | omega | decide)) ?_
   rintro _ w317 ⟨rfl, K316⟩
   refine ⟨_, _, rfl, rfl, ?_⟩
   replace K22 := K22.trans K316 (U := none_) (fun i h1 h2 => h2) (fun i h1 h2 => by exact h2)
   replace H23 := H23.keep K316 (fun h => h)
   replace H24 := H24.keep K316 (fun h => h)
   replace H25 := H25.keep K316 (fun h => h)
   replace H26 := H26.keep K316 (fun h => h)
   replace H27 := H27.keep K316 (fun h => h)
   replace H257 := H257.keep K316 (fun h => h)
   replace Hm286 := Hm286.keep K316 (fun h => h)
   replace Hk287 := Hk287.keep K316 (fun h => h)
   replace hON := own_keep0 hON K316
   replace hOM := own_keep0 hOM K316
   replace O290 := own_keep0 O290 K316
   clear K316
   refine og 1 [(106, (Value.bool true)), (108, (Value.string (str (textE SSa KKa)))), (109, (ptr b15))] 13 ?_
   refine Ops.call (by kernel_rfl) (d := (some 110)) (by kernel_rfl) (RLText_calls _ b15 VA vc SSa WA wc KKa tb H27 (OwnT.rd hON) (OwnT.rd hOM) hBma.ledg H23 (by first | omega | decide) (by first | omega | decide)) ?_
   rintro _ w319 ⟨rfl, K318⟩
   refine ⟨_, _, rfl, rfl, ?_⟩
   replace K22 := K22.trans K318 (U := none_) (fun i h1 h2 => h2) (fun i h1 h2 => by exact h2)
   replace H23 := H23.keep K318 (fun h => h)
   replace H24 := H24.keep K318 (fun h => h)
   replace H25 := H25.keep K318 (fun h => h)
   replace H26 := H26.keep K318 (fun h => h)
   replace H27 := H27.keep K318 (fun h => h)
   replace H257 := H257.keep K318 (fun h => h)
   replace Hm286 := Hm286.keep K318 (fun h => h)
   replace Hk287 := Hk287.keep K318 (fun h => h)
   replace hON := own_keep0 hON K318
   replace hOM := own_keep0 hOM K318
   replace O290 := own_keep0 O290 K318
   clear K318
   refine Ops.go (v := (Value.bool ((textE SSa KKa) == (textE SSa KKa)))) (by kernel_rfl) (Runs.streq (t := 9) (by kernel_rfl)) (d := (some 111)) (by kernel_rfl) rfl ?_
   refine og 2 [(113, (Value.bool ((textE SSa KKa) == (textE SSa KKa))))] 17 ?_
   have h320 : ((textE SSa KKa) == (textE SSa KKa)) = true := by simp
   rw [h320]
   refine Ops.call (by kernel_rfl) (d := (some 114)) (by kernel_rfl) (known_calls _ tb H23) ?_
   rintro _ w322 ⟨rfl, K321⟩
   refine ⟨_, _, rfl, rfl, ?_⟩
   replace K22 := K22.trans K321 (U := none_) (fun i h1 h2 => h2) (fun i h1 h2 => by exact h2)
   replace H23 := H23.keep K321 (fun h => h)
   replace H24 := H24.keep K321 (fun h => h)
   replace H25 := H25.keep K321 (fun h => h)
   replace H26 := H26.keep K321 (fun h => h)
   replace H27 := H27.keep K321 (fun h => h)
   replace H257 := H257.keep K321 (fun h => h)
   replace Hm286 := Hm286.keep K321 (fun h => h)
   replace Hk287 := Hk287.keep K321 (fun h => h)
   replace hON := own_keep0 hON K321
   replace hOM := own_keep0 hOM K321
   replace O290 := own_keep0 O290 K321
   clear K321
   refine og 2 [(2, (Value.bool true))] 20 ?_
   refine od ?_
   refine q_ret (by kernel_rfl) ?_
   refine ⟨(Value.bool true), retv_tmp rfl rfl, ?_⟩
   exact ⟨rfl, K22⟩
  ·rw [h313]
   have p323 : ((textE SSa KKa) == (textE (doS SSa KKa (⟨1, [111, 116, 104, 101, 114, 95, 111, 110, 101, 95, 109, 111, 114, 101], ([] : List UInt8), 0, [107], 0, 0⟩ : Opm)) (doK SSa KKa (⟨1, [111, 116, 104, 101, 114, 95, 111, 110, 101, 95, 109, 111, 114, 101], ([] : List UInt8), 0, [107], 0, 0⟩ : Opm)))) = false := h313
   have h324 : t309 = false := does_not hBma.ledg ht310 h313
   rw [h324]
   refine og 3 [(4, (ptr b15)), (106, (Value.bool true)), (107, (ptr b1))] 11 ?_
   refine Ops.call (by kernel_rfl) (d := (some 108)) (by kernel_rfl) (Text_calls _ b1 mb2 kb3 mma SSa KKa tb H24 H25 H26 (by omega) hBma H23 (by first | omega | decide) (by first | omega | decide)) ?_
   rintro _ w326 ⟨rfl, K325⟩
   refine ⟨_, _, rfl, rfl, ?_⟩
   replace K22 := K22.trans K325 (U := none_) (fun i h1 h2 => h2) (fun i h1 h2 => by exact h2)
   replace H23 := H23.keep K325 (fun h => h)
   replace H24 := H24.keep K325 (fun h => h)
   replace H25 := H25.keep K325 (fun h => h)
   replace H26 := H26.keep K325 (fun h => h)
   replace H27 := H27.keep K325 (fun h => h)
   replace H257 := H257.keep K325 (fun h => h)
   replace Hm286 := Hm286.keep K325 (fun h => h)
   replace Hk287 := Hk287.keep K325 (fun h => h)
   replace hON := own_keep0 hON K325
   replace hOM := own_keep0 hOM K325
   replace O290 := own_keep0 O290 K325
   clear K325
   refine og 1 [(106, (Value.bool true)), (108, (Value.string (str (textE SSa KKa)))), (109, (ptr b15))] 13 ?_
   refine Ops.call (by kernel_rfl) (d := (some 110)) (by kernel_rfl) (RLText_calls _ b15 VA vc SSa WA wc KKa tb H27 (OwnT.rd hON) (OwnT.rd hOM) hBma.ledg H23 (by first | omega | decide) (by first | omega | decide)) ?_
   rintro _ w328 ⟨rfl, K327⟩
   refine ⟨_, _, rfl, rfl, ?_⟩
   replace K22 := K22.trans K327 (U := none_) (fun i h1 h2 => h2) (fun i h1 h2 => by exact h2)
   replace H23 := H23.keep K327 (fun h => h)
   replace H24 := H24.keep K327 (fun h => h)
   replace H25 := H25.keep K327 (fun h => h)
   replace H26 := H26.keep K327 (fun h => h)
   replace H27 := H27.keep K327 (fun h => h)
   replace H257 := H257.keep K327 (fun h => h)
   replace Hm286 := Hm286.keep K327 (fun h => h)
   replace Hk287 := Hk287.keep K327 (fun h => h)
   replace hON := own_keep0 hON K327
   replace hOM := own_keep0 hOM K327
   replace O290 := own_keep0 O290 K327
   clear K327
   refine Ops.go (v := (Value.bool ((textE SSa KKa) == (textE SSa KKa)))) (by kernel_rfl) (Runs.streq (t := 9) (by kernel_rfl)) (d := (some 111)) (by kernel_rfl) rfl ?_
   refine og 2 [(113, (Value.bool ((textE SSa KKa) == (textE SSa KKa))))] 17 ?_
   have h329 : ((textE SSa KKa) == (textE SSa KKa)) = true := by simp
   rw [h329]
   refine Ops.call (by kernel_rfl) (d := (some 114)) (by kernel_rfl) (known_calls _ tb H23) ?_
   rintro _ w331 ⟨rfl, K330⟩
   refine ⟨_, _, rfl, rfl, ?_⟩
   replace K22 := K22.trans K330 (U := none_) (fun i h1 h2 => h2) (fun i h1 h2 => by exact h2)
   replace H23 := H23.keep K330 (fun h => h)
   replace H24 := H24.keep K330 (fun h => h)
   replace H25 := H25.keep K330 (fun h => h)
   replace H26 := H26.keep K330 (fun h => h)
   replace H27 := H27.keep K330 (fun h => h)
   replace H257 := H257.keep K330 (fun h => h)
   replace Hm286 := Hm286.keep K330 (fun h => h)
   replace Hk287 := Hk287.keep K330 (fun h => h)
   replace hON := own_keep0 hON K330
   replace hOM := own_keep0 hOM K330
   replace O290 := own_keep0 O290 K330
   clear K330
   refine og 2 [(2, (Value.bool true))] 20 ?_
   refine od ?_
   refine q_ret (by kernel_rfl) ?_
   refine ⟨(Value.bool true), retv_tmp rfl rfl, ?_⟩
   exact ⟨rfl, K22⟩
end Go.Proofs.YtnfeemhpoaflfaaGreatDoor
namespace Go.Q
open Go.ChangeShapes Go.WideShapes Go.ChangeAt Go.RowKit Go.Deep
variable {H : Type} {enc : TypeId × Value → H} {P : Program} {w : World} {spare : Nat → Bool} {held : Bool}
theorem open_ops {t e : TypeId} {fs : Array Field} {v : Value} {d : DataW H} {ps : List MemPlace} (ht : P.underlying t = some (.slice e)) (he : P.underlying e = some (.struct fs)) (hone : oneCellFields P fs = true) (hC : P.cellsOf e = fs.size) (h7 : fs.size = 7)
    (k0 : fieldOf? P fs 0 = some (.int .i64)) (k1 : fieldOf? P fs 1 = some .string) (k2 : fieldOf? P fs 2 = some .string) (k3 : fieldOf? P fs 3 = some (.int .i64)) (k4 : fieldOf? P fs 4 = some .string) (k5 : fieldOf? P fs 5 = some (.int .i64)) (k6 : fieldOf? P fs 6 = some (.int .i64))
    (hv : Value.okWide P w .any 0 t v) (h : DataW.Trod enc P w 0 spare held t v d ps) : ∃ (l : List Opm) (A : Option Addr) (c : Nat), v = .slice A l.length c ∧ RdT w 7 Opm.cells (.slice A l.length c) l ∧ ∀ x ∈ l, x.Ok := by
  obtain ⟨fuel, h⟩ := trod_fuel h (slice_form ht hv)
  obtain ⟨l, hR, hg, _, A, c, rfl⟩ := open_models Opm.cells Opm.Ok ht (sz := 7) (by rw [hC, h7]) (by decide) (slice_trod ht h) h fun m cs y hl h => dec_op he hone hC h7 k0 k1 k2 k3 k4 k5 k6 (hl.trans h7.symm) h
  exact ⟨l, A, c, rfl, hR, hg⟩
theorem tab_third {n1 n2 : String} {d1 d2 d : DataW Unit} {rest : List (String × DataW Unit)} {W : World} {g : Nat} {t e : TypeId}
    (hg : P.globalNamed "internal/strconv.uint64pow10" = some g) (hty : (P.globals[g]?).map (·.type) = some t) (ht : P.underlying t = some (.array 20 e)) (he : P.underlying e = some (.int .u64)) (hce : P.cellsOf e = 1) (hct : P.cellsOf t = 20)
    (hd : d = Lib.tabData .u64 Lib.pow10Tab) (h : laidMet P ((n1, d1) :: (n2, d2) :: ("internal/strconv.uint64pow10", d) :: rest) W) : Tab P W g := by
  subst hd
  obtain ⟨ps, ⟨_, _, _, _, _, _, _, _, _, _, ⟨_, _, _, _, _, _, _, _, _, _, ⟨g', t', cs, fuel, p, q, hg', ht', hvar, hd, _, _⟩, _⟩, _⟩, _⟩ := h
  obtain rfl := Option.some.inj (hg.symm.trans hg')
  obtain rfl := Option.some.inj (hty.symm.trans ht')
  refine ⟨hg, ?_⟩
  unfold Lib.TabIs
  rw [hvar, ← Lib.cells_of_tab ht he hce hct hd]
end Go.Q
