/- the reference's book: what is counted, and told -/
import Derived.Test.YtooginpgclcldaaGreatDoorProg
import Derived.Test.YtooginpgclcldaaGreatDoorRA
import Derived.Test.YtooginpgclcldaaGreatDoorKL
import Derived.Test.YtooginpgclcldaaGreatDoorOL
import Derived.Test.YtooginpgclcldaaGreatDoorKF
import Derived.Test.YtooginpgclcldaaGreatDoorLX
set_option linter.unusedVariables false
namespace Go.Proofs.YtooginpgclcldaaGreatDoor
open Go.Q Go.RowKit
theorem tyA : ElemTy Tryz.prog 41 97 3 40 := elemTy (by kernel_rfl)

theorem RHeld_calls (w : World) (r : Nat) (A : Option Addr) (c : Nat) (S : List AccM) (Hr : Has w r (rowL [.slice A S.length c] 43)) (hR : RdT w 3 AccM.cells (.slice A S.length c) S) : Calls Tryz.prog 41 ⟨[(ptr r)]⟩ w (fun e w' => e = .returned (i64 ((heldN S : Nat) : Int)) ∧ Keeps none_ w w') := by
 have Hrl := Hr.lt
 have hcap := RdT.len AccM.three (by decide) hR
 unfold maxLen at hcap
 have K0 : Keeps none_ w w := Keeps.refl w
 refine q_calls Tryz.func41 (by kernel_rfl) (by kernel_rfl) ?_
 refine qs ?_
 refine qg ?_
 refine og 1 [(0, (ptr r)), (2, (i64 0))] 1 ?_
 refine od ?_
 refine qs ?_
 refine qg ?_
 refine og 1 [(0, (ptr r)), (2, (i64 0)), (3, (i64 0))] 1 ?_
 refine od ?_
 refine qs ?_
 refine qs ?_
 refine qg ?_
 refine og 1 [(0, (ptr r)), (2, (i64 0)), (3, (i64 0)), (4, (i64 0))] 1 ?_
 refine od ?_
 refine q_block (id := 0) (by kernel_rfl) ?_
 refine q_keep (R := [(0, (ptr r)), (2, (i64 0)), (3, (i64 0)), (4, (i64 0))]) (by kernel_rfl) ?_
 refine q_loop (fun (gs : Nat × Nat) L (wx : World) => match gs with | (i, n) => L = [(0, (ptr r)), (2, (i64 0)), (3, (i64 ((n : Nat) : Int))), (4, (i64 ((i : Nat) : Int)))] ∧ i ≤ S.length ∧ n ≤ i ∧ n = heldN (S.take i) ∧ Keeps none_ w wx ∧ Has wx r (rowL [(Value.slice A S.length c)] 43)) (fun (gs : Nat × Nat) => match gs with | (i, n) => S.length - i) (0, 0) (by kernel_rfl) ⟨rfl, Nat.zero_le _, Nat.zero_le _, rfl, K0, Hr⟩ ?_
 clear Hr K0
 rintro ⟨i, n⟩ _ w1 ⟨rfl, hi, hn, hE, K2, H3⟩
 refine qs ?_
 refine qs ?_
 refine qg ?_
 refine og 4 [(0, (ptr r)), (2, (i64 0)), (3, (i64 ((n : Nat) : Int))), (4, (i64 ((i : Nat) : Int))), (5, (i64 ((i : Nat) : Int))), (8, (ptr r))] 4 ?_
 refine Ops.go (v := (Value.slice A S.length c)) (by kernel_rfl) (Runs.load (t := 41) (a := ⟨r, 0, none⟩) (by kernel_rfl) (H3.loads (by kernel_rfl))) (d := (some 9)) (by kernel_rfl) rfl ?_
 refine og 2 [(0, (ptr r)), (2, (i64 0)), (3, (i64 ((n : Nat) : Int))), (4, (i64 ((i : Nat) : Int))), (11, (Value.bool (decide (((i : Nat) : Int) < ((S.length : Nat) : Int)))))] 7 ?_
 refine od ?_
 refine q_cond (o := .tmp 11) (b := (decide (((i : Nat) : Int) < ((S.length : Nat) : Int)))) (by kernel_rfl) rfl (fun h4 => ?_) (fun h4 => ?_)
 ·rw [h4]
  have p5 : ((i : Nat) : Int) < ((S.length : Nat) : Int) := of_decide_eq_true h4
  obtain ⟨a, ha⟩ : ∃ y, S[i]? = some y := ⟨_, List.getElem?_eq_getElem (by omega)⟩
  have hht := held_take ha
  have hhl := heldB_le a.own
  obtain ⟨rb6, ro7, hA8⟩ := Rd.addr (Rd.keep0 (by decide) hR K2) (by omega)
  refine q_skip (by kernel_rfl) ?_
  refine qs ?_
  refine q_block (id := 1) (by kernel_rfl) ?_
  refine qs ?_
  refine qg ?_
  refine og 3 [(0, (ptr r)), (2, (i64 0)), (3, (i64 ((n : Nat) : Int))), (4, (i64 ((i : Nat) : Int))), (11, (Value.bool true)), (16, (ptr r))] 3 ?_
  refine Ops.go (v := (Value.slice A S.length c)) (by kernel_rfl) (Runs.load (t := 41) (a := ⟨r, 0, none⟩) (by kernel_rfl) (H3.loads (by kernel_rfl))) (d := (some 17)) (by kernel_rfl) rfl ?_
  refine og 1 [(0, (ptr r)), (2, (i64 0)), (3, (i64 ((n : Nat) : Int))), (4, (i64 ((i : Nat) : Int))), (11, (Value.bool true)), (17, (Value.slice A S.length c)), (18, (i64 ((i : Nat) : Int)))] 5 ?_
  refine Ops.go (by kernel_rfl) (Runs.ixSliceE (k := IntKind.i64) (t := 41) (len := S.length) (cap := c) (s := 3) (off' := ro7 + i * 3) (i := ((i : Nat) : Int)) hA8 (by kernel_rfl) (by kernel_rfl) (by omega) (by omega) (by omega)) (d := (some 19)) (by kernel_rfl) rfl ?_
  refine og 1 [(0, (ptr r)), (2, (i64 0)), (3, (i64 ((n : Nat) : Int))), (4, (i64 ((i : Nat) : Int))), (11, (Value.bool true)), (20, (Value.pointer (some ⟨rb6, ro7 + i * 3 + 2, none⟩)))] 7 ?_
  refine Ops.go (v := (Value.string (str a.own))) (by kernel_rfl) (Runs.load (t := 9) (a := ⟨rb6, ro7 + i * 3 + 2, none⟩) (by kernel_rfl) (RdT.ldf (f := AccM.cells) (x := a) (o := 2) AccM.three (Rd.keep0 (by decide) hR K2) (by kernel_rfl) hA8 ha rfl)) (d := (some 21)) (by kernel_rfl) rfl ?_
  refine Ops.go (v := (Value.bool (!(a.own == ([] : List UInt8))))) (by kernel_rfl) (Runs.strne (t := 9) (by kernel_rfl)) (d := (some 22)) (by kernel_rfl) rfl ?_
  refine od ?_
  refine q_cond (o := .tmp 22) (b := (!(a.own == ([] : List UInt8)))) (by kernel_rfl) rfl (fun h9 => ?_) (fun h9 => ?_)
  ·rw [h9]
   have p10 : (a.own == ([] : List UInt8)) = false := (bnot_true h9)
   have hhb := heldB_f (bnot_true h9)
   refine qg ?_
   refine og 2 [(0, (ptr r)), (2, (i64 0)), (3, (i64 ((n : Nat) : Int))), (4, (i64 ((i : Nat) : Int))), (11, (Value.bool true)), (22, (Value.bool true)), (24, (i64 (IntKind.i64.wrap (((n : Nat) : Int) + 1))))] 2 ?_
   have e11 : IntKind.i64.wrap (((n : Nat) : Int) + 1) = ((n + 1 : Nat) : Int) := by rw [wrap_i64 (by omega) (by omega)]; omega
   rw [e11]
   clear e11
   refine og 1 [(0, (ptr r)), (2, (i64 0)), (3, (i64 ((n + 1 : Nat) : Int))), (4, (i64 ((i : Nat) : Int))), (11, (Value.bool true)), (22, (Value.bool true))] 3 ?_
   refine od ?_
   refine qg ?_
   refine og 2 [(0, (ptr r)), (2, (i64 0)), (3, (i64 ((n + 1 : Nat) : Int))), (4, (i64 ((i : Nat) : Int))), (11, (Value.bool true)), (13, (i64 (IntKind.i64.wrap (((i : Nat) : Int) + 1)))), (22, (Value.bool true))] 2 ?_
   have e12 : IntKind.i64.wrap (((i : Nat) : Int) + 1) = ((i + 1 : Nat) : Int) := by rw [wrap_i64 (by omega) (by omega)]; omega
   rw [e12]
   clear e12
   refine og 1 [(0, (ptr r)), (2, (i64 0)), (3, (i64 ((n + 1 : Nat) : Int))), (4, (i64 ((i + 1 : Nat) : Int))), (11, (Value.bool true)), (22, (Value.bool true))] 3 ?_
   refine Ops.keep (R := [(0, (ptr r)), (2, (i64 0)), (3, (i64 ((n + 1 : Nat) : Int))), (4, (i64 ((i + 1 : Nat) : Int)))]) (by kernel_rfl) ?_
   refine od ?_
   exact ⟨(i + 1, n + 1), ⟨rfl, (by omega), (by omega), (by omega), K2, H3⟩, (show S.length - (i + 1) < S.length - i from by omega)⟩
  ·rw [h9]
   have p13 : (a.own == ([] : List UInt8)) = true := (bnot_false h9)
   have hhb := heldB_t (bnot_false h9)
   refine q_skip (by kernel_rfl) ?_
   refine qg ?_
   refine og 2 [(0, (ptr r)), (2, (i64 0)), (3, (i64 ((n : Nat) : Int))), (4, (i64 ((i : Nat) : Int))), (11, (Value.bool true)), (13, (i64 (IntKind.i64.wrap (((i : Nat) : Int) + 1)))), (22, (Value.bool false))] 2 ?_
   have e14 : IntKind.i64.wrap (((i : Nat) : Int) + 1) = ((i + 1 : Nat) : Int) := by rw [wrap_i64 (by omega) (by omega)]; omega
   rw [e14]
   clear e14
   refine og 1 [(0, (ptr r)), (2, (i64 0)), (3, (i64 ((n : Nat) : Int))), (4, (i64 ((i + 1 : Nat) : Int))), (11, (Value.bool true)), (22, (Value.bool false))] 3 ?_
   refine Ops.keep (R := [(0, (ptr r)), (2, (i64 0)), (3, (i64 ((n : Nat) : Int))), (4, (i64 ((i + 1 : Nat) : Int)))]) (by kernel_rfl) ?_
   refine od ?_
   exact ⟨(i + 1, n), ⟨rfl, (by omega), (by omega), (by omega), K2, H3⟩, (show S.length - (i + 1) < S.length - i from by omega)⟩
 ·rw [h4]
  have p15 : ¬ (((i : Nat) : Int) < ((S.length : Nat) : Int)) := of_decide_eq_false h4
  refine q_exit (id := 0) (by kernel_rfl) ?_
  refine qs ?_
  refine qg ?_
  refine og 2 [(2, (i64 ((n : Nat) : Int)))] 2 ?_
  refine od ?_
  refine q_ret (by kernel_rfl) ?_
  refine ⟨(i64 ((n : Nat) : Int)), retv_tmp rfl rfl, ?_⟩
  have e : n = heldN S := by rw [hE, List.take_of_length_le (by omega)]
  exact ⟨by rw [e], K2⟩

theorem RRows_calls (w : World) (r : Nat) (A : Option Addr) (c : Nat) (S : List AccM) (k : Int) (Hr : Has w r (rowL [.slice A S.length c] 43)) (hR : RdT w 3 AccM.cells (.slice A S.length c) S) (hS : Accs S) : Calls Tryz.prog 43 ⟨[(ptr r), (i64 k)]⟩ w (fun e w' => ∃ A' c', e = .returned (.slice A' (rowsS S k).length c') ∧ Keeps none_ w w' ∧ OwnR w' w.heap.size 52 (.slice A' (rowsS S k).length c') (rowsS S k)) := by
 have Hrl := Hr.lt
 have hcap := RdT.len AccM.three (by decide) hR
 unfold maxLen at hcap
 have hSl := hS.len
 have K0 : Keeps none_ w w := Keeps.refl w
 refine q_calls Tryz.func43 (by kernel_rfl) (by kernel_rfl) ?_
 refine qs ?_
 refine qg ?_
 refine og 1 [(0, (ptr r)), (1, (i64 k)), (4, (Value.slice none 0 0))] 1 ?_
 refine od ?_
 refine qs ?_
 refine qg ?_
 refine og 1 [(0, (ptr r)), (1, (i64 k)), (4, (Value.slice none 0 0)), (5, (Value.slice none 0 0))] 1 ?_
 refine od ?_
 refine qs ?_
 refine qs ?_
 refine qg ?_
 refine og 1 [(0, (ptr r)), (1, (i64 k)), (4, (Value.slice none 0 0)), (5, (Value.slice none 0 0)), (6, (i64 0))] 1 ?_
 refine od ?_
 refine q_block (id := 0) (by kernel_rfl) ?_
 refine q_keep (R := [(0, (ptr r)), (1, (i64 k)), (4, (Value.slice none 0 0)), (5, (Value.slice none 0 0)), (6, (i64 0))]) (by kernel_rfl) ?_
 refine q_loop (fun (gs : (Option Addr) × Nat × Nat × (List RowM)) L (wx : World) => match gs with | (VA, vc, i, l) => L = [(0, (ptr r)), (1, (i64 k)), (4, (Value.slice none 0 0)), (5, (Value.slice VA l.length vc)), (6, (i64 ((i : Nat) : Int)))] ∧ OwnR wx w.heap.size 52 (Value.slice VA l.length vc) l ∧ (∀ i, ((Value.slice VA l.length vc)).ownBlock = some i → i ≠ r) ∧ i ≤ S.length ∧ l = rowsS (S.take i) k ∧ Keeps none_ w wx ∧ Has wx r (rowL [(Value.slice A S.length c)] 43)) (fun (gs : (Option Addr) × Nat × Nat × (List RowM)) => match gs with | (VA, vc, i, l) => S.length - i) (none, 0, 0, []) (by kernel_rfl) ⟨rfl, (OwnT.nil _ _ _ _ _), (fun i hi => by cases hi), Nat.zero_le _, rfl, K0, Hr⟩ ?_
 clear Hr K0
 rintro ⟨VA, vc, i, l⟩ _ w1 ⟨rfl, hOV, obVr, hi, hE, K2, H3⟩
 have hrl := rowsS_len (S.take i) k
 rw [List.length_take, ← hE] at hrl
 refine qs ?_
 refine qs ?_
 refine qg ?_
 refine og 4 [(0, (ptr r)), (1, (i64 k)), (4, (Value.slice none 0 0)), (5, (Value.slice VA l.length vc)), (6, (i64 ((i : Nat) : Int))), (7, (i64 ((i : Nat) : Int))), (10, (ptr r))] 4 ?_
 refine Ops.go (v := (Value.slice A S.length c)) (by kernel_rfl) (Runs.load (t := 41) (a := ⟨r, 0, none⟩) (by kernel_rfl) (H3.loads (by kernel_rfl))) (d := (some 11)) (by kernel_rfl) rfl ?_
 refine og 2 [(0, (ptr r)), (1, (i64 k)), (4, (Value.slice none 0 0)), (5, (Value.slice VA l.length vc)), (6, (i64 ((i : Nat) : Int))), (13, (Value.bool (decide (((i : Nat) : Int) < ((S.length : Nat) : Int)))))] 7 ?_
 refine od ?_
 refine q_cond (o := .tmp 13) (b := (decide (((i : Nat) : Int) < ((S.length : Nat) : Int)))) (by kernel_rfl) rfl (fun h4 => ?_) (fun h4 => ?_)
 ·rw [h4]
  have p5 : ((i : Nat) : Int) < ((S.length : Nat) : Int) := of_decide_eq_true h4
  obtain ⟨a, ha⟩ : ∃ y, S[i]? = some y := ⟨_, List.getElem?_eq_getElem (by omega)⟩
  have hao := hS.ok a (List.mem_of_getElem? ha)
  have hal := hao.len
  have hrt := rows_take k ha
  obtain ⟨rb6, ro7, hA8⟩ := Rd.addr (Rd.keep0 (by decide) hR K2) (by omega)
  refine q_skip (by kernel_rfl) ?_
  refine qs ?_
  refine q_block (id := 1) (by kernel_rfl) ?_
  refine qs ?_
  refine qg ?_
  refine og 3 [(0, (ptr r)), (1, (i64 k)), (4, (Value.slice none 0 0)), (5, (Value.slice VA l.length vc)), (6, (i64 ((i : Nat) : Int))), (13, (Value.bool true)), (18, (Value.bool (k == (-1))))] 3 ?_
  refine Ops.split (k == (-1)) (fun h9 => ?_) (fun h9 => ?_)
  ·rw [h9]
   have p10 : k = (-1) := of_beq_t h9
   refine og 12 [(0, (ptr r)), (1, (i64 k)), (4, (Value.slice none 0 0)), (5, (Value.slice VA l.length vc)), (6, (i64 ((i : Nat) : Int))), (13, (Value.bool true)), (30, (Value.bool true))] 15 ?_
   refine od ?_
   refine q_then (o := .tmp 30) (by kernel_rfl) rfl ?_
   refine q_draw (fun wz => Keeps (fun i => ((Value.slice VA l.length vc)).ownBlock = some i) w1 wz) 21 (by kernel_rfl) (by kernel_rfl) (by kernel_rfl) (fun w11 K12 _ _ => ⟨(K12.mono (fun _ _ h => h.elim)), ?_⟩)
   replace K2 := K2.trans K12 (U := none_) (fun i h1 h2 => h2) (fun i h1 h2 => by exact h2)
   replace H3 := H3.keep K12 (fun h => h)
   replace hOV := own_keep0 hOV K12
   refine Dr.strong (S' := (fun wz => Keeps (fun i => ((Value.slice VA l.length vc)).ownBlock = some i) w11 wz)) ((Keeps.refl w11).mono (fun _ _ h => h.elim)) (fun wz hx => K12.trans hx (fun i _ h => h.elim) (fun _ _ h => h)) ?_
   clear K12
   refine Dr.takes (fuel' := 17) (is' := [3, 2, 1, 0]) [0, 1, 2, 3] [(0, (ptr r)), (1, (i64 k)), (4, (Value.slice none 0 0)), (5, (Value.slice VA l.length vc)), (6, (i64 ((i : Nat) : Int))), (13, (Value.bool true)), (30, (Value.bool true)), (31, (Value.slice VA l.length vc)), (34, (ptr r))] (by kernel_rfl) rfl (by kernel_rfl) ?_
   refine Dr.take (i := 4) (v := (Value.slice A S.length c)) (by kernel_rfl) (by kernel_rfl) (fun wz hS => Runs.load (t := 41) (a := ⟨r, 0, none⟩) (by kernel_rfl) ((H3.keep hS (by intro h; change ((Value.slice VA l.length vc)).ownBlock = some r at h; have := obVr r h; omega)).loads (by kernel_rfl))) (d := (some 35)) (by kernel_rfl) rfl ?_
   refine Dr.takes (fuel' := 15) (is' := [5, 4, 3, 2, 1, 0]) [5] [(0, (ptr r)), (1, (i64 k)), (4, (Value.slice none 0 0)), (5, (Value.slice VA l.length vc)), (6, (i64 ((i : Nat) : Int))), (13, (Value.bool true)), (30, (Value.bool true)), (31, (Value.slice VA l.length vc)), (35, (Value.slice A S.length c)), (36, (i64 ((i : Nat) : Int)))] (by kernel_rfl) rfl (by kernel_rfl) ?_
   refine Dr.take (i := 6) (v := (Value.pointer (some ⟨rb6, ro7 + i * 3, none⟩))) (by kernel_rfl) (by kernel_rfl) (fun wz hS => Runs.ixSliceE (k := IntKind.i64) (t := 41) (len := S.length) (cap := c) (s := 3) (off' := ro7 + i * 3) (i := ((i : Nat) : Int)) hA8 (by kernel_rfl) (by kernel_rfl) (by omega) (by omega) (by omega)) (d := (some 37)) (by kernel_rfl) rfl ?_
   refine Dr.takes (fuel' := 13) (is' := [7, 6, 5, 4, 3, 2, 1, 0]) [7] [(0, (ptr r)), (1, (i64 k)), (4, (Value.slice none 0 0)), (5, (Value.slice VA l.length vc)), (6, (i64 ((i : Nat) : Int))), (13, (Value.bool true)), (30, (Value.bool true)), (31, (Value.slice VA l.length vc)), (38, (Value.pointer (some ⟨rb6, ro7 + i * 3, none⟩)))] (by kernel_rfl) rfl (by kernel_rfl) ?_
   refine Dr.take (i := 8) (v := (Value.string (str a.name))) (by kernel_rfl) (by kernel_rfl) (fun wz hS => Runs.load (t := 9) (a := ⟨rb6, ro7 + i * 3, none⟩) (by kernel_rfl) (RdT.ldf (f := AccM.cells) (x := a) (o := 0) AccM.three (Rd.keep0 (by decide) hR (K2.trans hS (U := none_) (fun _ _ h => h) (fun i h1 h2 => by have h2 : ((Value.slice VA l.length vc)).ownBlock = some i := h2; exfalso; have := (World.ownsRow.lt hOV i h2).1; omega))) (by kernel_rfl) hA8 ha rfl)) (d := (some 39)) (by kernel_rfl) rfl ?_
   refine Dr.takes (fuel' := 9) (is' := [11, 10, 9, 8, 7, 6, 5, 4, 3, 2, 1, 0]) [9, 10, 11] [(0, (ptr r)), (1, (i64 k)), (4, (Value.slice none 0 0)), (5, (Value.slice VA l.length vc)), (6, (i64 ((i : Nat) : Int))), (13, (Value.bool true)), (30, (Value.bool true)), (31, (Value.slice VA l.length vc)), (39, (Value.string (str a.name))), (42, (ptr r))] (by kernel_rfl) rfl (by kernel_rfl) ?_
   refine Dr.take (i := 12) (v := (Value.slice A S.length c)) (by kernel_rfl) (by kernel_rfl) (fun wz hS => Runs.load (t := 41) (a := ⟨r, 0, none⟩) (by kernel_rfl) ((H3.keep hS (by intro h; change ((Value.slice VA l.length vc)).ownBlock = some r at h; have := obVr r h; omega)).loads (by kernel_rfl))) (d := (some 43)) (by kernel_rfl) rfl ?_
   refine Dr.takes (fuel' := 7) (is' := [13, 12, 11, 10, 9, 8, 7, 6, 5, 4, 3, 2, 1, 0]) [13] [(0, (ptr r)), (1, (i64 k)), (4, (Value.slice none 0 0)), (5, (Value.slice VA l.length vc)), (6, (i64 ((i : Nat) : Int))), (13, (Value.bool true)), (30, (Value.bool true)), (31, (Value.slice VA l.length vc)), (39, (Value.string (str a.name))), (43, (Value.slice A S.length c)), (44, (i64 ((i : Nat) : Int)))] (by kernel_rfl) rfl (by kernel_rfl) ?_
   refine Dr.take (i := 14) (v := (Value.pointer (some ⟨rb6, ro7 + i * 3, none⟩))) (by kernel_rfl) (by kernel_rfl) (fun wz hS => Runs.ixSliceE (k := IntKind.i64) (t := 41) (len := S.length) (cap := c) (s := 3) (off' := ro7 + i * 3) (i := ((i : Nat) : Int)) hA8 (by kernel_rfl) (by kernel_rfl) (by omega) (by omega) (by omega)) (d := (some 45)) (by kernel_rfl) rfl ?_
   refine Dr.takes (fuel' := 5) (is' := [15, 14, 13, 12, 11, 10, 9, 8, 7, 6, 5, 4, 3, 2, 1, 0]) [15] [(0, (ptr r)), (1, (i64 k)), (4, (Value.slice none 0 0)), (5, (Value.slice VA l.length vc)), (6, (i64 ((i : Nat) : Int))), (13, (Value.bool true)), (30, (Value.bool true)), (31, (Value.slice VA l.length vc)), (39, (Value.string (str a.name))), (46, (Value.pointer (some ⟨rb6, ro7 + i * 3 + 1, none⟩)))] (by kernel_rfl) rfl (by kernel_rfl) ?_
   refine Dr.take (i := 16) (v := (i64 a.amt)) (by kernel_rfl) (by kernel_rfl) (fun wz hS => Runs.load (t := 2) (a := ⟨rb6, ro7 + i * 3 + 1, none⟩) (by kernel_rfl) (RdT.ldf (f := AccM.cells) (x := a) (o := 1) AccM.three (Rd.keep0 (by decide) hR (K2.trans hS (U := none_) (fun _ _ h => h) (fun i h1 h2 => by have h2 : ((Value.slice VA l.length vc)).ownBlock = some i := h2; exfalso; have := (World.ownsRow.lt hOV i h2).1; omega))) (by kernel_rfl) hA8 ha rfl)) (d := (some 47)) (by kernel_rfl) rfl ?_
   refine Dr.takes (fuel' := 3) (is' := [17, 16, 15, 14, 13, 12, 11, 10, 9, 8, 7, 6, 5, 4, 3, 2, 1, 0]) [17] [(0, (ptr r)), (1, (i64 k)), (4, (Value.slice none 0 0)), (5, (Value.slice VA l.length vc)), (6, (i64 ((i : Nat) : Int))), (13, (Value.bool true)), (30, (Value.bool true)), (31, (Value.slice VA l.length vc)), (48, (agg [(Value.string (str a.name)), (i64 a.amt)]))] (by kernel_rfl) rfl (by kernel_rfl) ?_
   refine Dr.new (i := 18) (o := rowL [(Value.string (str a.name)), (i64 a.amt)] 52) (V := fun b => (Value.slice (some ⟨b, 0, none⟩) 1 1)) (by kernel_rfl) (by kernel_rfl) (d := (some 49)) (by kernel_rfl) (fun b => rfl) (fun b13 w14 hb15 H16 K17 hs18 => ?_)
   have lb13r : r < b13 := by have := H3.lt; omega
   have nb13 : w.heap.size ≤ b13 := by have := K2.size; omega
   have ob19 : ∀ i, ((Value.slice VA l.length vc)).ownBlock = some i → i < b13 := fun i hi => by have := (World.ownsRow.lt hOV i hi).2; omega
   replace K2 := K2.trans K17 (U := none_) (fun i h1 h2 => h2) (fun i h1 h2 => by exact h2)
   replace H3 := H3.keep K17 (fun h => h)
   replace hOV := own_keep0 hOV K17
   refine ⟨(K17.mono (fun _ _ h => h.elim)), ?_⟩
   refine Dr.strong (S' := (fun wz => Keeps (fun i => ((Value.slice VA l.length vc)).ownBlock = some i) w14 wz)) ((Keeps.refl w14).mono (fun _ _ h => h.elim)) (fun wz hx => K17.trans hx (fun i _ h => h.elim) (fun _ _ h => h)) ?_
   clear K17 hs18
   obtain ⟨v20, w21, hr22, hO23, hK24, hg25⟩ := OwnT.app (ty := 75) RowM.two RowM.one tyR hOV (show RdT _ 2 RowM.cells _ [(⟨a.name, a.amt⟩ : RowM)] from Rd.lit H16 (n := 1) rfl (by decide)) (by simp only [List.length_cons, List.length_nil]; omega) (by simp only [List.length_cons, List.length_nil]; omega) K2.size
   obtain ⟨A27, c28, rfl⟩ := RdT.form RowM.two (by decide) (OwnT.rd hO23)
   have ob29 : ∀ i, ((Value.slice A27 ((l ++ [(⟨a.name, a.amt⟩ : RowM)]).length) c28)).ownBlock = some i → i ≠ r := fun i hi => by rcases hg25 i hi with h | h; (have := obVr i h; omega); (have := H3.lt; omega)
   have ob30 : ∀ i, ((Value.slice A27 ((l ++ [(⟨a.name, a.amt⟩ : RowM)]).length) c28)).ownBlock = some i → i ≠ b13 := fun i hi => by rcases hg25 i hi with h | h; (have := ob19 i h; omega); (have := H16.lt; omega)
   have K26 := hK24
   replace K2 := K2.trans K26 (U := none_) (fun i h1 h2 => h2) (fun i h1 h2 => by have h2 : ((Value.slice VA l.length vc)).ownBlock = some i := h2; exfalso; have := (World.ownsRow.lt hOV i h2).1; omega)
   replace H3 := H3.keep K26 (by intro h; change ((Value.slice VA l.length vc)).ownBlock = some r at h; have := obVr r h; omega)
   replace H16 := H16.keep K26 (by intro h; change ((Value.slice VA l.length vc)).ownBlock = some b13 at h; have := ob19 b13 h; omega)
   clear hOV
   refine Dr.go (i := 19) (v := (Value.slice A27 ((l ++ [(⟨a.name, a.amt⟩ : RowM)]).length) c28)) (by kernel_rfl) (by kernel_rfl) (Runs.append (ts := #[75, 75]) (ty := 75) (vs := [(Value.slice VA l.length vc), (Value.slice (some ⟨b13, 0, none⟩) 1 1)]) (by kernel_rfl) hr22) (d := (some 50)) (by kernel_rfl) rfl K26 ?_
   refine Dr.strong (S' := (fun wz => Keeps (fun i => ((Value.slice VA l.length vc)).ownBlock = some i) w21 wz)) ((Keeps.refl w21).mono (fun _ _ h => h.elim)) (fun wz hx => K26.trans hx (fun i _ h => by have h : ((Value.slice VA l.length vc)).ownBlock = some i := h; show ((Value.slice VA l.length vc)).ownBlock = some i; exact h) (fun _ _ h => h)) ?_
   clear K26 hr22 hK24 hg25
   refine Dr.takes (fuel' := 0) (is' := [20, 19, 18, 17, 16, 15, 14, 13, 12, 11, 10, 9, 8, 7, 6, 5, 4, 3, 2, 1, 0]) [20] [(0, (ptr r)), (1, (i64 k)), (4, (Value.slice none 0 0)), (5, (Value.slice A27 ((l ++ [(⟨a.name, a.amt⟩ : RowM)]).length) c28)), (6, (i64 ((i : Nat) : Int))), (13, (Value.bool true)), (30, (Value.bool true))] (by kernel_rfl) rfl (by kernel_rfl) ?_
   refine Dr.done (by kernel_rfl) ?_
   refine qg ?_
   refine og 2 [(0, (ptr r)), (1, (i64 k)), (4, (Value.slice none 0 0)), (5, (Value.slice A27 ((l ++ [(⟨a.name, a.amt⟩ : RowM)]).length) c28)), (6, (i64 ((i : Nat) : Int))), (13, (Value.bool true)), (15, (i64 (IntKind.i64.wrap (((i : Nat) : Int) + 1)))), (30, (Value.bool true))] 2 ?_
   have e31 : IntKind.i64.wrap (((i : Nat) : Int) + 1) = ((i + 1 : Nat) : Int) := by rw [wrap_i64 (by omega) (by omega)]; omega
   rw [e31]
   clear e31
   refine og 1 [(0, (ptr r)), (1, (i64 k)), (4, (Value.slice none 0 0)), (5, (Value.slice A27 ((l ++ [(⟨a.name, a.amt⟩ : RowM)]).length) c28)), (6, (i64 ((i + 1 : Nat) : Int))), (13, (Value.bool true)), (30, (Value.bool true))] 3 ?_
   refine Ops.keep (R := [(0, (ptr r)), (1, (i64 k)), (4, (Value.slice none 0 0)), (5, (Value.slice A27 ((l ++ [(⟨a.name, a.amt⟩ : RowM)]).length) c28)), (6, (i64 ((i + 1 : Nat) : Int)))]) (by kernel_rfl) ?_
   refine od ?_
   exact ⟨(A27, c28, i + 1, l ++ [(⟨a.name, a.amt⟩ : RowM)]), ⟨rfl, hO23, ob29, (by omega), (by rw [hrt, ← hE, inSlot_t (by omega), if_pos rfl]; first | done | rfl), K2, H3⟩, (show S.length - (i + 1) < S.length - i from by omega)⟩
  ·rw [h9]
   have p32 : ¬ (k = (-1)) := of_beq_f h9
   refine og 3 [(0, (ptr r)), (1, (i64 k)), (4, (Value.slice none 0 0)), (5, (Value.slice VA l.length vc)), (6, (i64 ((i : Nat) : Int))), (13, (Value.bool true)), (18, (Value.bool false)), (21, (ptr r))] 6 ?_
   refine Ops.go (v := (Value.slice A S.length c)) (by kernel_rfl) (Runs.load (t := 41) (a := ⟨r, 0, none⟩) (by kernel_rfl) (H3.loads (by kernel_rfl))) (d := (some 22)) (by kernel_rfl) rfl ?_
   refine og 1 [(0, (ptr r)), (1, (i64 k)), (4, (Value.slice none 0 0)), (5, (Value.slice VA l.length vc)), (6, (i64 ((i : Nat) : Int))), (13, (Value.bool true)), (18, (Value.bool false)), (22, (Value.slice A S.length c)), (23, (i64 ((i : Nat) : Int)))] 8 ?_
   refine Ops.go (by kernel_rfl) (Runs.ixSliceE (k := IntKind.i64) (t := 41) (len := S.length) (cap := c) (s := 3) (off' := ro7 + i * 3) (i := ((i : Nat) : Int)) hA8 (by kernel_rfl) (by kernel_rfl) (by omega) (by omega) (by omega)) (d := (some 24)) (by kernel_rfl) rfl ?_
   refine og 1 [(0, (ptr r)), (1, (i64 k)), (4, (Value.slice none 0 0)), (5, (Value.slice VA l.length vc)), (6, (i64 ((i : Nat) : Int))), (13, (Value.bool true)), (18, (Value.bool false)), (25, (Value.pointer (some ⟨rb6, ro7 + i * 3, none⟩)))] 10 ?_
   refine Ops.go (v := (Value.string (str a.name))) (by kernel_rfl) (Runs.load (t := 9) (a := ⟨rb6, ro7 + i * 3, none⟩) (by kernel_rfl) (RdT.ldf (f := AccM.cells) (x := a) (o := 0) AccM.three (Rd.keep0 (by decide) hR K2) (by kernel_rfl) hA8 ha rfl)) (d := (some 26)) (by kernel_rfl) rfl ?_
   refine Ops.call (by kernel_rfl) (d := (some 27)) (by kernel_rfl) (RSlot_calls _ a.name (by omega)) ?_
   rintro _ w34 ⟨rfl, K33⟩
   refine ⟨_, _, rfl, rfl, ?_⟩
   replace K2 := K2.trans K33 (U := none_) (fun i h1 h2 => h2) (fun i h1 h2 => by exact h2)
   replace H3 := H3.keep K33 (fun h => h)
   replace hOV := own_keep0 hOV K33
   clear K33
   refine og 3 [(0, (ptr r)), (1, (i64 k)), (4, (Value.slice none 0 0)), (5, (Value.slice VA l.length vc)), (6, (i64 ((i : Nat) : Int))), (13, (Value.bool true)), (30, (Value.bool (((slotB a.name : Nat) : Int) == k)))] 15 ?_
   refine od ?_
   refine q_cond (o := .tmp 30) (b := (((slotB a.name : Nat) : Int) == k)) (by kernel_rfl) rfl (fun h35 => ?_) (fun h35 => ?_)
   ·rw [h35]
    have p36 : ((slotB a.name : Nat) : Int) = k := of_beq_t h35
    refine q_draw (fun wz => Keeps (fun i => ((Value.slice VA l.length vc)).ownBlock = some i) w34 wz) 21 (by kernel_rfl) (by kernel_rfl) (by kernel_rfl) (fun w37 K38 _ _ => ⟨(K38.mono (fun _ _ h => h.elim)), ?_⟩)
    replace K2 := K2.trans K38 (U := none_) (fun i h1 h2 => h2) (fun i h1 h2 => by exact h2)
    replace H3 := H3.keep K38 (fun h => h)
    replace hOV := own_keep0 hOV K38
    refine Dr.strong (S' := (fun wz => Keeps (fun i => ((Value.slice VA l.length vc)).ownBlock = some i) w37 wz)) ((Keeps.refl w37).mono (fun _ _ h => h.elim)) (fun wz hx => K38.trans hx (fun i _ h => h.elim) (fun _ _ h => h)) ?_
    clear K38
    refine Dr.takes (fuel' := 17) (is' := [3, 2, 1, 0]) [0, 1, 2, 3] [(0, (ptr r)), (1, (i64 k)), (4, (Value.slice none 0 0)), (5, (Value.slice VA l.length vc)), (6, (i64 ((i : Nat) : Int))), (13, (Value.bool true)), (30, (Value.bool true)), (31, (Value.slice VA l.length vc)), (34, (ptr r))] (by kernel_rfl) rfl (by kernel_rfl) ?_
    refine Dr.take (i := 4) (v := (Value.slice A S.length c)) (by kernel_rfl) (by kernel_rfl) (fun wz hS => Runs.load (t := 41) (a := ⟨r, 0, none⟩) (by kernel_rfl) ((H3.keep hS (by intro h; change ((Value.slice VA l.length vc)).ownBlock = some r at h; have := obVr r h; omega)).loads (by kernel_rfl))) (d := (some 35)) (by kernel_rfl) rfl ?_
    refine Dr.takes (fuel' := 15) (is' := [5, 4, 3, 2, 1, 0]) [5] [(0, (ptr r)), (1, (i64 k)), (4, (Value.slice none 0 0)), (5, (Value.slice VA l.length vc)), (6, (i64 ((i : Nat) : Int))), (13, (Value.bool true)), (30, (Value.bool true)), (31, (Value.slice VA l.length vc)), (35, (Value.slice A S.length c)), (36, (i64 ((i : Nat) : Int)))] (by kernel_rfl) rfl (by kernel_rfl) ?_
    refine Dr.take (i := 6) (v := (Value.pointer (some ⟨rb6, ro7 + i * 3, none⟩))) (by kernel_rfl) (by kernel_rfl) (fun wz hS => Runs.ixSliceE (k := IntKind.i64) (t := 41) (len := S.length) (cap := c) (s := 3) (off' := ro7 + i * 3) (i := ((i : Nat) : Int)) hA8 (by kernel_rfl) (by kernel_rfl) (by omega) (by omega) (by omega)) (d := (some 37)) (by kernel_rfl) rfl ?_
    refine Dr.takes (fuel' := 13) (is' := [7, 6, 5, 4, 3, 2, 1, 0]) [7] [(0, (ptr r)), (1, (i64 k)), (4, (Value.slice none 0 0)), (5, (Value.slice VA l.length vc)), (6, (i64 ((i : Nat) : Int))), (13, (Value.bool true)), (30, (Value.bool true)), (31, (Value.slice VA l.length vc)), (38, (Value.pointer (some ⟨rb6, ro7 + i * 3, none⟩)))] (by kernel_rfl) rfl (by kernel_rfl) ?_
    refine Dr.take (i := 8) (v := (Value.string (str a.name))) (by kernel_rfl) (by kernel_rfl) (fun wz hS => Runs.load (t := 9) (a := ⟨rb6, ro7 + i * 3, none⟩) (by kernel_rfl) (RdT.ldf (f := AccM.cells) (x := a) (o := 0) AccM.three (Rd.keep0 (by decide) hR (K2.trans hS (U := none_) (fun _ _ h => h) (fun i h1 h2 => by have h2 : ((Value.slice VA l.length vc)).ownBlock = some i := h2; exfalso; have := (World.ownsRow.lt hOV i h2).1; omega))) (by kernel_rfl) hA8 ha rfl)) (d := (some 39)) (by kernel_rfl) rfl ?_
    refine Dr.takes (fuel' := 9) (is' := [11, 10, 9, 8, 7, 6, 5, 4, 3, 2, 1, 0]) [9, 10, 11] [(0, (ptr r)), (1, (i64 k)), (4, (Value.slice none 0 0)), (5, (Value.slice VA l.length vc)), (6, (i64 ((i : Nat) : Int))), (13, (Value.bool true)), (30, (Value.bool true)), (31, (Value.slice VA l.length vc)), (39, (Value.string (str a.name))), (42, (ptr r))] (by kernel_rfl) rfl (by kernel_rfl) ?_
    refine Dr.take (i := 12) (v := (Value.slice A S.length c)) (by kernel_rfl) (by kernel_rfl) (fun wz hS => Runs.load (t := 41) (a := ⟨r, 0, none⟩) (by kernel_rfl) ((H3.keep hS (by intro h; change ((Value.slice VA l.length vc)).ownBlock = some r at h; have := obVr r h; omega)).loads (by kernel_rfl))) (d := (some 43)) (by kernel_rfl) rfl ?_
    refine Dr.takes (fuel' := 7) (is' := [13, 12, 11, 10, 9, 8, 7, 6, 5, 4, 3, 2, 1, 0]) [13] [(0, (ptr r)), (1, (i64 k)), (4, (Value.slice none 0 0)), (5, (Value.slice VA l.length vc)), (6, (i64 ((i : Nat) : Int))), (13, (Value.bool true)), (30, (Value.bool true)), (31, (Value.slice VA l.length vc)), (39, (Value.string (str a.name))), (43, (Value.slice A S.length c)), (44, (i64 ((i : Nat) : Int)))] (by kernel_rfl) rfl (by kernel_rfl) ?_
    refine Dr.take (i := 14) (v := (Value.pointer (some ⟨rb6, ro7 + i * 3, none⟩))) (by kernel_rfl) (by kernel_rfl) (fun wz hS => Runs.ixSliceE (k := IntKind.i64) (t := 41) (len := S.length) (cap := c) (s := 3) (off' := ro7 + i * 3) (i := ((i : Nat) : Int)) hA8 (by kernel_rfl) (by kernel_rfl) (by omega) (by omega) (by omega)) (d := (some 45)) (by kernel_rfl) rfl ?_
    refine Dr.takes (fuel' := 5) (is' := [15, 14, 13, 12, 11, 10, 9, 8, 7, 6, 5, 4, 3, 2, 1, 0]) [15] [(0, (ptr r)), (1, (i64 k)), (4, (Value.slice none 0 0)), (5, (Value.slice VA l.length vc)), (6, (i64 ((i : Nat) : Int))), (13, (Value.bool true)), (30, (Value.bool true)), (31, (Value.slice VA l.length vc)), (39, (Value.string (str a.name))), (46, (Value.pointer (some ⟨rb6, ro7 + i * 3 + 1, none⟩)))] (by kernel_rfl) rfl (by kernel_rfl) ?_
    refine Dr.take (i := 16) (v := (i64 a.amt)) (by kernel_rfl) (by kernel_rfl) (fun wz hS => Runs.load (t := 2) (a := ⟨rb6, ro7 + i * 3 + 1, none⟩) (by kernel_rfl) (RdT.ldf (f := AccM.cells) (x := a) (o := 1) AccM.three (Rd.keep0 (by decide) hR (K2.trans hS (U := none_) (fun _ _ h => h) (fun i h1 h2 => by have h2 : ((Value.slice VA l.length vc)).ownBlock = some i := h2; exfalso; have := (World.ownsRow.lt hOV i h2).1; omega))) (by kernel_rfl) hA8 ha rfl)) (d := (some 47)) (by kernel_rfl) rfl ?_
    refine Dr.takes (fuel' := 3) (is' := [17, 16, 15, 14, 13, 12, 11, 10, 9, 8, 7, 6, 5, 4, 3, 2, 1, 0]) [17] [(0, (ptr r)), (1, (i64 k)), (4, (Value.slice none 0 0)), (5, (Value.slice VA l.length vc)), (6, (i64 ((i : Nat) : Int))), (13, (Value.bool true)), (30, (Value.bool true)), (31, (Value.slice VA l.length vc)), (48, (agg [(Value.string (str a.name)), (i64 a.amt)]))] (by kernel_rfl) rfl (by kernel_rfl) ?_
    refine Dr.new (i := 18) (o := rowL [(Value.string (str a.name)), (i64 a.amt)] 52) (V := fun b => (Value.slice (some ⟨b, 0, none⟩) 1 1)) (by kernel_rfl) (by kernel_rfl) (d := (some 49)) (by kernel_rfl) (fun b => rfl) (fun b39 w40 hb41 H42 K43 hs44 => ?_)
    have lb39r : r < b39 := by have := H3.lt; omega
    have nb39 : w.heap.size ≤ b39 := by have := K2.size; omega
    have ob45 : ∀ i, ((Value.slice VA l.length vc)).ownBlock = some i → i < b39 := fun i hi => by have := (World.ownsRow.lt hOV i hi).2; omega
    replace K2 := K2.trans K43 (U := none_) (fun i h1 h2 => h2) (fun i h1 h2 => by exact h2)
    replace H3 := H3.keep K43 (fun h => h)
    replace hOV := own_keep0 hOV K43
    refine ⟨(K43.mono (fun _ _ h => h.elim)), ?_⟩
    refine Dr.strong (S' := (fun wz => Keeps (fun i => ((Value.slice VA l.length vc)).ownBlock = some i) w40 wz)) ((Keeps.refl w40).mono (fun _ _ h => h.elim)) (fun wz hx => K43.trans hx (fun i _ h => h.elim) (fun _ _ h => h)) ?_
    clear K43 hs44
    obtain ⟨v46, w47, hr48, hO49, hK50, hg51⟩ := OwnT.app (ty := 75) RowM.two RowM.one tyR hOV (show RdT _ 2 RowM.cells _ [(⟨a.name, a.amt⟩ : RowM)] from Rd.lit H42 (n := 1) rfl (by decide)) (by simp only [List.length_cons, List.length_nil]; omega) (by simp only [List.length_cons, List.length_nil]; omega) K2.size
    obtain ⟨A53, c54, rfl⟩ := RdT.form RowM.two (by decide) (OwnT.rd hO49)
    have ob55 : ∀ i, ((Value.slice A53 ((l ++ [(⟨a.name, a.amt⟩ : RowM)]).length) c54)).ownBlock = some i → i ≠ r := fun i hi => by rcases hg51 i hi with h | h; (have := obVr i h; omega); (have := H3.lt; omega)
    have ob56 : ∀ i, ((Value.slice A53 ((l ++ [(⟨a.name, a.amt⟩ : RowM)]).length) c54)).ownBlock = some i → i ≠ b39 := fun i hi => by rcases hg51 i hi with h | h; (have := ob45 i h; omega); (have := H42.lt; omega)
    have K52 := hK50
    replace K2 := K2.trans K52 (U := none_) (fun i h1 h2 => h2) (fun i h1 h2 => by have h2 : ((Value.slice VA l.length vc)).ownBlock = some i := h2; exfalso; have := (World.ownsRow.lt hOV i h2).1; omega)
    replace H3 := H3.keep K52 (by intro h; change ((Value.slice VA l.length vc)).ownBlock = some r at h; have := obVr r h; omega)
    replace H42 := H42.keep K52 (by intro h; change ((Value.slice VA l.length vc)).ownBlock = some b39 at h; have := ob45 b39 h; omega)
    clear hOV
    refine Dr.go (i := 19) (v := (Value.slice A53 ((l ++ [(⟨a.name, a.amt⟩ : RowM)]).length) c54)) (by kernel_rfl) (by kernel_rfl) (Runs.append (ts := #[75, 75]) (ty := 75) (vs := [(Value.slice VA l.length vc), (Value.slice (some ⟨b39, 0, none⟩) 1 1)]) (by kernel_rfl) hr48) (d := (some 50)) (by kernel_rfl) rfl K52 ?_
    refine Dr.strong (S' := (fun wz => Keeps (fun i => ((Value.slice VA l.length vc)).ownBlock = some i) w47 wz)) ((Keeps.refl w47).mono (fun _ _ h => h.elim)) (fun wz hx => K52.trans hx (fun i _ h => by have h : ((Value.slice VA l.length vc)).ownBlock = some i := h; show ((Value.slice VA l.length vc)).ownBlock = some i; exact h) (fun _ _ h => h)) ?_
    clear K52 hr48 hK50 hg51
    refine Dr.takes (fuel' := 0) (is' := [20, 19, 18, 17, 16, 15, 14, 13, 12, 11, 10, 9, 8, 7, 6, 5, 4, 3, 2, 1, 0]) [20] [(0, (ptr r)), (1, (i64 k)), (4, (Value.slice none 0 0)), (5, (Value.slice A53 ((l ++ [(⟨a.name, a.amt⟩ : RowM)]).length) c54)), (6, (i64 ((i : Nat) : Int))), (13, (Value.bool true)), (30, (Value.bool true))] (by kernel_rfl) rfl (by kernel_rfl) ?_
    refine Dr.done (by kernel_rfl) ?_
    refine qg ?_
    refine og 2 [(0, (ptr r)), (1, (i64 k)), (4, (Value.slice none 0 0)), (5, (Value.slice A53 ((l ++ [(⟨a.name, a.amt⟩ : RowM)]).length) c54)), (6, (i64 ((i : Nat) : Int))), (13, (Value.bool true)), (15, (i64 (IntKind.i64.wrap (((i : Nat) : Int) + 1)))), (30, (Value.bool true))] 2 ?_
    have e57 : IntKind.i64.wrap (((i : Nat) : Int) + 1) = ((i + 1 : Nat) : Int) := by rw [wrap_i64 (by omega) (by omega)]; omega
    rw [e57]
    clear e57
    refine og 1 [(0, (ptr r)), (1, (i64 k)), (4, (Value.slice none 0 0)), (5, (Value.slice A53 ((l ++ [(⟨a.name, a.amt⟩ : RowM)]).length) c54)), (6, (i64 ((i + 1 : Nat) : Int))), (13, (Value.bool true)), (30, (Value.bool true))] 3 ?_
    refine Ops.keep (R := [(0, (ptr r)), (1, (i64 k)), (4, (Value.slice none 0 0)), (5, (Value.slice A53 ((l ++ [(⟨a.name, a.amt⟩ : RowM)]).length) c54)), (6, (i64 ((i + 1 : Nat) : Int)))]) (by kernel_rfl) ?_
    refine od ?_
    exact ⟨(A53, c54, i + 1, l ++ [(⟨a.name, a.amt⟩ : RowM)]), ⟨rfl, hO49, ob55, (by omega), (by rw [hrt, ← hE, inSlot_t (by omega), if_pos rfl]; first | done | rfl), K2, H3⟩, (show S.length - (i + 1) < S.length - i from by omega)⟩
   ·rw [h35]
    have p58 : ¬ (((slotB a.name : Nat) : Int) = k) := of_beq_f h35
    refine q_skip (by kernel_rfl) ?_
    refine qg ?_
    refine og 2 [(0, (ptr r)), (1, (i64 k)), (4, (Value.slice none 0 0)), (5, (Value.slice VA l.length vc)), (6, (i64 ((i : Nat) : Int))), (13, (Value.bool true)), (15, (i64 (IntKind.i64.wrap (((i : Nat) : Int) + 1)))), (30, (Value.bool false))] 2 ?_
    have e59 : IntKind.i64.wrap (((i : Nat) : Int) + 1) = ((i + 1 : Nat) : Int) := by rw [wrap_i64 (by omega) (by omega)]; omega
    rw [e59]
    clear e59
    refine og 1 [(0, (ptr r)), (1, (i64 k)), (4, (Value.slice none 0 0)), (5, (Value.slice VA l.length vc)), (6, (i64 ((i + 1 : Nat) : Int))), (13, (Value.bool true)), (30, (Value.bool false))] 3 ?_
    refine Ops.keep (R := [(0, (ptr r)), (1, (i64 k)), (4, (Value.slice none 0 0)), (5, (Value.slice VA l.length vc)), (6, (i64 ((i + 1 : Nat) : Int)))]) (by kernel_rfl) ?_
    refine od ?_
    exact ⟨(VA, vc, i + 1, l), ⟨rfl, hOV, obVr, (by omega), (by rw [hrt, ← hE, inSlot_f (by omega), if_neg (by decide), List.append_nil]), K2, H3⟩, (show S.length - (i + 1) < S.length - i from by omega)⟩
 ·rw [h4]
  have p60 : ¬ (((i : Nat) : Int) < ((S.length : Nat) : Int)) := of_decide_eq_false h4
  refine q_exit (id := 0) (by kernel_rfl) ?_
  refine qs ?_
  refine qg ?_
  refine og 2 [(4, (Value.slice VA l.length vc))] 2 ?_
  refine od ?_
  refine q_ret (by kernel_rfl) ?_
  refine ⟨(Value.slice VA l.length vc), retv_tmp rfl rfl, ?_⟩
  have e : l = rowsS S k := by rw [hE, List.take_of_length_le (by omega)]
  rw [e] at hOV
  rw [e]
  exact ⟨_, _, rfl, K2, hOV⟩
end Go.Proofs.YtooginpgclcldaaGreatDoor
