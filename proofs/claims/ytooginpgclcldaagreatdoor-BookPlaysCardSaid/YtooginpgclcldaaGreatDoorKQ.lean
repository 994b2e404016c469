/- all rows, one by one -/
import Derived.Test.YtooginpgclcldaaGreatDoorProg
import Derived.Test.YtooginpgclcldaaGreatDoorKF
import Derived.Test.YtooginpgclcldaaGreatDoorOH
import Derived.Test.YtooginpgclcldaaGreatDoorKE
import Derived.Test.YtooginpgclcldaaGreatDoorLX
set_option linter.unusedVariables false
namespace Go.Proofs.YtooginpgclcldaaGreatDoor
open Go.Q Go.RowKit

theorem SValues_calls (w : World) (A : Option Addr) (n c : Nat)  : Calls Tryz.prog 78 ⟨[(Value.slice A n c)]⟩ w (fun e w' => ∃ C : Nat, e = .returned (.func (.func 96) ⟨[]⟩ ⟨[ptr C]⟩) ∧ Keeps none_ w w' ∧ Has w' C (rowL [.slice A n c] 75) ∧ w.heap.size ≤ C) := by
 have K0 : Keeps none_ w w := Keeps.refl w
 refine q_calls Tryz.func78 (by kernel_rfl) (by kernel_rfl) ?_
 refine qs ?_
 refine qg ?_
 refine Ops.new (o := rowL [(Value.slice A n c)] 75) (V := fun b => (ptr b)) (by kernel_rfl) (d := (some 1)) (by kernel_rfl) (fun b => rfl) (fun b1 w2 hb3 H4 K5 hs6 => ?_)
 have nb1 : w.heap.size ≤ b1 := by have := K0.size; omega
 replace K0 := K0.t0 K5
 clear K5 hs6
 refine og 1 [(1, (ptr b1)), (2, Value.nilFunc)] 2 ?_
 refine od ?_
 refine qs ?_
 refine qg ?_
 refine og 2 [(2, (Value.func (Fn.func 96) ⟨[]⟩ ⟨[(ptr b1)]⟩))] 2 ?_
 refine od ?_
 refine q_ret (by kernel_rfl) ?_
 refine ⟨(Value.func (Fn.func 96) ⟨[]⟩ ⟨[(ptr b1)]⟩), retv_tmp rfl rfl, ?_⟩
 exact ⟨_, rfl, K0, H4, nb1⟩

theorem Each_calls (w : World) (b mb : Nat) (m : List (List UInt8 × AccV)) (S : List AccM) (Hb : Has w b (rowL [.map (some mb)] 66)) (Hm : HasMap w mb kstr accv m) (hne : b ≠ mb) (hB : Book m S) : Calls Tryz.prog 45 ⟨[(ptr b)]⟩ w (fun e w' => ∃ C A c, e = .returned (.func (.func 96) ⟨[]⟩ ⟨[ptr C]⟩) ∧ Keeps none_ w w' ∧ Has w' C (rowL [.slice A (rowsS S (-1)).length c] 75) ∧ OwnR w' w.heap.size 52 (.slice A (rowsS S (-1)).length c) (rowsS S (-1)) ∧ w.heap.size ≤ C ∧ ∀ i, (Value.slice A (rowsS S (-1)).length c).ownBlock = some i → i ≠ C) := by
 have Hbl := Hb.lt
 have Hml := Hm.lt
 have hlen := hB.len
 have K0 : Keeps none_ w w := Keeps.refl w
 refine q_calls Tryz.func45 (by kernel_rfl) (by kernel_rfl) ?_
 refine qs ?_
 refine qg ?_
 refine og 1 [(0, (ptr b)), (2, Value.nilFunc)] 1 ?_
 refine od ?_
 refine qs ?_
 refine qg ?_
 refine og 1 [(2, Value.nilFunc), (3, (ptr b))] 1 ?_
 refine Ops.call (by kernel_rfl) (d := (some 4)) (by kernel_rfl) (Rows_calls _ b mb m S (-1) Hb Hm (by omega) hB) ?_
 rintro _ w3 ⟨A1, c2, rfl, K4, hO5⟩
 have ob7 : ∀ i, ((Value.slice A1 ((rowsS S (-1)).length) c2)).ownBlock = some i → i ≠ b := fun i hi => by have := (World.ownsRow.lt hO5 i hi).1; have := Hb.lt; omega
 have ob8 : ∀ i, ((Value.slice A1 ((rowsS S (-1)).length) c2)).ownBlock = some i → i ≠ mb := fun i hi => by have := (World.ownsRow.lt hO5 i hi).1; have := Hm.lt; omega
 have O6 := own_base hO5 K0.size
 clear hO5
 have hl9 := rowsS_len S (-1)
 have hl10 := hB.accs.len
 refine ⟨_, _, rfl, rfl, ?_⟩
 replace K0 := K0.t0 K4
 replace Hb := Hb.keep K4 (fun h => h)
 replace Hm := Hm.keep K4 (fun h => h)
 clear K4
 refine Ops.call (by kernel_rfl) (d := (some 5)) (by kernel_rfl) (SValues_calls _ A1 ((rowsS S (-1)).length) c2) ?_
 rintro _ w13 ⟨b11, rfl, K12, H14, nb15⟩
 have lb11b : b < b11 := by have := Hb.lt; omega
 have lb11mb : mb < b11 := by have := Hm.lt; omega
 have ob17 : ∀ i, ((Value.slice A1 ((rowsS S (-1)).length) c2)).ownBlock = some i → i ≠ b11 := fun i hi => by have := (World.ownsRow.lt O6 i hi).2; omega
 have nb11 : w.heap.size ≤ b11 := by have := K0.size; omega
 refine ⟨_, _, rfl, rfl, ?_⟩
 replace K0 := K0.t0 K12
 replace Hb := Hb.keep K12 (fun h => h)
 replace Hm := Hm.keep K12 (fun h => h)
 replace O6 := own_keep0 O6 K12
 clear K12
 refine og 1 [(2, (Value.func (Fn.func 96) ⟨[]⟩ ⟨[(ptr b11)]⟩))] 4 ?_
 refine od ?_
 refine q_ret (by kernel_rfl) ?_
 refine ⟨(Value.func (Fn.func 96) ⟨[]⟩ ⟨[(ptr b11)]⟩), retv_tmp rfl rfl, ?_⟩
 exact ⟨_, _, _, rfl, K0, H14, O6, nb11, ob17⟩

/-- What slices.Values makes tells the rows, one by one. -/
theorem SValues1_tells (w0 : World) (m0 : Nat) (C : Nat) (A : Option Addr) (c : Nat) (l : List RowM) (T : Nat → Prop) (hC : Has w0 C (rowL [.slice A l.length c] 75)) (hTC : ¬ T C) (hR : RdT w0 2 RowM.cells (.slice A l.length c) l) (hTA : ∀ i, (Value.slice A l.length c).ownBlock = some i → ¬ T i) :
  TellsM Tryz.prog m0 96 [ptr C] (fun x : RowM => [agg x.cells]) T (fun all => all = l) w0 := by
 intro ln J W hW hJ hY h0
 have hcap := (RdT.len RowM.two (by decide) hR).2
 unfold maxLen at hcap
 obtain ⟨Y, hYd⟩ : ∃ Y, Y = Value.func (.yield ln) #[] #[] := ⟨_, rfl⟩
 rw [← hYd]
 refine qr_calls (m0 + 1) Tryz.func96 (by kernel_rfl) (by kernel_rfl) ?_
 have hCW := hC.keep hW hTC
 refine qr_seq (by kernel_rfl) ?_
 refine qr_region Open.wide (by kernel_rfl) (by kernel_rfl) ?_
 refine Ops.go (v := .slice A l.length c) (by kernel_rfl) (Runs.load (t := 75) (a := ⟨C, 0, none⟩) (by kernel_rfl) (hCW.loads (by kernel_rfl))) (d := some 5) (by kernel_rfl) rfl ?_
 refine og 2 [(0, Y), (5, .slice A l.length c), (6, i64 ((l.length : Nat) : Int)), (7, i64 0)] 3 ?_
 refine od ?_
 refine qr_block (id := 0) (by kernel_rfl) ?_
 refine qr_loop (fun (k : Nat) ds L wx => ds = [] ∧ L = [(0, Y), (5, .slice A l.length c), (6, i64 ((l.length : Nat) : Int)), (7, i64 ((k : Nat) : Int))] ∧ k ≤ l.length ∧ J (l.take k) wx ∧ Keeps T w0 wx) (fun k => l.length - k) 0 (by kernel_rfl) ⟨rfl, rfl, Nat.zero_le _, h0, hW⟩ ?_
 rintro k _ _ wx ⟨rfl, rfl, hk, hj, hK⟩
 have hWw := hW.size
 refine qr_seq (by kernel_rfl) ?_
 refine qr_region Open.wide (by kernel_rfl) (by kernel_rfl) ?_
 refine og 1 [(0, Y), (5, .slice A l.length c), (6, i64 ((l.length : Nat) : Int)), (7, i64 ((k : Nat) : Int)), (8, .bool (decide (((k : Nat) : Int) < ((l.length : Nat) : Int))))] 1 ?_
 refine od ?_
 refine qr_seq (by kernel_rfl) ?_
 refine qr_cond (o := .tmp 8) (b := decide (((k : Nat) : Int) < ((l.length : Nat) : Int))) (by kernel_rfl) rfl (fun h => ?_) (fun h => ?_)
 ·have hkl := of_decide_eq_true h
  clear h
  obtain ⟨x, hx⟩ : ∃ x, l[k]? = some x := ⟨_, List.getElem?_eq_getElem (by omega)⟩
  have hsplit : l.take k ++ x :: l.drop (k + 1) = l := by
   obtain ⟨q1, q2⟩ := List.getElem?_eq_some_iff.1 hx
   rw [← q2, ← List.drop_eq_getElem_cons q1, List.take_append_drop]
  have htake : l.take (k + 1) = l.take k ++ [x] := by rw [List.take_add_one, hx]; rfl
  have hRx : RdT wx 2 RowM.cells (.slice A l.length c) l := Rd.keep (by decide) hR hK hTA
  obtain ⟨rb, ro, hA⟩ := Rd.addr hRx (by omega)
  refine qr_keep (R := [(0, Y), (5, .slice A l.length c), (6, i64 ((l.length : Nat) : Int)), (7, i64 ((k : Nat) : Int))]) (by kernel_rfl) ?_
  refine qr_skip (by kernel_rfl) ?_
  refine qr_seq (by kernel_rfl) ?_
  refine qr_block (id := 1) (by kernel_rfl) ?_
  refine qr_seq (by kernel_rfl) ?_
  refine qr_region Open.wide (by kernel_rfl) (by kernel_rfl) ?_
  refine Ops.go (v := .pointer (some ⟨rb, ro + k * 2, none⟩)) (by kernel_rfl) (Runs.ixSliceE (k := IntKind.i64) (t := 75) (len := l.length) (cap := c) (s := 2) (off' := ro + k * 2) (i := ((k : Nat) : Int)) hA (by kernel_rfl) (by kernel_rfl) (by omega) (by omega) (by omega)) (d := some 9) (by kernel_rfl) rfl ?_
  refine Ops.go (v := agg x.cells) (by kernel_rfl) (Runs.load (t := 52) (a := ⟨rb, ro + k * 2, none⟩) (by kernel_rfl) (RdT.ld (f := RowM.cells) (x := x) RowM.two hRx (by kernel_rfl) (by kernel_rfl) hA hx)) (d := some 10) (by kernel_rfl) rfl ?_
  refine Ops.new (o := rowL [.string ByteArray.empty, i64 0] 52) (V := fun b => ptr b) (by kernel_rfl) (d := some 4) (by kernel_rfl) (fun b => rfl) (fun b w3 hb H3 k3 hs3 => ?_)
  refine Ops.put (t := 52) (b := b) (off := 0) (v := agg x.cells) (ys := x.cells) (by kernel_rfl) (by kernel_rfl) H3 (by kernel_rfl) (d := none) (by kernel_rfl) rfl (fun w4 H4 k4 => ?_)
  refine Ops.keep (R := [(0, Y), (4, ptr b), (5, .slice A l.length c), (6, i64 ((l.length : Nat) : Int)), (7, i64 ((k : Nat) : Int))]) (by kernel_rfl) ?_
  refine od ?_
  have k24 : Keeps none_ wx w4 := k3.trans k4 (fun _ _ h => h) (fun i hi h => by have h : i = b := h; omega)
  have hj4 := hJ _ _ _ hj (Loose.none k24)
  have hK4 : Keeps T w0 w4 := hK.trans k24 (fun _ _ h => h) (fun _ _ h => h.elim)
  refine qr_seq (by kernel_rfl) ?_
  refine qr_opsR (by kernel_rfl) ?_
  refine OpsR.regs Open.wide (by kernel_rfl) 1 [(0, Y), (4, ptr b), (5, .slice A l.length c), (6, i64 ((l.length : Nat) : Int)), (7, i64 ((k : Nat) : Int)), (11, Y)] (j := 1) (by kernel_rfl) (by kernel_rfl) ?_
  refine OpsR.go Open.wide (by kernel_rfl) (v := agg x.cells) (by kernel_rfl) (Runs.load (t := 52) (a := ⟨b, 0, none⟩) (by kernel_rfl) (H4.loads (by kernel_rfl))) (d := some 12) (by kernel_rfl) rfl ?_
  subst hYd
  refine OpsR.yield Open.wide (by kernel_rfl) (l := ln) (args := ⟨[agg x.cells]⟩) (at?_opn (by kernel_rfl)) ?_ (hY (l.take k) x w4 hj4 ⟨l.drop (k + 1), hsplit⟩) ?_
  ·kernel_rfl
  rintro _ w5 ⟨rfl, hj5, k5, kF5⟩
  refine ⟨_, _, rfl, rfl, ?_⟩
  refine OpsR.regs Open.wide (by kernel_rfl) 1 [(0, .func (.yield ln) #[] #[]), (5, .slice A l.length c), (6, i64 ((l.length : Nat) : Int)), (7, i64 ((k : Nat) : Int)), (14, .bool false)] (j := 4) (by kernel_rfl) (by kernel_rfl) ?_
  refine OpsR.done (by kernel_rfl) ?_
  refine qr_else (o := .tmp 14) (by kernel_rfl) rfl ?_
  refine qr_keep (R := [(0, .func (.yield ln) #[] #[]), (5, .slice A l.length c), (6, i64 ((l.length : Nat) : Int)), (7, i64 ((k : Nat) : Int))]) (by kernel_rfl) ?_
  refine qr_skip (by kernel_rfl) ?_
  refine qr_region Open.wide (by kernel_rfl) (by kernel_rfl) ?_
  refine og 1 [(0, .func (.yield ln) #[] #[]), (5, .slice A l.length c), (6, i64 ((l.length : Nat) : Int)), (15, i64 (IntKind.i64.wrap (((k : Nat) : Int) + 1)))] 1 ?_
  rw [show IntKind.i64.wrap (((k : Nat) : Int) + 1) = ((k + 1 : Nat) : Int) from by rw [wrap_i64 (by omega) (by omega)]; omega]
  refine og 1 [(0, .func (.yield ln) #[] #[]), (5, .slice A l.length c), (6, i64 ((l.length : Nat) : Int)), (7, i64 ((k + 1 : Nat) : Int))] 2 ?_
  refine od ?_
  exact ⟨k + 1, ⟨rfl, rfl, by omega, by rw [htake]; exact hj5, hK4.trans k5 (fun _ _ h => h) (fun _ _ h => h)⟩, by omega⟩
 ·have hkl := of_decide_eq_false h
  refine qr_exit (id := 0) (by kernel_rfl) ?_
  rw [List.take_of_length_le (by omega)] at hj
  exact retR_norm (retv_none rfl) ⟨⟨_, rfl⟩, l, rfl, hj⟩
end Go.Proofs.YtooginpgclcldaaGreatDoor
