/- chapter 11: BookHolds returns true -/
import Derived.Test.YtooginpgclcldaaDoorProg
import Derived.Test.YtooginpgclcldaaDoorKN
import Derived.Test.YtooginpgclcldaaDoorKO
import Derived.Test.YtooginpgclcldaaDoorOJ
import Derived.Test.YtooginpgclcldaaDoorOE
import Derived.Test.YtooginpgclcldaaDoorLX
set_option linter.unusedVariables false
namespace Go.Proofs.YtooginpgclcldaaDoor
open Go.Q Go.RowKit

set_option maxHeartbeats 4000000 in
theorem Holds_calls (w : World) (A : Option Addr) (c : Nat) (l : List BopM) (bw : List UInt8) (hL : RdT w 5 BopM.cells (.slice A l.length c) l) (hLo : ∀ x ∈ l, x.Ok) : Calls Tryd.prog 7 ⟨[(Value.slice A l.length c), (Value.string (str bw))]⟩ w (fun e w' => e = .returned (.bool true) ∧ Keeps none_ w w') := by
 have hcap := RdT.len BopM.five (by decide) hL
 have K0 : Keeps none_ w w := Keeps.refl w
 refine q_calls Tryd.func7 (by kernel_rfl) (by kernel_rfl) ?_
 refine qs ?_
 refine qg ?_
 refine og 1 [(0, (Value.slice A l.length c)), (1, (Value.string (str bw))), (4, (Value.bool false))] 1 ?_
 refine od ?_
 refine qs ?_
 refine qg ?_
 refine Ops.call (by kernel_rfl) (d := (some 11)) (by kernel_rfl) (New_calls _) ?_
 rintro _ w3 ⟨b1, mb2, rfl, K4, H5, Hm6, hb7, hb8, hb9⟩
 have nb1 : w.heap.size ≤ b1 := by have := K0.size; omega
 have nmb2 : w.heap.size ≤ mb2 := by have := K0.size; omega
 refine ⟨_, _, rfl, rfl, ?_⟩
 replace K0 := K0.t0 K4
 clear K4
 refine og 1 [(0, (Value.slice A l.length c)), (1, (Value.string (str bw))), (4, (Value.bool false)), (5, (ptr b1))] 2 ?_
 refine od ?_
 refine qs ?_
 refine qg ?_
 refine Ops.call (by kernel_rfl) (d := (some 12)) (by kernel_rfl) (New_calls _) ?_
 rintro _ w12 ⟨b10, mb11, rfl, K13, H14, Hm15, hb16, hb17, hb18⟩
 have lb10b1 : b1 < b10 := by have := H5.lt; omega
 have lmb11b1 : b1 < mb11 := by have := H5.lt; omega
 have lb10mb2 : mb2 < b10 := by have := Hm6.lt; omega
 have lmb11mb2 : mb2 < mb11 := by have := Hm6.lt; omega
 have nb10 : w.heap.size ≤ b10 := by have := K0.size; omega
 have nmb11 : w.heap.size ≤ mb11 := by have := K0.size; omega
 refine ⟨_, _, rfl, rfl, ?_⟩
 replace K0 := K0.t0 K13
 replace H5 := H5.keep K13 (fun h => h)
 replace Hm6 := Hm6.keep K13 (fun h => h)
 clear K13
 refine og 1 [(0, (Value.slice A l.length c)), (1, (Value.string (str bw))), (4, (Value.bool false)), (5, (ptr b1)), (6, (ptr b10))] 2 ?_
 refine od ?_
 refine qs ?_
 refine qs ?_
 refine qg ?_
 refine og 11 [(0, (Value.slice A l.length c)), (1, (Value.string (str bw))), (4, (Value.bool false)), (5, (ptr b1)), (6, (ptr b10)), (23, (Value.bool (decide (((bw.length : Nat) : Int) > 1000))))] 11 ?_
 refine od ?_
 refine q_cond (o := .tmp 23) (b := (decide (((bw.length : Nat) : Int) > 1000))) (by kernel_rfl) rfl (fun h19 => ?_) (fun h19 => ?_)
 ·rw [h19]
  have p20 : ((bw.length : Nat) : Int) > 1000 := of_decide_eq_true h19
  refine qs ?_
  refine qg ?_
  refine og 7 [(0, (Value.slice A l.length c)), (1, (Value.string (str bw))), (4, (Value.bool false)), (5, (ptr b1)), (6, (ptr b10)), (30, (Value.bool true))] 7 ?_
  refine Ops.call (by kernel_rfl) (d := (some 31)) (by kernel_rfl) (known_calls _) ?_
  rintro _ w22 ⟨rfl, K21⟩
  refine ⟨_, _, rfl, rfl, ?_⟩
  replace K0 := K0.t0 K21
  replace H5 := H5.keep K21 (fun h => h)
  replace Hm6 := Hm6.keep K21 (fun h => h)
  replace H14 := H14.keep K21 (fun h => h)
  replace Hm15 := Hm15.keep K21 (fun h => h)
  clear K21
  refine og 2 [(0, (Value.slice A l.length c)), (1, (Value.string (str bw))), (4, (Value.bool true)), (5, (ptr b1)), (6, (ptr b10))] 10 ?_
  refine od ?_
  refine q_ret (by kernel_rfl) ?_
  refine ⟨(Value.bool true), retv_tmp rfl rfl, ?_⟩
  exact ⟨rfl, K0⟩
 ·rw [h19]
  have p23 : ¬ (((bw.length : Nat) : Int) > 1000) := of_decide_eq_false h19
  refine q_skip (by kernel_rfl) ?_
  refine qs ?_
  refine qs ?_
  refine qg ?_
  refine og 1 [(0, (Value.slice A l.length c)), (1, (Value.string (str bw))), (4, (Value.bool false)), (5, (ptr b1)), (6, (ptr b10)), (7, (i64 0))] 1 ?_
  refine od ?_
  refine q_block (id := 0) (by kernel_rfl) ?_
  refine q_keep (R := [(0, (Value.slice A l.length c)), (1, (Value.string (str bw))), (5, (ptr b1)), (6, (ptr b10)), (7, (i64 0))]) (by kernel_rfl) ?_
  refine q_loop (fun (gs : Nat × (List (List UInt8 × AccV)) × (List AccM) × (List (List UInt8 × AccV)) × (List AccM)) L (wx : World) => match gs with | (i, mm, SS, nn, RR) => L = [(0, (Value.slice A l.length c)), (1, (Value.string (str bw))), (5, (ptr b1)), (6, (ptr b10)), (7, (i64 ((i : Nat) : Int)))] ∧ i ≤ l.length ∧ Book mm SS ∧ Book nn RR ∧ RowEq SS RR ∧ NoOwn SS ∧ Keeps none_ w wx ∧ Has wx b1 (rowL [(Value.map (some mb2))] 61) ∧ HasMap wx mb2 kstr accv mm ∧ Has wx b10 (rowL [(Value.map (some mb11))] 61) ∧ HasMap wx mb11 kstr accv nn) (fun (gs : Nat × (List (List UInt8 × AccV)) × (List AccM) × (List (List UInt8 × AccV)) × (List AccM)) => match gs with | (i, mm, SS, nn, RR) => l.length - i) (0, [], [], [], []) (by kernel_rfl) ⟨rfl, Nat.zero_le _, Book.nil, Book.nil, rfl, (fun a h => by cases h), K0, H5, Hm6, H14, Hm15⟩ ?_
  clear H5 Hm6 H14 Hm15 K0
  rintro ⟨i, mm, SS, nn, RR⟩ _ w24 ⟨rfl, hi, hBm, hBn, hRE, hNO, K25, H26, H27, H28, H29⟩
  refine qs ?_
  refine qs ?_
  refine qg ?_
  refine og 5 [(0, (Value.slice A l.length c)), (1, (Value.string (str bw))), (5, (ptr b1)), (6, (ptr b10)), (7, (i64 ((i : Nat) : Int))), (37, (Value.bool (decide (((i : Nat) : Int) < ((l.length : Nat) : Int)))))] 5 ?_
  refine Ops.split (decide (((i : Nat) : Int) < ((l.length : Nat) : Int))) (fun h30 => ?_) (fun h30 => ?_)
  ·rw [h30]
   have p31 : ((i : Nat) : Int) < ((l.length : Nat) : Int) := of_decide_eq_true h30
   obtain ⟨x, hx⟩ : ∃ y, l[i]? = some y := ⟨_, List.getElem?_eq_getElem (by omega)⟩
   have hxo := hLo x (List.mem_of_getElem? hx)
   have hx1 := hxo.kind
   have hx2 := hxo.n
   have hx3 := hxo.slot
   obtain ⟨rb32, ro33, hA34⟩ := Rd.addr (Rd.keep0 (by decide) hL K25) (by omega)
   refine og 3 [(0, (Value.slice A l.length c)), (1, (Value.string (str bw))), (5, (ptr b1)), (6, (ptr b10)), (7, (i64 ((i : Nat) : Int))), (40, (Value.bool (decide (((i : Nat) : Int) < 80))))] 8 ?_
   refine od ?_
   refine q_cond (o := .tmp 40) (b := (decide (((i : Nat) : Int) < 80))) (by kernel_rfl) rfl (fun h35 => ?_) (fun h35 => ?_)
   ·rw [h35]
    have p36 : ((i : Nat) : Int) < 80 := of_decide_eq_true h35
    refine q_skip (by kernel_rfl) ?_
    refine qs ?_
    refine q_block (id := 1) (by kernel_rfl) ?_
    refine qs ?_
    refine qg ?_
    refine og 2 [(0, (Value.slice A l.length c)), (1, (Value.string (str bw))), (5, (ptr b1)), (6, (ptr b10)), (7, (i64 ((i : Nat) : Int))), (40, (Value.bool true)), (43, (Value.slice A l.length c)), (44, (i64 ((i : Nat) : Int)))] 2 ?_
    refine Ops.go (by kernel_rfl) (Runs.ixSliceE (k := IntKind.i64) (t := 39) (len := l.length) (cap := c) (s := 5) (off' := ro33 + i * 5) (i := ((i : Nat) : Int)) hA34 (by kernel_rfl) (by kernel_rfl) (by omega) (by omega) (by omega)) (d := (some 45)) (by kernel_rfl) rfl ?_
    refine Ops.go (v := (agg [(i64 x.kind), (Value.string (str x.name)), (Value.string (str x.own)), (i64 x.n), (i64 x.slot)])) (by kernel_rfl) (Runs.load (t := 41) (a := ⟨rb32, ro33 + i * 5, none⟩) (by kernel_rfl) (RdT.ld (f := BopM.cells) (x := x) BopM.five (Rd.keep0 (by decide) hL K25) (by kernel_rfl) (by kernel_rfl) hA34 hx)) (d := (some 46)) (by kernel_rfl) rfl ?_
    refine Ops.new (o := rowL [(i64 0), (Value.string ByteArray.empty), (Value.string ByteArray.empty), (i64 0), (i64 0)] 41) (V := fun b => (ptr b)) (by kernel_rfl) (d := (some 8)) (by kernel_rfl) (fun b => rfl) (fun b37 w38 hb39 H40 K41 hs42 => ?_)
    have lb37b1 : b1 < b37 := by have := H26.lt; omega
    have lb37mb2 : mb2 < b37 := by have := H27.lt; omega
    have lb37b10 : b10 < b37 := by have := H28.lt; omega
    have lb37mb11 : mb11 < b37 := by have := H29.lt; omega
    have nb37 : w.heap.size ≤ b37 := by have := K25.size; omega
    replace K25 := K25.trans K41 (U := none_) (fun i h1 h2 => h2) (fun i h1 h2 => by exact h2)
    replace H26 := H26.keep K41 (fun h => h)
    replace H27 := H27.keep K41 (fun h => h)
    replace H28 := H28.keep K41 (fun h => h)
    replace H29 := H29.keep K41 (fun h => h)
    clear K41 hs42
    refine Ops.put (t := 41) (b := b37) (off := 0) (v := (agg [(i64 x.kind), (Value.string (str x.name)), (Value.string (str x.own)), (i64 x.n), (i64 x.slot)])) (ys := [(i64 x.kind), (Value.string (str x.name)), (Value.string (str x.own)), (i64 x.n), (i64 x.slot)]) (by kernel_rfl) (by kernel_rfl) H40 (by kernel_rfl) (d := none) (by kernel_rfl) rfl (fun w43 H44 K45 => ?_)
    clear H40
    replace K25 := K25.trans K45 (U := none_) (fun i h1 h2 => h2) (fun i h1 h2 => by have h2 : i = b37 := h2; exfalso; omega)
    replace H26 := H26.keep K45 (by intro h; change b1 = b37 at h; omega)
    replace H27 := H27.keep K45 (by intro h; change mb2 = b37 at h; omega)
    replace H28 := H28.keep K45 (by intro h; change b10 = b37 at h; omega)
    replace H29 := H29.keep K45 (by intro h; change mb11 = b37 at h; omega)
    clear K45
    refine od ?_
    refine qs ?_
    refine qs ?_
    refine qg ?_
    refine og 1 [(0, (Value.slice A l.length c)), (1, (Value.string (str bw))), (5, (ptr b1)), (6, (ptr b10)), (7, (i64 ((i : Nat) : Int))), (8, (ptr b37)), (40, (Value.bool true)), (47, (ptr b37))] 1 ?_
    refine Ops.go (v := (i64 x.kind)) (by kernel_rfl) (Runs.load (t := 3) (a := ⟨b37, 0, none⟩) (by kernel_rfl) (H44.loads (by kernel_rfl))) (d := (some 48)) (by kernel_rfl) rfl ?_
    refine og 2 [(0, (Value.slice A l.length c)), (1, (Value.string (str bw))), (5, (ptr b1)), (6, (ptr b10)), (7, (i64 ((i : Nat) : Int))), (8, (ptr b37)), (40, (Value.bool true)), (50, (Value.bool (x.kind == 6)))] 4 ?_
    refine Ops.split (x.kind == 6) (fun h46 => ?_) (fun h46 => ?_)
    ·rw [h46]
     have p47 : x.kind = 6 := of_beq_t h46
     refine og 9 [(0, (Value.slice A l.length c)), (1, (Value.string (str bw))), (5, (ptr b1)), (6, (ptr b10)), (7, (i64 ((i : Nat) : Int))), (8, (ptr b37)), (40, (Value.bool true)), (59, (Value.bool true))] 13 ?_
     refine od ?_
     refine q_then (o := .tmp 59) (by kernel_rfl) rfl ?_
     refine q_exit (id := 1) (by kernel_rfl) ?_
     refine qg ?_
     refine og 2 [(0, (Value.slice A l.length c)), (1, (Value.string (str bw))), (5, (ptr b1)), (6, (ptr b10)), (7, (i64 ((i : Nat) : Int))), (8, (ptr b37)), (40, (Value.bool true)), (42, (i64 (IntKind.i64.wrap (((i : Nat) : Int) + 1)))), (59, (Value.bool true))] 2 ?_
     have e48 : IntKind.i64.wrap (((i : Nat) : Int) + 1) = ((i + 1 : Nat) : Int) := by rw [wrap_i64 (by omega) (by omega)]; omega
     rw [e48]
     clear e48
     refine og 1 [(0, (Value.slice A l.length c)), (1, (Value.string (str bw))), (5, (ptr b1)), (6, (ptr b10)), (7, (i64 ((i + 1 : Nat) : Int))), (8, (ptr b37)), (40, (Value.bool true)), (59, (Value.bool true))] 3 ?_
     refine Ops.keep (R := [(0, (Value.slice A l.length c)), (1, (Value.string (str bw))), (5, (ptr b1)), (6, (ptr b10)), (7, (i64 ((i + 1 : Nat) : Int)))]) (by kernel_rfl) ?_
     refine od ?_
     exact ⟨(i + 1, mm, SS, nn, RR), ⟨rfl, (by omega), hBm, hBn, hRE, hNO, K25, H26, H27, H28, H29⟩, (show l.length - (i + 1) < l.length - i from by omega)⟩
    ·rw [h46]
     have p49 : ¬ (x.kind = 6) := of_beq_f h46
     refine og 1 [(0, (Value.slice A l.length c)), (1, (Value.string (str bw))), (5, (ptr b1)), (6, (ptr b10)), (7, (i64 ((i : Nat) : Int))), (8, (ptr b37)), (40, (Value.bool true)), (50, (Value.bool false)), (51, (ptr b37))] 5 ?_
     refine Ops.go (v := (i64 x.kind)) (by kernel_rfl) (Runs.load (t := 3) (a := ⟨b37, 0, none⟩) (by kernel_rfl) (H44.loads (by kernel_rfl))) (d := (some 52)) (by kernel_rfl) rfl ?_
     refine og 3 [(0, (Value.slice A l.length c)), (1, (Value.string (str bw))), (5, (ptr b1)), (6, (ptr b10)), (7, (i64 ((i : Nat) : Int))), (8, (ptr b37)), (40, (Value.bool true)), (55, (Value.bool (x.kind == 7)))] 9 ?_
     refine Ops.split (x.kind == 7) (fun h50 => ?_) (fun h50 => ?_)
     ·rw [h50]
      have p51 : x.kind = 7 := of_beq_t h50
      refine og 4 [(0, (Value.slice A l.length c)), (1, (Value.string (str bw))), (5, (ptr b1)), (6, (ptr b10)), (7, (i64 ((i : Nat) : Int))), (8, (ptr b37)), (40, (Value.bool true)), (59, (Value.bool true))] 13 ?_
      refine od ?_
      refine q_then (o := .tmp 59) (by kernel_rfl) rfl ?_
      refine q_exit (id := 1) (by kernel_rfl) ?_
      refine qg ?_
      refine og 2 [(0, (Value.slice A l.length c)), (1, (Value.string (str bw))), (5, (ptr b1)), (6, (ptr b10)), (7, (i64 ((i : Nat) : Int))), (8, (ptr b37)), (40, (Value.bool true)), (42, (i64 (IntKind.i64.wrap (((i : Nat) : Int) + 1)))), (59, (Value.bool true))] 2 ?_
      have e52 : IntKind.i64.wrap (((i : Nat) : Int) + 1) = ((i + 1 : Nat) : Int) := by rw [wrap_i64 (by omega) (by omega)]; omega
      rw [e52]
      clear e52
      refine og 1 [(0, (Value.slice A l.length c)), (1, (Value.string (str bw))), (5, (ptr b1)), (6, (ptr b10)), (7, (i64 ((i + 1 : Nat) : Int))), (8, (ptr b37)), (40, (Value.bool true)), (59, (Value.bool true))] 3 ?_
      refine Ops.keep (R := [(0, (Value.slice A l.length c)), (1, (Value.string (str bw))), (5, (ptr b1)), (6, (ptr b10)), (7, (i64 ((i + 1 : Nat) : Int)))]) (by kernel_rfl) ?_
      refine od ?_
      exact ⟨(i + 1, mm, SS, nn, RR), ⟨rfl, (by omega), hBm, hBn, hRE, hNO, K25, H26, H27, H28, H29⟩, (show l.length - (i + 1) < l.length - i from by omega)⟩
     ·rw [h50]
      have p53 : ¬ (x.kind = 7) := of_beq_f h50
      refine og 1 [(0, (Value.slice A l.length c)), (1, (Value.string (str bw))), (5, (ptr b1)), (6, (ptr b10)), (7, (i64 ((i : Nat) : Int))), (8, (ptr b37)), (40, (Value.bool true)), (55, (Value.bool false)), (56, (ptr b37))] 10 ?_
      refine Ops.go (v := (i64 x.kind)) (by kernel_rfl) (Runs.load (t := 3) (a := ⟨b37, 0, none⟩) (by kernel_rfl) (H44.loads (by kernel_rfl))) (d := (some 57)) (by kernel_rfl) rfl ?_
      refine og 2 [(0, (Value.slice A l.length c)), (1, (Value.string (str bw))), (5, (ptr b1)), (6, (ptr b10)), (7, (i64 ((i : Nat) : Int))), (8, (ptr b37)), (40, (Value.bool true)), (59, (Value.bool (decide (x.kind > 9))))] 13 ?_
      refine od ?_
      refine q_cond (o := .tmp 59) (b := (decide (x.kind > 9))) (by kernel_rfl) rfl (fun h54 => ?_) (fun h54 => ?_)
      ·rw [h54]
       have p55 : x.kind > 9 := of_decide_eq_true h54
       refine q_exit (id := 1) (by kernel_rfl) ?_
       refine qg ?_
       refine og 2 [(0, (Value.slice A l.length c)), (1, (Value.string (str bw))), (5, (ptr b1)), (6, (ptr b10)), (7, (i64 ((i : Nat) : Int))), (8, (ptr b37)), (40, (Value.bool true)), (42, (i64 (IntKind.i64.wrap (((i : Nat) : Int) + 1)))), (59, (Value.bool true))] 2 ?_
       have e56 : IntKind.i64.wrap (((i : Nat) : Int) + 1) = ((i + 1 : Nat) : Int) := by rw [wrap_i64 (by omega) (by omega)]; omega
       rw [e56]
       clear e56
       refine og 1 [(0, (Value.slice A l.length c)), (1, (Value.string (str bw))), (5, (ptr b1)), (6, (ptr b10)), (7, (i64 ((i + 1 : Nat) : Int))), (8, (ptr b37)), (40, (Value.bool true)), (59, (Value.bool true))] 3 ?_
       refine Ops.keep (R := [(0, (Value.slice A l.length c)), (1, (Value.string (str bw))), (5, (ptr b1)), (6, (ptr b10)), (7, (i64 ((i + 1 : Nat) : Int)))]) (by kernel_rfl) ?_
       refine od ?_
       exact ⟨(i + 1, mm, SS, nn, RR), ⟨rfl, (by omega), hBm, hBn, hRE, hNO, K25, H26, H27, H28, H29⟩, (show l.length - (i + 1) < l.length - i from by omega)⟩
      ·rw [h54]
       have p57 : ¬ (x.kind > 9) := of_decide_eq_false h54
       refine q_skip (by kernel_rfl) ?_
       refine qs ?_
       refine qg ?_
       refine og 2 [(0, (Value.slice A l.length c)), (1, (Value.string (str bw))), (5, (ptr b1)), (6, (ptr b10)), (7, (i64 ((i : Nat) : Int))), (8, (ptr b37)), (40, (Value.bool true)), (59, (Value.bool false)), (60, (ptr b10)), (61, (Value.pointer (some ⟨b37, 1, none⟩)))] 2 ?_
       refine Ops.go (v := (Value.string (str x.name))) (by kernel_rfl) (Runs.load (t := 9) (a := ⟨b37, 1, none⟩) (by kernel_rfl) (H44.loads (by kernel_rfl))) (d := (some 62)) (by kernel_rfl) rfl ?_
       refine og 1 [(0, (Value.slice A l.length c)), (1, (Value.string (str bw))), (5, (ptr b1)), (6, (ptr b10)), (7, (i64 ((i : Nat) : Int))), (8, (ptr b37)), (40, (Value.bool true)), (59, (Value.bool false)), (60, (ptr b10)), (62, (Value.string (str x.name))), (63, (Value.string (str bw)))] 4 ?_
       refine Ops.call (by kernel_rfl) (d := (some 64)) (by kernel_rfl) (Hold_calls _ b10 mb11 nn RR x.name bw H28 H29 (by omega) hBn) ?_
       rintro _ w59 ⟨m58, rfl, K60, H61, hB62⟩
       have hl63 := hB62.len
       have hre64 := hRE.hold hBn.accs bw x.name
       refine ⟨_, _, rfl, rfl, ?_⟩
       replace K25 := K25.trans K60 (U := none_) (fun i h1 h2 => h2) (fun i h1 h2 => by have h2 : i = mb11 := h2; exfalso; omega)
       replace H26 := H26.keep K60 (by intro h; change b1 = mb11 at h; omega)
       replace H27 := H27.keep K60 (by intro h; change mb2 = mb11 at h; omega)
       replace H28 := H28.keep K60 (by intro h; change b10 = mb11 at h; omega)
       replace H44 := H44.keep K60 (by intro h; change b37 = mb11 at h; omega)
       clear K60
       refine od ?_
       refine qs ?_
       refine qg ?_
       refine og 2 [(0, (Value.slice A l.length c)), (1, (Value.string (str bw))), (5, (ptr b1)), (6, (ptr b10)), (7, (i64 ((i : Nat) : Int))), (8, (ptr b37)), (9, (i64 0)), (10, (i64 0)), (40, (Value.bool true)), (59, (Value.bool false))] 2 ?_
       refine od ?_
       refine qs ?_
       refine qs ?_
       refine qg ?_
       refine og 1 [(0, (Value.slice A l.length c)), (1, (Value.string (str bw))), (5, (ptr b1)), (6, (ptr b10)), (7, (i64 ((i : Nat) : Int))), (8, (ptr b37)), (9, (i64 0)), (10, (i64 0)), (40, (Value.bool true)), (59, (Value.bool false)), (65, (ptr b37))] 1 ?_
       refine Ops.go (v := (i64 x.kind)) (by kernel_rfl) (Runs.load (t := 3) (a := ⟨b37, 0, none⟩) (by kernel_rfl) (H44.loads (by kernel_rfl))) (d := (some 66)) (by kernel_rfl) rfl ?_
       refine od ?_
       refine q_block (id := 2) (by kernel_rfl) ?_
       refine qs ?_
       refine qs ?_
       refine qg ?_
       refine og 2 [(0, (Value.slice A l.length c)), (1, (Value.string (str bw))), (5, (ptr b1)), (6, (ptr b10)), (7, (i64 ((i : Nat) : Int))), (8, (ptr b37)), (9, (i64 0)), (10, (i64 0)), (40, (Value.bool true)), (59, (Value.bool false)), (66, (i64 x.kind)), (67, (Value.bool (x.kind == 0)))] 2 ?_
       refine od ?_
       refine q_cond (o := .tmp 67) (b := (x.kind == 0)) (by kernel_rfl) rfl (fun h65 => ?_) (fun h65 => ?_)
       ·rw [h65]
        have p66 : x.kind = 0 := of_beq_t h65
        refine q_skip (by kernel_rfl) ?_
        refine q_then (o := .tmp 67) (by kernel_rfl) rfl ?_
        refine qs ?_
        refine qg ?_
        refine og 2 [(0, (Value.slice A l.length c)), (1, (Value.string (str bw))), (5, (ptr b1)), (6, (ptr b10)), (7, (i64 ((i : Nat) : Int))), (8, (ptr b37)), (9, (i64 0)), (10, (i64 0)), (40, (Value.bool true)), (59, (Value.bool false)), (66, (i64 x.kind)), (67, (Value.bool true)), (70, (ptr b1)), (71, (Value.pointer (some ⟨b37, 1, none⟩)))] 2 ?_
        refine Ops.go (v := (Value.string (str x.name))) (by kernel_rfl) (Runs.load (t := 9) (a := ⟨b37, 1, none⟩) (by kernel_rfl) (H44.loads (by kernel_rfl))) (d := (some 72)) (by kernel_rfl) rfl ?_
        refine Ops.call (by kernel_rfl) (d := (some 73)) (by kernel_rfl) (Open_calls _ b1 mb2 mm SS x.name H26 H27 (by omega) hBm) ?_
        rintro _ w68 ⟨m67, rfl, K69, H70, hB71⟩
        have hl72 := hB71.len
        have hno73 := hNO.put x.name 0
        refine ⟨_, _, rfl, rfl, ?_⟩
        replace K25 := K25.trans K69 (U := none_) (fun i h1 h2 => h2) (fun i h1 h2 => by have h2 : i = mb2 := h2; exfalso; omega)
        replace H26 := H26.keep K69 (by intro h; change b1 = mb2 at h; omega)
        replace H28 := H28.keep K69 (by intro h; change b10 = mb2 at h; omega)
        replace H61 := H61.keep K69 (by intro h; change mb11 = mb2 at h; omega)
        replace H44 := H44.keep K69 (by intro h; change b37 = mb2 at h; omega)
        clear K69
        refine og 1 [(0, (Value.slice A l.length c)), (1, (Value.string (str bw))), (5, (ptr b1)), (6, (ptr b10)), (7, (i64 ((i : Nat) : Int))), (8, (ptr b37)), (9, (i64 (putE SS x.name 0))), (10, (i64 0)), (40, (Value.bool true)), (59, (Value.bool false)), (66, (i64 x.kind)), (67, (Value.bool true))] 5 ?_
        refine od ?_
        refine qg ?_
        refine og 2 [(0, (Value.slice A l.length c)), (1, (Value.string (str bw))), (5, (ptr b1)), (6, (ptr b10)), (7, (i64 ((i : Nat) : Int))), (8, (ptr b37)), (9, (i64 (putE SS x.name 0))), (10, (i64 0)), (40, (Value.bool true)), (59, (Value.bool false)), (66, (i64 x.kind)), (67, (Value.bool true)), (74, (ptr b10)), (75, (Value.pointer (some ⟨b37, 1, none⟩)))] 2 ?_
        refine Ops.go (v := (Value.string (str x.name))) (by kernel_rfl) (Runs.load (t := 9) (a := ⟨b37, 1, none⟩) (by kernel_rfl) (H44.loads (by kernel_rfl))) (d := (some 76)) (by kernel_rfl) rfl ?_
        refine Ops.call (by kernel_rfl) (d := (some 77)) (by kernel_rfl) (Open_calls _ b10 mb11 m58 (chgS (holdF bw) RR x.name) x.name H28 H61 (by omega) hB62) ?_
        rintro _ w75 ⟨m74, rfl, K76, H77, hB78⟩
        have hl79 := hB78.len
        have hee80 := hre64.putE x.name 0
        have hre81 := hre64.putS x.name 0
        refine ⟨_, _, rfl, rfl, ?_⟩
        replace K25 := K25.trans K76 (U := none_) (fun i h1 h2 => h2) (fun i h1 h2 => by have h2 : i = mb11 := h2; exfalso; omega)
        replace H26 := H26.keep K76 (by intro h; change b1 = mb11 at h; omega)
        replace H70 := H70.keep K76 (by intro h; change mb2 = mb11 at h; omega)
        replace H28 := H28.keep K76 (by intro h; change b10 = mb11 at h; omega)
        replace H44 := H44.keep K76 (by intro h; change b37 = mb11 at h; omega)
        clear K76
        refine og 1 [(0, (Value.slice A l.length c)), (1, (Value.string (str bw))), (5, (ptr b1)), (6, (ptr b10)), (7, (i64 ((i : Nat) : Int))), (8, (ptr b37)), (9, (i64 (putE SS x.name 0))), (10, (i64 (putE (chgS (holdF bw) RR x.name) x.name 0))), (40, (Value.bool true)), (59, (Value.bool false)), (66, (i64 x.kind)), (67, (Value.bool true))] 5 ?_
        refine od ?_
        refine qs ?_
        refine qs ?_
        refine qg ?_
        refine og 4 [(0, (Value.slice A l.length c)), (1, (Value.string (str bw))), (5, (ptr b1)), (6, (ptr b10)), (7, (i64 ((i : Nat) : Int))), (8, (ptr b37)), (9, (i64 (putE SS x.name 0))), (10, (i64 (putE (chgS (holdF bw) RR x.name) x.name 0))), (40, (Value.bool true)), (59, (Value.bool false)), (66, (i64 x.kind)), (67, (Value.bool true)), (111, (Value.bool ((putE SS x.name 0) != (putE (chgS (holdF bw) RR x.name) x.name 0))))] 4 ?_
        have h82 : ((putE SS x.name 0) != (putE (chgS (holdF bw) RR x.name) x.name 0)) = false := bne_f hee80
        rw [h82]
        refine og 1 [(0, (Value.slice A l.length c)), (1, (Value.string (str bw))), (5, (ptr b1)), (6, (ptr b10)), (7, (i64 ((i : Nat) : Int))), (8, (ptr b37)), (9, (i64 (putE SS x.name 0))), (10, (i64 (putE (chgS (holdF bw) RR x.name) x.name 0))), (40, (Value.bool true)), (59, (Value.bool false)), (66, (i64 x.kind)), (67, (Value.bool true)), (111, (Value.bool false)), (112, (ptr b1))] 5 ?_
        refine Ops.call (by kernel_rfl) (d := (some 113)) (by kernel_rfl) (Rows_calls _ b1 mb2 m67 (putS SS x.name 0) (-1) H26 H70 (by omega) hB71) ?_
        rintro _ w85 ⟨A83, c84, rfl, K86, hO87⟩
        have ob89 : ∀ i, ((Value.slice A83 ((rowsS (putS SS x.name 0) (-1)).length) c84)).ownBlock = some i → i ≠ b1 := fun i hi => by have := (World.ownsRow.lt hO87 i hi).1; have := H26.lt; omega
        have ob90 : ∀ i, ((Value.slice A83 ((rowsS (putS SS x.name 0) (-1)).length) c84)).ownBlock = some i → i ≠ mb2 := fun i hi => by have := (World.ownsRow.lt hO87 i hi).1; have := H70.lt; omega
        have ob91 : ∀ i, ((Value.slice A83 ((rowsS (putS SS x.name 0) (-1)).length) c84)).ownBlock = some i → i ≠ b10 := fun i hi => by have := (World.ownsRow.lt hO87 i hi).1; have := H28.lt; omega
        have ob92 : ∀ i, ((Value.slice A83 ((rowsS (putS SS x.name 0) (-1)).length) c84)).ownBlock = some i → i ≠ mb11 := fun i hi => by have := (World.ownsRow.lt hO87 i hi).1; have := H77.lt; omega
        have ob93 : ∀ i, ((Value.slice A83 ((rowsS (putS SS x.name 0) (-1)).length) c84)).ownBlock = some i → i ≠ b37 := fun i hi => by have := (World.ownsRow.lt hO87 i hi).1; have := H44.lt; omega
        have O88 := own_base hO87 K25.size
        clear hO87
        have hl94 := rowsS_len (putS SS x.name 0) (-1)
        have hl95 := hB71.accs.len
        refine ⟨_, _, rfl, rfl, ?_⟩
        replace K25 := K25.trans K86 (U := none_) (fun i h1 h2 => h2) (fun i h1 h2 => by exact h2)
        replace H26 := H26.keep K86 (fun h => h)
        replace H70 := H70.keep K86 (fun h => h)
        replace H28 := H28.keep K86 (fun h => h)
        replace H77 := H77.keep K86 (fun h => h)
        replace H44 := H44.keep K86 (fun h => h)
        clear K86
        refine og 1 [(0, (Value.slice A l.length c)), (1, (Value.string (str bw))), (5, (ptr b1)), (6, (ptr b10)), (7, (i64 ((i : Nat) : Int))), (8, (ptr b37)), (9, (i64 (putE SS x.name 0))), (10, (i64 (putE (chgS (holdF bw) RR x.name) x.name 0))), (40, (Value.bool true)), (59, (Value.bool false)), (66, (i64 x.kind)), (67, (Value.bool true)), (111, (Value.bool false)), (113, (Value.slice A83 ((rowsS (putS SS x.name 0) (-1)).length) c84)), (114, (ptr b10))] 7 ?_
        refine Ops.call (by kernel_rfl) (d := (some 115)) (by kernel_rfl) (Rows_calls _ b10 mb11 m74 (putS (chgS (holdF bw) RR x.name) x.name 0) (-1) H28 H77 (by omega) hB78) ?_
        rintro _ w98 ⟨A96, c97, rfl, K99, hO100⟩
        have ob102 : ∀ i, ((Value.slice A96 ((rowsS (putS (chgS (holdF bw) RR x.name) x.name 0) (-1)).length) c97)).ownBlock = some i → i ≠ b1 := fun i hi => by have := (World.ownsRow.lt hO100 i hi).1; have := H26.lt; omega
        have ob103 : ∀ i, ((Value.slice A96 ((rowsS (putS (chgS (holdF bw) RR x.name) x.name 0) (-1)).length) c97)).ownBlock = some i → i ≠ mb2 := fun i hi => by have := (World.ownsRow.lt hO100 i hi).1; have := H70.lt; omega
        have ob104 : ∀ i, ((Value.slice A96 ((rowsS (putS (chgS (holdF bw) RR x.name) x.name 0) (-1)).length) c97)).ownBlock = some i → i ≠ b10 := fun i hi => by have := (World.ownsRow.lt hO100 i hi).1; have := H28.lt; omega
        have ob105 : ∀ i, ((Value.slice A96 ((rowsS (putS (chgS (holdF bw) RR x.name) x.name 0) (-1)).length) c97)).ownBlock = some i → i ≠ mb11 := fun i hi => by have := (World.ownsRow.lt hO100 i hi).1; have := H77.lt; omega
        have ob106 : ∀ i, ((Value.slice A96 ((rowsS (putS (chgS (holdF bw) RR x.name) x.name 0) (-1)).length) c97)).ownBlock = some i → i ≠ b37 := fun i hi => by have := (World.ownsRow.lt hO100 i hi).1; have := H44.lt; omega
        have oo107 : ∀ i, ((Value.slice A83 ((rowsS (putS SS x.name 0) (-1)).length) c84)).ownBlock = some i → ((Value.slice A96 ((rowsS (putS (chgS (holdF bw) RR x.name) x.name 0) (-1)).length) c97)).ownBlock = some i → False := fun i hi hs => by have := (World.ownsRow.lt hO100 i hs).1; have := (World.ownsRow.lt O88 i hi).2; omega
        have oo108 : ∀ i, ((Value.slice A96 ((rowsS (putS (chgS (holdF bw) RR x.name) x.name 0) (-1)).length) c97)).ownBlock = some i → ((Value.slice A83 ((rowsS (putS SS x.name 0) (-1)).length) c84)).ownBlock = some i → False := fun i hi hs => oo107 i hs hi
        have O101 := own_base hO100 K25.size
        clear hO100
        have hl109 := rowsS_len (putS (chgS (holdF bw) RR x.name) x.name 0) (-1)
        have hl110 := hB78.accs.len
        refine ⟨_, _, rfl, rfl, ?_⟩
        replace K25 := K25.trans K99 (U := none_) (fun i h1 h2 => h2) (fun i h1 h2 => by exact h2)
        replace H26 := H26.keep K99 (fun h => h)
        replace H70 := H70.keep K99 (fun h => h)
        replace H28 := H28.keep K99 (fun h => h)
        replace H77 := H77.keep K99 (fun h => h)
        replace H44 := H44.keep K99 (fun h => h)
        replace O88 := own_keep0 O88 K99
        clear K99
        refine Ops.call (by kernel_rfl) (d := (some 116)) (by kernel_rfl) (SameRows_calls _ A83 c84 (rowsS (putS SS x.name 0) (-1)) A96 c97 (rowsS (putS (chgS (holdF bw) RR x.name) x.name 0) (-1)) (OwnT.rd O88) (OwnT.rd O101)) ?_
        rintro _ w114 ⟨t111, rfl, ht112, K113⟩
        have hsr115 := ht112.2 hre81.all
        refine ⟨_, _, rfl, rfl, ?_⟩
        replace K25 := K25.trans K113 (U := none_) (fun i h1 h2 => h2) (fun i h1 h2 => by exact h2)
        replace H26 := H26.keep K113 (fun h => h)
        replace H70 := H70.keep K113 (fun h => h)
        replace H28 := H28.keep K113 (fun h => h)
        replace H77 := H77.keep K113 (fun h => h)
        replace H44 := H44.keep K113 (fun h => h)
        replace O88 := own_keep0 O88 K113
        replace O101 := own_keep0 O101 K113
        clear K113
        refine og 2 [(0, (Value.slice A l.length c)), (1, (Value.string (str bw))), (5, (ptr b1)), (6, (ptr b10)), (7, (i64 ((i : Nat) : Int))), (8, (ptr b37)), (9, (i64 (putE SS x.name 0))), (10, (i64 (putE (chgS (holdF bw) RR x.name) x.name 0))), (40, (Value.bool true)), (59, (Value.bool false)), (66, (i64 x.kind)), (67, (Value.bool true)), (118, (Value.bool (!t111)))] 11 ?_
        refine od ?_
        have h116 : (!t111) = false := by rw [show t111 = true from hsr115]; rfl
        rw [h116]
        refine q_else (o := .tmp 118) (by kernel_rfl) rfl ?_
        refine q_skip (by kernel_rfl) ?_
        refine qs ?_
        refine qg ?_
        refine og 1 [(0, (Value.slice A l.length c)), (1, (Value.string (str bw))), (5, (ptr b1)), (6, (ptr b10)), (7, (i64 ((i : Nat) : Int))), (8, (ptr b37)), (9, (i64 (putE SS x.name 0))), (10, (i64 (putE (chgS (holdF bw) RR x.name) x.name 0))), (40, (Value.bool true)), (59, (Value.bool false)), (66, (i64 x.kind)), (67, (Value.bool true)), (118, (Value.bool false)), (119, (Value.string (str bw)))] 1 ?_
        refine Ops.go (v := (Value.bool (!(bw == ([] : List UInt8))))) (by kernel_rfl) (Runs.strne (t := 9) (by kernel_rfl)) (d := (some 120)) (by kernel_rfl) rfl ?_
        refine og 1 [(0, (Value.slice A l.length c)), (1, (Value.string (str bw))), (5, (ptr b1)), (6, (ptr b10)), (7, (i64 ((i : Nat) : Int))), (8, (ptr b37)), (9, (i64 (putE SS x.name 0))), (10, (i64 (putE (chgS (holdF bw) RR x.name) x.name 0))), (40, (Value.bool true)), (59, (Value.bool false)), (66, (i64 x.kind)), (67, (Value.bool true)), (118, (Value.bool false)), (121, (Value.bool (!(bw == ([] : List UInt8)))))] 3 ?_
        refine Ops.split (!(bw == ([] : List UInt8))) (fun h117 => ?_) (fun h117 => ?_)
        ·rw [h117]
         have p118 : (bw == ([] : List UInt8)) = false := (bnot_true h117)
         refine og 2 [(0, (Value.slice A l.length c)), (1, (Value.string (str bw))), (5, (ptr b1)), (6, (ptr b10)), (7, (i64 ((i : Nat) : Int))), (8, (ptr b37)), (9, (i64 (putE SS x.name 0))), (10, (i64 (putE (chgS (holdF bw) RR x.name) x.name 0))), (40, (Value.bool true)), (59, (Value.bool false)), (66, (i64 x.kind)), (67, (Value.bool true)), (118, (Value.bool false)), (121, (Value.bool true)), (122, (ptr b10)), (123, (Value.pointer (some ⟨b37, 1, none⟩)))] 5 ?_
         refine Ops.go (v := (Value.string (str x.name))) (by kernel_rfl) (Runs.load (t := 9) (a := ⟨b37, 1, none⟩) (by kernel_rfl) (H44.loads (by kernel_rfl))) (d := (some 124)) (by kernel_rfl) rfl ?_
         refine Ops.call (by kernel_rfl) (d := (some 125)) (by kernel_rfl) (By_calls _ b10 mb11 m74 (putS (chgS (holdF bw) RR x.name) x.name 0) x.name H28 H77 (by omega) hB78) ?_
         rintro _ w120 ⟨rfl, K119⟩
         refine ⟨_, _, rfl, rfl, ?_⟩
         replace K25 := K25.trans K119 (U := none_) (fun i h1 h2 => h2) (fun i h1 h2 => by exact h2)
         replace H26 := H26.keep K119 (fun h => h)
         replace H70 := H70.keep K119 (fun h => h)
         replace H28 := H28.keep K119 (fun h => h)
         replace H77 := H77.keep K119 (fun h => h)
         replace H44 := H44.keep K119 (fun h => h)
         replace O88 := own_keep0 O88 K119
         replace O101 := own_keep0 O101 K119
         clear K119
         refine og 1 [(0, (Value.slice A l.length c)), (1, (Value.string (str bw))), (5, (ptr b1)), (6, (ptr b10)), (7, (i64 ((i : Nat) : Int))), (8, (ptr b37)), (9, (i64 (putE SS x.name 0))), (10, (i64 (putE (chgS (holdF bw) RR x.name) x.name 0))), (40, (Value.bool true)), (59, (Value.bool false)), (66, (i64 x.kind)), (67, (Value.bool true)), (118, (Value.bool false)), (121, (Value.bool true)), (125, (Value.string (str (ownE (putS (chgS (holdF bw) RR x.name) x.name 0) x.name)))), (126, (Value.string (str bw)))] 8 ?_
         refine Ops.go (v := (Value.bool ((ownE (putS (chgS (holdF bw) RR x.name) x.name 0) x.name) == bw))) (by kernel_rfl) (Runs.streq (t := 9) (by kernel_rfl)) (d := (some 127)) (by kernel_rfl) rfl ?_
         refine og 2 [(0, (Value.slice A l.length c)), (1, (Value.string (str bw))), (5, (ptr b1)), (6, (ptr b10)), (7, (i64 ((i : Nat) : Int))), (8, (ptr b37)), (9, (i64 (putE SS x.name 0))), (10, (i64 (putE (chgS (holdF bw) RR x.name) x.name 0))), (40, (Value.bool true)), (59, (Value.bool false)), (66, (i64 x.kind)), (67, (Value.bool true)), (118, (Value.bool false)), (129, (Value.bool ((ownE (putS (chgS (holdF bw) RR x.name) x.name 0) x.name) == bw)))] 11 ?_
         refine Ops.split ((ownE (putS (chgS (holdF bw) RR x.name) x.name 0) x.name) == bw) (fun h121 => ?_) (fun h121 => ?_)
         ·rw [h121]
          have p122 : ((ownE (putS (chgS (holdF bw) RR x.name) x.name 0) x.name) == bw) = true := h121
          refine og 2 [(0, (Value.slice A l.length c)), (1, (Value.string (str bw))), (5, (ptr b1)), (6, (ptr b10)), (7, (i64 ((i : Nat) : Int))), (8, (ptr b37)), (9, (i64 (putE SS x.name 0))), (10, (i64 (putE (chgS (holdF bw) RR x.name) x.name 0))), (40, (Value.bool true)), (59, (Value.bool false)), (66, (i64 x.kind)), (67, (Value.bool true)), (118, (Value.bool false)), (129, (Value.bool true)), (130, (ptr b10)), (131, (Value.pointer (some ⟨b37, 1, none⟩)))] 13 ?_
          refine Ops.go (v := (Value.string (str x.name))) (by kernel_rfl) (Runs.load (t := 9) (a := ⟨b37, 1, none⟩) (by kernel_rfl) (H44.loads (by kernel_rfl))) (d := (some 132)) (by kernel_rfl) rfl ?_
          refine og 1 [(0, (Value.slice A l.length c)), (1, (Value.string (str bw))), (5, (ptr b1)), (6, (ptr b10)), (7, (i64 ((i : Nat) : Int))), (8, (ptr b37)), (9, (i64 (putE SS x.name 0))), (10, (i64 (putE (chgS (holdF bw) RR x.name) x.name 0))), (40, (Value.bool true)), (59, (Value.bool false)), (66, (i64 x.kind)), (67, (Value.bool true)), (118, (Value.bool false)), (129, (Value.bool true)), (130, (ptr b10)), (132, (Value.string (str x.name))), (133, (Value.string (str bw)))] 15 ?_
          refine Ops.go (v := (Value.string (str (bw ++ [120])))) (by kernel_rfl) (Runs.stradd (t := 9) (a := bw) (b := [120]) (by kernel_rfl) (by simp only [List.length_cons, List.length_nil]; omega)) (d := (some 134)) (by kernel_rfl) rfl ?_
          refine Ops.call (by kernel_rfl) (d := (some 135)) (by kernel_rfl) (Hold_calls _ b10 mb11 m74 (putS (chgS (holdF bw) RR x.name) x.name 0) x.name (bw ++ [120]) H28 H77 (by omega) hB78) ?_
          rintro _ w124 ⟨m123, rfl, K125, H126, hB127⟩
          have hl128 := hB127.len
          have hho129 := hold_other (x := (bw ++ [120])) hB78.accs (beq_true_eq h121) (by have h := h117; simpa using h) (more_ne _).1 (more_ne _).2 (by rw [List.length_append]; simp only [List.length_cons, List.length_nil]; omega)
          rw [hho129.1]
          have hB130 := hB127
          rw [hho129.2] at hB130
          refine ⟨_, _, rfl, rfl, ?_⟩
          replace K25 := K25.trans K125 (U := none_) (fun i h1 h2 => h2) (fun i h1 h2 => by have h2 : i = mb11 := h2; exfalso; omega)
          replace H26 := H26.keep K125 (by intro h; change b1 = mb11 at h; omega)
          replace H70 := H70.keep K125 (by intro h; change mb2 = mb11 at h; omega)
          replace H28 := H28.keep K125 (by intro h; change b10 = mb11 at h; omega)
          replace H44 := H44.keep K125 (by intro h; change b37 = mb11 at h; omega)
          replace O88 := own_keep O88 K125 (fun i hi hs => by have hs : i = mb11 := hs; have := ob92 i hi; omega)
          replace O101 := own_keep O101 K125 (fun i hi hs => by have hs : i = mb11 := hs; have := ob105 i hi; omega)
          clear K125
          refine og 4 [(0, (Value.slice A l.length c)), (1, (Value.string (str bw))), (5, (ptr b1)), (6, (ptr b10)), (7, (i64 ((i : Nat) : Int))), (8, (ptr b37)), (9, (i64 (putE SS x.name 0))), (10, (i64 (putE (chgS (holdF bw) RR x.name) x.name 0))), (40, (Value.bool true)), (59, (Value.bool false)), (66, (i64 x.kind)), (67, (Value.bool true)), (118, (Value.bool false)), (129, (Value.bool true)), (137, (Value.bool false)), (138, (ptr b10)), (139, (Value.pointer (some ⟨b37, 1, none⟩)))] 21 ?_
          refine Ops.go (v := (Value.string (str x.name))) (by kernel_rfl) (Runs.load (t := 9) (a := ⟨b37, 1, none⟩) (by kernel_rfl) (H44.loads (by kernel_rfl))) (d := (some 140)) (by kernel_rfl) rfl ?_
          refine og 1 [(0, (Value.slice A l.length c)), (1, (Value.string (str bw))), (5, (ptr b1)), (6, (ptr b10)), (7, (i64 ((i : Nat) : Int))), (8, (ptr b37)), (9, (i64 (putE SS x.name 0))), (10, (i64 (putE (chgS (holdF bw) RR x.name) x.name 0))), (40, (Value.bool true)), (59, (Value.bool false)), (66, (i64 x.kind)), (67, (Value.bool true)), (118, (Value.bool false)), (129, (Value.bool true)), (137, (Value.bool false)), (138, (ptr b10)), (140, (Value.string (str x.name))), (141, (Value.string (str bw)))] 23 ?_
          refine Ops.go (v := (Value.string (str (bw ++ [120])))) (by kernel_rfl) (Runs.stradd (t := 9) (a := bw) (b := [120]) (by kernel_rfl) (by simp only [List.length_cons, List.length_nil]; omega)) (d := (some 142)) (by kernel_rfl) rfl ?_
          refine Ops.call (by kernel_rfl) (d := (some 143)) (by kernel_rfl) (Free_calls _ b10 mb11 m123 (putS (chgS (holdF bw) RR x.name) x.name 0) x.name (bw ++ [120]) H28 H126 (by omega) hB130) ?_
          rintro _ w132 ⟨m131, rfl, K133, H134, hB135⟩
          have hl136 := hB135.len
          have hho137 := free_other (x := (bw ++ [120])) hB130.accs (beq_true_eq h121) (by have h := h117; simpa using h) (more_ne _).1 
          rw [hho137.1]
          have hB138 := hB135
          rw [hho137.2] at hB138
          refine ⟨_, _, rfl, rfl, ?_⟩
          replace K25 := K25.trans K133 (U := none_) (fun i h1 h2 => h2) (fun i h1 h2 => by have h2 : i = mb11 := h2; exfalso; omega)
          replace H26 := H26.keep K133 (by intro h; change b1 = mb11 at h; omega)
          replace H70 := H70.keep K133 (by intro h; change mb2 = mb11 at h; omega)
          replace H28 := H28.keep K133 (by intro h; change b10 = mb11 at h; omega)
          replace H44 := H44.keep K133 (by intro h; change b37 = mb11 at h; omega)
          replace O88 := own_keep O88 K133 (fun i hi hs => by have hs : i = mb11 := hs; have := ob92 i hi; omega)
          replace O101 := own_keep O101 K133 (fun i hi hs => by have hs : i = mb11 := hs; have := ob105 i hi; omega)
          clear K133
          refine og 5 [(0, (Value.slice A l.length c)), (1, (Value.string (str bw))), (5, (ptr b1)), (6, (ptr b10)), (7, (i64 ((i : Nat) : Int))), (8, (ptr b37)), (9, (i64 (putE SS x.name 0))), (10, (i64 (putE (chgS (holdF bw) RR x.name) x.name 0))), (40, (Value.bool true)), (59, (Value.bool false)), (66, (i64 x.kind)), (67, (Value.bool true)), (118, (Value.bool false)), (129, (Value.bool true)), (146, (Value.bool false)), (147, (ptr b10)), (148, (Value.pointer (some ⟨b37, 1, none⟩)))] 30 ?_
          refine Ops.go (v := (Value.string (str x.name))) (by kernel_rfl) (Runs.load (t := 9) (a := ⟨b37, 1, none⟩) (by kernel_rfl) (H44.loads (by kernel_rfl))) (d := (some 149)) (by kernel_rfl) rfl ?_
          refine Ops.call (by kernel_rfl) (d := (some 150)) (by kernel_rfl) (By_calls _ b10 mb11 m131 (putS (chgS (holdF bw) RR x.name) x.name 0) x.name H28 H134 (by omega) hB138) ?_
          rintro _ w140 ⟨rfl, K139⟩
          refine ⟨_, _, rfl, rfl, ?_⟩
          replace K25 := K25.trans K139 (U := none_) (fun i h1 h2 => h2) (fun i h1 h2 => by exact h2)
          replace H26 := H26.keep K139 (fun h => h)
          replace H70 := H70.keep K139 (fun h => h)
          replace H28 := H28.keep K139 (fun h => h)
          replace H134 := H134.keep K139 (fun h => h)
          replace H44 := H44.keep K139 (fun h => h)
          replace O88 := own_keep0 O88 K139
          replace O101 := own_keep0 O101 K139
          clear K139
          refine og 1 [(0, (Value.slice A l.length c)), (1, (Value.string (str bw))), (5, (ptr b1)), (6, (ptr b10)), (7, (i64 ((i : Nat) : Int))), (8, (ptr b37)), (9, (i64 (putE SS x.name 0))), (10, (i64 (putE (chgS (holdF bw) RR x.name) x.name 0))), (40, (Value.bool true)), (59, (Value.bool false)), (66, (i64 x.kind)), (67, (Value.bool true)), (118, (Value.bool false)), (129, (Value.bool true)), (146, (Value.bool false)), (150, (Value.string (str (ownE (putS (chgS (holdF bw) RR x.name) x.name 0) x.name)))), (151, (Value.string (str bw)))] 33 ?_
          refine Ops.go (v := (Value.bool (!((ownE (putS (chgS (holdF bw) RR x.name) x.name 0) x.name) == bw)))) (by kernel_rfl) (Runs.strne (t := 9) (by kernel_rfl)) (d := (some 152)) (by kernel_rfl) rfl ?_
          refine og 2 [(0, (Value.slice A l.length c)), (1, (Value.string (str bw))), (5, (ptr b1)), (6, (ptr b10)), (7, (i64 ((i : Nat) : Int))), (8, (ptr b37)), (9, (i64 (putE SS x.name 0))), (10, (i64 (putE (chgS (holdF bw) RR x.name) x.name 0))), (40, (Value.bool true)), (59, (Value.bool false)), (66, (i64 x.kind)), (67, (Value.bool true)), (118, (Value.bool false)), (154, (Value.bool (!((ownE (putS (chgS (holdF bw) RR x.name) x.name 0) x.name) == bw))))] 36 ?_
          refine od ?_
          rw [h121]
          simp only [Bool.not_true]
          refine q_else (o := .tmp 154) (by kernel_rfl) rfl ?_
          refine q_skip (by kernel_rfl) ?_
          refine qg ?_
          refine og 2 [(0, (Value.slice A l.length c)), (1, (Value.string (str bw))), (5, (ptr b1)), (6, (ptr b10)), (7, (i64 ((i : Nat) : Int))), (8, (ptr b37)), (9, (i64 (putE SS x.name 0))), (10, (i64 (putE (chgS (holdF bw) RR x.name) x.name 0))), (40, (Value.bool true)), (42, (i64 (IntKind.i64.wrap (((i : Nat) : Int) + 1)))), (59, (Value.bool false)), (66, (i64 x.kind)), (67, (Value.bool true)), (118, (Value.bool false)), (154, (Value.bool false))] 2 ?_
          have e141 : IntKind.i64.wrap (((i : Nat) : Int) + 1) = ((i + 1 : Nat) : Int) := by rw [wrap_i64 (by omega) (by omega)]; omega
          rw [e141]
          clear e141
          refine og 1 [(0, (Value.slice A l.length c)), (1, (Value.string (str bw))), (5, (ptr b1)), (6, (ptr b10)), (7, (i64 ((i + 1 : Nat) : Int))), (8, (ptr b37)), (9, (i64 (putE SS x.name 0))), (10, (i64 (putE (chgS (holdF bw) RR x.name) x.name 0))), (40, (Value.bool true)), (59, (Value.bool false)), (66, (i64 x.kind)), (67, (Value.bool true)), (118, (Value.bool false)), (154, (Value.bool false))] 3 ?_
          refine Ops.keep (R := [(0, (Value.slice A l.length c)), (1, (Value.string (str bw))), (5, (ptr b1)), (6, (ptr b10)), (7, (i64 ((i + 1 : Nat) : Int)))]) (by kernel_rfl) ?_
          refine od ?_
          exact ⟨(i + 1, m67, putS SS x.name 0, m131, putS (chgS (holdF bw) RR x.name) x.name 0), ⟨rfl, (by omega), hB71, hB138, hre81, hno73, K25, H26, H70, H28, H134⟩, (show l.length - (i + 1) < l.length - i from by omega)⟩
         ·rw [h121]
          have p142 : ((ownE (putS (chgS (holdF bw) RR x.name) x.name 0) x.name) == bw) = false := h121
          refine og 25 [(0, (Value.slice A l.length c)), (1, (Value.string (str bw))), (5, (ptr b1)), (6, (ptr b10)), (7, (i64 ((i : Nat) : Int))), (8, (ptr b37)), (9, (i64 (putE SS x.name 0))), (10, (i64 (putE (chgS (holdF bw) RR x.name) x.name 0))), (40, (Value.bool true)), (59, (Value.bool false)), (66, (i64 x.kind)), (67, (Value.bool true)), (118, (Value.bool false)), (154, (Value.bool false))] 36 ?_
          refine od ?_
          refine q_else (o := .tmp 154) (by kernel_rfl) rfl ?_
          refine q_skip (by kernel_rfl) ?_
          refine qg ?_
          refine og 2 [(0, (Value.slice A l.length c)), (1, (Value.string (str bw))), (5, (ptr b1)), (6, (ptr b10)), (7, (i64 ((i : Nat) : Int))), (8, (ptr b37)), (9, (i64 (putE SS x.name 0))), (10, (i64 (putE (chgS (holdF bw) RR x.name) x.name 0))), (40, (Value.bool true)), (42, (i64 (IntKind.i64.wrap (((i : Nat) : Int) + 1)))), (59, (Value.bool false)), (66, (i64 x.kind)), (67, (Value.bool true)), (118, (Value.bool false)), (154, (Value.bool false))] 2 ?_
          have e143 : IntKind.i64.wrap (((i : Nat) : Int) + 1) = ((i + 1 : Nat) : Int) := by rw [wrap_i64 (by omega) (by omega)]; omega
          rw [e143]
          clear e143
          refine og 1 [(0, (Value.slice A l.length c)), (1, (Value.string (str bw))), (5, (ptr b1)), (6, (ptr b10)), (7, (i64 ((i + 1 : Nat) : Int))), (8, (ptr b37)), (9, (i64 (putE SS x.name 0))), (10, (i64 (putE (chgS (holdF bw) RR x.name) x.name 0))), (40, (Value.bool true)), (59, (Value.bool false)), (66, (i64 x.kind)), (67, (Value.bool true)), (118, (Value.bool false)), (154, (Value.bool false))] 3 ?_
          refine Ops.keep (R := [(0, (Value.slice A l.length c)), (1, (Value.string (str bw))), (5, (ptr b1)), (6, (ptr b10)), (7, (i64 ((i + 1 : Nat) : Int)))]) (by kernel_rfl) ?_
          refine od ?_
          exact ⟨(i + 1, m67, putS SS x.name 0, m74, putS (chgS (holdF bw) RR x.name) x.name 0), ⟨rfl, (by omega), hB71, hB78, hre81, hno73, K25, H26, H70, H28, H77⟩, (show l.length - (i + 1) < l.length - i from by omega)⟩
        ·rw [h117]
         have p144 : (bw == ([] : List UInt8)) = true := (bnot_false h117)
         refine og 33 [(0, (Value.slice A l.length c)), (1, (Value.string (str bw))), (5, (ptr b1)), (6, (ptr b10)), (7, (i64 ((i : Nat) : Int))), (8, (ptr b37)), (9, (i64 (putE SS x.name 0))), (10, (i64 (putE (chgS (holdF bw) RR x.name) x.name 0))), (40, (Value.bool true)), (59, (Value.bool false)), (66, (i64 x.kind)), (67, (Value.bool true)), (118, (Value.bool false)), (154, (Value.bool false))] 36 ?_
         refine od ?_
         refine q_else (o := .tmp 154) (by kernel_rfl) rfl ?_
         refine q_skip (by kernel_rfl) ?_
         refine qg ?_
         refine og 2 [(0, (Value.slice A l.length c)), (1, (Value.string (str bw))), (5, (ptr b1)), (6, (ptr b10)), (7, (i64 ((i : Nat) : Int))), (8, (ptr b37)), (9, (i64 (putE SS x.name 0))), (10, (i64 (putE (chgS (holdF bw) RR x.name) x.name 0))), (40, (Value.bool true)), (42, (i64 (IntKind.i64.wrap (((i : Nat) : Int) + 1)))), (59, (Value.bool false)), (66, (i64 x.kind)), (67, (Value.bool true)), (118, (Value.bool false)), (154, (Value.bool false))] 2 ?_
         have e145 : IntKind.i64.wrap (((i : Nat) : Int) + 1) = ((i + 1 : Nat) : Int) := by rw [wrap_i64 (by omega) (by omega)]; omega
         rw [e145]
         clear e145
         refine og 1 [(0, (Value.slice A l.length c)), (1, (Value.string (str bw))), (5, (ptr b1)), (6, (ptr b10)), (7, (i64 ((i + 1 : Nat) : Int))), (8, (ptr b37)), (9, (i64 (putE SS x.name 0))), (10, (i64 (putE (chgS (holdF bw) RR x.name) x.name 0))), (40, (Value.bool true)), (59, (Value.bool false)), (66, (i64 x.kind)), (67, (Value.bool true)), (118, (Value.bool false)), (154, (Value.bool false))] 3 ?_
         refine Ops.keep (R := [(0, (Value.slice A l.length c)), (1, (Value.string (str bw))), (5, (ptr b1)), (6, (ptr b10)), (7, (i64 ((i + 1 : Nat) : Int)))]) (by kernel_rfl) ?_
         refine od ?_
         exact ⟨(i + 1, m67, putS SS x.name 0, m74, putS (chgS (holdF bw) RR x.name) x.name 0), ⟨rfl, (by omega), hB71, hB78, hre81, hno73, K25, H26, H70, H28, H77⟩, (show l.length - (i + 1) < l.length - i from by omega)⟩
       ·rw [h65]
        have p146 : ¬ (x.kind = 0) := of_beq_f h65
        refine qg ?_
        refine og 2 [(0, (Value.slice A l.length c)), (1, (Value.string (str bw))), (5, (ptr b1)), (6, (ptr b10)), (7, (i64 ((i : Nat) : Int))), (8, (ptr b37)), (9, (i64 0)), (10, (i64 0)), (40, (Value.bool true)), (59, (Value.bool false)), (66, (i64 x.kind)), (67, (Value.bool (x.kind == 1)))] 2 ?_
        refine od ?_
        refine q_cond (o := .tmp 67) (b := (x.kind == 1)) (by kernel_rfl) rfl (fun h147 => ?_) (fun h147 => ?_)
        ·rw [h147]
         have p148 : x.kind = 1 := of_beq_t h147
         refine qs ?_
         refine qg ?_
         refine og 2 [(0, (Value.slice A l.length c)), (1, (Value.string (str bw))), (5, (ptr b1)), (6, (ptr b10)), (7, (i64 ((i : Nat) : Int))), (8, (ptr b37)), (9, (i64 0)), (10, (i64 0)), (40, (Value.bool true)), (59, (Value.bool false)), (66, (i64 x.kind)), (67, (Value.bool true)), (70, (ptr b1)), (71, (Value.pointer (some ⟨b37, 1, none⟩)))] 2 ?_
         refine Ops.go (v := (Value.string (str x.name))) (by kernel_rfl) (Runs.load (t := 9) (a := ⟨b37, 1, none⟩) (by kernel_rfl) (H44.loads (by kernel_rfl))) (d := (some 72)) (by kernel_rfl) rfl ?_
         refine Ops.call (by kernel_rfl) (d := (some 73)) (by kernel_rfl) (Open_calls _ b1 mb2 mm SS x.name H26 H27 (by omega) hBm) ?_
         rintro _ w150 ⟨m149, rfl, K151, H152, hB153⟩
         have hl154 := hB153.len
         have hno155 := hNO.put x.name 0
         refine ⟨_, _, rfl, rfl, ?_⟩
         replace K25 := K25.trans K151 (U := none_) (fun i h1 h2 => h2) (fun i h1 h2 => by have h2 : i = mb2 := h2; exfalso; omega)
         replace H26 := H26.keep K151 (by intro h; change b1 = mb2 at h; omega)
         replace H28 := H28.keep K151 (by intro h; change b10 = mb2 at h; omega)
         replace H61 := H61.keep K151 (by intro h; change mb11 = mb2 at h; omega)
         replace H44 := H44.keep K151 (by intro h; change b37 = mb2 at h; omega)
         clear K151
         refine og 1 [(0, (Value.slice A l.length c)), (1, (Value.string (str bw))), (5, (ptr b1)), (6, (ptr b10)), (7, (i64 ((i : Nat) : Int))), (8, (ptr b37)), (9, (i64 (putE SS x.name 0))), (10, (i64 0)), (40, (Value.bool true)), (59, (Value.bool false)), (66, (i64 x.kind)), (67, (Value.bool true))] 5 ?_
         refine od ?_
         refine qg ?_
         refine og 2 [(0, (Value.slice A l.length c)), (1, (Value.string (str bw))), (5, (ptr b1)), (6, (ptr b10)), (7, (i64 ((i : Nat) : Int))), (8, (ptr b37)), (9, (i64 (putE SS x.name 0))), (10, (i64 0)), (40, (Value.bool true)), (59, (Value.bool false)), (66, (i64 x.kind)), (67, (Value.bool true)), (74, (ptr b10)), (75, (Value.pointer (some ⟨b37, 1, none⟩)))] 2 ?_
         refine Ops.go (v := (Value.string (str x.name))) (by kernel_rfl) (Runs.load (t := 9) (a := ⟨b37, 1, none⟩) (by kernel_rfl) (H44.loads (by kernel_rfl))) (d := (some 76)) (by kernel_rfl) rfl ?_
         refine Ops.call (by kernel_rfl) (d := (some 77)) (by kernel_rfl) (Open_calls _ b10 mb11 m58 (chgS (holdF bw) RR x.name) x.name H28 H61 (by omega) hB62) ?_
         rintro _ w157 ⟨m156, rfl, K158, H159, hB160⟩
         have hl161 := hB160.len
         have hee162 := hre64.putE x.name 0
         have hre163 := hre64.putS x.name 0
         refine ⟨_, _, rfl, rfl, ?_⟩
         replace K25 := K25.trans K158 (U := none_) (fun i h1 h2 => h2) (fun i h1 h2 => by have h2 : i = mb11 := h2; exfalso; omega)
         replace H26 := H26.keep K158 (by intro h; change b1 = mb11 at h; omega)
         replace H152 := H152.keep K158 (by intro h; change mb2 = mb11 at h; omega)
         replace H28 := H28.keep K158 (by intro h; change b10 = mb11 at h; omega)
         replace H44 := H44.keep K158 (by intro h; change b37 = mb11 at h; omega)
         clear K158
         refine og 1 [(0, (Value.slice A l.length c)), (1, (Value.string (str bw))), (5, (ptr b1)), (6, (ptr b10)), (7, (i64 ((i : Nat) : Int))), (8, (ptr b37)), (9, (i64 (putE SS x.name 0))), (10, (i64 (putE (chgS (holdF bw) RR x.name) x.name 0))), (40, (Value.bool true)), (59, (Value.bool false)), (66, (i64 x.kind)), (67, (Value.bool true))] 5 ?_
         refine od ?_
         refine qs ?_
         refine qs ?_
         refine qg ?_
         refine og 4 [(0, (Value.slice A l.length c)), (1, (Value.string (str bw))), (5, (ptr b1)), (6, (ptr b10)), (7, (i64 ((i : Nat) : Int))), (8, (ptr b37)), (9, (i64 (putE SS x.name 0))), (10, (i64 (putE (chgS (holdF bw) RR x.name) x.name 0))), (40, (Value.bool true)), (59, (Value.bool false)), (66, (i64 x.kind)), (67, (Value.bool true)), (111, (Value.bool ((putE SS x.name 0) != (putE (chgS (holdF bw) RR x.name) x.name 0))))] 4 ?_
         have h164 : ((putE SS x.name 0) != (putE (chgS (holdF bw) RR x.name) x.name 0)) = false := bne_f hee162
         rw [h164]
         refine og 1 [(0, (Value.slice A l.length c)), (1, (Value.string (str bw))), (5, (ptr b1)), (6, (ptr b10)), (7, (i64 ((i : Nat) : Int))), (8, (ptr b37)), (9, (i64 (putE SS x.name 0))), (10, (i64 (putE (chgS (holdF bw) RR x.name) x.name 0))), (40, (Value.bool true)), (59, (Value.bool false)), (66, (i64 x.kind)), (67, (Value.bool true)), (111, (Value.bool false)), (112, (ptr b1))] 5 ?_
         refine Ops.call (by kernel_rfl) (d := (some 113)) (by kernel_rfl) (Rows_calls _ b1 mb2 m149 (putS SS x.name 0) (-1) H26 H152 (by omega) hB153) ?_
         rintro _ w167 ⟨A165, c166, rfl, K168, hO169⟩
         have ob171 : ∀ i, ((Value.slice A165 ((rowsS (putS SS x.name 0) (-1)).length) c166)).ownBlock = some i → i ≠ b1 := fun i hi => by have := (World.ownsRow.lt hO169 i hi).1; have := H26.lt; omega
         have ob172 : ∀ i, ((Value.slice A165 ((rowsS (putS SS x.name 0) (-1)).length) c166)).ownBlock = some i → i ≠ mb2 := fun i hi => by have := (World.ownsRow.lt hO169 i hi).1; have := H152.lt; omega
         have ob173 : ∀ i, ((Value.slice A165 ((rowsS (putS SS x.name 0) (-1)).length) c166)).ownBlock = some i → i ≠ b10 := fun i hi => by have := (World.ownsRow.lt hO169 i hi).1; have := H28.lt; omega
         have ob174 : ∀ i, ((Value.slice A165 ((rowsS (putS SS x.name 0) (-1)).length) c166)).ownBlock = some i → i ≠ mb11 := fun i hi => by have := (World.ownsRow.lt hO169 i hi).1; have := H159.lt; omega
         have ob175 : ∀ i, ((Value.slice A165 ((rowsS (putS SS x.name 0) (-1)).length) c166)).ownBlock = some i → i ≠ b37 := fun i hi => by have := (World.ownsRow.lt hO169 i hi).1; have := H44.lt; omega
         have O170 := own_base hO169 K25.size
         clear hO169
         have hl176 := rowsS_len (putS SS x.name 0) (-1)
         have hl177 := hB153.accs.len
         refine ⟨_, _, rfl, rfl, ?_⟩
         replace K25 := K25.trans K168 (U := none_) (fun i h1 h2 => h2) (fun i h1 h2 => by exact h2)
         replace H26 := H26.keep K168 (fun h => h)
         replace H152 := H152.keep K168 (fun h => h)
         replace H28 := H28.keep K168 (fun h => h)
         replace H159 := H159.keep K168 (fun h => h)
         replace H44 := H44.keep K168 (fun h => h)
         clear K168
         refine og 1 [(0, (Value.slice A l.length c)), (1, (Value.string (str bw))), (5, (ptr b1)), (6, (ptr b10)), (7, (i64 ((i : Nat) : Int))), (8, (ptr b37)), (9, (i64 (putE SS x.name 0))), (10, (i64 (putE (chgS (holdF bw) RR x.name) x.name 0))), (40, (Value.bool true)), (59, (Value.bool false)), (66, (i64 x.kind)), (67, (Value.bool true)), (111, (Value.bool false)), (113, (Value.slice A165 ((rowsS (putS SS x.name 0) (-1)).length) c166)), (114, (ptr b10))] 7 ?_
         refine Ops.call (by kernel_rfl) (d := (some 115)) (by kernel_rfl) (Rows_calls _ b10 mb11 m156 (putS (chgS (holdF bw) RR x.name) x.name 0) (-1) H28 H159 (by omega) hB160) ?_
         rintro _ w180 ⟨A178, c179, rfl, K181, hO182⟩
         have ob184 : ∀ i, ((Value.slice A178 ((rowsS (putS (chgS (holdF bw) RR x.name) x.name 0) (-1)).length) c179)).ownBlock = some i → i ≠ b1 := fun i hi => by have := (World.ownsRow.lt hO182 i hi).1; have := H26.lt; omega
         have ob185 : ∀ i, ((Value.slice A178 ((rowsS (putS (chgS (holdF bw) RR x.name) x.name 0) (-1)).length) c179)).ownBlock = some i → i ≠ mb2 := fun i hi => by have := (World.ownsRow.lt hO182 i hi).1; have := H152.lt; omega
         have ob186 : ∀ i, ((Value.slice A178 ((rowsS (putS (chgS (holdF bw) RR x.name) x.name 0) (-1)).length) c179)).ownBlock = some i → i ≠ b10 := fun i hi => by have := (World.ownsRow.lt hO182 i hi).1; have := H28.lt; omega
         have ob187 : ∀ i, ((Value.slice A178 ((rowsS (putS (chgS (holdF bw) RR x.name) x.name 0) (-1)).length) c179)).ownBlock = some i → i ≠ mb11 := fun i hi => by have := (World.ownsRow.lt hO182 i hi).1; have := H159.lt; omega
         have ob188 : ∀ i, ((Value.slice A178 ((rowsS (putS (chgS (holdF bw) RR x.name) x.name 0) (-1)).length) c179)).ownBlock = some i → i ≠ b37 := fun i hi => by have := (World.ownsRow.lt hO182 i hi).1; have := H44.lt; omega
         have oo189 : ∀ i, ((Value.slice A165 ((rowsS (putS SS x.name 0) (-1)).length) c166)).ownBlock = some i → ((Value.slice A178 ((rowsS (putS (chgS (holdF bw) RR x.name) x.name 0) (-1)).length) c179)).ownBlock = some i → False := fun i hi hs => by have := (World.ownsRow.lt hO182 i hs).1; have := (World.ownsRow.lt O170 i hi).2; omega
         have oo190 : ∀ i, ((Value.slice A178 ((rowsS (putS (chgS (holdF bw) RR x.name) x.name 0) (-1)).length) c179)).ownBlock = some i → ((Value.slice A165 ((rowsS (putS SS x.name 0) (-1)).length) c166)).ownBlock = some i → False := fun i hi hs => oo189 i hs hi
         have O183 := own_base hO182 K25.size
         clear hO182
         have hl191 := rowsS_len (putS (chgS (holdF bw) RR x.name) x.name 0) (-1)
         have hl192 := hB160.accs.len
         refine ⟨_, _, rfl, rfl, ?_⟩
         replace K25 := K25.trans K181 (U := none_) (fun i h1 h2 => h2) (fun i h1 h2 => by exact h2)
         replace H26 := H26.keep K181 (fun h => h)
         replace H152 := H152.keep K181 (fun h => h)
         replace H28 := H28.keep K181 (fun h => h)
         replace H159 := H159.keep K181 (fun h => h)
         replace H44 := H44.keep K181 (fun h => h)
         replace O170 := own_keep0 O170 K181
         clear K181
         refine Ops.call (by kernel_rfl) (d := (some 116)) (by kernel_rfl) (SameRows_calls _ A165 c166 (rowsS (putS SS x.name 0) (-1)) A178 c179 (rowsS (putS (chgS (holdF bw) RR x.name) x.name 0) (-1)) (OwnT.rd O170) (OwnT.rd O183)) ?_
         rintro _ w196 ⟨t193, rfl, ht194, K195⟩
         have hsr197 := ht194.2 hre163.all
         refine ⟨_, _, rfl, rfl, ?_⟩
         replace K25 := K25.trans K195 (U := none_) (fun i h1 h2 => h2) (fun i h1 h2 => by exact h2)
         replace H26 := H26.keep K195 (fun h => h)
         replace H152 := H152.keep K195 (fun h => h)
         replace H28 := H28.keep K195 (fun h => h)
         replace H159 := H159.keep K195 (fun h => h)
         replace H44 := H44.keep K195 (fun h => h)
         replace O170 := own_keep0 O170 K195
         replace O183 := own_keep0 O183 K195
         clear K195
         refine og 2 [(0, (Value.slice A l.length c)), (1, (Value.string (str bw))), (5, (ptr b1)), (6, (ptr b10)), (7, (i64 ((i : Nat) : Int))), (8, (ptr b37)), (9, (i64 (putE SS x.name 0))), (10, (i64 (putE (chgS (holdF bw) RR x.name) x.name 0))), (40, (Value.bool true)), (59, (Value.bool false)), (66, (i64 x.kind)), (67, (Value.bool true)), (118, (Value.bool (!t193)))] 11 ?_
         refine od ?_
         have h198 : (!t193) = false := by rw [show t193 = true from hsr197]; rfl
         rw [h198]
         refine q_else (o := .tmp 118) (by kernel_rfl) rfl ?_
         refine q_skip (by kernel_rfl) ?_
         refine qs ?_
         refine qg ?_
         refine og 1 [(0, (Value.slice A l.length c)), (1, (Value.string (str bw))), (5, (ptr b1)), (6, (ptr b10)), (7, (i64 ((i : Nat) : Int))), (8, (ptr b37)), (9, (i64 (putE SS x.name 0))), (10, (i64 (putE (chgS (holdF bw) RR x.name) x.name 0))), (40, (Value.bool true)), (59, (Value.bool false)), (66, (i64 x.kind)), (67, (Value.bool true)), (118, (Value.bool false)), (119, (Value.string (str bw)))] 1 ?_
         refine Ops.go (v := (Value.bool (!(bw == ([] : List UInt8))))) (by kernel_rfl) (Runs.strne (t := 9) (by kernel_rfl)) (d := (some 120)) (by kernel_rfl) rfl ?_
         refine og 1 [(0, (Value.slice A l.length c)), (1, (Value.string (str bw))), (5, (ptr b1)), (6, (ptr b10)), (7, (i64 ((i : Nat) : Int))), (8, (ptr b37)), (9, (i64 (putE SS x.name 0))), (10, (i64 (putE (chgS (holdF bw) RR x.name) x.name 0))), (40, (Value.bool true)), (59, (Value.bool false)), (66, (i64 x.kind)), (67, (Value.bool true)), (118, (Value.bool false)), (121, (Value.bool (!(bw == ([] : List UInt8)))))] 3 ?_
         refine Ops.split (!(bw == ([] : List UInt8))) (fun h199 => ?_) (fun h199 => ?_)
         ·rw [h199]
          have p200 : (bw == ([] : List UInt8)) = false := (bnot_true h199)
          refine og 2 [(0, (Value.slice A l.length c)), (1, (Value.string (str bw))), (5, (ptr b1)), (6, (ptr b10)), (7, (i64 ((i : Nat) : Int))), (8, (ptr b37)), (9, (i64 (putE SS x.name 0))), (10, (i64 (putE (chgS (holdF bw) RR x.name) x.name 0))), (40, (Value.bool true)), (59, (Value.bool false)), (66, (i64 x.kind)), (67, (Value.bool true)), (118, (Value.bool false)), (121, (Value.bool true)), (122, (ptr b10)), (123, (Value.pointer (some ⟨b37, 1, none⟩)))] 5 ?_
          refine Ops.go (v := (Value.string (str x.name))) (by kernel_rfl) (Runs.load (t := 9) (a := ⟨b37, 1, none⟩) (by kernel_rfl) (H44.loads (by kernel_rfl))) (d := (some 124)) (by kernel_rfl) rfl ?_
          refine Ops.call (by kernel_rfl) (d := (some 125)) (by kernel_rfl) (By_calls _ b10 mb11 m156 (putS (chgS (holdF bw) RR x.name) x.name 0) x.name H28 H159 (by omega) hB160) ?_
          rintro _ w202 ⟨rfl, K201⟩
          refine ⟨_, _, rfl, rfl, ?_⟩
          replace K25 := K25.trans K201 (U := none_) (fun i h1 h2 => h2) (fun i h1 h2 => by exact h2)
          replace H26 := H26.keep K201 (fun h => h)
          replace H152 := H152.keep K201 (fun h => h)
          replace H28 := H28.keep K201 (fun h => h)
          replace H159 := H159.keep K201 (fun h => h)
          replace H44 := H44.keep K201 (fun h => h)
          replace O170 := own_keep0 O170 K201
          replace O183 := own_keep0 O183 K201
          clear K201
          refine og 1 [(0, (Value.slice A l.length c)), (1, (Value.string (str bw))), (5, (ptr b1)), (6, (ptr b10)), (7, (i64 ((i : Nat) : Int))), (8, (ptr b37)), (9, (i64 (putE SS x.name 0))), (10, (i64 (putE (chgS (holdF bw) RR x.name) x.name 0))), (40, (Value.bool true)), (59, (Value.bool false)), (66, (i64 x.kind)), (67, (Value.bool true)), (118, (Value.bool false)), (121, (Value.bool true)), (125, (Value.string (str (ownE (putS (chgS (holdF bw) RR x.name) x.name 0) x.name)))), (126, (Value.string (str bw)))] 8 ?_
          refine Ops.go (v := (Value.bool ((ownE (putS (chgS (holdF bw) RR x.name) x.name 0) x.name) == bw))) (by kernel_rfl) (Runs.streq (t := 9) (by kernel_rfl)) (d := (some 127)) (by kernel_rfl) rfl ?_
          refine og 2 [(0, (Value.slice A l.length c)), (1, (Value.string (str bw))), (5, (ptr b1)), (6, (ptr b10)), (7, (i64 ((i : Nat) : Int))), (8, (ptr b37)), (9, (i64 (putE SS x.name 0))), (10, (i64 (putE (chgS (holdF bw) RR x.name) x.name 0))), (40, (Value.bool true)), (59, (Value.bool false)), (66, (i64 x.kind)), (67, (Value.bool true)), (118, (Value.bool false)), (129, (Value.bool ((ownE (putS (chgS (holdF bw) RR x.name) x.name 0) x.name) == bw)))] 11 ?_
          refine Ops.split ((ownE (putS (chgS (holdF bw) RR x.name) x.name 0) x.name) == bw) (fun h203 => ?_) (fun h203 => ?_)
          ·rw [h203]
           have p204 : ((ownE (putS (chgS (holdF bw) RR x.name) x.name 0) x.name) == bw) = true := h203
           refine og 2 [(0, (Value.slice A l.length c)), (1, (Value.string (str bw))), (5, (ptr b1)), (6, (ptr b10)), (7, (i64 ((i : Nat) : Int))), (8, (ptr b37)), (9, (i64 (putE SS x.name 0))), (10, (i64 (putE (chgS (holdF bw) RR x.name) x.name 0))), (40, (Value.bool true)), (59, (Value.bool false)), (66, (i64 x.kind)), (67, (Value.bool true)), (118, (Value.bool false)), (129, (Value.bool true)), (130, (ptr b10)), (131, (Value.pointer (some ⟨b37, 1, none⟩)))] 13 ?_
           refine Ops.go (v := (Value.string (str x.name))) (by kernel_rfl) (Runs.load (t := 9) (a := ⟨b37, 1, none⟩) (by kernel_rfl) (H44.loads (by kernel_rfl))) (d := (some 132)) (by kernel_rfl) rfl ?_
           refine og 1 [(0, (Value.slice A l.length c)), (1, (Value.string (str bw))), (5, (ptr b1)), (6, (ptr b10)), (7, (i64 ((i : Nat) : Int))), (8, (ptr b37)), (9, (i64 (putE SS x.name 0))), (10, (i64 (putE (chgS (holdF bw) RR x.name) x.name 0))), (40, (Value.bool true)), (59, (Value.bool false)), (66, (i64 x.kind)), (67, (Value.bool true)), (118, (Value.bool false)), (129, (Value.bool true)), (130, (ptr b10)), (132, (Value.string (str x.name))), (133, (Value.string (str bw)))] 15 ?_
           refine Ops.go (v := (Value.string (str (bw ++ [120])))) (by kernel_rfl) (Runs.stradd (t := 9) (a := bw) (b := [120]) (by kernel_rfl) (by simp only [List.length_cons, List.length_nil]; omega)) (d := (some 134)) (by kernel_rfl) rfl ?_
           refine Ops.call (by kernel_rfl) (d := (some 135)) (by kernel_rfl) (Hold_calls _ b10 mb11 m156 (putS (chgS (holdF bw) RR x.name) x.name 0) x.name (bw ++ [120]) H28 H159 (by omega) hB160) ?_
           rintro _ w206 ⟨m205, rfl, K207, H208, hB209⟩
           have hl210 := hB209.len
           have hho211 := hold_other (x := (bw ++ [120])) hB160.accs (beq_true_eq h203) (by have h := h199; simpa using h) (more_ne _).1 (more_ne _).2 (by rw [List.length_append]; simp only [List.length_cons, List.length_nil]; omega)
           rw [hho211.1]
           have hB212 := hB209
           rw [hho211.2] at hB212
           refine ⟨_, _, rfl, rfl, ?_⟩
           replace K25 := K25.trans K207 (U := none_) (fun i h1 h2 => h2) (fun i h1 h2 => by have h2 : i = mb11 := h2; exfalso; omega)
           replace H26 := H26.keep K207 (by intro h; change b1 = mb11 at h; omega)
           replace H152 := H152.keep K207 (by intro h; change mb2 = mb11 at h; omega)
           replace H28 := H28.keep K207 (by intro h; change b10 = mb11 at h; omega)
           replace H44 := H44.keep K207 (by intro h; change b37 = mb11 at h; omega)
           replace O170 := own_keep O170 K207 (fun i hi hs => by have hs : i = mb11 := hs; have := ob174 i hi; omega)
           replace O183 := own_keep O183 K207 (fun i hi hs => by have hs : i = mb11 := hs; have := ob187 i hi; omega)
           clear K207
           refine og 4 [(0, (Value.slice A l.length c)), (1, (Value.string (str bw))), (5, (ptr b1)), (6, (ptr b10)), (7, (i64 ((i : Nat) : Int))), (8, (ptr b37)), (9, (i64 (putE SS x.name 0))), (10, (i64 (putE (chgS (holdF bw) RR x.name) x.name 0))), (40, (Value.bool true)), (59, (Value.bool false)), (66, (i64 x.kind)), (67, (Value.bool true)), (118, (Value.bool false)), (129, (Value.bool true)), (137, (Value.bool false)), (138, (ptr b10)), (139, (Value.pointer (some ⟨b37, 1, none⟩)))] 21 ?_
           refine Ops.go (v := (Value.string (str x.name))) (by kernel_rfl) (Runs.load (t := 9) (a := ⟨b37, 1, none⟩) (by kernel_rfl) (H44.loads (by kernel_rfl))) (d := (some 140)) (by kernel_rfl) rfl ?_
           refine og 1 [(0, (Value.slice A l.length c)), (1, (Value.string (str bw))), (5, (ptr b1)), (6, (ptr b10)), (7, (i64 ((i : Nat) : Int))), (8, (ptr b37)), (9, (i64 (putE SS x.name 0))), (10, (i64 (putE (chgS (holdF bw) RR x.name) x.name 0))), (40, (Value.bool true)), (59, (Value.bool false)), (66, (i64 x.kind)), (67, (Value.bool true)), (118, (Value.bool false)), (129, (Value.bool true)), (137, (Value.bool false)), (138, (ptr b10)), (140, (Value.string (str x.name))), (141, (Value.string (str bw)))] 23 ?_
           refine Ops.go (v := (Value.string (str (bw ++ [120])))) (by kernel_rfl) (Runs.stradd (t := 9) (a := bw) (b := [120]) (by kernel_rfl) (by simp only [List.length_cons, List.length_nil]; omega)) (d := (some 142)) (by kernel_rfl) rfl ?_
           refine Ops.call (by kernel_rfl) (d := (some 143)) (by kernel_rfl) (Free_calls _ b10 mb11 m205 (putS (chgS (holdF bw) RR x.name) x.name 0) x.name (bw ++ [120]) H28 H208 (by omega) hB212) ?_
           rintro _ w214 ⟨m213, rfl, K215, H216, hB217⟩
           have hl218 := hB217.len
           have hho219 := free_other (x := (bw ++ [120])) hB212.accs (beq_true_eq h203) (by have h := h199; simpa using h) (more_ne _).1 
           rw [hho219.1]
           have hB220 := hB217
           rw [hho219.2] at hB220
           refine ⟨_, _, rfl, rfl, ?_⟩
           replace K25 := K25.trans K215 (U := none_) (fun i h1 h2 => h2) (fun i h1 h2 => by have h2 : i = mb11 := h2; exfalso; omega)
           replace H26 := H26.keep K215 (by intro h; change b1 = mb11 at h; omega)
           replace H152 := H152.keep K215 (by intro h; change mb2 = mb11 at h; omega)
           replace H28 := H28.keep K215 (by intro h; change b10 = mb11 at h; omega)
           replace H44 := H44.keep K215 (by intro h; change b37 = mb11 at h; omega)
           replace O170 := own_keep O170 K215 (fun i hi hs => by have hs : i = mb11 := hs; have := ob174 i hi; omega)
           replace O183 := own_keep O183 K215 (fun i hi hs => by have hs : i = mb11 := hs; have := ob187 i hi; omega)
           clear K215
           refine og 5 [(0, (Value.slice A l.length c)), (1, (Value.string (str bw))), (5, (ptr b1)), (6, (ptr b10)), (7, (i64 ((i : Nat) : Int))), (8, (ptr b37)), (9, (i64 (putE SS x.name 0))), (10, (i64 (putE (chgS (holdF bw) RR x.name) x.name 0))), (40, (Value.bool true)), (59, (Value.bool false)), (66, (i64 x.kind)), (67, (Value.bool true)), (118, (Value.bool false)), (129, (Value.bool true)), (146, (Value.bool false)), (147, (ptr b10)), (148, (Value.pointer (some ⟨b37, 1, none⟩)))] 30 ?_
           refine Ops.go (v := (Value.string (str x.name))) (by kernel_rfl) (Runs.load (t := 9) (a := ⟨b37, 1, none⟩) (by kernel_rfl) (H44.loads (by kernel_rfl))) (d := (some 149)) (by kernel_rfl) rfl ?_
           refine Ops.call (by kernel_rfl) (d := (some 150)) (by kernel_rfl) (By_calls _ b10 mb11 m213 (putS (chgS (holdF bw) RR x.name) x.name 0) x.name H28 H216 (by omega) hB220) ?_
           rintro _ w222 ⟨rfl, K221⟩
           refine ⟨_, _, rfl, rfl, ?_⟩
           replace K25 := K25.trans K221 (U := none_) (fun i h1 h2 => h2) (fun i h1 h2 => by exact h2)
           replace H26 := H26.keep K221 (fun h => h)
           replace H152 := H152.keep K221 (fun h => h)
           replace H28 := H28.keep K221 (fun h => h)
           replace H216 := H216.keep K221 (fun h => h)
           replace H44 := H44.keep K221 (fun h => h)
           replace O170 := own_keep0 O170 K221
           replace O183 := own_keep0 O183 K221
           clear K221
           refine og 1 [(0, (Value.slice A l.length c)), (1, (Value.string (str bw))), (5, (ptr b1)), (6, (ptr b10)), (7, (i64 ((i : Nat) : Int))), (8, (ptr b37)), (9, (i64 (putE SS x.name 0))), (10, (i64 (putE (chgS (holdF bw) RR x.name) x.name 0))), (40, (Value.bool true)), (59, (Value.bool false)), (66, (i64 x.kind)), (67, (Value.bool true)), (118, (Value.bool false)), (129, (Value.bool true)), (146, (Value.bool false)), (150, (Value.string (str (ownE (putS (chgS (holdF bw) RR x.name) x.name 0) x.name)))), (151, (Value.string (str bw)))] 33 ?_
           refine Ops.go (v := (Value.bool (!((ownE (putS (chgS (holdF bw) RR x.name) x.name 0) x.name) == bw)))) (by kernel_rfl) (Runs.strne (t := 9) (by kernel_rfl)) (d := (some 152)) (by kernel_rfl) rfl ?_
           refine og 2 [(0, (Value.slice A l.length c)), (1, (Value.string (str bw))), (5, (ptr b1)), (6, (ptr b10)), (7, (i64 ((i : Nat) : Int))), (8, (ptr b37)), (9, (i64 (putE SS x.name 0))), (10, (i64 (putE (chgS (holdF bw) RR x.name) x.name 0))), (40, (Value.bool true)), (59, (Value.bool false)), (66, (i64 x.kind)), (67, (Value.bool true)), (118, (Value.bool false)), (154, (Value.bool (!((ownE (putS (chgS (holdF bw) RR x.name) x.name 0) x.name) == bw))))] 36 ?_
           refine od ?_
           rw [h203]
           simp only [Bool.not_true]
           refine q_else (o := .tmp 154) (by kernel_rfl) rfl ?_
           refine q_skip (by kernel_rfl) ?_
           refine qg ?_
           refine og 2 [(0, (Value.slice A l.length c)), (1, (Value.string (str bw))), (5, (ptr b1)), (6, (ptr b10)), (7, (i64 ((i : Nat) : Int))), (8, (ptr b37)), (9, (i64 (putE SS x.name 0))), (10, (i64 (putE (chgS (holdF bw) RR x.name) x.name 0))), (40, (Value.bool true)), (42, (i64 (IntKind.i64.wrap (((i : Nat) : Int) + 1)))), (59, (Value.bool false)), (66, (i64 x.kind)), (67, (Value.bool true)), (118, (Value.bool false)), (154, (Value.bool false))] 2 ?_
           have e223 : IntKind.i64.wrap (((i : Nat) : Int) + 1) = ((i + 1 : Nat) : Int) := by rw [wrap_i64 (by omega) (by omega)]; omega
           rw [e223]
           clear e223
           refine og 1 [(0, (Value.slice A l.length c)), (1, (Value.string (str bw))), (5, (ptr b1)), (6, (ptr b10)), (7, (i64 ((i + 1 : Nat) : Int))), (8, (ptr b37)), (9, (i64 (putE SS x.name 0))), (10, (i64 (putE (chgS (holdF bw) RR x.name) x.name 0))), (40, (Value.bool true)), (59, (Value.bool false)), (66, (i64 x.kind)), (67, (Value.bool true)), (118, (Value.bool false)), (154, (Value.bool false))] 3 ?_
           refine Ops.keep (R := [(0, (Value.slice A l.length c)), (1, (Value.string (str bw))), (5, (ptr b1)), (6, (ptr b10)), (7, (i64 ((i + 1 : Nat) : Int)))]) (by kernel_rfl) ?_
           refine od ?_
           exact ⟨(i + 1, m149, putS SS x.name 0, m213, putS (chgS (holdF bw) RR x.name) x.name 0), ⟨rfl, (by omega), hB153, hB220, hre163, hno155, K25, H26, H152, H28, H216⟩, (show l.length - (i + 1) < l.length - i from by omega)⟩
          ·rw [h203]
           have p224 : ((ownE (putS (chgS (holdF bw) RR x.name) x.name 0) x.name) == bw) = false := h203
           refine og 25 [(0, (Value.slice A l.length c)), (1, (Value.string (str bw))), (5, (ptr b1)), (6, (ptr b10)), (7, (i64 ((i : Nat) : Int))), (8, (ptr b37)), (9, (i64 (putE SS x.name 0))), (10, (i64 (putE (chgS (holdF bw) RR x.name) x.name 0))), (40, (Value.bool true)), (59, (Value.bool false)), (66, (i64 x.kind)), (67, (Value.bool true)), (118, (Value.bool false)), (154, (Value.bool false))] 36 ?_
           refine od ?_
           refine q_else (o := .tmp 154) (by kernel_rfl) rfl ?_
           refine q_skip (by kernel_rfl) ?_
           refine qg ?_
           refine og 2 [(0, (Value.slice A l.length c)), (1, (Value.string (str bw))), (5, (ptr b1)), (6, (ptr b10)), (7, (i64 ((i : Nat) : Int))), (8, (ptr b37)), (9, (i64 (putE SS x.name 0))), (10, (i64 (putE (chgS (holdF bw) RR x.name) x.name 0))), (40, (Value.bool true)), (42, (i64 (IntKind.i64.wrap (((i : Nat) : Int) + 1)))), (59, (Value.bool false)), (66, (i64 x.kind)), (67, (Value.bool true)), (118, (Value.bool false)), (154, (Value.bool false))] 2 ?_
           have e225 : IntKind.i64.wrap (((i : Nat) : Int) + 1) = ((i + 1 : Nat) : Int) := by rw [wrap_i64 (by omega) (by omega)]; omega
           rw [e225]
           clear e225
           refine og 1 [(0, (Value.slice A l.length c)), (1, (Value.string (str bw))), (5, (ptr b1)), (6, (ptr b10)), (7, (i64 ((i + 1 : Nat) : Int))), (8, (ptr b37)), (9, (i64 (putE SS x.name 0))), (10, (i64 (putE (chgS (holdF bw) RR x.name) x.name 0))), (40, (Value.bool true)), (59, (Value.bool false)), (66, (i64 x.kind)), (67, (Value.bool true)), (118, (Value.bool false)), (154, (Value.bool false))] 3 ?_
           refine Ops.keep (R := [(0, (Value.slice A l.length c)), (1, (Value.string (str bw))), (5, (ptr b1)), (6, (ptr b10)), (7, (i64 ((i + 1 : Nat) : Int)))]) (by kernel_rfl) ?_
           refine od ?_
           exact ⟨(i + 1, m149, putS SS x.name 0, m156, putS (chgS (holdF bw) RR x.name) x.name 0), ⟨rfl, (by omega), hB153, hB160, hre163, hno155, K25, H26, H152, H28, H159⟩, (show l.length - (i + 1) < l.length - i from by omega)⟩
         ·rw [h199]
          have p226 : (bw == ([] : List UInt8)) = true := (bnot_false h199)
          refine og 33 [(0, (Value.slice A l.length c)), (1, (Value.string (str bw))), (5, (ptr b1)), (6, (ptr b10)), (7, (i64 ((i : Nat) : Int))), (8, (ptr b37)), (9, (i64 (putE SS x.name 0))), (10, (i64 (putE (chgS (holdF bw) RR x.name) x.name 0))), (40, (Value.bool true)), (59, (Value.bool false)), (66, (i64 x.kind)), (67, (Value.bool true)), (118, (Value.bool false)), (154, (Value.bool false))] 36 ?_
          refine od ?_
          refine q_else (o := .tmp 154) (by kernel_rfl) rfl ?_
          refine q_skip (by kernel_rfl) ?_
          refine qg ?_
          refine og 2 [(0, (Value.slice A l.length c)), (1, (Value.string (str bw))), (5, (ptr b1)), (6, (ptr b10)), (7, (i64 ((i : Nat) : Int))), (8, (ptr b37)), (9, (i64 (putE SS x.name 0))), (10, (i64 (putE (chgS (holdF bw) RR x.name) x.name 0))), (40, (Value.bool true)), (42, (i64 (IntKind.i64.wrap (((i : Nat) : Int) + 1)))), (59, (Value.bool false)), (66, (i64 x.kind)), (67, (Value.bool true)), (118, (Value.bool false)), (154, (Value.bool false))] 2 ?_
          have e227 : IntKind.i64.wrap (((i : Nat) : Int) + 1) = ((i + 1 : Nat) : Int) := by rw [wrap_i64 (by omega) (by omega)]; omega
          rw [e227]
          clear e227
          refine og 1 [(0, (Value.slice A l.length c)), (1, (Value.string (str bw))), (5, (ptr b1)), (6, (ptr b10)), (7, (i64 ((i + 1 : Nat) : Int))), (8, (ptr b37)), (9, (i64 (putE SS x.name 0))), (10, (i64 (putE (chgS (holdF bw) RR x.name) x.name 0))), (40, (Value.bool true)), (59, (Value.bool false)), (66, (i64 x.kind)), (67, (Value.bool true)), (118, (Value.bool false)), (154, (Value.bool false))] 3 ?_
          refine Ops.keep (R := [(0, (Value.slice A l.length c)), (1, (Value.string (str bw))), (5, (ptr b1)), (6, (ptr b10)), (7, (i64 ((i + 1 : Nat) : Int)))]) (by kernel_rfl) ?_
          refine od ?_
          exact ⟨(i + 1, m149, putS SS x.name 0, m156, putS (chgS (holdF bw) RR x.name) x.name 0), ⟨rfl, (by omega), hB153, hB160, hre163, hno155, K25, H26, H152, H28, H159⟩, (show l.length - (i + 1) < l.length - i from by omega)⟩
        ·rw [h147]
         have p228 : ¬ (x.kind = 1) := of_beq_f h147
         refine qs ?_
         refine qs ?_
         refine qg ?_
         refine og 2 [(0, (Value.slice A l.length c)), (1, (Value.string (str bw))), (5, (ptr b1)), (6, (ptr b10)), (7, (i64 ((i : Nat) : Int))), (8, (ptr b37)), (9, (i64 0)), (10, (i64 0)), (40, (Value.bool true)), (59, (Value.bool false)), (66, (i64 x.kind)), (67, (Value.bool false)), (78, (Value.bool (x.kind == 2)))] 2 ?_
         refine od ?_
         refine q_cond (o := .tmp 78) (b := (x.kind == 2)) (by kernel_rfl) rfl (fun h229 => ?_) (fun h229 => ?_)
         ·rw [h229]
          have p230 : x.kind = 2 := of_beq_t h229
          refine q_skip (by kernel_rfl) ?_
          refine q_then (o := .tmp 78) (by kernel_rfl) rfl ?_
          refine qs ?_
          refine qg ?_
          refine og 2 [(0, (Value.slice A l.length c)), (1, (Value.string (str bw))), (5, (ptr b1)), (6, (ptr b10)), (7, (i64 ((i : Nat) : Int))), (8, (ptr b37)), (9, (i64 0)), (10, (i64 0)), (40, (Value.bool true)), (59, (Value.bool false)), (66, (i64 x.kind)), (67, (Value.bool false)), (78, (Value.bool true)), (81, (ptr b1)), (82, (Value.pointer (some ⟨b37, 1, none⟩)))] 2 ?_
          refine Ops.go (v := (Value.string (str x.name))) (by kernel_rfl) (Runs.load (t := 9) (a := ⟨b37, 1, none⟩) (by kernel_rfl) (H44.loads (by kernel_rfl))) (d := (some 83)) (by kernel_rfl) rfl ?_
          refine og 1 [(0, (Value.slice A l.length c)), (1, (Value.string (str bw))), (5, (ptr b1)), (6, (ptr b10)), (7, (i64 ((i : Nat) : Int))), (8, (ptr b37)), (9, (i64 0)), (10, (i64 0)), (40, (Value.bool true)), (59, (Value.bool false)), (66, (i64 x.kind)), (67, (Value.bool false)), (78, (Value.bool true)), (81, (ptr b1)), (83, (Value.string (str x.name))), (84, (Value.pointer (some ⟨b37, 3, none⟩)))] 4 ?_
          refine Ops.go (v := (i64 x.n)) (by kernel_rfl) (Runs.load (t := 2) (a := ⟨b37, 3, none⟩) (by kernel_rfl) (H44.loads (by kernel_rfl))) (d := (some 85)) (by kernel_rfl) rfl ?_
          refine Ops.call (by kernel_rfl) (d := (some 86)) (by kernel_rfl) (Add_calls _ b1 mb2 mm SS x.name x.n H26 H27 (by omega) hBm (by omega)) ?_
          rintro _ w232 ⟨m231, rfl, K233, H234, hB235⟩
          have hl236 := hB235.len
          have hno237 := hNO.chg (add_own x.n) x.name
          refine ⟨_, _, rfl, rfl, ?_⟩
          replace K25 := K25.trans K233 (U := none_) (fun i h1 h2 => h2) (fun i h1 h2 => by have h2 : i = mb2 := h2; exfalso; omega)
          replace H26 := H26.keep K233 (by intro h; change b1 = mb2 at h; omega)
          replace H28 := H28.keep K233 (by intro h; change b10 = mb2 at h; omega)
          replace H61 := H61.keep K233 (by intro h; change mb11 = mb2 at h; omega)
          replace H44 := H44.keep K233 (by intro h; change b37 = mb2 at h; omega)
          clear K233
          refine og 1 [(0, (Value.slice A l.length c)), (1, (Value.string (str bw))), (5, (ptr b1)), (6, (ptr b10)), (7, (i64 ((i : Nat) : Int))), (8, (ptr b37)), (9, (i64 (chgE (addF x.n) SS x.name))), (10, (i64 0)), (40, (Value.bool true)), (59, (Value.bool false)), (66, (i64 x.kind)), (67, (Value.bool false)), (78, (Value.bool true))] 7 ?_
          refine od ?_
          refine qg ?_
          refine og 2 [(0, (Value.slice A l.length c)), (1, (Value.string (str bw))), (5, (ptr b1)), (6, (ptr b10)), (7, (i64 ((i : Nat) : Int))), (8, (ptr b37)), (9, (i64 (chgE (addF x.n) SS x.name))), (10, (i64 0)), (40, (Value.bool true)), (59, (Value.bool false)), (66, (i64 x.kind)), (67, (Value.bool false)), (78, (Value.bool true)), (87, (ptr b10)), (88, (Value.pointer (some ⟨b37, 1, none⟩)))] 2 ?_
          refine Ops.go (v := (Value.string (str x.name))) (by kernel_rfl) (Runs.load (t := 9) (a := ⟨b37, 1, none⟩) (by kernel_rfl) (H44.loads (by kernel_rfl))) (d := (some 89)) (by kernel_rfl) rfl ?_
          refine og 1 [(0, (Value.slice A l.length c)), (1, (Value.string (str bw))), (5, (ptr b1)), (6, (ptr b10)), (7, (i64 ((i : Nat) : Int))), (8, (ptr b37)), (9, (i64 (chgE (addF x.n) SS x.name))), (10, (i64 0)), (40, (Value.bool true)), (59, (Value.bool false)), (66, (i64 x.kind)), (67, (Value.bool false)), (78, (Value.bool true)), (87, (ptr b10)), (89, (Value.string (str x.name))), (90, (Value.pointer (some ⟨b37, 3, none⟩)))] 4 ?_
          refine Ops.go (v := (i64 x.n)) (by kernel_rfl) (Runs.load (t := 2) (a := ⟨b37, 3, none⟩) (by kernel_rfl) (H44.loads (by kernel_rfl))) (d := (some 91)) (by kernel_rfl) rfl ?_
          refine Ops.call (by kernel_rfl) (d := (some 92)) (by kernel_rfl) (Add_calls _ b10 mb11 m58 (chgS (holdF bw) RR x.name) x.name x.n H28 H61 (by omega) hB62 (by omega)) ?_
          rintro _ w239 ⟨m238, rfl, K240, H241, hB242⟩
          have hl243 := hB242.len
          have hee244 := hre64.chgE (blind_add x.n) x.name
          have hre245 := hre64.chgS (blind_add x.n) x.name
          refine ⟨_, _, rfl, rfl, ?_⟩
          replace K25 := K25.trans K240 (U := none_) (fun i h1 h2 => h2) (fun i h1 h2 => by have h2 : i = mb11 := h2; exfalso; omega)
          replace H26 := H26.keep K240 (by intro h; change b1 = mb11 at h; omega)
          replace H234 := H234.keep K240 (by intro h; change mb2 = mb11 at h; omega)
          replace H28 := H28.keep K240 (by intro h; change b10 = mb11 at h; omega)
          replace H44 := H44.keep K240 (by intro h; change b37 = mb11 at h; omega)
          clear K240
          refine og 1 [(0, (Value.slice A l.length c)), (1, (Value.string (str bw))), (5, (ptr b1)), (6, (ptr b10)), (7, (i64 ((i : Nat) : Int))), (8, (ptr b37)), (9, (i64 (chgE (addF x.n) SS x.name))), (10, (i64 (chgE (addF x.n) (chgS (holdF bw) RR x.name) x.name))), (40, (Value.bool true)), (59, (Value.bool false)), (66, (i64 x.kind)), (67, (Value.bool false)), (78, (Value.bool true))] 7 ?_
          refine od ?_
          refine qs ?_
          refine qs ?_
          refine qg ?_
          refine og 4 [(0, (Value.slice A l.length c)), (1, (Value.string (str bw))), (5, (ptr b1)), (6, (ptr b10)), (7, (i64 ((i : Nat) : Int))), (8, (ptr b37)), (9, (i64 (chgE (addF x.n) SS x.name))), (10, (i64 (chgE (addF x.n) (chgS (holdF bw) RR x.name) x.name))), (40, (Value.bool true)), (59, (Value.bool false)), (66, (i64 x.kind)), (67, (Value.bool false)), (78, (Value.bool true)), (111, (Value.bool ((chgE (addF x.n) SS x.name) != (chgE (addF x.n) (chgS (holdF bw) RR x.name) x.name))))] 4 ?_
          have h246 : ((chgE (addF x.n) SS x.name) != (chgE (addF x.n) (chgS (holdF bw) RR x.name) x.name)) = false := bne_f hee244
          rw [h246]
          refine og 1 [(0, (Value.slice A l.length c)), (1, (Value.string (str bw))), (5, (ptr b1)), (6, (ptr b10)), (7, (i64 ((i : Nat) : Int))), (8, (ptr b37)), (9, (i64 (chgE (addF x.n) SS x.name))), (10, (i64 (chgE (addF x.n) (chgS (holdF bw) RR x.name) x.name))), (40, (Value.bool true)), (59, (Value.bool false)), (66, (i64 x.kind)), (67, (Value.bool false)), (78, (Value.bool true)), (111, (Value.bool false)), (112, (ptr b1))] 5 ?_
          refine Ops.call (by kernel_rfl) (d := (some 113)) (by kernel_rfl) (Rows_calls _ b1 mb2 m231 (chgS (addF x.n) SS x.name) (-1) H26 H234 (by omega) hB235) ?_
          rintro _ w249 ⟨A247, c248, rfl, K250, hO251⟩
          have ob253 : ∀ i, ((Value.slice A247 ((rowsS (chgS (addF x.n) SS x.name) (-1)).length) c248)).ownBlock = some i → i ≠ b1 := fun i hi => by have := (World.ownsRow.lt hO251 i hi).1; have := H26.lt; omega
          have ob254 : ∀ i, ((Value.slice A247 ((rowsS (chgS (addF x.n) SS x.name) (-1)).length) c248)).ownBlock = some i → i ≠ mb2 := fun i hi => by have := (World.ownsRow.lt hO251 i hi).1; have := H234.lt; omega
          have ob255 : ∀ i, ((Value.slice A247 ((rowsS (chgS (addF x.n) SS x.name) (-1)).length) c248)).ownBlock = some i → i ≠ b10 := fun i hi => by have := (World.ownsRow.lt hO251 i hi).1; have := H28.lt; omega
          have ob256 : ∀ i, ((Value.slice A247 ((rowsS (chgS (addF x.n) SS x.name) (-1)).length) c248)).ownBlock = some i → i ≠ mb11 := fun i hi => by have := (World.ownsRow.lt hO251 i hi).1; have := H241.lt; omega
          have ob257 : ∀ i, ((Value.slice A247 ((rowsS (chgS (addF x.n) SS x.name) (-1)).length) c248)).ownBlock = some i → i ≠ b37 := fun i hi => by have := (World.ownsRow.lt hO251 i hi).1; have := H44.lt; omega
          have O252 := own_base hO251 K25.size
          clear hO251
          have hl258 := rowsS_len (chgS (addF x.n) SS x.name) (-1)
          have hl259 := hB235.accs.len
          refine ⟨_, _, rfl, rfl, ?_⟩
          replace K25 := K25.trans K250 (U := none_) (fun i h1 h2 => h2) (fun i h1 h2 => by exact h2)
          replace H26 := H26.keep K250 (fun h => h)
          replace H234 := H234.keep K250 (fun h => h)
          replace H28 := H28.keep K250 (fun h => h)
          replace H241 := H241.keep K250 (fun h => h)
          replace H44 := H44.keep K250 (fun h => h)
          clear K250
          refine og 1 [(0, (Value.slice A l.length c)), (1, (Value.string (str bw))), (5, (ptr b1)), (6, (ptr b10)), (7, (i64 ((i : Nat) : Int))), (8, (ptr b37)), (9, (i64 (chgE (addF x.n) SS x.name))), (10, (i64 (chgE (addF x.n) (chgS (holdF bw) RR x.name) x.name))), (40, (Value.bool true)), (59, (Value.bool false)), (66, (i64 x.kind)), (67, (Value.bool false)), (78, (Value.bool true)), (111, (Value.bool false)), (113, (Value.slice A247 ((rowsS (chgS (addF x.n) SS x.name) (-1)).length) c248)), (114, (ptr b10))] 7 ?_
          refine Ops.call (by kernel_rfl) (d := (some 115)) (by kernel_rfl) (Rows_calls _ b10 mb11 m238 (chgS (addF x.n) (chgS (holdF bw) RR x.name) x.name) (-1) H28 H241 (by omega) hB242) ?_
          rintro _ w262 ⟨A260, c261, rfl, K263, hO264⟩
          have ob266 : ∀ i, ((Value.slice A260 ((rowsS (chgS (addF x.n) (chgS (holdF bw) RR x.name) x.name) (-1)).length) c261)).ownBlock = some i → i ≠ b1 := fun i hi => by have := (World.ownsRow.lt hO264 i hi).1; have := H26.lt; omega
          have ob267 : ∀ i, ((Value.slice A260 ((rowsS (chgS (addF x.n) (chgS (holdF bw) RR x.name) x.name) (-1)).length) c261)).ownBlock = some i → i ≠ mb2 := fun i hi => by have := (World.ownsRow.lt hO264 i hi).1; have := H234.lt; omega
          have ob268 : ∀ i, ((Value.slice A260 ((rowsS (chgS (addF x.n) (chgS (holdF bw) RR x.name) x.name) (-1)).length) c261)).ownBlock = some i → i ≠ b10 := fun i hi => by have := (World.ownsRow.lt hO264 i hi).1; have := H28.lt; omega
          have ob269 : ∀ i, ((Value.slice A260 ((rowsS (chgS (addF x.n) (chgS (holdF bw) RR x.name) x.name) (-1)).length) c261)).ownBlock = some i → i ≠ mb11 := fun i hi => by have := (World.ownsRow.lt hO264 i hi).1; have := H241.lt; omega
          have ob270 : ∀ i, ((Value.slice A260 ((rowsS (chgS (addF x.n) (chgS (holdF bw) RR x.name) x.name) (-1)).length) c261)).ownBlock = some i → i ≠ b37 := fun i hi => by have := (World.ownsRow.lt hO264 i hi).1; have := H44.lt; omega
          have oo271 : ∀ i, ((Value.slice A247 ((rowsS (chgS (addF x.n) SS x.name) (-1)).length) c248)).ownBlock = some i → ((Value.slice A260 ((rowsS (chgS (addF x.n) (chgS (holdF bw) RR x.name) x.name) (-1)).length) c261)).ownBlock = some i → False := fun i hi hs => by have := (World.ownsRow.lt hO264 i hs).1; have := (World.ownsRow.lt O252 i hi).2; omega
          have oo272 : ∀ i, ((Value.slice A260 ((rowsS (chgS (addF x.n) (chgS (holdF bw) RR x.name) x.name) (-1)).length) c261)).ownBlock = some i → ((Value.slice A247 ((rowsS (chgS (addF x.n) SS x.name) (-1)).length) c248)).ownBlock = some i → False := fun i hi hs => oo271 i hs hi
          have O265 := own_base hO264 K25.size
          clear hO264
          have hl273 := rowsS_len (chgS (addF x.n) (chgS (holdF bw) RR x.name) x.name) (-1)
          have hl274 := hB242.accs.len
          refine ⟨_, _, rfl, rfl, ?_⟩
          replace K25 := K25.trans K263 (U := none_) (fun i h1 h2 => h2) (fun i h1 h2 => by exact h2)
          replace H26 := H26.keep K263 (fun h => h)
          replace H234 := H234.keep K263 (fun h => h)
          replace H28 := H28.keep K263 (fun h => h)
          replace H241 := H241.keep K263 (fun h => h)
          replace H44 := H44.keep K263 (fun h => h)
          replace O252 := own_keep0 O252 K263
          clear K263
          refine Ops.call (by kernel_rfl) (d := (some 116)) (by kernel_rfl) (SameRows_calls _ A247 c248 (rowsS (chgS (addF x.n) SS x.name) (-1)) A260 c261 (rowsS (chgS (addF x.n) (chgS (holdF bw) RR x.name) x.name) (-1)) (OwnT.rd O252) (OwnT.rd O265)) ?_
          rintro _ w278 ⟨t275, rfl, ht276, K277⟩
          have hsr279 := ht276.2 hre245.all
          refine ⟨_, _, rfl, rfl, ?_⟩
          replace K25 := K25.trans K277 (U := none_) (fun i h1 h2 => h2) (fun i h1 h2 => by exact h2)
          replace H26 := H26.keep K277 (fun h => h)
          replace H234 := H234.keep K277 (fun h => h)
          replace H28 := H28.keep K277 (fun h => h)
          replace H241 := H241.keep K277 (fun h => h)
          replace H44 := H44.keep K277 (fun h => h)
          replace O252 := own_keep0 O252 K277
          replace O265 := own_keep0 O265 K277
          clear K277
          refine og 2 [(0, (Value.slice A l.length c)), (1, (Value.string (str bw))), (5, (ptr b1)), (6, (ptr b10)), (7, (i64 ((i : Nat) : Int))), (8, (ptr b37)), (9, (i64 (chgE (addF x.n) SS x.name))), (10, (i64 (chgE (addF x.n) (chgS (holdF bw) RR x.name) x.name))), (40, (Value.bool true)), (59, (Value.bool false)), (66, (i64 x.kind)), (67, (Value.bool false)), (78, (Value.bool true)), (118, (Value.bool (!t275)))] 11 ?_
          refine od ?_
          have h280 : (!t275) = false := by rw [show t275 = true from hsr279]; rfl
          rw [h280]
          refine q_else (o := .tmp 118) (by kernel_rfl) rfl ?_
          refine q_skip (by kernel_rfl) ?_
          refine qs ?_
          refine qg ?_
          refine og 1 [(0, (Value.slice A l.length c)), (1, (Value.string (str bw))), (5, (ptr b1)), (6, (ptr b10)), (7, (i64 ((i : Nat) : Int))), (8, (ptr b37)), (9, (i64 (chgE (addF x.n) SS x.name))), (10, (i64 (chgE (addF x.n) (chgS (holdF bw) RR x.name) x.name))), (40, (Value.bool true)), (59, (Value.bool false)), (66, (i64 x.kind)), (67, (Value.bool false)), (78, (Value.bool true)), (118, (Value.bool false)), (119, (Value.string (str bw)))] 1 ?_
          refine Ops.go (v := (Value.bool (!(bw == ([] : List UInt8))))) (by kernel_rfl) (Runs.strne (t := 9) (by kernel_rfl)) (d := (some 120)) (by kernel_rfl) rfl ?_
          refine og 1 [(0, (Value.slice A l.length c)), (1, (Value.string (str bw))), (5, (ptr b1)), (6, (ptr b10)), (7, (i64 ((i : Nat) : Int))), (8, (ptr b37)), (9, (i64 (chgE (addF x.n) SS x.name))), (10, (i64 (chgE (addF x.n) (chgS (holdF bw) RR x.name) x.name))), (40, (Value.bool true)), (59, (Value.bool false)), (66, (i64 x.kind)), (67, (Value.bool false)), (78, (Value.bool true)), (118, (Value.bool false)), (121, (Value.bool (!(bw == ([] : List UInt8)))))] 3 ?_
          refine Ops.split (!(bw == ([] : List UInt8))) (fun h281 => ?_) (fun h281 => ?_)
          ·rw [h281]
           have p282 : (bw == ([] : List UInt8)) = false := (bnot_true h281)
           refine og 2 [(0, (Value.slice A l.length c)), (1, (Value.string (str bw))), (5, (ptr b1)), (6, (ptr b10)), (7, (i64 ((i : Nat) : Int))), (8, (ptr b37)), (9, (i64 (chgE (addF x.n) SS x.name))), (10, (i64 (chgE (addF x.n) (chgS (holdF bw) RR x.name) x.name))), (40, (Value.bool true)), (59, (Value.bool false)), (66, (i64 x.kind)), (67, (Value.bool false)), (78, (Value.bool true)), (118, (Value.bool false)), (121, (Value.bool true)), (122, (ptr b10)), (123, (Value.pointer (some ⟨b37, 1, none⟩)))] 5 ?_
           refine Ops.go (v := (Value.string (str x.name))) (by kernel_rfl) (Runs.load (t := 9) (a := ⟨b37, 1, none⟩) (by kernel_rfl) (H44.loads (by kernel_rfl))) (d := (some 124)) (by kernel_rfl) rfl ?_
           refine Ops.call (by kernel_rfl) (d := (some 125)) (by kernel_rfl) (By_calls _ b10 mb11 m238 (chgS (addF x.n) (chgS (holdF bw) RR x.name) x.name) x.name H28 H241 (by omega) hB242) ?_
           rintro _ w284 ⟨rfl, K283⟩
           refine ⟨_, _, rfl, rfl, ?_⟩
           replace K25 := K25.trans K283 (U := none_) (fun i h1 h2 => h2) (fun i h1 h2 => by exact h2)
           replace H26 := H26.keep K283 (fun h => h)
           replace H234 := H234.keep K283 (fun h => h)
           replace H28 := H28.keep K283 (fun h => h)
           replace H241 := H241.keep K283 (fun h => h)
           replace H44 := H44.keep K283 (fun h => h)
           replace O252 := own_keep0 O252 K283
           replace O265 := own_keep0 O265 K283
           clear K283
           refine og 1 [(0, (Value.slice A l.length c)), (1, (Value.string (str bw))), (5, (ptr b1)), (6, (ptr b10)), (7, (i64 ((i : Nat) : Int))), (8, (ptr b37)), (9, (i64 (chgE (addF x.n) SS x.name))), (10, (i64 (chgE (addF x.n) (chgS (holdF bw) RR x.name) x.name))), (40, (Value.bool true)), (59, (Value.bool false)), (66, (i64 x.kind)), (67, (Value.bool false)), (78, (Value.bool true)), (118, (Value.bool false)), (121, (Value.bool true)), (125, (Value.string (str (ownE (chgS (addF x.n) (chgS (holdF bw) RR x.name) x.name) x.name)))), (126, (Value.string (str bw)))] 8 ?_
           refine Ops.go (v := (Value.bool ((ownE (chgS (addF x.n) (chgS (holdF bw) RR x.name) x.name) x.name) == bw))) (by kernel_rfl) (Runs.streq (t := 9) (by kernel_rfl)) (d := (some 127)) (by kernel_rfl) rfl ?_
           refine og 2 [(0, (Value.slice A l.length c)), (1, (Value.string (str bw))), (5, (ptr b1)), (6, (ptr b10)), (7, (i64 ((i : Nat) : Int))), (8, (ptr b37)), (9, (i64 (chgE (addF x.n) SS x.name))), (10, (i64 (chgE (addF x.n) (chgS (holdF bw) RR x.name) x.name))), (40, (Value.bool true)), (59, (Value.bool false)), (66, (i64 x.kind)), (67, (Value.bool false)), (78, (Value.bool true)), (118, (Value.bool false)), (129, (Value.bool ((ownE (chgS (addF x.n) (chgS (holdF bw) RR x.name) x.name) x.name) == bw)))] 11 ?_
           refine Ops.split ((ownE (chgS (addF x.n) (chgS (holdF bw) RR x.name) x.name) x.name) == bw) (fun h285 => ?_) (fun h285 => ?_)
           ·rw [h285]
            have p286 : ((ownE (chgS (addF x.n) (chgS (holdF bw) RR x.name) x.name) x.name) == bw) = true := h285
            refine og 2 [(0, (Value.slice A l.length c)), (1, (Value.string (str bw))), (5, (ptr b1)), (6, (ptr b10)), (7, (i64 ((i : Nat) : Int))), (8, (ptr b37)), (9, (i64 (chgE (addF x.n) SS x.name))), (10, (i64 (chgE (addF x.n) (chgS (holdF bw) RR x.name) x.name))), (40, (Value.bool true)), (59, (Value.bool false)), (66, (i64 x.kind)), (67, (Value.bool false)), (78, (Value.bool true)), (118, (Value.bool false)), (129, (Value.bool true)), (130, (ptr b10)), (131, (Value.pointer (some ⟨b37, 1, none⟩)))] 13 ?_
            refine Ops.go (v := (Value.string (str x.name))) (by kernel_rfl) (Runs.load (t := 9) (a := ⟨b37, 1, none⟩) (by kernel_rfl) (H44.loads (by kernel_rfl))) (d := (some 132)) (by kernel_rfl) rfl ?_
            refine og 1 [(0, (Value.slice A l.length c)), (1, (Value.string (str bw))), (5, (ptr b1)), (6, (ptr b10)), (7, (i64 ((i : Nat) : Int))), (8, (ptr b37)), (9, (i64 (chgE (addF x.n) SS x.name))), (10, (i64 (chgE (addF x.n) (chgS (holdF bw) RR x.name) x.name))), (40, (Value.bool true)), (59, (Value.bool false)), (66, (i64 x.kind)), (67, (Value.bool false)), (78, (Value.bool true)), (118, (Value.bool false)), (129, (Value.bool true)), (130, (ptr b10)), (132, (Value.string (str x.name))), (133, (Value.string (str bw)))] 15 ?_
            refine Ops.go (v := (Value.string (str (bw ++ [120])))) (by kernel_rfl) (Runs.stradd (t := 9) (a := bw) (b := [120]) (by kernel_rfl) (by simp only [List.length_cons, List.length_nil]; omega)) (d := (some 134)) (by kernel_rfl) rfl ?_
            refine Ops.call (by kernel_rfl) (d := (some 135)) (by kernel_rfl) (Hold_calls _ b10 mb11 m238 (chgS (addF x.n) (chgS (holdF bw) RR x.name) x.name) x.name (bw ++ [120]) H28 H241 (by omega) hB242) ?_
            rintro _ w288 ⟨m287, rfl, K289, H290, hB291⟩
            have hl292 := hB291.len
            have hho293 := hold_other (x := (bw ++ [120])) hB242.accs (beq_true_eq h285) (by have h := h281; simpa using h) (more_ne _).1 (more_ne _).2 (by rw [List.length_append]; simp only [List.length_cons, List.length_nil]; omega)
            rw [hho293.1]
            have hB294 := hB291
            rw [hho293.2] at hB294
            refine ⟨_, _, rfl, rfl, ?_⟩
            replace K25 := K25.trans K289 (U := none_) (fun i h1 h2 => h2) (fun i h1 h2 => by have h2 : i = mb11 := h2; exfalso; omega)
            replace H26 := H26.keep K289 (by intro h; change b1 = mb11 at h; omega)
            replace H234 := H234.keep K289 (by intro h; change mb2 = mb11 at h; omega)
            replace H28 := H28.keep K289 (by intro h; change b10 = mb11 at h; omega)
            replace H44 := H44.keep K289 (by intro h; change b37 = mb11 at h; omega)
            replace O252 := own_keep O252 K289 (fun i hi hs => by have hs : i = mb11 := hs; have := ob256 i hi; omega)
            replace O265 := own_keep O265 K289 (fun i hi hs => by have hs : i = mb11 := hs; have := ob269 i hi; omega)
            clear K289
            refine og 4 [(0, (Value.slice A l.length c)), (1, (Value.string (str bw))), (5, (ptr b1)), (6, (ptr b10)), (7, (i64 ((i : Nat) : Int))), (8, (ptr b37)), (9, (i64 (chgE (addF x.n) SS x.name))), (10, (i64 (chgE (addF x.n) (chgS (holdF bw) RR x.name) x.name))), (40, (Value.bool true)), (59, (Value.bool false)), (66, (i64 x.kind)), (67, (Value.bool false)), (78, (Value.bool true)), (118, (Value.bool false)), (129, (Value.bool true)), (137, (Value.bool false)), (138, (ptr b10)), (139, (Value.pointer (some ⟨b37, 1, none⟩)))] 21 ?_
            refine Ops.go (v := (Value.string (str x.name))) (by kernel_rfl) (Runs.load (t := 9) (a := ⟨b37, 1, none⟩) (by kernel_rfl) (H44.loads (by kernel_rfl))) (d := (some 140)) (by kernel_rfl) rfl ?_
            refine og 1 [(0, (Value.slice A l.length c)), (1, (Value.string (str bw))), (5, (ptr b1)), (6, (ptr b10)), (7, (i64 ((i : Nat) : Int))), (8, (ptr b37)), (9, (i64 (chgE (addF x.n) SS x.name))), (10, (i64 (chgE (addF x.n) (chgS (holdF bw) RR x.name) x.name))), (40, (Value.bool true)), (59, (Value.bool false)), (66, (i64 x.kind)), (67, (Value.bool false)), (78, (Value.bool true)), (118, (Value.bool false)), (129, (Value.bool true)), (137, (Value.bool false)), (138, (ptr b10)), (140, (Value.string (str x.name))), (141, (Value.string (str bw)))] 23 ?_
            refine Ops.go (v := (Value.string (str (bw ++ [120])))) (by kernel_rfl) (Runs.stradd (t := 9) (a := bw) (b := [120]) (by kernel_rfl) (by simp only [List.length_cons, List.length_nil]; omega)) (d := (some 142)) (by kernel_rfl) rfl ?_
            refine Ops.call (by kernel_rfl) (d := (some 143)) (by kernel_rfl) (Free_calls _ b10 mb11 m287 (chgS (addF x.n) (chgS (holdF bw) RR x.name) x.name) x.name (bw ++ [120]) H28 H290 (by omega) hB294) ?_
            rintro _ w296 ⟨m295, rfl, K297, H298, hB299⟩
            have hl300 := hB299.len
            have hho301 := free_other (x := (bw ++ [120])) hB294.accs (beq_true_eq h285) (by have h := h281; simpa using h) (more_ne _).1 
            rw [hho301.1]
            have hB302 := hB299
            rw [hho301.2] at hB302
            refine ⟨_, _, rfl, rfl, ?_⟩
            replace K25 := K25.trans K297 (U := none_) (fun i h1 h2 => h2) (fun i h1 h2 => by have h2 : i = mb11 := h2; exfalso; omega)
            replace H26 := H26.keep K297 (by intro h; change b1 = mb11 at h; omega)
            replace H234 := H234.keep K297 (by intro h; change mb2 = mb11 at h; omega)
            replace H28 := H28.keep K297 (by intro h; change b10 = mb11 at h; omega)
            replace H44 := H44.keep K297 (by intro h; change b37 = mb11 at h; omega)
            replace O252 := own_keep O252 K297 (fun i hi hs => by have hs : i = mb11 := hs; have := ob256 i hi; omega)
            replace O265 := own_keep O265 K297 (fun i hi hs => by have hs : i = mb11 := hs; have := ob269 i hi; omega)
            clear K297
            refine og 5 [(0, (Value.slice A l.length c)), (1, (Value.string (str bw))), (5, (ptr b1)), (6, (ptr b10)), (7, (i64 ((i : Nat) : Int))), (8, (ptr b37)), (9, (i64 (chgE (addF x.n) SS x.name))), (10, (i64 (chgE (addF x.n) (chgS (holdF bw) RR x.name) x.name))), (40, (Value.bool true)), (59, (Value.bool false)), (66, (i64 x.kind)), (67, (Value.bool false)), (78, (Value.bool true)), (118, (Value.bool false)), (129, (Value.bool true)), (146, (Value.bool false)), (147, (ptr b10)), (148, (Value.pointer (some ⟨b37, 1, none⟩)))] 30 ?_
            refine Ops.go (v := (Value.string (str x.name))) (by kernel_rfl) (Runs.load (t := 9) (a := ⟨b37, 1, none⟩) (by kernel_rfl) (H44.loads (by kernel_rfl))) (d := (some 149)) (by kernel_rfl) rfl ?_
            refine Ops.call (by kernel_rfl) (d := (some 150)) (by kernel_rfl) (By_calls _ b10 mb11 m295 (chgS (addF x.n) (chgS (holdF bw) RR x.name) x.name) x.name H28 H298 (by omega) hB302) ?_
            rintro _ w304 ⟨rfl, K303⟩
            refine ⟨_, _, rfl, rfl, ?_⟩
            replace K25 := K25.trans K303 (U := none_) (fun i h1 h2 => h2) (fun i h1 h2 => by exact h2)
            replace H26 := H26.keep K303 (fun h => h)
            replace H234 := H234.keep K303 (fun h => h)
            replace H28 := H28.keep K303 (fun h => h)
            replace H298 := H298.keep K303 (fun h => h)
            replace H44 := H44.keep K303 (fun h => h)
            replace O252 := own_keep0 O252 K303
            replace O265 := own_keep0 O265 K303
            clear K303
            refine og 1 [(0, (Value.slice A l.length c)), (1, (Value.string (str bw))), (5, (ptr b1)), (6, (ptr b10)), (7, (i64 ((i : Nat) : Int))), (8, (ptr b37)), (9, (i64 (chgE (addF x.n) SS x.name))), (10, (i64 (chgE (addF x.n) (chgS (holdF bw) RR x.name) x.name))), (40, (Value.bool true)), (59, (Value.bool false)), (66, (i64 x.kind)), (67, (Value.bool false)), (78, (Value.bool true)), (118, (Value.bool false)), (129, (Value.bool true)), (146, (Value.bool false)), (150, (Value.string (str (ownE (chgS (addF x.n) (chgS (holdF bw) RR x.name) x.name) x.name)))), (151, (Value.string (str bw)))] 33 ?_
            refine Ops.go (v := (Value.bool (!((ownE (chgS (addF x.n) (chgS (holdF bw) RR x.name) x.name) x.name) == bw)))) (by kernel_rfl) (Runs.strne (t := 9) (by kernel_rfl)) (d := (some 152)) (by kernel_rfl) rfl ?_
            refine og 2 [(0, (Value.slice A l.length c)), (1, (Value.string (str bw))), (5, (ptr b1)), (6, (ptr b10)), (7, (i64 ((i : Nat) : Int))), (8, (ptr b37)), (9, (i64 (chgE (addF x.n) SS x.name))), (10, (i64 (chgE (addF x.n) (chgS (holdF bw) RR x.name) x.name))), (40, (Value.bool true)), (59, (Value.bool false)), (66, (i64 x.kind)), (67, (Value.bool false)), (78, (Value.bool true)), (118, (Value.bool false)), (154, (Value.bool (!((ownE (chgS (addF x.n) (chgS (holdF bw) RR x.name) x.name) x.name) == bw))))] 36 ?_
            refine od ?_
            rw [h285]
            simp only [Bool.not_true]
            refine q_else (o := .tmp 154) (by kernel_rfl) rfl ?_
            refine q_skip (by kernel_rfl) ?_
            refine qg ?_
            refine og 2 [(0, (Value.slice A l.length c)), (1, (Value.string (str bw))), (5, (ptr b1)), (6, (ptr b10)), (7, (i64 ((i : Nat) : Int))), (8, (ptr b37)), (9, (i64 (chgE (addF x.n) SS x.name))), (10, (i64 (chgE (addF x.n) (chgS (holdF bw) RR x.name) x.name))), (40, (Value.bool true)), (42, (i64 (IntKind.i64.wrap (((i : Nat) : Int) + 1)))), (59, (Value.bool false)), (66, (i64 x.kind)), (67, (Value.bool false)), (78, (Value.bool true)), (118, (Value.bool false)), (154, (Value.bool false))] 2 ?_
            have e305 : IntKind.i64.wrap (((i : Nat) : Int) + 1) = ((i + 1 : Nat) : Int) := by rw [wrap_i64 (by omega) (by omega)]; omega
            rw [e305]
            clear e305
            refine og 1 [(0, (Value.slice A l.length c)), (1, (Value.string (str bw))), (5, (ptr b1)), (6, (ptr b10)), (7, (i64 ((i + 1 : Nat) : Int))), (8, (ptr b37)), (9, (i64 (chgE (addF x.n) SS x.name))), (10, (i64 (chgE (addF x.n) (chgS (holdF bw) RR x.name) x.name))), (40, (Value.bool true)), (59, (Value.bool false)), (66, (i64 x.kind)), (67, (Value.bool false)), (78, (Value.bool true)), (118, (Value.bool false)), (154, (Value.bool false))] 3 ?_
            refine Ops.keep (R := [(0, (Value.slice A l.length c)), (1, (Value.string (str bw))), (5, (ptr b1)), (6, (ptr b10)), (7, (i64 ((i + 1 : Nat) : Int)))]) (by kernel_rfl) ?_
            refine od ?_
            exact ⟨(i + 1, m231, chgS (addF x.n) SS x.name, m295, chgS (addF x.n) (chgS (holdF bw) RR x.name) x.name), ⟨rfl, (by omega), hB235, hB302, hre245, hno237, K25, H26, H234, H28, H298⟩, (show l.length - (i + 1) < l.length - i from by omega)⟩
           ·rw [h285]
            have p306 : ((ownE (chgS (addF x.n) (chgS (holdF bw) RR x.name) x.name) x.name) == bw) = false := h285
            refine og 25 [(0, (Value.slice A l.length c)), (1, (Value.string (str bw))), (5, (ptr b1)), (6, (ptr b10)), (7, (i64 ((i : Nat) : Int))), (8, (ptr b37)), (9, (i64 (chgE (addF x.n) SS x.name))), (10, (i64 (chgE (addF x.n) (chgS (holdF bw) RR x.name) x.name))), (40, (Value.bool true)), (59, (Value.bool false)), (66, (i64 x.kind)), (67, (Value.bool false)), (78, (Value.bool true)), (118, (Value.bool false)), (154, (Value.bool false))] 36 ?_
            refine od ?_
            refine q_else (o := .tmp 154) (by kernel_rfl) rfl ?_
            refine q_skip (by kernel_rfl) ?_
            refine qg ?_
            refine og 2 [(0, (Value.slice A l.length c)), (1, (Value.string (str bw))), (5, (ptr b1)), (6, (ptr b10)), (7, (i64 ((i : Nat) : Int))), (8, (ptr b37)), (9, (i64 (chgE (addF x.n) SS x.name))), (10, (i64 (chgE (addF x.n) (chgS (holdF bw) RR x.name) x.name))), (40, (Value.bool true)), (42, (i64 (IntKind.i64.wrap (((i : Nat) : Int) + 1)))), (59, (Value.bool false)), (66, (i64 x.kind)), (67, (Value.bool false)), (78, (Value.bool true)), (118, (Value.bool false)), (154, (Value.bool false))] 2 ?_
            have e307 : IntKind.i64.wrap (((i : Nat) : Int) + 1) = ((i + 1 : Nat) : Int) := by rw [wrap_i64 (by omega) (by omega)]; omega
            rw [e307]
            clear e307
            refine og 1 [(0, (Value.slice A l.length c)), (1, (Value.string (str bw))), (5, (ptr b1)), (6, (ptr b10)), (7, (i64 ((i + 1 : Nat) : Int))), (8, (ptr b37)), (9, (i64 (chgE (addF x.n) SS x.name))), (10, (i64 (chgE (addF x.n) (chgS (holdF bw) RR x.name) x.name))), (40, (Value.bool true)), (59, (Value.bool false)), (66, (i64 x.kind)), (67, (Value.bool false)), (78, (Value.bool true)), (118, (Value.bool false)), (154, (Value.bool false))] 3 ?_
            refine Ops.keep (R := [(0, (Value.slice A l.length c)), (1, (Value.string (str bw))), (5, (ptr b1)), (6, (ptr b10)), (7, (i64 ((i + 1 : Nat) : Int)))]) (by kernel_rfl) ?_
            refine od ?_
            exact ⟨(i + 1, m231, chgS (addF x.n) SS x.name, m238, chgS (addF x.n) (chgS (holdF bw) RR x.name) x.name), ⟨rfl, (by omega), hB235, hB242, hre245, hno237, K25, H26, H234, H28, H241⟩, (show l.length - (i + 1) < l.length - i from by omega)⟩
          ·rw [h281]
           have p308 : (bw == ([] : List UInt8)) = true := (bnot_false h281)
           refine og 33 [(0, (Value.slice A l.length c)), (1, (Value.string (str bw))), (5, (ptr b1)), (6, (ptr b10)), (7, (i64 ((i : Nat) : Int))), (8, (ptr b37)), (9, (i64 (chgE (addF x.n) SS x.name))), (10, (i64 (chgE (addF x.n) (chgS (holdF bw) RR x.name) x.name))), (40, (Value.bool true)), (59, (Value.bool false)), (66, (i64 x.kind)), (67, (Value.bool false)), (78, (Value.bool true)), (118, (Value.bool false)), (154, (Value.bool false))] 36 ?_
           refine od ?_
           refine q_else (o := .tmp 154) (by kernel_rfl) rfl ?_
           refine q_skip (by kernel_rfl) ?_
           refine qg ?_
           refine og 2 [(0, (Value.slice A l.length c)), (1, (Value.string (str bw))), (5, (ptr b1)), (6, (ptr b10)), (7, (i64 ((i : Nat) : Int))), (8, (ptr b37)), (9, (i64 (chgE (addF x.n) SS x.name))), (10, (i64 (chgE (addF x.n) (chgS (holdF bw) RR x.name) x.name))), (40, (Value.bool true)), (42, (i64 (IntKind.i64.wrap (((i : Nat) : Int) + 1)))), (59, (Value.bool false)), (66, (i64 x.kind)), (67, (Value.bool false)), (78, (Value.bool true)), (118, (Value.bool false)), (154, (Value.bool false))] 2 ?_
           have e309 : IntKind.i64.wrap (((i : Nat) : Int) + 1) = ((i + 1 : Nat) : Int) := by rw [wrap_i64 (by omega) (by omega)]; omega
           rw [e309]
           clear e309
           refine og 1 [(0, (Value.slice A l.length c)), (1, (Value.string (str bw))), (5, (ptr b1)), (6, (ptr b10)), (7, (i64 ((i + 1 : Nat) : Int))), (8, (ptr b37)), (9, (i64 (chgE (addF x.n) SS x.name))), (10, (i64 (chgE (addF x.n) (chgS (holdF bw) RR x.name) x.name))), (40, (Value.bool true)), (59, (Value.bool false)), (66, (i64 x.kind)), (67, (Value.bool false)), (78, (Value.bool true)), (118, (Value.bool false)), (154, (Value.bool false))] 3 ?_
           refine Ops.keep (R := [(0, (Value.slice A l.length c)), (1, (Value.string (str bw))), (5, (ptr b1)), (6, (ptr b10)), (7, (i64 ((i + 1 : Nat) : Int)))]) (by kernel_rfl) ?_
           refine od ?_
           exact ⟨(i + 1, m231, chgS (addF x.n) SS x.name, m238, chgS (addF x.n) (chgS (holdF bw) RR x.name) x.name), ⟨rfl, (by omega), hB235, hB242, hre245, hno237, K25, H26, H234, H28, H241⟩, (show l.length - (i + 1) < l.length - i from by omega)⟩
         ·rw [h229]
          have p310 : ¬ (x.kind = 2) := of_beq_f h229
          refine qg ?_
          refine og 2 [(0, (Value.slice A l.length c)), (1, (Value.string (str bw))), (5, (ptr b1)), (6, (ptr b10)), (7, (i64 ((i : Nat) : Int))), (8, (ptr b37)), (9, (i64 0)), (10, (i64 0)), (40, (Value.bool true)), (59, (Value.bool false)), (66, (i64 x.kind)), (67, (Value.bool false)), (78, (Value.bool (x.kind == 3)))] 2 ?_
          refine od ?_
          refine q_cond (o := .tmp 78) (b := (x.kind == 3)) (by kernel_rfl) rfl (fun h311 => ?_) (fun h311 => ?_)
          ·rw [h311]
           have p312 : x.kind = 3 := of_beq_t h311
           refine qs ?_
           refine qg ?_
           refine og 2 [(0, (Value.slice A l.length c)), (1, (Value.string (str bw))), (5, (ptr b1)), (6, (ptr b10)), (7, (i64 ((i : Nat) : Int))), (8, (ptr b37)), (9, (i64 0)), (10, (i64 0)), (40, (Value.bool true)), (59, (Value.bool false)), (66, (i64 x.kind)), (67, (Value.bool false)), (78, (Value.bool true)), (81, (ptr b1)), (82, (Value.pointer (some ⟨b37, 1, none⟩)))] 2 ?_
           refine Ops.go (v := (Value.string (str x.name))) (by kernel_rfl) (Runs.load (t := 9) (a := ⟨b37, 1, none⟩) (by kernel_rfl) (H44.loads (by kernel_rfl))) (d := (some 83)) (by kernel_rfl) rfl ?_
           refine og 1 [(0, (Value.slice A l.length c)), (1, (Value.string (str bw))), (5, (ptr b1)), (6, (ptr b10)), (7, (i64 ((i : Nat) : Int))), (8, (ptr b37)), (9, (i64 0)), (10, (i64 0)), (40, (Value.bool true)), (59, (Value.bool false)), (66, (i64 x.kind)), (67, (Value.bool false)), (78, (Value.bool true)), (81, (ptr b1)), (83, (Value.string (str x.name))), (84, (Value.pointer (some ⟨b37, 3, none⟩)))] 4 ?_
           refine Ops.go (v := (i64 x.n)) (by kernel_rfl) (Runs.load (t := 2) (a := ⟨b37, 3, none⟩) (by kernel_rfl) (H44.loads (by kernel_rfl))) (d := (some 85)) (by kernel_rfl) rfl ?_
           refine Ops.call (by kernel_rfl) (d := (some 86)) (by kernel_rfl) (Add_calls _ b1 mb2 mm SS x.name x.n H26 H27 (by omega) hBm (by omega)) ?_
           rintro _ w314 ⟨m313, rfl, K315, H316, hB317⟩
           have hl318 := hB317.len
           have hno319 := hNO.chg (add_own x.n) x.name
           refine ⟨_, _, rfl, rfl, ?_⟩
           replace K25 := K25.trans K315 (U := none_) (fun i h1 h2 => h2) (fun i h1 h2 => by have h2 : i = mb2 := h2; exfalso; omega)
           replace H26 := H26.keep K315 (by intro h; change b1 = mb2 at h; omega)
           replace H28 := H28.keep K315 (by intro h; change b10 = mb2 at h; omega)
           replace H61 := H61.keep K315 (by intro h; change mb11 = mb2 at h; omega)
           replace H44 := H44.keep K315 (by intro h; change b37 = mb2 at h; omega)
           clear K315
           refine og 1 [(0, (Value.slice A l.length c)), (1, (Value.string (str bw))), (5, (ptr b1)), (6, (ptr b10)), (7, (i64 ((i : Nat) : Int))), (8, (ptr b37)), (9, (i64 (chgE (addF x.n) SS x.name))), (10, (i64 0)), (40, (Value.bool true)), (59, (Value.bool false)), (66, (i64 x.kind)), (67, (Value.bool false)), (78, (Value.bool true))] 7 ?_
           refine od ?_
           refine qg ?_
           refine og 2 [(0, (Value.slice A l.length c)), (1, (Value.string (str bw))), (5, (ptr b1)), (6, (ptr b10)), (7, (i64 ((i : Nat) : Int))), (8, (ptr b37)), (9, (i64 (chgE (addF x.n) SS x.name))), (10, (i64 0)), (40, (Value.bool true)), (59, (Value.bool false)), (66, (i64 x.kind)), (67, (Value.bool false)), (78, (Value.bool true)), (87, (ptr b10)), (88, (Value.pointer (some ⟨b37, 1, none⟩)))] 2 ?_
           refine Ops.go (v := (Value.string (str x.name))) (by kernel_rfl) (Runs.load (t := 9) (a := ⟨b37, 1, none⟩) (by kernel_rfl) (H44.loads (by kernel_rfl))) (d := (some 89)) (by kernel_rfl) rfl ?_
           refine og 1 [(0, (Value.slice A l.length c)), (1, (Value.string (str bw))), (5, (ptr b1)), (6, (ptr b10)), (7, (i64 ((i : Nat) : Int))), (8, (ptr b37)), (9, (i64 (chgE (addF x.n) SS x.name))), (10, (i64 0)), (40, (Value.bool true)), (59, (Value.bool false)), (66, (i64 x.kind)), (67, (Value.bool false)), (78, (Value.bool true)), (87, (ptr b10)), (89, (Value.string (str x.name))), (90, (Value.pointer (some ⟨b37, 3, none⟩)))] 4 ?_
           refine Ops.go (v := (i64 x.n)) (by kernel_rfl) (Runs.load (t := 2) (a := ⟨b37, 3, none⟩) (by kernel_rfl) (H44.loads (by kernel_rfl))) (d := (some 91)) (by kernel_rfl) rfl ?_
           refine Ops.call (by kernel_rfl) (d := (some 92)) (by kernel_rfl) (Add_calls _ b10 mb11 m58 (chgS (holdF bw) RR x.name) x.name x.n H28 H61 (by omega) hB62 (by omega)) ?_
           rintro _ w321 ⟨m320, rfl, K322, H323, hB324⟩
           have hl325 := hB324.len
           have hee326 := hre64.chgE (blind_add x.n) x.name
           have hre327 := hre64.chgS (blind_add x.n) x.name
           refine ⟨_, _, rfl, rfl, ?_⟩
           replace K25 := K25.trans K322 (U := none_) (fun i h1 h2 => h2) (fun i h1 h2 => by have h2 : i = mb11 := h2; exfalso; omega)
           replace H26 := H26.keep K322 (by intro h; change b1 = mb11 at h; omega)
           replace H316 := H316.keep K322 (by intro h; change mb2 = mb11 at h; omega)
           replace H28 := H28.keep K322 (by intro h; change b10 = mb11 at h; omega)
           replace H44 := H44.keep K322 (by intro h; change b37 = mb11 at h; omega)
           clear K322
           refine og 1 [(0, (Value.slice A l.length c)), (1, (Value.string (str bw))), (5, (ptr b1)), (6, (ptr b10)), (7, (i64 ((i : Nat) : Int))), (8, (ptr b37)), (9, (i64 (chgE (addF x.n) SS x.name))), (10, (i64 (chgE (addF x.n) (chgS (holdF bw) RR x.name) x.name))), (40, (Value.bool true)), (59, (Value.bool false)), (66, (i64 x.kind)), (67, (Value.bool false)), (78, (Value.bool true))] 7 ?_
           refine od ?_
           refine qs ?_
           refine qs ?_
           refine qg ?_
           refine og 4 [(0, (Value.slice A l.length c)), (1, (Value.string (str bw))), (5, (ptr b1)), (6, (ptr b10)), (7, (i64 ((i : Nat) : Int))), (8, (ptr b37)), (9, (i64 (chgE (addF x.n) SS x.name))), (10, (i64 (chgE (addF x.n) (chgS (holdF bw) RR x.name) x.name))), (40, (Value.bool true)), (59, (Value.bool false)), (66, (i64 x.kind)), (67, (Value.bool false)), (78, (Value.bool true)), (111, (Value.bool ((chgE (addF x.n) SS x.name) != (chgE (addF x.n) (chgS (holdF bw) RR x.name) x.name))))] 4 ?_
           have h328 : ((chgE (addF x.n) SS x.name) != (chgE (addF x.n) (chgS (holdF bw) RR x.name) x.name)) = false := bne_f hee326
           rw [h328]
           refine og 1 [(0, (Value.slice A l.length c)), (1, (Value.string (str bw))), (5, (ptr b1)), (6, (ptr b10)), (7, (i64 ((i : Nat) : Int))), (8, (ptr b37)), (9, (i64 (chgE (addF x.n) SS x.name))), (10, (i64 (chgE (addF x.n) (chgS (holdF bw) RR x.name) x.name))), (40, (Value.bool true)), (59, (Value.bool false)), (66, (i64 x.kind)), (67, (Value.bool false)), (78, (Value.bool true)), (111, (Value.bool false)), (112, (ptr b1))] 5 ?_
           refine Ops.call (by kernel_rfl) (d := (some 113)) (by kernel_rfl) (Rows_calls _ b1 mb2 m313 (chgS (addF x.n) SS x.name) (-1) H26 H316 (by omega) hB317) ?_
           rintro _ w331 ⟨A329, c330, rfl, K332, hO333⟩
           have ob335 : ∀ i, ((Value.slice A329 ((rowsS (chgS (addF x.n) SS x.name) (-1)).length) c330)).ownBlock = some i → i ≠ b1 := fun i hi => by have := (World.ownsRow.lt hO333 i hi).1; have := H26.lt; omega
           have ob336 : ∀ i, ((Value.slice A329 ((rowsS (chgS (addF x.n) SS x.name) (-1)).length) c330)).ownBlock = some i → i ≠ mb2 := fun i hi => by have := (World.ownsRow.lt hO333 i hi).1; have := H316.lt; omega
           have ob337 : ∀ i, ((Value.slice A329 ((rowsS (chgS (addF x.n) SS x.name) (-1)).length) c330)).ownBlock = some i → i ≠ b10 := fun i hi => by have := (World.ownsRow.lt hO333 i hi).1; have := H28.lt; omega
           have ob338 : ∀ i, ((Value.slice A329 ((rowsS (chgS (addF x.n) SS x.name) (-1)).length) c330)).ownBlock = some i → i ≠ mb11 := fun i hi => by have := (World.ownsRow.lt hO333 i hi).1; have := H323.lt; omega
           have ob339 : ∀ i, ((Value.slice A329 ((rowsS (chgS (addF x.n) SS x.name) (-1)).length) c330)).ownBlock = some i → i ≠ b37 := fun i hi => by have := (World.ownsRow.lt hO333 i hi).1; have := H44.lt; omega
           have O334 := own_base hO333 K25.size
           clear hO333
           have hl340 := rowsS_len (chgS (addF x.n) SS x.name) (-1)
           have hl341 := hB317.accs.len
           refine ⟨_, _, rfl, rfl, ?_⟩
           replace K25 := K25.trans K332 (U := none_) (fun i h1 h2 => h2) (fun i h1 h2 => by exact h2)
           replace H26 := H26.keep K332 (fun h => h)
           replace H316 := H316.keep K332 (fun h => h)
           replace H28 := H28.keep K332 (fun h => h)
           replace H323 := H323.keep K332 (fun h => h)
           replace H44 := H44.keep K332 (fun h => h)
           clear K332
           refine og 1 [(0, (Value.slice A l.length c)), (1, (Value.string (str bw))), (5, (ptr b1)), (6, (ptr b10)), (7, (i64 ((i : Nat) : Int))), (8, (ptr b37)), (9, (i64 (chgE (addF x.n) SS x.name))), (10, (i64 (chgE (addF x.n) (chgS (holdF bw) RR x.name) x.name))), (40, (Value.bool true)), (59, (Value.bool false)), (66, (i64 x.kind)), (67, (Value.bool false)), (78, (Value.bool true)), (111, (Value.bool false)), (113, (Value.slice A329 ((rowsS (chgS (addF x.n) SS x.name) (-1)).length) c330)), (114, (ptr b10))] 7 ?_
           refine Ops.call (by kernel_rfl) (d := (some 115)) (by kernel_rfl) (Rows_calls _ b10 mb11 m320 (chgS (addF x.n) (chgS (holdF bw) RR x.name) x.name) (-1) H28 H323 (by omega) hB324) ?_
           rintro _ w344 ⟨A342, c343, rfl, K345, hO346⟩
           have ob348 : ∀ i, ((Value.slice A342 ((rowsS (chgS (addF x.n) (chgS (holdF bw) RR x.name) x.name) (-1)).length) c343)).ownBlock = some i → i ≠ b1 := fun i hi => by have := (World.ownsRow.lt hO346 i hi).1; have := H26.lt; omega
           have ob349 : ∀ i, ((Value.slice A342 ((rowsS (chgS (addF x.n) (chgS (holdF bw) RR x.name) x.name) (-1)).length) c343)).ownBlock = some i → i ≠ mb2 := fun i hi => by have := (World.ownsRow.lt hO346 i hi).1; have := H316.lt; omega
           have ob350 : ∀ i, ((Value.slice A342 ((rowsS (chgS (addF x.n) (chgS (holdF bw) RR x.name) x.name) (-1)).length) c343)).ownBlock = some i → i ≠ b10 := fun i hi => by have := (World.ownsRow.lt hO346 i hi).1; have := H28.lt; omega
           have ob351 : ∀ i, ((Value.slice A342 ((rowsS (chgS (addF x.n) (chgS (holdF bw) RR x.name) x.name) (-1)).length) c343)).ownBlock = some i → i ≠ mb11 := fun i hi => by have := (World.ownsRow.lt hO346 i hi).1; have := H323.lt; omega
           have ob352 : ∀ i, ((Value.slice A342 ((rowsS (chgS (addF x.n) (chgS (holdF bw) RR x.name) x.name) (-1)).length) c343)).ownBlock = some i → i ≠ b37 := fun i hi => by have := (World.ownsRow.lt hO346 i hi).1; have := H44.lt; omega
           have oo353 : ∀ i, ((Value.slice A329 ((rowsS (chgS (addF x.n) SS x.name) (-1)).length) c330)).ownBlock = some i → ((Value.slice A342 ((rowsS (chgS (addF x.n) (chgS (holdF bw) RR x.name) x.name) (-1)).length) c343)).ownBlock = some i → False := fun i hi hs => by have := (World.ownsRow.lt hO346 i hs).1; have := (World.ownsRow.lt O334 i hi).2; omega
           have oo354 : ∀ i, ((Value.slice A342 ((rowsS (chgS (addF x.n) (chgS (holdF bw) RR x.name) x.name) (-1)).length) c343)).ownBlock = some i → ((Value.slice A329 ((rowsS (chgS (addF x.n) SS x.name) (-1)).length) c330)).ownBlock = some i → False := fun i hi hs => oo353 i hs hi
           have O347 := own_base hO346 K25.size
           clear hO346
           have hl355 := rowsS_len (chgS (addF x.n) (chgS (holdF bw) RR x.name) x.name) (-1)
           have hl356 := hB324.accs.len
           refine ⟨_, _, rfl, rfl, ?_⟩
           replace K25 := K25.trans K345 (U := none_) (fun i h1 h2 => h2) (fun i h1 h2 => by exact h2)
           replace H26 := H26.keep K345 (fun h => h)
           replace H316 := H316.keep K345 (fun h => h)
           replace H28 := H28.keep K345 (fun h => h)
           replace H323 := H323.keep K345 (fun h => h)
           replace H44 := H44.keep K345 (fun h => h)
           replace O334 := own_keep0 O334 K345
           clear K345
           refine Ops.call (by kernel_rfl) (d := (some 116)) (by kernel_rfl) (SameRows_calls _ A329 c330 (rowsS (chgS (addF x.n) SS x.name) (-1)) A342 c343 (rowsS (chgS (addF x.n) (chgS (holdF bw) RR x.name) x.name) (-1)) (OwnT.rd O334) (OwnT.rd O347)) ?_
           rintro _ w360 ⟨t357, rfl, ht358, K359⟩
           have hsr361 := ht358.2 hre327.all
           refine ⟨_, _, rfl, rfl, ?_⟩
           replace K25 := K25.trans K359 (U := none_) (fun i h1 h2 => h2) (fun i h1 h2 => by exact h2)
           replace H26 := H26.keep K359 (fun h => h)
           replace H316 := H316.keep K359 (fun h => h)
           replace H28 := H28.keep K359 (fun h => h)
           replace H323 := H323.keep K359 (fun h => h)
           replace H44 := H44.keep K359 (fun h => h)
           replace O334 := own_keep0 O334 K359
           replace O347 := own_keep0 O347 K359
           clear K359
           refine og 2 [(0, (Value.slice A l.length c)), (1, (Value.string (str bw))), (5, (ptr b1)), (6, (ptr b10)), (7, (i64 ((i : Nat) : Int))), (8, (ptr b37)), (9, (i64 (chgE (addF x.n) SS x.name))), (10, (i64 (chgE (addF x.n) (chgS (holdF bw) RR x.name) x.name))), (40, (Value.bool true)), (59, (Value.bool false)), (66, (i64 x.kind)), (67, (Value.bool false)), (78, (Value.bool true)), (118, (Value.bool (!t357)))] 11 ?_
           refine od ?_
           have h362 : (!t357) = false := by rw [show t357 = true from hsr361]; rfl
           rw [h362]
           refine q_else (o := .tmp 118) (by kernel_rfl) rfl ?_
           refine q_skip (by kernel_rfl) ?_
           refine qs ?_
           refine qg ?_
           refine og 1 [(0, (Value.slice A l.length c)), (1, (Value.string (str bw))), (5, (ptr b1)), (6, (ptr b10)), (7, (i64 ((i : Nat) : Int))), (8, (ptr b37)), (9, (i64 (chgE (addF x.n) SS x.name))), (10, (i64 (chgE (addF x.n) (chgS (holdF bw) RR x.name) x.name))), (40, (Value.bool true)), (59, (Value.bool false)), (66, (i64 x.kind)), (67, (Value.bool false)), (78, (Value.bool true)), (118, (Value.bool false)), (119, (Value.string (str bw)))] 1 ?_
           refine Ops.go (v := (Value.bool (!(bw == ([] : List UInt8))))) (by kernel_rfl) (Runs.strne (t := 9) (by kernel_rfl)) (d := (some 120)) (by kernel_rfl) rfl ?_
           refine og 1 [(0, (Value.slice A l.length c)), (1, (Value.string (str bw))), (5, (ptr b1)), (6, (ptr b10)), (7, (i64 ((i : Nat) : Int))), (8, (ptr b37)), (9, (i64 (chgE (addF x.n) SS x.name))), (10, (i64 (chgE (addF x.n) (chgS (holdF bw) RR x.name) x.name))), (40, (Value.bool true)), (59, (Value.bool false)), (66, (i64 x.kind)), (67, (Value.bool false)), (78, (Value.bool true)), (118, (Value.bool false)), (121, (Value.bool (!(bw == ([] : List UInt8)))))] 3 ?_
           refine Ops.split (!(bw == ([] : List UInt8))) (fun h363 => ?_) (fun h363 => ?_)
           ·rw [h363]
            have p364 : (bw == ([] : List UInt8)) = false := (bnot_true h363)
            refine og 2 [(0, (Value.slice A l.length c)), (1, (Value.string (str bw))), (5, (ptr b1)), (6, (ptr b10)), (7, (i64 ((i : Nat) : Int))), (8, (ptr b37)), (9, (i64 (chgE (addF x.n) SS x.name))), (10, (i64 (chgE (addF x.n) (chgS (holdF bw) RR x.name) x.name))), (40, (Value.bool true)), (59, (Value.bool false)), (66, (i64 x.kind)), (67, (Value.bool false)), (78, (Value.bool true)), (118, (Value.bool false)), (121, (Value.bool true)), (122, (ptr b10)), (123, (Value.pointer (some ⟨b37, 1, none⟩)))] 5 ?_
            refine Ops.go (v := (Value.string (str x.name))) (by kernel_rfl) (Runs.load (t := 9) (a := ⟨b37, 1, none⟩) (by kernel_rfl) (H44.loads (by kernel_rfl))) (d := (some 124)) (by kernel_rfl) rfl ?_
            refine Ops.call (by kernel_rfl) (d := (some 125)) (by kernel_rfl) (By_calls _ b10 mb11 m320 (chgS (addF x.n) (chgS (holdF bw) RR x.name) x.name) x.name H28 H323 (by omega) hB324) ?_
            rintro _ w366 ⟨rfl, K365⟩
            refine ⟨_, _, rfl, rfl, ?_⟩
            replace K25 := K25.trans K365 (U := none_) (fun i h1 h2 => h2) (fun i h1 h2 => by exact h2)
            replace H26 := H26.keep K365 (fun h => h)
            replace H316 := H316.keep K365 (fun h => h)
            replace H28 := H28.keep K365 (fun h => h)
            replace H323 := H323.keep K365 (fun h => h)
            replace H44 := H44.keep K365 (fun h => h)
            replace O334 := own_keep0 O334 K365
            replace O347 := own_keep0 O347 K365
            clear K365
            refine og 1 [(0, (Value.slice A l.length c)), (1, (Value.string (str bw))), (5, (ptr b1)), (6, (ptr b10)), (7, (i64 ((i : Nat) : Int))), (8, (ptr b37)), (9, (i64 (chgE (addF x.n) SS x.name))), (10, (i64 (chgE (addF x.n) (chgS (holdF bw) RR x.name) x.name))), (40, (Value.bool true)), (59, (Value.bool false)), (66, (i64 x.kind)), (67, (Value.bool false)), (78, (Value.bool true)), (118, (Value.bool false)), (121, (Value.bool true)), (125, (Value.string (str (ownE (chgS (addF x.n) (chgS (holdF bw) RR x.name) x.name) x.name)))), (126, (Value.string (str bw)))] 8 ?_
            refine Ops.go (v := (Value.bool ((ownE (chgS (addF x.n) (chgS (holdF bw) RR x.name) x.name) x.name) == bw))) (by kernel_rfl) (Runs.streq (t := 9) (by kernel_rfl)) (d := (some 127)) (by kernel_rfl) rfl ?_
            refine og 2 [(0, (Value.slice A l.length c)), (1, (Value.string (str bw))), (5, (ptr b1)), (6, (ptr b10)), (7, (i64 ((i : Nat) : Int))), (8, (ptr b37)), (9, (i64 (chgE (addF x.n) SS x.name))), (10, (i64 (chgE (addF x.n) (chgS (holdF bw) RR x.name) x.name))), (40, (Value.bool true)), (59, (Value.bool false)), (66, (i64 x.kind)), (67, (Value.bool false)), (78, (Value.bool true)), (118, (Value.bool false)), (129, (Value.bool ((ownE (chgS (addF x.n) (chgS (holdF bw) RR x.name) x.name) x.name) == bw)))] 11 ?_
            refine Ops.split ((ownE (chgS (addF x.n) (chgS (holdF bw) RR x.name) x.name) x.name) == bw) (fun h367 => ?_) (fun h367 => ?_)
            ·rw [h367]
             have p368 : ((ownE (chgS (addF x.n) (chgS (holdF bw) RR x.name) x.name) x.name) == bw) = true := h367
             refine og 2 [(0, (Value.slice A l.length c)), (1, (Value.string (str bw))), (5, (ptr b1)), (6, (ptr b10)), (7, (i64 ((i : Nat) : Int))), (8, (ptr b37)), (9, (i64 (chgE (addF x.n) SS x.name))), (10, (i64 (chgE (addF x.n) (chgS (holdF bw) RR x.name) x.name))), (40, (Value.bool true)), (59, (Value.bool false)), (66, (i64 x.kind)), (67, (Value.bool false)), (78, (Value.bool true)), (118, (Value.bool false)), (129, (Value.bool true)), (130, (ptr b10)), (131, (Value.pointer (some ⟨b37, 1, none⟩)))] 13 ?_
             refine Ops.go (v := (Value.string (str x.name))) (by kernel_rfl) (Runs.load (t := 9) (a := ⟨b37, 1, none⟩) (by kernel_rfl) (H44.loads (by kernel_rfl))) (d := (some 132)) (by kernel_rfl) rfl ?_
             refine og 1 [(0, (Value.slice A l.length c)), (1, (Value.string (str bw))), (5, (ptr b1)), (6, (ptr b10)), (7, (i64 ((i : Nat) : Int))), (8, (ptr b37)), (9, (i64 (chgE (addF x.n) SS x.name))), (10, (i64 (chgE (addF x.n) (chgS (holdF bw) RR x.name) x.name))), (40, (Value.bool true)), (59, (Value.bool false)), (66, (i64 x.kind)), (67, (Value.bool false)), (78, (Value.bool true)), (118, (Value.bool false)), (129, (Value.bool true)), (130, (ptr b10)), (132, (Value.string (str x.name))), (133, (Value.string (str bw)))] 15 ?_
             refine Ops.go (v := (Value.string (str (bw ++ [120])))) (by kernel_rfl) (Runs.stradd (t := 9) (a := bw) (b := [120]) (by kernel_rfl) (by simp only [List.length_cons, List.length_nil]; omega)) (d := (some 134)) (by kernel_rfl) rfl ?_
             refine Ops.call (by kernel_rfl) (d := (some 135)) (by kernel_rfl) (Hold_calls _ b10 mb11 m320 (chgS (addF x.n) (chgS (holdF bw) RR x.name) x.name) x.name (bw ++ [120]) H28 H323 (by omega) hB324) ?_
             rintro _ w370 ⟨m369, rfl, K371, H372, hB373⟩
             have hl374 := hB373.len
             have hho375 := hold_other (x := (bw ++ [120])) hB324.accs (beq_true_eq h367) (by have h := h363; simpa using h) (more_ne _).1 (more_ne _).2 (by rw [List.length_append]; simp only [List.length_cons, List.length_nil]; omega)
             rw [hho375.1]
             have hB376 := hB373
             rw [hho375.2] at hB376
             refine ⟨_, _, rfl, rfl, ?_⟩
             replace K25 := K25.trans K371 (U := none_) (fun i h1 h2 => h2) (fun i h1 h2 => by have h2 : i = mb11 := h2; exfalso; omega)
             replace H26 := H26.keep K371 (by intro h; change b1 = mb11 at h; omega)
             replace H316 := H316.keep K371 (by intro h; change mb2 = mb11 at h; omega)
             replace H28 := H28.keep K371 (by intro h; change b10 = mb11 at h; omega)
             replace H44 := H44.keep K371 (by intro h; change b37 = mb11 at h; omega)
             replace O334 := own_keep O334 K371 (fun i hi hs => by have hs : i = mb11 := hs; have := ob338 i hi; omega)
             replace O347 := own_keep O347 K371 (fun i hi hs => by have hs : i = mb11 := hs; have := ob351 i hi; omega)
             clear K371
             refine og 4 [(0, (Value.slice A l.length c)), (1, (Value.string (str bw))), (5, (ptr b1)), (6, (ptr b10)), (7, (i64 ((i : Nat) : Int))), (8, (ptr b37)), (9, (i64 (chgE (addF x.n) SS x.name))), (10, (i64 (chgE (addF x.n) (chgS (holdF bw) RR x.name) x.name))), (40, (Value.bool true)), (59, (Value.bool false)), (66, (i64 x.kind)), (67, (Value.bool false)), (78, (Value.bool true)), (118, (Value.bool false)), (129, (Value.bool true)), (137, (Value.bool false)), (138, (ptr b10)), (139, (Value.pointer (some ⟨b37, 1, none⟩)))] 21 ?_
             refine Ops.go (v := (Value.string (str x.name))) (by kernel_rfl) (Runs.load (t := 9) (a := ⟨b37, 1, none⟩) (by kernel_rfl) (H44.loads (by kernel_rfl))) (d := (some 140)) (by kernel_rfl) rfl ?_
             refine og 1 [(0, (Value.slice A l.length c)), (1, (Value.string (str bw))), (5, (ptr b1)), (6, (ptr b10)), (7, (i64 ((i : Nat) : Int))), (8, (ptr b37)), (9, (i64 (chgE (addF x.n) SS x.name))), (10, (i64 (chgE (addF x.n) (chgS (holdF bw) RR x.name) x.name))), (40, (Value.bool true)), (59, (Value.bool false)), (66, (i64 x.kind)), (67, (Value.bool false)), (78, (Value.bool true)), (118, (Value.bool false)), (129, (Value.bool true)), (137, (Value.bool false)), (138, (ptr b10)), (140, (Value.string (str x.name))), (141, (Value.string (str bw)))] 23 ?_
             refine Ops.go (v := (Value.string (str (bw ++ [120])))) (by kernel_rfl) (Runs.stradd (t := 9) (a := bw) (b := [120]) (by kernel_rfl) (by simp only [List.length_cons, List.length_nil]; omega)) (d := (some 142)) (by kernel_rfl) rfl ?_
             refine Ops.call (by kernel_rfl) (d := (some 143)) (by kernel_rfl) (Free_calls _ b10 mb11 m369 (chgS (addF x.n) (chgS (holdF bw) RR x.name) x.name) x.name (bw ++ [120]) H28 H372 (by omega) hB376) ?_
             rintro _ w378 ⟨m377, rfl, K379, H380, hB381⟩
             have hl382 := hB381.len
             have hho383 := free_other (x := (bw ++ [120])) hB376.accs (beq_true_eq h367) (by have h := h363; simpa using h) (more_ne _).1 
             rw [hho383.1]
             have hB384 := hB381
             rw [hho383.2] at hB384
             refine ⟨_, _, rfl, rfl, ?_⟩
             replace K25 := K25.trans K379 (U := none_) (fun i h1 h2 => h2) (fun i h1 h2 => by have h2 : i = mb11 := h2; exfalso; omega)
             replace H26 := H26.keep K379 (by intro h; change b1 = mb11 at h; omega)
             replace H316 := H316.keep K379 (by intro h; change mb2 = mb11 at h; omega)
             replace H28 := H28.keep K379 (by intro h; change b10 = mb11 at h; omega)
             replace H44 := H44.keep K379 (by intro h; change b37 = mb11 at h; omega)
             replace O334 := own_keep O334 K379 (fun i hi hs => by have hs : i = mb11 := hs; have := ob338 i hi; omega)
             replace O347 := own_keep O347 K379 (fun i hi hs => by have hs : i = mb11 := hs; have := ob351 i hi; omega)
             clear K379
             refine og 5 [(0, (Value.slice A l.length c)), (1, (Value.string (str bw))), (5, (ptr b1)), (6, (ptr b10)), (7, (i64 ((i : Nat) : Int))), (8, (ptr b37)), (9, (i64 (chgE (addF x.n) SS x.name))), (10, (i64 (chgE (addF x.n) (chgS (holdF bw) RR x.name) x.name))), (40, (Value.bool true)), (59, (Value.bool false)), (66, (i64 x.kind)), (67, (Value.bool false)), (78, (Value.bool true)), (118, (Value.bool false)), (129, (Value.bool true)), (146, (Value.bool false)), (147, (ptr b10)), (148, (Value.pointer (some ⟨b37, 1, none⟩)))] 30 ?_
             refine Ops.go (v := (Value.string (str x.name))) (by kernel_rfl) (Runs.load (t := 9) (a := ⟨b37, 1, none⟩) (by kernel_rfl) (H44.loads (by kernel_rfl))) (d := (some 149)) (by kernel_rfl) rfl ?_
             refine Ops.call (by kernel_rfl) (d := (some 150)) (by kernel_rfl) (By_calls _ b10 mb11 m377 (chgS (addF x.n) (chgS (holdF bw) RR x.name) x.name) x.name H28 H380 (by omega) hB384) ?_
             rintro _ w386 ⟨rfl, K385⟩
             refine ⟨_, _, rfl, rfl, ?_⟩
             replace K25 := K25.trans K385 (U := none_) (fun i h1 h2 => h2) (fun i h1 h2 => by exact h2)
             replace H26 := H26.keep K385 (fun h => h)
             replace H316 := H316.keep K385 (fun h => h)
             replace H28 := H28.keep K385 (fun h => h)
             replace H380 := H380.keep K385 (fun h => h)
             replace H44 := H44.keep K385 (fun h => h)
             replace O334 := own_keep0 O334 K385
             replace O347 := own_keep0 O347 K385
             clear K385
             refine og 1 [(0, (Value.slice A l.length c)), (1, (Value.string (str bw))), (5, (ptr b1)), (6, (ptr b10)), (7, (i64 ((i : Nat) : Int))), (8, (ptr b37)), (9, (i64 (chgE (addF x.n) SS x.name))), (10, (i64 (chgE (addF x.n) (chgS (holdF bw) RR x.name) x.name))), (40, (Value.bool true)), (59, (Value.bool false)), (66, (i64 x.kind)), (67, (Value.bool false)), (78, (Value.bool true)), (118, (Value.bool false)), (129, (Value.bool true)), (146, (Value.bool false)), (150, (Value.string (str (ownE (chgS (addF x.n) (chgS (holdF bw) RR x.name) x.name) x.name)))), (151, (Value.string (str bw)))] 33 ?_
             refine Ops.go (v := (Value.bool (!((ownE (chgS (addF x.n) (chgS (holdF bw) RR x.name) x.name) x.name) == bw)))) (by kernel_rfl) (Runs.strne (t := 9) (by kernel_rfl)) (d := (some 152)) (by kernel_rfl) rfl ?_
             refine og 2 [(0, (Value.slice A l.length c)), (1, (Value.string (str bw))), (5, (ptr b1)), (6, (ptr b10)), (7, (i64 ((i : Nat) : Int))), (8, (ptr b37)), (9, (i64 (chgE (addF x.n) SS x.name))), (10, (i64 (chgE (addF x.n) (chgS (holdF bw) RR x.name) x.name))), (40, (Value.bool true)), (59, (Value.bool false)), (66, (i64 x.kind)), (67, (Value.bool false)), (78, (Value.bool true)), (118, (Value.bool false)), (154, (Value.bool (!((ownE (chgS (addF x.n) (chgS (holdF bw) RR x.name) x.name) x.name) == bw))))] 36 ?_
             refine od ?_
             rw [h367]
             simp only [Bool.not_true]
             refine q_else (o := .tmp 154) (by kernel_rfl) rfl ?_
             refine q_skip (by kernel_rfl) ?_
             refine qg ?_
             refine og 2 [(0, (Value.slice A l.length c)), (1, (Value.string (str bw))), (5, (ptr b1)), (6, (ptr b10)), (7, (i64 ((i : Nat) : Int))), (8, (ptr b37)), (9, (i64 (chgE (addF x.n) SS x.name))), (10, (i64 (chgE (addF x.n) (chgS (holdF bw) RR x.name) x.name))), (40, (Value.bool true)), (42, (i64 (IntKind.i64.wrap (((i : Nat) : Int) + 1)))), (59, (Value.bool false)), (66, (i64 x.kind)), (67, (Value.bool false)), (78, (Value.bool true)), (118, (Value.bool false)), (154, (Value.bool false))] 2 ?_
             have e387 : IntKind.i64.wrap (((i : Nat) : Int) + 1) = ((i + 1 : Nat) : Int) := by rw [wrap_i64 (by omega) (by omega)]; omega
             rw [e387]
             clear e387
             refine og 1 [(0, (Value.slice A l.length c)), (1, (Value.string (str bw))), (5, (ptr b1)), (6, (ptr b10)), (7, (i64 ((i + 1 : Nat) : Int))), (8, (ptr b37)), (9, (i64 (chgE (addF x.n) SS x.name))), (10, (i64 (chgE (addF x.n) (chgS (holdF bw) RR x.name) x.name))), (40, (Value.bool true)), (59, (Value.bool false)), (66, (i64 x.kind)), (67, (Value.bool false)), (78, (Value.bool true)), (118, (Value.bool false)), (154, (Value.bool false))] 3 ?_
             refine Ops.keep (R := [(0, (Value.slice A l.length c)), (1, (Value.string (str bw))), (5, (ptr b1)), (6, (ptr b10)), (7, (i64 ((i + 1 : Nat) : Int)))]) (by kernel_rfl) ?_
             refine od ?_
             exact ⟨(i + 1, m313, chgS (addF x.n) SS x.name, m377, chgS (addF x.n) (chgS (holdF bw) RR x.name) x.name), ⟨rfl, (by omega), hB317, hB384, hre327, hno319, K25, H26, H316, H28, H380⟩, (show l.length - (i + 1) < l.length - i from by omega)⟩
            ·rw [h367]
             have p388 : ((ownE (chgS (addF x.n) (chgS (holdF bw) RR x.name) x.name) x.name) == bw) = false := h367
             refine og 25 [(0, (Value.slice A l.length c)), (1, (Value.string (str bw))), (5, (ptr b1)), (6, (ptr b10)), (7, (i64 ((i : Nat) : Int))), (8, (ptr b37)), (9, (i64 (chgE (addF x.n) SS x.name))), (10, (i64 (chgE (addF x.n) (chgS (holdF bw) RR x.name) x.name))), (40, (Value.bool true)), (59, (Value.bool false)), (66, (i64 x.kind)), (67, (Value.bool false)), (78, (Value.bool true)), (118, (Value.bool false)), (154, (Value.bool false))] 36 ?_
             refine od ?_
             refine q_else (o := .tmp 154) (by kernel_rfl) rfl ?_
             refine q_skip (by kernel_rfl) ?_
             refine qg ?_
             refine og 2 [(0, (Value.slice A l.length c)), (1, (Value.string (str bw))), (5, (ptr b1)), (6, (ptr b10)), (7, (i64 ((i : Nat) : Int))), (8, (ptr b37)), (9, (i64 (chgE (addF x.n) SS x.name))), (10, (i64 (chgE (addF x.n) (chgS (holdF bw) RR x.name) x.name))), (40, (Value.bool true)), (42, (i64 (IntKind.i64.wrap (((i : Nat) : Int) + 1)))), (59, (Value.bool false)), (66, (i64 x.kind)), (67, (Value.bool false)), (78, (Value.bool true)), (118, (Value.bool false)), (154, (Value.bool false))] 2 ?_
             have e389 : IntKind.i64.wrap (((i : Nat) : Int) + 1) = ((i + 1 : Nat) : Int) := by rw [wrap_i64 (by omega) (by omega)]; omega
             rw [e389]
             clear e389
             refine og 1 [(0, (Value.slice A l.length c)), (1, (Value.string (str bw))), (5, (ptr b1)), (6, (ptr b10)), (7, (i64 ((i + 1 : Nat) : Int))), (8, (ptr b37)), (9, (i64 (chgE (addF x.n) SS x.name))), (10, (i64 (chgE (addF x.n) (chgS (holdF bw) RR x.name) x.name))), (40, (Value.bool true)), (59, (Value.bool false)), (66, (i64 x.kind)), (67, (Value.bool false)), (78, (Value.bool true)), (118, (Value.bool false)), (154, (Value.bool false))] 3 ?_
             refine Ops.keep (R := [(0, (Value.slice A l.length c)), (1, (Value.string (str bw))), (5, (ptr b1)), (6, (ptr b10)), (7, (i64 ((i + 1 : Nat) : Int)))]) (by kernel_rfl) ?_
             refine od ?_
             exact ⟨(i + 1, m313, chgS (addF x.n) SS x.name, m320, chgS (addF x.n) (chgS (holdF bw) RR x.name) x.name), ⟨rfl, (by omega), hB317, hB324, hre327, hno319, K25, H26, H316, H28, H323⟩, (show l.length - (i + 1) < l.length - i from by omega)⟩
           ·rw [h363]
            have p390 : (bw == ([] : List UInt8)) = true := (bnot_false h363)
            refine og 33 [(0, (Value.slice A l.length c)), (1, (Value.string (str bw))), (5, (ptr b1)), (6, (ptr b10)), (7, (i64 ((i : Nat) : Int))), (8, (ptr b37)), (9, (i64 (chgE (addF x.n) SS x.name))), (10, (i64 (chgE (addF x.n) (chgS (holdF bw) RR x.name) x.name))), (40, (Value.bool true)), (59, (Value.bool false)), (66, (i64 x.kind)), (67, (Value.bool false)), (78, (Value.bool true)), (118, (Value.bool false)), (154, (Value.bool false))] 36 ?_
            refine od ?_
            refine q_else (o := .tmp 154) (by kernel_rfl) rfl ?_
            refine q_skip (by kernel_rfl) ?_
            refine qg ?_
            refine og 2 [(0, (Value.slice A l.length c)), (1, (Value.string (str bw))), (5, (ptr b1)), (6, (ptr b10)), (7, (i64 ((i : Nat) : Int))), (8, (ptr b37)), (9, (i64 (chgE (addF x.n) SS x.name))), (10, (i64 (chgE (addF x.n) (chgS (holdF bw) RR x.name) x.name))), (40, (Value.bool true)), (42, (i64 (IntKind.i64.wrap (((i : Nat) : Int) + 1)))), (59, (Value.bool false)), (66, (i64 x.kind)), (67, (Value.bool false)), (78, (Value.bool true)), (118, (Value.bool false)), (154, (Value.bool false))] 2 ?_
            have e391 : IntKind.i64.wrap (((i : Nat) : Int) + 1) = ((i + 1 : Nat) : Int) := by rw [wrap_i64 (by omega) (by omega)]; omega
            rw [e391]
            clear e391
            refine og 1 [(0, (Value.slice A l.length c)), (1, (Value.string (str bw))), (5, (ptr b1)), (6, (ptr b10)), (7, (i64 ((i + 1 : Nat) : Int))), (8, (ptr b37)), (9, (i64 (chgE (addF x.n) SS x.name))), (10, (i64 (chgE (addF x.n) (chgS (holdF bw) RR x.name) x.name))), (40, (Value.bool true)), (59, (Value.bool false)), (66, (i64 x.kind)), (67, (Value.bool false)), (78, (Value.bool true)), (118, (Value.bool false)), (154, (Value.bool false))] 3 ?_
            refine Ops.keep (R := [(0, (Value.slice A l.length c)), (1, (Value.string (str bw))), (5, (ptr b1)), (6, (ptr b10)), (7, (i64 ((i + 1 : Nat) : Int)))]) (by kernel_rfl) ?_
            refine od ?_
            exact ⟨(i + 1, m313, chgS (addF x.n) SS x.name, m320, chgS (addF x.n) (chgS (holdF bw) RR x.name) x.name), ⟨rfl, (by omega), hB317, hB324, hre327, hno319, K25, H26, H316, H28, H323⟩, (show l.length - (i + 1) < l.length - i from by omega)⟩
          ·rw [h311]
           have p392 : ¬ (x.kind = 3) := of_beq_f h311
           refine qs ?_
           refine qs ?_
           refine qg ?_
           refine og 2 [(0, (Value.slice A l.length c)), (1, (Value.string (str bw))), (5, (ptr b1)), (6, (ptr b10)), (7, (i64 ((i : Nat) : Int))), (8, (ptr b37)), (9, (i64 0)), (10, (i64 0)), (40, (Value.bool true)), (59, (Value.bool false)), (66, (i64 x.kind)), (67, (Value.bool false)), (78, (Value.bool false)), (93, (Value.bool (x.kind == 4)))] 2 ?_
           refine od ?_
           refine q_cond (o := .tmp 93) (b := (x.kind == 4)) (by kernel_rfl) rfl (fun h393 => ?_) (fun h393 => ?_)
           ·rw [h393]
            have p394 : x.kind = 4 := of_beq_t h393
            refine q_skip (by kernel_rfl) ?_
            refine q_then (o := .tmp 93) (by kernel_rfl) rfl ?_
            refine qs ?_
            refine qg ?_
            refine og 2 [(0, (Value.slice A l.length c)), (1, (Value.string (str bw))), (5, (ptr b1)), (6, (ptr b10)), (7, (i64 ((i : Nat) : Int))), (8, (ptr b37)), (9, (i64 0)), (10, (i64 0)), (40, (Value.bool true)), (59, (Value.bool false)), (66, (i64 x.kind)), (67, (Value.bool false)), (78, (Value.bool false)), (93, (Value.bool true)), (96, (ptr b1)), (97, (Value.pointer (some ⟨b37, 1, none⟩)))] 2 ?_
            refine Ops.go (v := (Value.string (str x.name))) (by kernel_rfl) (Runs.load (t := 9) (a := ⟨b37, 1, none⟩) (by kernel_rfl) (H44.loads (by kernel_rfl))) (d := (some 98)) (by kernel_rfl) rfl ?_
            refine og 1 [(0, (Value.slice A l.length c)), (1, (Value.string (str bw))), (5, (ptr b1)), (6, (ptr b10)), (7, (i64 ((i : Nat) : Int))), (8, (ptr b37)), (9, (i64 0)), (10, (i64 0)), (40, (Value.bool true)), (59, (Value.bool false)), (66, (i64 x.kind)), (67, (Value.bool false)), (78, (Value.bool false)), (93, (Value.bool true)), (96, (ptr b1)), (98, (Value.string (str x.name))), (99, (Value.pointer (some ⟨b37, 3, none⟩)))] 4 ?_
            refine Ops.go (v := (i64 x.n)) (by kernel_rfl) (Runs.load (t := 2) (a := ⟨b37, 3, none⟩) (by kernel_rfl) (H44.loads (by kernel_rfl))) (d := (some 100)) (by kernel_rfl) rfl ?_
            refine Ops.call (by kernel_rfl) (d := (some 101)) (by kernel_rfl) (Take_calls _ b1 mb2 mm SS x.name x.n H26 H27 (by omega) hBm (by omega)) ?_
            rintro _ w396 ⟨m395, rfl, K397, H398, hB399⟩
            have hl400 := hB399.len
            have hno401 := hNO.chg (take_own x.n) x.name
            refine ⟨_, _, rfl, rfl, ?_⟩
            replace K25 := K25.trans K397 (U := none_) (fun i h1 h2 => h2) (fun i h1 h2 => by have h2 : i = mb2 := h2; exfalso; omega)
            replace H26 := H26.keep K397 (by intro h; change b1 = mb2 at h; omega)
            replace H28 := H28.keep K397 (by intro h; change b10 = mb2 at h; omega)
            replace H61 := H61.keep K397 (by intro h; change mb11 = mb2 at h; omega)
            replace H44 := H44.keep K397 (by intro h; change b37 = mb2 at h; omega)
            clear K397
            refine og 1 [(0, (Value.slice A l.length c)), (1, (Value.string (str bw))), (5, (ptr b1)), (6, (ptr b10)), (7, (i64 ((i : Nat) : Int))), (8, (ptr b37)), (9, (i64 (chgE (takeF x.n) SS x.name))), (10, (i64 0)), (40, (Value.bool true)), (59, (Value.bool false)), (66, (i64 x.kind)), (67, (Value.bool false)), (78, (Value.bool false)), (93, (Value.bool true))] 7 ?_
            refine od ?_
            refine qg ?_
            refine og 2 [(0, (Value.slice A l.length c)), (1, (Value.string (str bw))), (5, (ptr b1)), (6, (ptr b10)), (7, (i64 ((i : Nat) : Int))), (8, (ptr b37)), (9, (i64 (chgE (takeF x.n) SS x.name))), (10, (i64 0)), (40, (Value.bool true)), (59, (Value.bool false)), (66, (i64 x.kind)), (67, (Value.bool false)), (78, (Value.bool false)), (93, (Value.bool true)), (102, (ptr b10)), (103, (Value.pointer (some ⟨b37, 1, none⟩)))] 2 ?_
            refine Ops.go (v := (Value.string (str x.name))) (by kernel_rfl) (Runs.load (t := 9) (a := ⟨b37, 1, none⟩) (by kernel_rfl) (H44.loads (by kernel_rfl))) (d := (some 104)) (by kernel_rfl) rfl ?_
            refine og 1 [(0, (Value.slice A l.length c)), (1, (Value.string (str bw))), (5, (ptr b1)), (6, (ptr b10)), (7, (i64 ((i : Nat) : Int))), (8, (ptr b37)), (9, (i64 (chgE (takeF x.n) SS x.name))), (10, (i64 0)), (40, (Value.bool true)), (59, (Value.bool false)), (66, (i64 x.kind)), (67, (Value.bool false)), (78, (Value.bool false)), (93, (Value.bool true)), (102, (ptr b10)), (104, (Value.string (str x.name))), (105, (Value.pointer (some ⟨b37, 3, none⟩)))] 4 ?_
            refine Ops.go (v := (i64 x.n)) (by kernel_rfl) (Runs.load (t := 2) (a := ⟨b37, 3, none⟩) (by kernel_rfl) (H44.loads (by kernel_rfl))) (d := (some 106)) (by kernel_rfl) rfl ?_
            refine Ops.call (by kernel_rfl) (d := (some 107)) (by kernel_rfl) (Take_calls _ b10 mb11 m58 (chgS (holdF bw) RR x.name) x.name x.n H28 H61 (by omega) hB62 (by omega)) ?_
            rintro _ w403 ⟨m402, rfl, K404, H405, hB406⟩
            have hl407 := hB406.len
            have hee408 := hre64.chgE (blind_take x.n) x.name
            have hre409 := hre64.chgS (blind_take x.n) x.name
            refine ⟨_, _, rfl, rfl, ?_⟩
            replace K25 := K25.trans K404 (U := none_) (fun i h1 h2 => h2) (fun i h1 h2 => by have h2 : i = mb11 := h2; exfalso; omega)
            replace H26 := H26.keep K404 (by intro h; change b1 = mb11 at h; omega)
            replace H398 := H398.keep K404 (by intro h; change mb2 = mb11 at h; omega)
            replace H28 := H28.keep K404 (by intro h; change b10 = mb11 at h; omega)
            replace H44 := H44.keep K404 (by intro h; change b37 = mb11 at h; omega)
            clear K404
            refine og 1 [(0, (Value.slice A l.length c)), (1, (Value.string (str bw))), (5, (ptr b1)), (6, (ptr b10)), (7, (i64 ((i : Nat) : Int))), (8, (ptr b37)), (9, (i64 (chgE (takeF x.n) SS x.name))), (10, (i64 (chgE (takeF x.n) (chgS (holdF bw) RR x.name) x.name))), (40, (Value.bool true)), (59, (Value.bool false)), (66, (i64 x.kind)), (67, (Value.bool false)), (78, (Value.bool false)), (93, (Value.bool true))] 7 ?_
            refine od ?_
            refine qs ?_
            refine qs ?_
            refine qg ?_
            refine og 4 [(0, (Value.slice A l.length c)), (1, (Value.string (str bw))), (5, (ptr b1)), (6, (ptr b10)), (7, (i64 ((i : Nat) : Int))), (8, (ptr b37)), (9, (i64 (chgE (takeF x.n) SS x.name))), (10, (i64 (chgE (takeF x.n) (chgS (holdF bw) RR x.name) x.name))), (40, (Value.bool true)), (59, (Value.bool false)), (66, (i64 x.kind)), (67, (Value.bool false)), (78, (Value.bool false)), (93, (Value.bool true)), (111, (Value.bool ((chgE (takeF x.n) SS x.name) != (chgE (takeF x.n) (chgS (holdF bw) RR x.name) x.name))))] 4 ?_
            have h410 : ((chgE (takeF x.n) SS x.name) != (chgE (takeF x.n) (chgS (holdF bw) RR x.name) x.name)) = false := bne_f hee408
            rw [h410]
            refine og 1 [(0, (Value.slice A l.length c)), (1, (Value.string (str bw))), (5, (ptr b1)), (6, (ptr b10)), (7, (i64 ((i : Nat) : Int))), (8, (ptr b37)), (9, (i64 (chgE (takeF x.n) SS x.name))), (10, (i64 (chgE (takeF x.n) (chgS (holdF bw) RR x.name) x.name))), (40, (Value.bool true)), (59, (Value.bool false)), (66, (i64 x.kind)), (67, (Value.bool false)), (78, (Value.bool false)), (93, (Value.bool true)), (111, (Value.bool false)), (112, (ptr b1))] 5 ?_
            refine Ops.call (by kernel_rfl) (d := (some 113)) (by kernel_rfl) (Rows_calls _ b1 mb2 m395 (chgS (takeF x.n) SS x.name) (-1) H26 H398 (by omega) hB399) ?_
            rintro _ w413 ⟨A411, c412, rfl, K414, hO415⟩
            have ob417 : ∀ i, ((Value.slice A411 ((rowsS (chgS (takeF x.n) SS x.name) (-1)).length) c412)).ownBlock = some i → i ≠ b1 := fun i hi => by have := (World.ownsRow.lt hO415 i hi).1; have := H26.lt; omega
            have ob418 : ∀ i, ((Value.slice A411 ((rowsS (chgS (takeF x.n) SS x.name) (-1)).length) c412)).ownBlock = some i → i ≠ mb2 := fun i hi => by have := (World.ownsRow.lt hO415 i hi).1; have := H398.lt; omega
            have ob419 : ∀ i, ((Value.slice A411 ((rowsS (chgS (takeF x.n) SS x.name) (-1)).length) c412)).ownBlock = some i → i ≠ b10 := fun i hi => by have := (World.ownsRow.lt hO415 i hi).1; have := H28.lt; omega
            have ob420 : ∀ i, ((Value.slice A411 ((rowsS (chgS (takeF x.n) SS x.name) (-1)).length) c412)).ownBlock = some i → i ≠ mb11 := fun i hi => by have := (World.ownsRow.lt hO415 i hi).1; have := H405.lt; omega
            have ob421 : ∀ i, ((Value.slice A411 ((rowsS (chgS (takeF x.n) SS x.name) (-1)).length) c412)).ownBlock = some i → i ≠ b37 := fun i hi => by have := (World.ownsRow.lt hO415 i hi).1; have := H44.lt; omega
            have O416 := own_base hO415 K25.size
            clear hO415
            have hl422 := rowsS_len (chgS (takeF x.n) SS x.name) (-1)
            have hl423 := hB399.accs.len
            refine ⟨_, _, rfl, rfl, ?_⟩
            replace K25 := K25.trans K414 (U := none_) (fun i h1 h2 => h2) (fun i h1 h2 => by exact h2)
            replace H26 := H26.keep K414 (fun h => h)
            replace H398 := H398.keep K414 (fun h => h)
            replace H28 := H28.keep K414 (fun h => h)
            replace H405 := H405.keep K414 (fun h => h)
            replace H44 := H44.keep K414 (fun h => h)
            clear K414
            refine og 1 [(0, (Value.slice A l.length c)), (1, (Value.string (str bw))), (5, (ptr b1)), (6, (ptr b10)), (7, (i64 ((i : Nat) : Int))), (8, (ptr b37)), (9, (i64 (chgE (takeF x.n) SS x.name))), (10, (i64 (chgE (takeF x.n) (chgS (holdF bw) RR x.name) x.name))), (40, (Value.bool true)), (59, (Value.bool false)), (66, (i64 x.kind)), (67, (Value.bool false)), (78, (Value.bool false)), (93, (Value.bool true)), (111, (Value.bool false)), (113, (Value.slice A411 ((rowsS (chgS (takeF x.n) SS x.name) (-1)).length) c412)), (114, (ptr b10))] 7 ?_
            refine Ops.call (by kernel_rfl) (d := (some 115)) (by kernel_rfl) (Rows_calls _ b10 mb11 m402 (chgS (takeF x.n) (chgS (holdF bw) RR x.name) x.name) (-1) H28 H405 (by omega) hB406) ?_
            rintro _ w426 ⟨A424, c425, rfl, K427, hO428⟩
            have ob430 : ∀ i, ((Value.slice A424 ((rowsS (chgS (takeF x.n) (chgS (holdF bw) RR x.name) x.name) (-1)).length) c425)).ownBlock = some i → i ≠ b1 := fun i hi => by have := (World.ownsRow.lt hO428 i hi).1; have := H26.lt; omega
            have ob431 : ∀ i, ((Value.slice A424 ((rowsS (chgS (takeF x.n) (chgS (holdF bw) RR x.name) x.name) (-1)).length) c425)).ownBlock = some i → i ≠ mb2 := fun i hi => by have := (World.ownsRow.lt hO428 i hi).1; have := H398.lt; omega
            have ob432 : ∀ i, ((Value.slice A424 ((rowsS (chgS (takeF x.n) (chgS (holdF bw) RR x.name) x.name) (-1)).length) c425)).ownBlock = some i → i ≠ b10 := fun i hi => by have := (World.ownsRow.lt hO428 i hi).1; have := H28.lt; omega
            have ob433 : ∀ i, ((Value.slice A424 ((rowsS (chgS (takeF x.n) (chgS (holdF bw) RR x.name) x.name) (-1)).length) c425)).ownBlock = some i → i ≠ mb11 := fun i hi => by have := (World.ownsRow.lt hO428 i hi).1; have := H405.lt; omega
            have ob434 : ∀ i, ((Value.slice A424 ((rowsS (chgS (takeF x.n) (chgS (holdF bw) RR x.name) x.name) (-1)).length) c425)).ownBlock = some i → i ≠ b37 := fun i hi => by have := (World.ownsRow.lt hO428 i hi).1; have := H44.lt; omega
            have oo435 : ∀ i, ((Value.slice A411 ((rowsS (chgS (takeF x.n) SS x.name) (-1)).length) c412)).ownBlock = some i → ((Value.slice A424 ((rowsS (chgS (takeF x.n) (chgS (holdF bw) RR x.name) x.name) (-1)).length) c425)).ownBlock = some i → False := fun i hi hs => by have := (World.ownsRow.lt hO428 i hs).1; have := (World.ownsRow.lt O416 i hi).2; omega
            have oo436 : ∀ i, ((Value.slice A424 ((rowsS (chgS (takeF x.n) (chgS (holdF bw) RR x.name) x.name) (-1)).length) c425)).ownBlock = some i → ((Value.slice A411 ((rowsS (chgS (takeF x.n) SS x.name) (-1)).length) c412)).ownBlock = some i → False := fun i hi hs => oo435 i hs hi
            have O429 := own_base hO428 K25.size
            clear hO428
            have hl437 := rowsS_len (chgS (takeF x.n) (chgS (holdF bw) RR x.name) x.name) (-1)
            have hl438 := hB406.accs.len
            refine ⟨_, _, rfl, rfl, ?_⟩
            replace K25 := K25.trans K427 (U := none_) (fun i h1 h2 => h2) (fun i h1 h2 => by exact h2)
            replace H26 := H26.keep K427 (fun h => h)
            replace H398 := H398.keep K427 (fun h => h)
            replace H28 := H28.keep K427 (fun h => h)
            replace H405 := H405.keep K427 (fun h => h)
            replace H44 := H44.keep K427 (fun h => h)
            replace O416 := own_keep0 O416 K427
            clear K427
            refine Ops.call (by kernel_rfl) (d := (some 116)) (by kernel_rfl) (SameRows_calls _ A411 c412 (rowsS (chgS (takeF x.n) SS x.name) (-1)) A424 c425 (rowsS (chgS (takeF x.n) (chgS (holdF bw) RR x.name) x.name) (-1)) (OwnT.rd O416) (OwnT.rd O429)) ?_
            rintro _ w442 ⟨t439, rfl, ht440, K441⟩
            have hsr443 := ht440.2 hre409.all
            refine ⟨_, _, rfl, rfl, ?_⟩
            replace K25 := K25.trans K441 (U := none_) (fun i h1 h2 => h2) (fun i h1 h2 => by exact h2)
            replace H26 := H26.keep K441 (fun h => h)
            replace H398 := H398.keep K441 (fun h => h)
            replace H28 := H28.keep K441 (fun h => h)
            replace H405 := H405.keep K441 (fun h => h)
            replace H44 := H44.keep K441 (fun h => h)
            replace O416 := own_keep0 O416 K441
            replace O429 := own_keep0 O429 K441
            clear K441
            refine og 2 [(0, (Value.slice A l.length c)), (1, (Value.string (str bw))), (5, (ptr b1)), (6, (ptr b10)), (7, (i64 ((i : Nat) : Int))), (8, (ptr b37)), (9, (i64 (chgE (takeF x.n) SS x.name))), (10, (i64 (chgE (takeF x.n) (chgS (holdF bw) RR x.name) x.name))), (40, (Value.bool true)), (59, (Value.bool false)), (66, (i64 x.kind)), (67, (Value.bool false)), (78, (Value.bool false)), (93, (Value.bool true)), (118, (Value.bool (!t439)))] 11 ?_
            refine od ?_
            have h444 : (!t439) = false := by rw [show t439 = true from hsr443]; rfl
            rw [h444]
            refine q_else (o := .tmp 118) (by kernel_rfl) rfl ?_
            refine q_skip (by kernel_rfl) ?_
            refine qs ?_
            refine qg ?_
            refine og 1 [(0, (Value.slice A l.length c)), (1, (Value.string (str bw))), (5, (ptr b1)), (6, (ptr b10)), (7, (i64 ((i : Nat) : Int))), (8, (ptr b37)), (9, (i64 (chgE (takeF x.n) SS x.name))), (10, (i64 (chgE (takeF x.n) (chgS (holdF bw) RR x.name) x.name))), (40, (Value.bool true)), (59, (Value.bool false)), (66, (i64 x.kind)), (67, (Value.bool false)), (78, (Value.bool false)), (93, (Value.bool true)), (118, (Value.bool false)), (119, (Value.string (str bw)))] 1 ?_
            refine Ops.go (v := (Value.bool (!(bw == ([] : List UInt8))))) (by kernel_rfl) (Runs.strne (t := 9) (by kernel_rfl)) (d := (some 120)) (by kernel_rfl) rfl ?_
            refine og 1 [(0, (Value.slice A l.length c)), (1, (Value.string (str bw))), (5, (ptr b1)), (6, (ptr b10)), (7, (i64 ((i : Nat) : Int))), (8, (ptr b37)), (9, (i64 (chgE (takeF x.n) SS x.name))), (10, (i64 (chgE (takeF x.n) (chgS (holdF bw) RR x.name) x.name))), (40, (Value.bool true)), (59, (Value.bool false)), (66, (i64 x.kind)), (67, (Value.bool false)), (78, (Value.bool false)), (93, (Value.bool true)), (118, (Value.bool false)), (121, (Value.bool (!(bw == ([] : List UInt8)))))] 3 ?_
            refine Ops.split (!(bw == ([] : List UInt8))) (fun h445 => ?_) (fun h445 => ?_)
            ·rw [h445]
             have p446 : (bw == ([] : List UInt8)) = false := (bnot_true h445)
             refine og 2 [(0, (Value.slice A l.length c)), (1, (Value.string (str bw))), (5, (ptr b1)), (6, (ptr b10)), (7, (i64 ((i : Nat) : Int))), (8, (ptr b37)), (9, (i64 (chgE (takeF x.n) SS x.name))), (10, (i64 (chgE (takeF x.n) (chgS (holdF bw) RR x.name) x.name))), (40, (Value.bool true)), (59, (Value.bool false)), (66, (i64 x.kind)), (67, (Value.bool false)), (78, (Value.bool false)), (93, (Value.bool true)), (118, (Value.bool false)), (121, (Value.bool true)), (122, (ptr b10)), (123, (Value.pointer (some ⟨b37, 1, none⟩)))] 5 ?_
             refine Ops.go (v := (Value.string (str x.name))) (by kernel_rfl) (Runs.load (t := 9) (a := ⟨b37, 1, none⟩) (by kernel_rfl) (H44.loads (by kernel_rfl))) (d := (some 124)) (by kernel_rfl) rfl ?_
             refine Ops.call (by kernel_rfl) (d := (some 125)) (by kernel_rfl) (By_calls _ b10 mb11 m402 (chgS (takeF x.n) (chgS (holdF bw) RR x.name) x.name) x.name H28 H405 (by omega) hB406) ?_
             rintro _ w448 ⟨rfl, K447⟩
             refine ⟨_, _, rfl, rfl, ?_⟩
             replace K25 := K25.trans K447 (U := none_) (fun i h1 h2 => h2) (fun i h1 h2 => by exact h2)
             replace H26 := H26.keep K447 (fun h => h)
             replace H398 := H398.keep K447 (fun h => h)
             replace H28 := H28.keep K447 (fun h => h)
             replace H405 := H405.keep K447 (fun h => h)
             replace H44 := H44.keep K447 (fun h => h)
             replace O416 := own_keep0 O416 K447
             replace O429 := own_keep0 O429 K447
             clear K447
             refine og 1 [(0, (Value.slice A l.length c)), (1, (Value.string (str bw))), (5, (ptr b1)), (6, (ptr b10)), (7, (i64 ((i : Nat) : Int))), (8, (ptr b37)), (9, (i64 (chgE (takeF x.n) SS x.name))), (10, (i64 (chgE (takeF x.n) (chgS (holdF bw) RR x.name) x.name))), (40, (Value.bool true)), (59, (Value.bool false)), (66, (i64 x.kind)), (67, (Value.bool false)), (78, (Value.bool false)), (93, (Value.bool true)), (118, (Value.bool false)), (121, (Value.bool true)), (125, (Value.string (str (ownE (chgS (takeF x.n) (chgS (holdF bw) RR x.name) x.name) x.name)))), (126, (Value.string (str bw)))] 8 ?_
             refine Ops.go (v := (Value.bool ((ownE (chgS (takeF x.n) (chgS (holdF bw) RR x.name) x.name) x.name) == bw))) (by kernel_rfl) (Runs.streq (t := 9) (by kernel_rfl)) (d := (some 127)) (by kernel_rfl) rfl ?_
             refine og 2 [(0, (Value.slice A l.length c)), (1, (Value.string (str bw))), (5, (ptr b1)), (6, (ptr b10)), (7, (i64 ((i : Nat) : Int))), (8, (ptr b37)), (9, (i64 (chgE (takeF x.n) SS x.name))), (10, (i64 (chgE (takeF x.n) (chgS (holdF bw) RR x.name) x.name))), (40, (Value.bool true)), (59, (Value.bool false)), (66, (i64 x.kind)), (67, (Value.bool false)), (78, (Value.bool false)), (93, (Value.bool true)), (118, (Value.bool false)), (129, (Value.bool ((ownE (chgS (takeF x.n) (chgS (holdF bw) RR x.name) x.name) x.name) == bw)))] 11 ?_
             refine Ops.split ((ownE (chgS (takeF x.n) (chgS (holdF bw) RR x.name) x.name) x.name) == bw) (fun h449 => ?_) (fun h449 => ?_)
             ·rw [h449]
              have p450 : ((ownE (chgS (takeF x.n) (chgS (holdF bw) RR x.name) x.name) x.name) == bw) = true := h449
              refine og 2 [(0, (Value.slice A l.length c)), (1, (Value.string (str bw))), (5, (ptr b1)), (6, (ptr b10)), (7, (i64 ((i : Nat) : Int))), (8, (ptr b37)), (9, (i64 (chgE (takeF x.n) SS x.name))), (10, (i64 (chgE (takeF x.n) (chgS (holdF bw) RR x.name) x.name))), (40, (Value.bool true)), (59, (Value.bool false)), (66, (i64 x.kind)), (67, (Value.bool false)), (78, (Value.bool false)), (93, (Value.bool true)), (118, (Value.bool false)), (129, (Value.bool true)), (130, (ptr b10)), (131, (Value.pointer (some ⟨b37, 1, none⟩)))] 13 ?_
              refine Ops.go (v := (Value.string (str x.name))) (by kernel_rfl) (Runs.load (t := 9) (a := ⟨b37, 1, none⟩) (by kernel_rfl) (H44.loads (by kernel_rfl))) (d := (some 132)) (by kernel_rfl) rfl ?_
              refine og 1 [(0, (Value.slice A l.length c)), (1, (Value.string (str bw))), (5, (ptr b1)), (6, (ptr b10)), (7, (i64 ((i : Nat) : Int))), (8, (ptr b37)), (9, (i64 (chgE (takeF x.n) SS x.name))), (10, (i64 (chgE (takeF x.n) (chgS (holdF bw) RR x.name) x.name))), (40, (Value.bool true)), (59, (Value.bool false)), (66, (i64 x.kind)), (67, (Value.bool false)), (78, (Value.bool false)), (93, (Value.bool true)), (118, (Value.bool false)), (129, (Value.bool true)), (130, (ptr b10)), (132, (Value.string (str x.name))), (133, (Value.string (str bw)))] 15 ?_
              refine Ops.go (v := (Value.string (str (bw ++ [120])))) (by kernel_rfl) (Runs.stradd (t := 9) (a := bw) (b := [120]) (by kernel_rfl) (by simp only [List.length_cons, List.length_nil]; omega)) (d := (some 134)) (by kernel_rfl) rfl ?_
              refine Ops.call (by kernel_rfl) (d := (some 135)) (by kernel_rfl) (Hold_calls _ b10 mb11 m402 (chgS (takeF x.n) (chgS (holdF bw) RR x.name) x.name) x.name (bw ++ [120]) H28 H405 (by omega) hB406) ?_
              rintro _ w452 ⟨m451, rfl, K453, H454, hB455⟩
              have hl456 := hB455.len
              have hho457 := hold_other (x := (bw ++ [120])) hB406.accs (beq_true_eq h449) (by have h := h445; simpa using h) (more_ne _).1 (more_ne _).2 (by rw [List.length_append]; simp only [List.length_cons, List.length_nil]; omega)
              rw [hho457.1]
              have hB458 := hB455
              rw [hho457.2] at hB458
              refine ⟨_, _, rfl, rfl, ?_⟩
              replace K25 := K25.trans K453 (U := none_) (fun i h1 h2 => h2) (fun i h1 h2 => by have h2 : i = mb11 := h2; exfalso; omega)
              replace H26 := H26.keep K453 (by intro h; change b1 = mb11 at h; omega)
              replace H398 := H398.keep K453 (by intro h; change mb2 = mb11 at h; omega)
              replace H28 := H28.keep K453 (by intro h; change b10 = mb11 at h; omega)
              replace H44 := H44.keep K453 (by intro h; change b37 = mb11 at h; omega)
              replace O416 := own_keep O416 K453 (fun i hi hs => by have hs : i = mb11 := hs; have := ob420 i hi; omega)
              replace O429 := own_keep O429 K453 (fun i hi hs => by have hs : i = mb11 := hs; have := ob433 i hi; omega)
              clear K453
              refine og 4 [(0, (Value.slice A l.length c)), (1, (Value.string (str bw))), (5, (ptr b1)), (6, (ptr b10)), (7, (i64 ((i : Nat) : Int))), (8, (ptr b37)), (9, (i64 (chgE (takeF x.n) SS x.name))), (10, (i64 (chgE (takeF x.n) (chgS (holdF bw) RR x.name) x.name))), (40, (Value.bool true)), (59, (Value.bool false)), (66, (i64 x.kind)), (67, (Value.bool false)), (78, (Value.bool false)), (93, (Value.bool true)), (118, (Value.bool false)), (129, (Value.bool true)), (137, (Value.bool false)), (138, (ptr b10)), (139, (Value.pointer (some ⟨b37, 1, none⟩)))] 21 ?_
              refine Ops.go (v := (Value.string (str x.name))) (by kernel_rfl) (Runs.load (t := 9) (a := ⟨b37, 1, none⟩) (by kernel_rfl) (H44.loads (by kernel_rfl))) (d := (some 140)) (by kernel_rfl) rfl ?_
              refine og 1 [(0, (Value.slice A l.length c)), (1, (Value.string (str bw))), (5, (ptr b1)), (6, (ptr b10)), (7, (i64 ((i : Nat) : Int))), (8, (ptr b37)), (9, (i64 (chgE (takeF x.n) SS x.name))), (10, (i64 (chgE (takeF x.n) (chgS (holdF bw) RR x.name) x.name))), (40, (Value.bool true)), (59, (Value.bool false)), (66, (i64 x.kind)), (67, (Value.bool false)), (78, (Value.bool false)), (93, (Value.bool true)), (118, (Value.bool false)), (129, (Value.bool true)), (137, (Value.bool false)), (138, (ptr b10)), (140, (Value.string (str x.name))), (141, (Value.string (str bw)))] 23 ?_
              refine Ops.go (v := (Value.string (str (bw ++ [120])))) (by kernel_rfl) (Runs.stradd (t := 9) (a := bw) (b := [120]) (by kernel_rfl) (by simp only [List.length_cons, List.length_nil]; omega)) (d := (some 142)) (by kernel_rfl) rfl ?_
              refine Ops.call (by kernel_rfl) (d := (some 143)) (by kernel_rfl) (Free_calls _ b10 mb11 m451 (chgS (takeF x.n) (chgS (holdF bw) RR x.name) x.name) x.name (bw ++ [120]) H28 H454 (by omega) hB458) ?_
              rintro _ w460 ⟨m459, rfl, K461, H462, hB463⟩
              have hl464 := hB463.len
              have hho465 := free_other (x := (bw ++ [120])) hB458.accs (beq_true_eq h449) (by have h := h445; simpa using h) (more_ne _).1 
              rw [hho465.1]
              have hB466 := hB463
              rw [hho465.2] at hB466
              refine ⟨_, _, rfl, rfl, ?_⟩
              replace K25 := K25.trans K461 (U := none_) (fun i h1 h2 => h2) (fun i h1 h2 => by have h2 : i = mb11 := h2; exfalso; omega)
              replace H26 := H26.keep K461 (by intro h; change b1 = mb11 at h; omega)
              replace H398 := H398.keep K461 (by intro h; change mb2 = mb11 at h; omega)
              replace H28 := H28.keep K461 (by intro h; change b10 = mb11 at h; omega)
              replace H44 := H44.keep K461 (by intro h; change b37 = mb11 at h; omega)
              replace O416 := own_keep O416 K461 (fun i hi hs => by have hs : i = mb11 := hs; have := ob420 i hi; omega)
              replace O429 := own_keep O429 K461 (fun i hi hs => by have hs : i = mb11 := hs; have := ob433 i hi; omega)
              clear K461
              refine og 5 [(0, (Value.slice A l.length c)), (1, (Value.string (str bw))), (5, (ptr b1)), (6, (ptr b10)), (7, (i64 ((i : Nat) : Int))), (8, (ptr b37)), (9, (i64 (chgE (takeF x.n) SS x.name))), (10, (i64 (chgE (takeF x.n) (chgS (holdF bw) RR x.name) x.name))), (40, (Value.bool true)), (59, (Value.bool false)), (66, (i64 x.kind)), (67, (Value.bool false)), (78, (Value.bool false)), (93, (Value.bool true)), (118, (Value.bool false)), (129, (Value.bool true)), (146, (Value.bool false)), (147, (ptr b10)), (148, (Value.pointer (some ⟨b37, 1, none⟩)))] 30 ?_
              refine Ops.go (v := (Value.string (str x.name))) (by kernel_rfl) (Runs.load (t := 9) (a := ⟨b37, 1, none⟩) (by kernel_rfl) (H44.loads (by kernel_rfl))) (d := (some 149)) (by kernel_rfl) rfl ?_
              refine Ops.call (by kernel_rfl) (d := (some 150)) (by kernel_rfl) (By_calls _ b10 mb11 m459 (chgS (takeF x.n) (chgS (holdF bw) RR x.name) x.name) x.name H28 H462 (by omega) hB466) ?_
              rintro _ w468 ⟨rfl, K467⟩
              refine ⟨_, _, rfl, rfl, ?_⟩
              replace K25 := K25.trans K467 (U := none_) (fun i h1 h2 => h2) (fun i h1 h2 => by exact h2)
              replace H26 := H26.keep K467 (fun h => h)
              replace H398 := H398.keep K467 (fun h => h)
              replace H28 := H28.keep K467 (fun h => h)
              replace H462 := H462.keep K467 (fun h => h)
              replace H44 := H44.keep K467 (fun h => h)
              replace O416 := own_keep0 O416 K467
              replace O429 := own_keep0 O429 K467
              clear K467
              refine og 1 [(0, (Value.slice A l.length c)), (1, (Value.string (str bw))), (5, (ptr b1)), (6, (ptr b10)), (7, (i64 ((i : Nat) : Int))), (8, (ptr b37)), (9, (i64 (chgE (takeF x.n) SS x.name))), (10, (i64 (chgE (takeF x.n) (chgS (holdF bw) RR x.name) x.name))), (40, (Value.bool true)), (59, (Value.bool false)), (66, (i64 x.kind)), (67, (Value.bool false)), (78, (Value.bool false)), (93, (Value.bool true)), (118, (Value.bool false)), (129, (Value.bool true)), (146, (Value.bool false)), (150, (Value.string (str (ownE (chgS (takeF x.n) (chgS (holdF bw) RR x.name) x.name) x.name)))), (151, (Value.string (str bw)))] 33 ?_
              refine Ops.go (v := (Value.bool (!((ownE (chgS (takeF x.n) (chgS (holdF bw) RR x.name) x.name) x.name) == bw)))) (by kernel_rfl) (Runs.strne (t := 9) (by kernel_rfl)) (d := (some 152)) (by kernel_rfl) rfl ?_
              refine og 2 [(0, (Value.slice A l.length c)), (1, (Value.string (str bw))), (5, (ptr b1)), (6, (ptr b10)), (7, (i64 ((i : Nat) : Int))), (8, (ptr b37)), (9, (i64 (chgE (takeF x.n) SS x.name))), (10, (i64 (chgE (takeF x.n) (chgS (holdF bw) RR x.name) x.name))), (40, (Value.bool true)), (59, (Value.bool false)), (66, (i64 x.kind)), (67, (Value.bool false)), (78, (Value.bool false)), (93, (Value.bool true)), (118, (Value.bool false)), (154, (Value.bool (!((ownE (chgS (takeF x.n) (chgS (holdF bw) RR x.name) x.name) x.name) == bw))))] 36 ?_
              refine od ?_
              rw [h449]
              simp only [Bool.not_true]
              refine q_else (o := .tmp 154) (by kernel_rfl) rfl ?_
              refine q_skip (by kernel_rfl) ?_
              refine qg ?_
              refine og 2 [(0, (Value.slice A l.length c)), (1, (Value.string (str bw))), (5, (ptr b1)), (6, (ptr b10)), (7, (i64 ((i : Nat) : Int))), (8, (ptr b37)), (9, (i64 (chgE (takeF x.n) SS x.name))), (10, (i64 (chgE (takeF x.n) (chgS (holdF bw) RR x.name) x.name))), (40, (Value.bool true)), (42, (i64 (IntKind.i64.wrap (((i : Nat) : Int) + 1)))), (59, (Value.bool false)), (66, (i64 x.kind)), (67, (Value.bool false)), (78, (Value.bool false)), (93, (Value.bool true)), (118, (Value.bool false)), (154, (Value.bool false))] 2 ?_
              have e469 : IntKind.i64.wrap (((i : Nat) : Int) + 1) = ((i + 1 : Nat) : Int) := by rw [wrap_i64 (by omega) (by omega)]; omega
              rw [e469]
              clear e469
              refine og 1 [(0, (Value.slice A l.length c)), (1, (Value.string (str bw))), (5, (ptr b1)), (6, (ptr b10)), (7, (i64 ((i + 1 : Nat) : Int))), (8, (ptr b37)), (9, (i64 (chgE (takeF x.n) SS x.name))), (10, (i64 (chgE (takeF x.n) (chgS (holdF bw) RR x.name) x.name))), (40, (Value.bool true)), (59, (Value.bool false)), (66, (i64 x.kind)), (67, (Value.bool false)), (78, (Value.bool false)), (93, (Value.bool true)), (118, (Value.bool false)), (154, (Value.bool false))] 3 ?_
              refine Ops.keep (R := [(0, (Value.slice A l.length c)), (1, (Value.string (str bw))), (5, (ptr b1)), (6, (ptr b10)), (7, (i64 ((i + 1 : Nat) : Int)))]) (by kernel_rfl) ?_
              refine od ?_
              exact ⟨(i + 1, m395, chgS (takeF x.n) SS x.name, m459, chgS (takeF x.n) (chgS (holdF bw) RR x.name) x.name), ⟨rfl, (by omega), hB399, hB466, hre409, hno401, K25, H26, H398, H28, H462⟩, (show l.length - (i + 1) < l.length - i from by omega)⟩
             ·rw [h449]
              have p470 : ((ownE (chgS (takeF x.n) (chgS (holdF bw) RR x.name) x.name) x.name) == bw) = false := h449
              refine og 25 [(0, (Value.slice A l.length c)), (1, (Value.string (str bw))), (5, (ptr b1)), (6, (ptr b10)), (7, (i64 ((i : Nat) : Int))), (8, (ptr b37)), (9, (i64 (chgE (takeF x.n) SS x.name))), (10, (i64 (chgE (takeF x.n) (chgS (holdF bw) RR x.name) x.name))), (40, (Value.bool true)), (59, (Value.bool false)), (66, (i64 x.kind)), (67, (Value.bool false)), (78, (Value.bool false)), (93, (Value.bool true)), (118, (Value.bool false)), (154, (Value.bool false))] 36 ?_
              refine od ?_
              refine q_else (o := .tmp 154) (by kernel_rfl) rfl ?_
              refine q_skip (by kernel_rfl) ?_
              refine qg ?_
              refine og 2 [(0, (Value.slice A l.length c)), (1, (Value.string (str bw))), (5, (ptr b1)), (6, (ptr b10)), (7, (i64 ((i : Nat) : Int))), (8, (ptr b37)), (9, (i64 (chgE (takeF x.n) SS x.name))), (10, (i64 (chgE (takeF x.n) (chgS (holdF bw) RR x.name) x.name))), (40, (Value.bool true)), (42, (i64 (IntKind.i64.wrap (((i : Nat) : Int) + 1)))), (59, (Value.bool false)), (66, (i64 x.kind)), (67, (Value.bool false)), (78, (Value.bool false)), (93, (Value.bool true)), (118, (Value.bool false)), (154, (Value.bool false))] 2 ?_
              have e471 : IntKind.i64.wrap (((i : Nat) : Int) + 1) = ((i + 1 : Nat) : Int) := by rw [wrap_i64 (by omega) (by omega)]; omega
              rw [e471]
              clear e471
              refine og 1 [(0, (Value.slice A l.length c)), (1, (Value.string (str bw))), (5, (ptr b1)), (6, (ptr b10)), (7, (i64 ((i + 1 : Nat) : Int))), (8, (ptr b37)), (9, (i64 (chgE (takeF x.n) SS x.name))), (10, (i64 (chgE (takeF x.n) (chgS (holdF bw) RR x.name) x.name))), (40, (Value.bool true)), (59, (Value.bool false)), (66, (i64 x.kind)), (67, (Value.bool false)), (78, (Value.bool false)), (93, (Value.bool true)), (118, (Value.bool false)), (154, (Value.bool false))] 3 ?_
              refine Ops.keep (R := [(0, (Value.slice A l.length c)), (1, (Value.string (str bw))), (5, (ptr b1)), (6, (ptr b10)), (7, (i64 ((i + 1 : Nat) : Int)))]) (by kernel_rfl) ?_
              refine od ?_
              exact ⟨(i + 1, m395, chgS (takeF x.n) SS x.name, m402, chgS (takeF x.n) (chgS (holdF bw) RR x.name) x.name), ⟨rfl, (by omega), hB399, hB406, hre409, hno401, K25, H26, H398, H28, H405⟩, (show l.length - (i + 1) < l.length - i from by omega)⟩
            ·rw [h445]
             have p472 : (bw == ([] : List UInt8)) = true := (bnot_false h445)
             refine og 33 [(0, (Value.slice A l.length c)), (1, (Value.string (str bw))), (5, (ptr b1)), (6, (ptr b10)), (7, (i64 ((i : Nat) : Int))), (8, (ptr b37)), (9, (i64 (chgE (takeF x.n) SS x.name))), (10, (i64 (chgE (takeF x.n) (chgS (holdF bw) RR x.name) x.name))), (40, (Value.bool true)), (59, (Value.bool false)), (66, (i64 x.kind)), (67, (Value.bool false)), (78, (Value.bool false)), (93, (Value.bool true)), (118, (Value.bool false)), (154, (Value.bool false))] 36 ?_
             refine od ?_
             refine q_else (o := .tmp 154) (by kernel_rfl) rfl ?_
             refine q_skip (by kernel_rfl) ?_
             refine qg ?_
             refine og 2 [(0, (Value.slice A l.length c)), (1, (Value.string (str bw))), (5, (ptr b1)), (6, (ptr b10)), (7, (i64 ((i : Nat) : Int))), (8, (ptr b37)), (9, (i64 (chgE (takeF x.n) SS x.name))), (10, (i64 (chgE (takeF x.n) (chgS (holdF bw) RR x.name) x.name))), (40, (Value.bool true)), (42, (i64 (IntKind.i64.wrap (((i : Nat) : Int) + 1)))), (59, (Value.bool false)), (66, (i64 x.kind)), (67, (Value.bool false)), (78, (Value.bool false)), (93, (Value.bool true)), (118, (Value.bool false)), (154, (Value.bool false))] 2 ?_
             have e473 : IntKind.i64.wrap (((i : Nat) : Int) + 1) = ((i + 1 : Nat) : Int) := by rw [wrap_i64 (by omega) (by omega)]; omega
             rw [e473]
             clear e473
             refine og 1 [(0, (Value.slice A l.length c)), (1, (Value.string (str bw))), (5, (ptr b1)), (6, (ptr b10)), (7, (i64 ((i + 1 : Nat) : Int))), (8, (ptr b37)), (9, (i64 (chgE (takeF x.n) SS x.name))), (10, (i64 (chgE (takeF x.n) (chgS (holdF bw) RR x.name) x.name))), (40, (Value.bool true)), (59, (Value.bool false)), (66, (i64 x.kind)), (67, (Value.bool false)), (78, (Value.bool false)), (93, (Value.bool true)), (118, (Value.bool false)), (154, (Value.bool false))] 3 ?_
             refine Ops.keep (R := [(0, (Value.slice A l.length c)), (1, (Value.string (str bw))), (5, (ptr b1)), (6, (ptr b10)), (7, (i64 ((i + 1 : Nat) : Int)))]) (by kernel_rfl) ?_
             refine od ?_
             exact ⟨(i + 1, m395, chgS (takeF x.n) SS x.name, m402, chgS (takeF x.n) (chgS (holdF bw) RR x.name) x.name), ⟨rfl, (by omega), hB399, hB406, hre409, hno401, K25, H26, H398, H28, H405⟩, (show l.length - (i + 1) < l.length - i from by omega)⟩
           ·rw [h393]
            have p474 : ¬ (x.kind = 4) := of_beq_f h393
            refine qg ?_
            refine og 2 [(0, (Value.slice A l.length c)), (1, (Value.string (str bw))), (5, (ptr b1)), (6, (ptr b10)), (7, (i64 ((i : Nat) : Int))), (8, (ptr b37)), (9, (i64 0)), (10, (i64 0)), (40, (Value.bool true)), (59, (Value.bool false)), (66, (i64 x.kind)), (67, (Value.bool false)), (78, (Value.bool false)), (93, (Value.bool (x.kind == 5)))] 2 ?_
            refine od ?_
            refine q_cond (o := .tmp 93) (b := (x.kind == 5)) (by kernel_rfl) rfl (fun h475 => ?_) (fun h475 => ?_)
            ·rw [h475]
             have p476 : x.kind = 5 := of_beq_t h475
             refine qs ?_
             refine qg ?_
             refine og 2 [(0, (Value.slice A l.length c)), (1, (Value.string (str bw))), (5, (ptr b1)), (6, (ptr b10)), (7, (i64 ((i : Nat) : Int))), (8, (ptr b37)), (9, (i64 0)), (10, (i64 0)), (40, (Value.bool true)), (59, (Value.bool false)), (66, (i64 x.kind)), (67, (Value.bool false)), (78, (Value.bool false)), (93, (Value.bool true)), (96, (ptr b1)), (97, (Value.pointer (some ⟨b37, 1, none⟩)))] 2 ?_
             refine Ops.go (v := (Value.string (str x.name))) (by kernel_rfl) (Runs.load (t := 9) (a := ⟨b37, 1, none⟩) (by kernel_rfl) (H44.loads (by kernel_rfl))) (d := (some 98)) (by kernel_rfl) rfl ?_
             refine og 1 [(0, (Value.slice A l.length c)), (1, (Value.string (str bw))), (5, (ptr b1)), (6, (ptr b10)), (7, (i64 ((i : Nat) : Int))), (8, (ptr b37)), (9, (i64 0)), (10, (i64 0)), (40, (Value.bool true)), (59, (Value.bool false)), (66, (i64 x.kind)), (67, (Value.bool false)), (78, (Value.bool false)), (93, (Value.bool true)), (96, (ptr b1)), (98, (Value.string (str x.name))), (99, (Value.pointer (some ⟨b37, 3, none⟩)))] 4 ?_
             refine Ops.go (v := (i64 x.n)) (by kernel_rfl) (Runs.load (t := 2) (a := ⟨b37, 3, none⟩) (by kernel_rfl) (H44.loads (by kernel_rfl))) (d := (some 100)) (by kernel_rfl) rfl ?_
             refine Ops.call (by kernel_rfl) (d := (some 101)) (by kernel_rfl) (Take_calls _ b1 mb2 mm SS x.name x.n H26 H27 (by omega) hBm (by omega)) ?_
             rintro _ w478 ⟨m477, rfl, K479, H480, hB481⟩
             have hl482 := hB481.len
             have hno483 := hNO.chg (take_own x.n) x.name
             refine ⟨_, _, rfl, rfl, ?_⟩
             replace K25 := K25.trans K479 (U := none_) (fun i h1 h2 => h2) (fun i h1 h2 => by have h2 : i = mb2 := h2; exfalso; omega)
             replace H26 := H26.keep K479 (by intro h; change b1 = mb2 at h; omega)
             replace H28 := H28.keep K479 (by intro h; change b10 = mb2 at h; omega)
             replace H61 := H61.keep K479 (by intro h; change mb11 = mb2 at h; omega)
             replace H44 := H44.keep K479 (by intro h; change b37 = mb2 at h; omega)
             clear K479
             refine og 1 [(0, (Value.slice A l.length c)), (1, (Value.string (str bw))), (5, (ptr b1)), (6, (ptr b10)), (7, (i64 ((i : Nat) : Int))), (8, (ptr b37)), (9, (i64 (chgE (takeF x.n) SS x.name))), (10, (i64 0)), (40, (Value.bool true)), (59, (Value.bool false)), (66, (i64 x.kind)), (67, (Value.bool false)), (78, (Value.bool false)), (93, (Value.bool true))] 7 ?_
             refine od ?_
             refine qg ?_
             refine og 2 [(0, (Value.slice A l.length c)), (1, (Value.string (str bw))), (5, (ptr b1)), (6, (ptr b10)), (7, (i64 ((i : Nat) : Int))), (8, (ptr b37)), (9, (i64 (chgE (takeF x.n) SS x.name))), (10, (i64 0)), (40, (Value.bool true)), (59, (Value.bool false)), (66, (i64 x.kind)), (67, (Value.bool false)), (78, (Value.bool false)), (93, (Value.bool true)), (102, (ptr b10)), (103, (Value.pointer (some ⟨b37, 1, none⟩)))] 2 ?_
             refine Ops.go (v := (Value.string (str x.name))) (by kernel_rfl) (Runs.load (t := 9) (a := ⟨b37, 1, none⟩) (by kernel_rfl) (H44.loads (by kernel_rfl))) (d := (some 104)) (by kernel_rfl) rfl ?_
             refine og 1 [(0, (Value.slice A l.length c)), (1, (Value.string (str bw))), (5, (ptr b1)), (6, (ptr b10)), (7, (i64 ((i : Nat) : Int))), (8, (ptr b37)), (9, (i64 (chgE (takeF x.n) SS x.name))), (10, (i64 0)), (40, (Value.bool true)), (59, (Value.bool false)), (66, (i64 x.kind)), (67, (Value.bool false)), (78, (Value.bool false)), (93, (Value.bool true)), (102, (ptr b10)), (104, (Value.string (str x.name))), (105, (Value.pointer (some ⟨b37, 3, none⟩)))] 4 ?_
             refine Ops.go (v := (i64 x.n)) (by kernel_rfl) (Runs.load (t := 2) (a := ⟨b37, 3, none⟩) (by kernel_rfl) (H44.loads (by kernel_rfl))) (d := (some 106)) (by kernel_rfl) rfl ?_
             refine Ops.call (by kernel_rfl) (d := (some 107)) (by kernel_rfl) (Take_calls _ b10 mb11 m58 (chgS (holdF bw) RR x.name) x.name x.n H28 H61 (by omega) hB62 (by omega)) ?_
             rintro _ w485 ⟨m484, rfl, K486, H487, hB488⟩
             have hl489 := hB488.len
             have hee490 := hre64.chgE (blind_take x.n) x.name
             have hre491 := hre64.chgS (blind_take x.n) x.name
             refine ⟨_, _, rfl, rfl, ?_⟩
             replace K25 := K25.trans K486 (U := none_) (fun i h1 h2 => h2) (fun i h1 h2 => by have h2 : i = mb11 := h2; exfalso; omega)
             replace H26 := H26.keep K486 (by intro h; change b1 = mb11 at h; omega)
             replace H480 := H480.keep K486 (by intro h; change mb2 = mb11 at h; omega)
             replace H28 := H28.keep K486 (by intro h; change b10 = mb11 at h; omega)
             replace H44 := H44.keep K486 (by intro h; change b37 = mb11 at h; omega)
             clear K486
             refine og 1 [(0, (Value.slice A l.length c)), (1, (Value.string (str bw))), (5, (ptr b1)), (6, (ptr b10)), (7, (i64 ((i : Nat) : Int))), (8, (ptr b37)), (9, (i64 (chgE (takeF x.n) SS x.name))), (10, (i64 (chgE (takeF x.n) (chgS (holdF bw) RR x.name) x.name))), (40, (Value.bool true)), (59, (Value.bool false)), (66, (i64 x.kind)), (67, (Value.bool false)), (78, (Value.bool false)), (93, (Value.bool true))] 7 ?_
             refine od ?_
             refine qs ?_
             refine qs ?_
             refine qg ?_
             refine og 4 [(0, (Value.slice A l.length c)), (1, (Value.string (str bw))), (5, (ptr b1)), (6, (ptr b10)), (7, (i64 ((i : Nat) : Int))), (8, (ptr b37)), (9, (i64 (chgE (takeF x.n) SS x.name))), (10, (i64 (chgE (takeF x.n) (chgS (holdF bw) RR x.name) x.name))), (40, (Value.bool true)), (59, (Value.bool false)), (66, (i64 x.kind)), (67, (Value.bool false)), (78, (Value.bool false)), (93, (Value.bool true)), (111, (Value.bool ((chgE (takeF x.n) SS x.name) != (chgE (takeF x.n) (chgS (holdF bw) RR x.name) x.name))))] 4 ?_
             have h492 : ((chgE (takeF x.n) SS x.name) != (chgE (takeF x.n) (chgS (holdF bw) RR x.name) x.name)) = false := bne_f hee490
             rw [h492]
             refine og 1 [(0, (Value.slice A l.length c)), (1, (Value.string (str bw))), (5, (ptr b1)), (6, (ptr b10)), (7, (i64 ((i : Nat) : Int))), (8, (ptr b37)), (9, (i64 (chgE (takeF x.n) SS x.name))), (10, (i64 (chgE (takeF x.n) (chgS (holdF bw) RR x.name) x.name))), (40, (Value.bool true)), (59, (Value.bool false)), (66, (i64 x.kind)), (67, (Value.bool false)), (78, (Value.bool false)), (93, (Value.bool true)), (111, (Value.bool false)), (112, (ptr b1))] 5 ?_
             refine Ops.call (by kernel_rfl) (d := (some 113)) (by kernel_rfl) (Rows_calls _ b1 mb2 m477 (chgS (takeF x.n) SS x.name) (-1) H26 H480 (by omega) hB481) ?_
             rintro _ w495 ⟨A493, c494, rfl, K496, hO497⟩
             have ob499 : ∀ i, ((Value.slice A493 ((rowsS (chgS (takeF x.n) SS x.name) (-1)).length) c494)).ownBlock = some i → i ≠ b1 := fun i hi => by have := (World.ownsRow.lt hO497 i hi).1; have := H26.lt; omega
             have ob500 : ∀ i, ((Value.slice A493 ((rowsS (chgS (takeF x.n) SS x.name) (-1)).length) c494)).ownBlock = some i → i ≠ mb2 := fun i hi => by have := (World.ownsRow.lt hO497 i hi).1; have := H480.lt; omega
             have ob501 : ∀ i, ((Value.slice A493 ((rowsS (chgS (takeF x.n) SS x.name) (-1)).length) c494)).ownBlock = some i → i ≠ b10 := fun i hi => by have := (World.ownsRow.lt hO497 i hi).1; have := H28.lt; omega
             have ob502 : ∀ i, ((Value.slice A493 ((rowsS (chgS (takeF x.n) SS x.name) (-1)).length) c494)).ownBlock = some i → i ≠ mb11 := fun i hi => by have := (World.ownsRow.lt hO497 i hi).1; have := H487.lt; omega
             have ob503 : ∀ i, ((Value.slice A493 ((rowsS (chgS (takeF x.n) SS x.name) (-1)).length) c494)).ownBlock = some i → i ≠ b37 := fun i hi => by have := (World.ownsRow.lt hO497 i hi).1; have := H44.lt; omega
             have O498 := own_base hO497 K25.size
             clear hO497
             have hl504 := rowsS_len (chgS (takeF x.n) SS x.name) (-1)
             have hl505 := hB481.accs.len
             refine ⟨_, _, rfl, rfl, ?_⟩
             replace K25 := K25.trans K496 (U := none_) (fun i h1 h2 => h2) (fun i h1 h2 => by exact h2)
             replace H26 := H26.keep K496 (fun h => h)
             replace H480 := H480.keep K496 (fun h => h)
             replace H28 := H28.keep K496 (fun h => h)
             replace H487 := H487.keep K496 (fun h => h)
             replace H44 := H44.keep K496 (fun h => h)
             clear K496
             refine og 1 [(0, (Value.slice A l.length c)), (1, (Value.string (str bw))), (5, (ptr b1)), (6, (ptr b10)), (7, (i64 ((i : Nat) : Int))), (8, (ptr b37)), (9, (i64 (chgE (takeF x.n) SS x.name))), (10, (i64 (chgE (takeF x.n) (chgS (holdF bw) RR x.name) x.name))), (40, (Value.bool true)), (59, (Value.bool false)), (66, (i64 x.kind)), (67, (Value.bool false)), (78, (Value.bool false)), (93, (Value.bool true)), (111, (Value.bool false)), (113, (Value.slice A493 ((rowsS (chgS (takeF x.n) SS x.name) (-1)).length) c494)), (114, (ptr b10))] 7 ?_
             refine Ops.call (by kernel_rfl) (d := (some 115)) (by kernel_rfl) (Rows_calls _ b10 mb11 m484 (chgS (takeF x.n) (chgS (holdF bw) RR x.name) x.name) (-1) H28 H487 (by omega) hB488) ?_
             rintro _ w508 ⟨A506, c507, rfl, K509, hO510⟩
             have ob512 : ∀ i, ((Value.slice A506 ((rowsS (chgS (takeF x.n) (chgS (holdF bw) RR x.name) x.name) (-1)).length) c507)).ownBlock = some i → i ≠ b1 := fun i hi => by have := (World.ownsRow.lt hO510 i hi).1; have := H26.lt; omega
             have ob513 : ∀ i, ((Value.slice A506 ((rowsS (chgS (takeF x.n) (chgS (holdF bw) RR x.name) x.name) (-1)).length) c507)).ownBlock = some i → i ≠ mb2 := fun i hi => by have := (World.ownsRow.lt hO510 i hi).1; have := H480.lt; omega
             have ob514 : ∀ i, ((Value.slice A506 ((rowsS (chgS (takeF x.n) (chgS (holdF bw) RR x.name) x.name) (-1)).length) c507)).ownBlock = some i → i ≠ b10 := fun i hi => by have := (World.ownsRow.lt hO510 i hi).1; have := H28.lt; omega
             have ob515 : ∀ i, ((Value.slice A506 ((rowsS (chgS (takeF x.n) (chgS (holdF bw) RR x.name) x.name) (-1)).length) c507)).ownBlock = some i → i ≠ mb11 := fun i hi => by have := (World.ownsRow.lt hO510 i hi).1; have := H487.lt; omega
             have ob516 : ∀ i, ((Value.slice A506 ((rowsS (chgS (takeF x.n) (chgS (holdF bw) RR x.name) x.name) (-1)).length) c507)).ownBlock = some i → i ≠ b37 := fun i hi => by have := (World.ownsRow.lt hO510 i hi).1; have := H44.lt; omega
             have oo517 : ∀ i, ((Value.slice A493 ((rowsS (chgS (takeF x.n) SS x.name) (-1)).length) c494)).ownBlock = some i → ((Value.slice A506 ((rowsS (chgS (takeF x.n) (chgS (holdF bw) RR x.name) x.name) (-1)).length) c507)).ownBlock = some i → False := fun i hi hs => by have := (World.ownsRow.lt hO510 i hs).1; have := (World.ownsRow.lt O498 i hi).2; omega
             have oo518 : ∀ i, ((Value.slice A506 ((rowsS (chgS (takeF x.n) (chgS (holdF bw) RR x.name) x.name) (-1)).length) c507)).ownBlock = some i → ((Value.slice A493 ((rowsS (chgS (takeF x.n) SS x.name) (-1)).length) c494)).ownBlock = some i → False := fun i hi hs => oo517 i hs hi
             have O511 := own_base hO510 K25.size
             clear hO510
             have hl519 := rowsS_len (chgS (takeF x.n) (chgS (holdF bw) RR x.name) x.name) (-1)
             have hl520 := hB488.accs.len
             refine ⟨_, _, rfl, rfl, ?_⟩
             replace K25 := K25.trans K509 (U := none_) (fun i h1 h2 => h2) (fun i h1 h2 => by exact h2)
             replace H26 := H26.keep K509 (fun h => h)
             replace H480 := H480.keep K509 (fun h => h)
             replace H28 := H28.keep K509 (fun h => h)
             replace H487 := H487.keep K509 (fun h => h)
             replace H44 := H44.keep K509 (fun h => h)
             replace O498 := own_keep0 O498 K509
             clear K509
             refine Ops.call (by kernel_rfl) (d := (some 116)) (by kernel_rfl) (SameRows_calls _ A493 c494 (rowsS (chgS (takeF x.n) SS x.name) (-1)) A506 c507 (rowsS (chgS (takeF x.n) (chgS (holdF bw) RR x.name) x.name) (-1)) (OwnT.rd O498) (OwnT.rd O511)) ?_
             rintro _ w524 ⟨t521, rfl, ht522, K523⟩
             have hsr525 := ht522.2 hre491.all
             refine ⟨_, _, rfl, rfl, ?_⟩
             replace K25 := K25.trans K523 (U := none_) (fun i h1 h2 => h2) (fun i h1 h2 => by exact h2)
             replace H26 := H26.keep K523 (fun h => h)
             replace H480 := H480.keep K523 (fun h => h)
             replace H28 := H28.keep K523 (fun h => h)
             replace H487 := H487.keep K523 (fun h => h)
             replace H44 := H44.keep K523 (fun h => h)
             replace O498 := own_keep0 O498 K523
             replace O511 := own_keep0 O511 K523
             clear K523
             refine og 2 [(0, (Value.slice A l.length c)), (1, (Value.string (str bw))), (5, (ptr b1)), (6, (ptr b10)), (7, (i64 ((i : Nat) : Int))), (8, (ptr b37)), (9, (i64 (chgE (takeF x.n) SS x.name))), (10, (i64 (chgE (takeF x.n) (chgS (holdF bw) RR x.name) x.name))), (40, (Value.bool true)), (59, (Value.bool false)), (66, (i64 x.kind)), (67, (Value.bool false)), (78, (Value.bool false)), (93, (Value.bool true)), (118, (Value.bool (!t521)))] 11 ?_
             refine od ?_
             have h526 : (!t521) = false := by rw [show t521 = true from hsr525]; rfl
             rw [h526]
             refine q_else (o := .tmp 118) (by kernel_rfl) rfl ?_
             refine q_skip (by kernel_rfl) ?_
             refine qs ?_
             refine qg ?_
             refine og 1 [(0, (Value.slice A l.length c)), (1, (Value.string (str bw))), (5, (ptr b1)), (6, (ptr b10)), (7, (i64 ((i : Nat) : Int))), (8, (ptr b37)), (9, (i64 (chgE (takeF x.n) SS x.name))), (10, (i64 (chgE (takeF x.n) (chgS (holdF bw) RR x.name) x.name))), (40, (Value.bool true)), (59, (Value.bool false)), (66, (i64 x.kind)), (67, (Value.bool false)), (78, (Value.bool false)), (93, (Value.bool true)), (118, (Value.bool false)), (119, (Value.string (str bw)))] 1 ?_
             refine Ops.go (v := (Value.bool (!(bw == ([] : List UInt8))))) (by kernel_rfl) (Runs.strne (t := 9) (by kernel_rfl)) (d := (some 120)) (by kernel_rfl) rfl ?_
             refine og 1 [(0, (Value.slice A l.length c)), (1, (Value.string (str bw))), (5, (ptr b1)), (6, (ptr b10)), (7, (i64 ((i : Nat) : Int))), (8, (ptr b37)), (9, (i64 (chgE (takeF x.n) SS x.name))), (10, (i64 (chgE (takeF x.n) (chgS (holdF bw) RR x.name) x.name))), (40, (Value.bool true)), (59, (Value.bool false)), (66, (i64 x.kind)), (67, (Value.bool false)), (78, (Value.bool false)), (93, (Value.bool true)), (118, (Value.bool false)), (121, (Value.bool (!(bw == ([] : List UInt8)))))] 3 ?_
             refine Ops.split (!(bw == ([] : List UInt8))) (fun h527 => ?_) (fun h527 => ?_)
             ·rw [h527]
              have p528 : (bw == ([] : List UInt8)) = false := (bnot_true h527)
              refine og 2 [(0, (Value.slice A l.length c)), (1, (Value.string (str bw))), (5, (ptr b1)), (6, (ptr b10)), (7, (i64 ((i : Nat) : Int))), (8, (ptr b37)), (9, (i64 (chgE (takeF x.n) SS x.name))), (10, (i64 (chgE (takeF x.n) (chgS (holdF bw) RR x.name) x.name))), (40, (Value.bool true)), (59, (Value.bool false)), (66, (i64 x.kind)), (67, (Value.bool false)), (78, (Value.bool false)), (93, (Value.bool true)), (118, (Value.bool false)), (121, (Value.bool true)), (122, (ptr b10)), (123, (Value.pointer (some ⟨b37, 1, none⟩)))] 5 ?_
              refine Ops.go (v := (Value.string (str x.name))) (by kernel_rfl) (Runs.load (t := 9) (a := ⟨b37, 1, none⟩) (by kernel_rfl) (H44.loads (by kernel_rfl))) (d := (some 124)) (by kernel_rfl) rfl ?_
              refine Ops.call (by kernel_rfl) (d := (some 125)) (by kernel_rfl) (By_calls _ b10 mb11 m484 (chgS (takeF x.n) (chgS (holdF bw) RR x.name) x.name) x.name H28 H487 (by omega) hB488) ?_
              rintro _ w530 ⟨rfl, K529⟩
              refine ⟨_, _, rfl, rfl, ?_⟩
              replace K25 := K25.trans K529 (U := none_) (fun i h1 h2 => h2) (fun i h1 h2 => by exact h2)
              replace H26 := H26.keep K529 (fun h => h)
              replace H480 := H480.keep K529 (fun h => h)
              replace H28 := H28.keep K529 (fun h => h)
              replace H487 := H487.keep K529 (fun h => h)
              replace H44 := H44.keep K529 (fun h => h)
              replace O498 := own_keep0 O498 K529
              replace O511 := own_keep0 O511 K529
              clear K529
              refine og 1 [(0, (Value.slice A l.length c)), (1, (Value.string (str bw))), (5, (ptr b1)), (6, (ptr b10)), (7, (i64 ((i : Nat) : Int))), (8, (ptr b37)), (9, (i64 (chgE (takeF x.n) SS x.name))), (10, (i64 (chgE (takeF x.n) (chgS (holdF bw) RR x.name) x.name))), (40, (Value.bool true)), (59, (Value.bool false)), (66, (i64 x.kind)), (67, (Value.bool false)), (78, (Value.bool false)), (93, (Value.bool true)), (118, (Value.bool false)), (121, (Value.bool true)), (125, (Value.string (str (ownE (chgS (takeF x.n) (chgS (holdF bw) RR x.name) x.name) x.name)))), (126, (Value.string (str bw)))] 8 ?_
              refine Ops.go (v := (Value.bool ((ownE (chgS (takeF x.n) (chgS (holdF bw) RR x.name) x.name) x.name) == bw))) (by kernel_rfl) (Runs.streq (t := 9) (by kernel_rfl)) (d := (some 127)) (by kernel_rfl) rfl ?_
              refine og 2 [(0, (Value.slice A l.length c)), (1, (Value.string (str bw))), (5, (ptr b1)), (6, (ptr b10)), (7, (i64 ((i : Nat) : Int))), (8, (ptr b37)), (9, (i64 (chgE (takeF x.n) SS x.name))), (10, (i64 (chgE (takeF x.n) (chgS (holdF bw) RR x.name) x.name))), (40, (Value.bool true)), (59, (Value.bool false)), (66, (i64 x.kind)), (67, (Value.bool false)), (78, (Value.bool false)), (93, (Value.bool true)), (118, (Value.bool false)), (129, (Value.bool ((ownE (chgS (takeF x.n) (chgS (holdF bw) RR x.name) x.name) x.name) == bw)))] 11 ?_
              refine Ops.split ((ownE (chgS (takeF x.n) (chgS (holdF bw) RR x.name) x.name) x.name) == bw) (fun h531 => ?_) (fun h531 => ?_)
              ·rw [h531]
               have p532 : ((ownE (chgS (takeF x.n) (chgS (holdF bw) RR x.name) x.name) x.name) == bw) = true := h531
               refine og 2 [(0, (Value.slice A l.length c)), (1, (Value.string (str bw))), (5, (ptr b1)), (6, (ptr b10)), (7, (i64 ((i : Nat) : Int))), (8, (ptr b37)), (9, (i64 (chgE (takeF x.n) SS x.name))), (10, (i64 (chgE (takeF x.n) (chgS (holdF bw) RR x.name) x.name))), (40, (Value.bool true)), (59, (Value.bool false)), (66, (i64 x.kind)), (67, (Value.bool false)), (78, (Value.bool false)), (93, (Value.bool true)), (118, (Value.bool false)), (129, (Value.bool true)), (130, (ptr b10)), (131, (Value.pointer (some ⟨b37, 1, none⟩)))] 13 ?_
               refine Ops.go (v := (Value.string (str x.name))) (by kernel_rfl) (Runs.load (t := 9) (a := ⟨b37, 1, none⟩) (by kernel_rfl) (H44.loads (by kernel_rfl))) (d := (some 132)) (by kernel_rfl) rfl ?_
               refine og 1 [(0, (Value.slice A l.length c)), (1, (Value.string (str bw))), (5, (ptr b1)), (6, (ptr b10)), (7, (i64 ((i : Nat) : Int))), (8, (ptr b37)), (9, (i64 (chgE (takeF x.n) SS x.name))), (10, (i64 (chgE (takeF x.n) (chgS (holdF bw) RR x.name) x.name))), (40, (Value.bool true)), (59, (Value.bool false)), (66, (i64 x.kind)), (67, (Value.bool false)), (78, (Value.bool false)), (93, (Value.bool true)), (118, (Value.bool false)), (129, (Value.bool true)), (130, (ptr b10)), (132, (Value.string (str x.name))), (133, (Value.string (str bw)))] 15 ?_
               refine Ops.go (v := (Value.string (str (bw ++ [120])))) (by kernel_rfl) (Runs.stradd (t := 9) (a := bw) (b := [120]) (by kernel_rfl) (by simp only [List.length_cons, List.length_nil]; omega)) (d := (some 134)) (by kernel_rfl) rfl ?_
               refine Ops.call (by kernel_rfl) (d := (some 135)) (by kernel_rfl) (Hold_calls _ b10 mb11 m484 (chgS (takeF x.n) (chgS (holdF bw) RR x.name) x.name) x.name (bw ++ [120]) H28 H487 (by omega) hB488) ?_
               rintro _ w534 ⟨m533, rfl, K535, H536, hB537⟩
               have hl538 := hB537.len
               have hho539 := hold_other (x := (bw ++ [120])) hB488.accs (beq_true_eq h531) (by have h := h527; simpa using h) (more_ne _).1 (more_ne _).2 (by rw [List.length_append]; simp only [List.length_cons, List.length_nil]; omega)
               rw [hho539.1]
               have hB540 := hB537
               rw [hho539.2] at hB540
               refine ⟨_, _, rfl, rfl, ?_⟩
               replace K25 := K25.trans K535 (U := none_) (fun i h1 h2 => h2) (fun i h1 h2 => by have h2 : i = mb11 := h2; exfalso; omega)
               replace H26 := H26.keep K535 (by intro h; change b1 = mb11 at h; omega)
               replace H480 := H480.keep K535 (by intro h; change mb2 = mb11 at h; omega)
               replace H28 := H28.keep K535 (by intro h; change b10 = mb11 at h; omega)
               replace H44 := H44.keep K535 (by intro h; change b37 = mb11 at h; omega)
               replace O498 := own_keep O498 K535 (fun i hi hs => by have hs : i = mb11 := hs; have := ob502 i hi; omega)
               replace O511 := own_keep O511 K535 (fun i hi hs => by have hs : i = mb11 := hs; have := ob515 i hi; omega)
               clear K535
               refine og 4 [(0, (Value.slice A l.length c)), (1, (Value.string (str bw))), (5, (ptr b1)), (6, (ptr b10)), (7, (i64 ((i : Nat) : Int))), (8, (ptr b37)), (9, (i64 (chgE (takeF x.n) SS x.name))), (10, (i64 (chgE (takeF x.n) (chgS (holdF bw) RR x.name) x.name))), (40, (Value.bool true)), (59, (Value.bool false)), (66, (i64 x.kind)), (67, (Value.bool false)), (78, (Value.bool false)), (93, (Value.bool true)), (118, (Value.bool false)), (129, (Value.bool true)), (137, (Value.bool false)), (138, (ptr b10)), (139, (Value.pointer (some ⟨b37, 1, none⟩)))] 21 ?_
               refine Ops.go (v := (Value.string (str x.name))) (by kernel_rfl) (Runs.load (t := 9) (a := ⟨b37, 1, none⟩) (by kernel_rfl) (H44.loads (by kernel_rfl))) (d := (some 140)) (by kernel_rfl) rfl ?_
               refine og 1 [(0, (Value.slice A l.length c)), (1, (Value.string (str bw))), (5, (ptr b1)), (6, (ptr b10)), (7, (i64 ((i : Nat) : Int))), (8, (ptr b37)), (9, (i64 (chgE (takeF x.n) SS x.name))), (10, (i64 (chgE (takeF x.n) (chgS (holdF bw) RR x.name) x.name))), (40, (Value.bool true)), (59, (Value.bool false)), (66, (i64 x.kind)), (67, (Value.bool false)), (78, (Value.bool false)), (93, (Value.bool true)), (118, (Value.bool false)), (129, (Value.bool true)), (137, (Value.bool false)), (138, (ptr b10)), (140, (Value.string (str x.name))), (141, (Value.string (str bw)))] 23 ?_
               refine Ops.go (v := (Value.string (str (bw ++ [120])))) (by kernel_rfl) (Runs.stradd (t := 9) (a := bw) (b := [120]) (by kernel_rfl) (by simp only [List.length_cons, List.length_nil]; omega)) (d := (some 142)) (by kernel_rfl) rfl ?_
               refine Ops.call (by kernel_rfl) (d := (some 143)) (by kernel_rfl) (Free_calls _ b10 mb11 m533 (chgS (takeF x.n) (chgS (holdF bw) RR x.name) x.name) x.name (bw ++ [120]) H28 H536 (by omega) hB540) ?_
               rintro _ w542 ⟨m541, rfl, K543, H544, hB545⟩
               have hl546 := hB545.len
               have hho547 := free_other (x := (bw ++ [120])) hB540.accs (beq_true_eq h531) (by have h := h527; simpa using h) (more_ne _).1 
               rw [hho547.1]
               have hB548 := hB545
               rw [hho547.2] at hB548
               refine ⟨_, _, rfl, rfl, ?_⟩
               replace K25 := K25.trans K543 (U := none_) (fun i h1 h2 => h2) (fun i h1 h2 => by have h2 : i = mb11 := h2; exfalso; omega)
               replace H26 := H26.keep K543 (by intro h; change b1 = mb11 at h; omega)
               replace H480 := H480.keep K543 (by intro h; change mb2 = mb11 at h; omega)
               replace H28 := H28.keep K543 (by intro h; change b10 = mb11 at h; omega)
               replace H44 := H44.keep K543 (by intro h; change b37 = mb11 at h; omega)
               replace O498 := own_keep O498 K543 (fun i hi hs => by have hs : i = mb11 := hs; have := ob502 i hi; omega)
               replace O511 := own_keep O511 K543 (fun i hi hs => by have hs : i = mb11 := hs; have := ob515 i hi; omega)
               clear K543
               refine og 5 [(0, (Value.slice A l.length c)), (1, (Value.string (str bw))), (5, (ptr b1)), (6, (ptr b10)), (7, (i64 ((i : Nat) : Int))), (8, (ptr b37)), (9, (i64 (chgE (takeF x.n) SS x.name))), (10, (i64 (chgE (takeF x.n) (chgS (holdF bw) RR x.name) x.name))), (40, (Value.bool true)), (59, (Value.bool false)), (66, (i64 x.kind)), (67, (Value.bool false)), (78, (Value.bool false)), (93, (Value.bool true)), (118, (Value.bool false)), (129, (Value.bool true)), (146, (Value.bool false)), (147, (ptr b10)), (148, (Value.pointer (some ⟨b37, 1, none⟩)))] 30 ?_
               refine Ops.go (v := (Value.string (str x.name))) (by kernel_rfl) (Runs.load (t := 9) (a := ⟨b37, 1, none⟩) (by kernel_rfl) (H44.loads (by kernel_rfl))) (d := (some 149)) (by kernel_rfl) rfl ?_
               refine Ops.call (by kernel_rfl) (d := (some 150)) (by kernel_rfl) (By_calls _ b10 mb11 m541 (chgS (takeF x.n) (chgS (holdF bw) RR x.name) x.name) x.name H28 H544 (by omega) hB548) ?_
               rintro _ w550 ⟨rfl, K549⟩
               refine ⟨_, _, rfl, rfl, ?_⟩
               replace K25 := K25.trans K549 (U := none_) (fun i h1 h2 => h2) (fun i h1 h2 => by exact h2)
               replace H26 := H26.keep K549 (fun h => h)
               replace H480 := H480.keep K549 (fun h => h)
               replace H28 := H28.keep K549 (fun h => h)
               replace H544 := H544.keep K549 (fun h => h)
               replace H44 := H44.keep K549 (fun h => h)
               replace O498 := own_keep0 O498 K549
               replace O511 := own_keep0 O511 K549
               clear K549
               refine og 1 [(0, (Value.slice A l.length c)), (1, (Value.string (str bw))), (5, (ptr b1)), (6, (ptr b10)), (7, (i64 ((i : Nat) : Int))), (8, (ptr b37)), (9, (i64 (chgE (takeF x.n) SS x.name))), (10, (i64 (chgE (takeF x.n) (chgS (holdF bw) RR x.name) x.name))), (40, (Value.bool true)), (59, (Value.bool false)), (66, (i64 x.kind)), (67, (Value.bool false)), (78, (Value.bool false)), (93, (Value.bool true)), (118, (Value.bool false)), (129, (Value.bool true)), (146, (Value.bool false)), (150, (Value.string (str (ownE (chgS (takeF x.n) (chgS (holdF bw) RR x.name) x.name) x.name)))), (151, (Value.string (str bw)))] 33 ?_
               refine Ops.go (v := (Value.bool (!((ownE (chgS (takeF x.n) (chgS (holdF bw) RR x.name) x.name) x.name) == bw)))) (by kernel_rfl) (Runs.strne (t := 9) (by kernel_rfl)) (d := (some 152)) (by kernel_rfl) rfl ?_
               refine og 2 [(0, (Value.slice A l.length c)), (1, (Value.string (str bw))), (5, (ptr b1)), (6, (ptr b10)), (7, (i64 ((i : Nat) : Int))), (8, (ptr b37)), (9, (i64 (chgE (takeF x.n) SS x.name))), (10, (i64 (chgE (takeF x.n) (chgS (holdF bw) RR x.name) x.name))), (40, (Value.bool true)), (59, (Value.bool false)), (66, (i64 x.kind)), (67, (Value.bool false)), (78, (Value.bool false)), (93, (Value.bool true)), (118, (Value.bool false)), (154, (Value.bool (!((ownE (chgS (takeF x.n) (chgS (holdF bw) RR x.name) x.name) x.name) == bw))))] 36 ?_
               refine od ?_
               rw [h531]
               simp only [Bool.not_true]
               refine q_else (o := .tmp 154) (by kernel_rfl) rfl ?_
               refine q_skip (by kernel_rfl) ?_
               refine qg ?_
               refine og 2 [(0, (Value.slice A l.length c)), (1, (Value.string (str bw))), (5, (ptr b1)), (6, (ptr b10)), (7, (i64 ((i : Nat) : Int))), (8, (ptr b37)), (9, (i64 (chgE (takeF x.n) SS x.name))), (10, (i64 (chgE (takeF x.n) (chgS (holdF bw) RR x.name) x.name))), (40, (Value.bool true)), (42, (i64 (IntKind.i64.wrap (((i : Nat) : Int) + 1)))), (59, (Value.bool false)), (66, (i64 x.kind)), (67, (Value.bool false)), (78, (Value.bool false)), (93, (Value.bool true)), (118, (Value.bool false)), (154, (Value.bool false))] 2 ?_
               have e551 : IntKind.i64.wrap (((i : Nat) : Int) + 1) = ((i + 1 : Nat) : Int) := by rw [wrap_i64 (by omega) (by omega)]; omega
               rw [e551]
               clear e551
               refine og 1 [(0, (Value.slice A l.length c)), (1, (Value.string (str bw))), (5, (ptr b1)), (6, (ptr b10)), (7, (i64 ((i + 1 : Nat) : Int))), (8, (ptr b37)), (9, (i64 (chgE (takeF x.n) SS x.name))), (10, (i64 (chgE (takeF x.n) (chgS (holdF bw) RR x.name) x.name))), (40, (Value.bool true)), (59, (Value.bool false)), (66, (i64 x.kind)), (67, (Value.bool false)), (78, (Value.bool false)), (93, (Value.bool true)), (118, (Value.bool false)), (154, (Value.bool false))] 3 ?_
               refine Ops.keep (R := [(0, (Value.slice A l.length c)), (1, (Value.string (str bw))), (5, (ptr b1)), (6, (ptr b10)), (7, (i64 ((i + 1 : Nat) : Int)))]) (by kernel_rfl) ?_
               refine od ?_
               exact ⟨(i + 1, m477, chgS (takeF x.n) SS x.name, m541, chgS (takeF x.n) (chgS (holdF bw) RR x.name) x.name), ⟨rfl, (by omega), hB481, hB548, hre491, hno483, K25, H26, H480, H28, H544⟩, (show l.length - (i + 1) < l.length - i from by omega)⟩
              ·rw [h531]
               have p552 : ((ownE (chgS (takeF x.n) (chgS (holdF bw) RR x.name) x.name) x.name) == bw) = false := h531
               refine og 25 [(0, (Value.slice A l.length c)), (1, (Value.string (str bw))), (5, (ptr b1)), (6, (ptr b10)), (7, (i64 ((i : Nat) : Int))), (8, (ptr b37)), (9, (i64 (chgE (takeF x.n) SS x.name))), (10, (i64 (chgE (takeF x.n) (chgS (holdF bw) RR x.name) x.name))), (40, (Value.bool true)), (59, (Value.bool false)), (66, (i64 x.kind)), (67, (Value.bool false)), (78, (Value.bool false)), (93, (Value.bool true)), (118, (Value.bool false)), (154, (Value.bool false))] 36 ?_
               refine od ?_
               refine q_else (o := .tmp 154) (by kernel_rfl) rfl ?_
               refine q_skip (by kernel_rfl) ?_
               refine qg ?_
               refine og 2 [(0, (Value.slice A l.length c)), (1, (Value.string (str bw))), (5, (ptr b1)), (6, (ptr b10)), (7, (i64 ((i : Nat) : Int))), (8, (ptr b37)), (9, (i64 (chgE (takeF x.n) SS x.name))), (10, (i64 (chgE (takeF x.n) (chgS (holdF bw) RR x.name) x.name))), (40, (Value.bool true)), (42, (i64 (IntKind.i64.wrap (((i : Nat) : Int) + 1)))), (59, (Value.bool false)), (66, (i64 x.kind)), (67, (Value.bool false)), (78, (Value.bool false)), (93, (Value.bool true)), (118, (Value.bool false)), (154, (Value.bool false))] 2 ?_
               have e553 : IntKind.i64.wrap (((i : Nat) : Int) + 1) = ((i + 1 : Nat) : Int) := by rw [wrap_i64 (by omega) (by omega)]; omega
               rw [e553]
               clear e553
               refine og 1 [(0, (Value.slice A l.length c)), (1, (Value.string (str bw))), (5, (ptr b1)), (6, (ptr b10)), (7, (i64 ((i + 1 : Nat) : Int))), (8, (ptr b37)), (9, (i64 (chgE (takeF x.n) SS x.name))), (10, (i64 (chgE (takeF x.n) (chgS (holdF bw) RR x.name) x.name))), (40, (Value.bool true)), (59, (Value.bool false)), (66, (i64 x.kind)), (67, (Value.bool false)), (78, (Value.bool false)), (93, (Value.bool true)), (118, (Value.bool false)), (154, (Value.bool false))] 3 ?_
               refine Ops.keep (R := [(0, (Value.slice A l.length c)), (1, (Value.string (str bw))), (5, (ptr b1)), (6, (ptr b10)), (7, (i64 ((i + 1 : Nat) : Int)))]) (by kernel_rfl) ?_
               refine od ?_
               exact ⟨(i + 1, m477, chgS (takeF x.n) SS x.name, m484, chgS (takeF x.n) (chgS (holdF bw) RR x.name) x.name), ⟨rfl, (by omega), hB481, hB488, hre491, hno483, K25, H26, H480, H28, H487⟩, (show l.length - (i + 1) < l.length - i from by omega)⟩
             ·rw [h527]
              have p554 : (bw == ([] : List UInt8)) = true := (bnot_false h527)
              refine og 33 [(0, (Value.slice A l.length c)), (1, (Value.string (str bw))), (5, (ptr b1)), (6, (ptr b10)), (7, (i64 ((i : Nat) : Int))), (8, (ptr b37)), (9, (i64 (chgE (takeF x.n) SS x.name))), (10, (i64 (chgE (takeF x.n) (chgS (holdF bw) RR x.name) x.name))), (40, (Value.bool true)), (59, (Value.bool false)), (66, (i64 x.kind)), (67, (Value.bool false)), (78, (Value.bool false)), (93, (Value.bool true)), (118, (Value.bool false)), (154, (Value.bool false))] 36 ?_
              refine od ?_
              refine q_else (o := .tmp 154) (by kernel_rfl) rfl ?_
              refine q_skip (by kernel_rfl) ?_
              refine qg ?_
              refine og 2 [(0, (Value.slice A l.length c)), (1, (Value.string (str bw))), (5, (ptr b1)), (6, (ptr b10)), (7, (i64 ((i : Nat) : Int))), (8, (ptr b37)), (9, (i64 (chgE (takeF x.n) SS x.name))), (10, (i64 (chgE (takeF x.n) (chgS (holdF bw) RR x.name) x.name))), (40, (Value.bool true)), (42, (i64 (IntKind.i64.wrap (((i : Nat) : Int) + 1)))), (59, (Value.bool false)), (66, (i64 x.kind)), (67, (Value.bool false)), (78, (Value.bool false)), (93, (Value.bool true)), (118, (Value.bool false)), (154, (Value.bool false))] 2 ?_
              have e555 : IntKind.i64.wrap (((i : Nat) : Int) + 1) = ((i + 1 : Nat) : Int) := by rw [wrap_i64 (by omega) (by omega)]; omega
              rw [e555]
              clear e555
              refine og 1 [(0, (Value.slice A l.length c)), (1, (Value.string (str bw))), (5, (ptr b1)), (6, (ptr b10)), (7, (i64 ((i + 1 : Nat) : Int))), (8, (ptr b37)), (9, (i64 (chgE (takeF x.n) SS x.name))), (10, (i64 (chgE (takeF x.n) (chgS (holdF bw) RR x.name) x.name))), (40, (Value.bool true)), (59, (Value.bool false)), (66, (i64 x.kind)), (67, (Value.bool false)), (78, (Value.bool false)), (93, (Value.bool true)), (118, (Value.bool false)), (154, (Value.bool false))] 3 ?_
              refine Ops.keep (R := [(0, (Value.slice A l.length c)), (1, (Value.string (str bw))), (5, (ptr b1)), (6, (ptr b10)), (7, (i64 ((i + 1 : Nat) : Int)))]) (by kernel_rfl) ?_
              refine od ?_
              exact ⟨(i + 1, m477, chgS (takeF x.n) SS x.name, m484, chgS (takeF x.n) (chgS (holdF bw) RR x.name) x.name), ⟨rfl, (by omega), hB481, hB488, hre491, hno483, K25, H26, H480, H28, H487⟩, (show l.length - (i + 1) < l.length - i from by omega)⟩
            ·rw [h475]
             have p556 : ¬ (x.kind = 5) := of_beq_f h475
             refine q_skip (by kernel_rfl) ?_
             refine qs ?_
             refine qs ?_
             refine qg ?_
             refine og 5 [(0, (Value.slice A l.length c)), (1, (Value.string (str bw))), (5, (ptr b1)), (6, (ptr b10)), (7, (i64 ((i : Nat) : Int))), (8, (ptr b37)), (9, (i64 0)), (10, (i64 0)), (40, (Value.bool true)), (59, (Value.bool false)), (66, (i64 x.kind)), (67, (Value.bool false)), (78, (Value.bool false)), (93, (Value.bool false)), (111, (Value.bool false)), (112, (ptr b1))] 5 ?_
             refine Ops.call (by kernel_rfl) (d := (some 113)) (by kernel_rfl) (Rows_calls _ b1 mb2 mm SS (-1) H26 H27 (by omega) hBm) ?_
             rintro _ w559 ⟨A557, c558, rfl, K560, hO561⟩
             have ob563 : ∀ i, ((Value.slice A557 ((rowsS SS (-1)).length) c558)).ownBlock = some i → i ≠ b1 := fun i hi => by have := (World.ownsRow.lt hO561 i hi).1; have := H26.lt; omega
             have ob564 : ∀ i, ((Value.slice A557 ((rowsS SS (-1)).length) c558)).ownBlock = some i → i ≠ mb2 := fun i hi => by have := (World.ownsRow.lt hO561 i hi).1; have := H27.lt; omega
             have ob565 : ∀ i, ((Value.slice A557 ((rowsS SS (-1)).length) c558)).ownBlock = some i → i ≠ b10 := fun i hi => by have := (World.ownsRow.lt hO561 i hi).1; have := H28.lt; omega
             have ob566 : ∀ i, ((Value.slice A557 ((rowsS SS (-1)).length) c558)).ownBlock = some i → i ≠ mb11 := fun i hi => by have := (World.ownsRow.lt hO561 i hi).1; have := H61.lt; omega
             have ob567 : ∀ i, ((Value.slice A557 ((rowsS SS (-1)).length) c558)).ownBlock = some i → i ≠ b37 := fun i hi => by have := (World.ownsRow.lt hO561 i hi).1; have := H44.lt; omega
             have O562 := own_base hO561 K25.size
             clear hO561
             have hl568 := rowsS_len SS (-1)
             have hl569 := hBm.accs.len
             refine ⟨_, _, rfl, rfl, ?_⟩
             replace K25 := K25.trans K560 (U := none_) (fun i h1 h2 => h2) (fun i h1 h2 => by exact h2)
             replace H26 := H26.keep K560 (fun h => h)
             replace H27 := H27.keep K560 (fun h => h)
             replace H28 := H28.keep K560 (fun h => h)
             replace H61 := H61.keep K560 (fun h => h)
             replace H44 := H44.keep K560 (fun h => h)
             clear K560
             refine og 1 [(0, (Value.slice A l.length c)), (1, (Value.string (str bw))), (5, (ptr b1)), (6, (ptr b10)), (7, (i64 ((i : Nat) : Int))), (8, (ptr b37)), (9, (i64 0)), (10, (i64 0)), (40, (Value.bool true)), (59, (Value.bool false)), (66, (i64 x.kind)), (67, (Value.bool false)), (78, (Value.bool false)), (93, (Value.bool false)), (111, (Value.bool false)), (113, (Value.slice A557 ((rowsS SS (-1)).length) c558)), (114, (ptr b10))] 7 ?_
             refine Ops.call (by kernel_rfl) (d := (some 115)) (by kernel_rfl) (Rows_calls _ b10 mb11 m58 (chgS (holdF bw) RR x.name) (-1) H28 H61 (by omega) hB62) ?_
             rintro _ w572 ⟨A570, c571, rfl, K573, hO574⟩
             have ob576 : ∀ i, ((Value.slice A570 ((rowsS (chgS (holdF bw) RR x.name) (-1)).length) c571)).ownBlock = some i → i ≠ b1 := fun i hi => by have := (World.ownsRow.lt hO574 i hi).1; have := H26.lt; omega
             have ob577 : ∀ i, ((Value.slice A570 ((rowsS (chgS (holdF bw) RR x.name) (-1)).length) c571)).ownBlock = some i → i ≠ mb2 := fun i hi => by have := (World.ownsRow.lt hO574 i hi).1; have := H27.lt; omega
             have ob578 : ∀ i, ((Value.slice A570 ((rowsS (chgS (holdF bw) RR x.name) (-1)).length) c571)).ownBlock = some i → i ≠ b10 := fun i hi => by have := (World.ownsRow.lt hO574 i hi).1; have := H28.lt; omega
             have ob579 : ∀ i, ((Value.slice A570 ((rowsS (chgS (holdF bw) RR x.name) (-1)).length) c571)).ownBlock = some i → i ≠ mb11 := fun i hi => by have := (World.ownsRow.lt hO574 i hi).1; have := H61.lt; omega
             have ob580 : ∀ i, ((Value.slice A570 ((rowsS (chgS (holdF bw) RR x.name) (-1)).length) c571)).ownBlock = some i → i ≠ b37 := fun i hi => by have := (World.ownsRow.lt hO574 i hi).1; have := H44.lt; omega
             have oo581 : ∀ i, ((Value.slice A557 ((rowsS SS (-1)).length) c558)).ownBlock = some i → ((Value.slice A570 ((rowsS (chgS (holdF bw) RR x.name) (-1)).length) c571)).ownBlock = some i → False := fun i hi hs => by have := (World.ownsRow.lt hO574 i hs).1; have := (World.ownsRow.lt O562 i hi).2; omega
             have oo582 : ∀ i, ((Value.slice A570 ((rowsS (chgS (holdF bw) RR x.name) (-1)).length) c571)).ownBlock = some i → ((Value.slice A557 ((rowsS SS (-1)).length) c558)).ownBlock = some i → False := fun i hi hs => oo581 i hs hi
             have O575 := own_base hO574 K25.size
             clear hO574
             have hl583 := rowsS_len (chgS (holdF bw) RR x.name) (-1)
             have hl584 := hB62.accs.len
             refine ⟨_, _, rfl, rfl, ?_⟩
             replace K25 := K25.trans K573 (U := none_) (fun i h1 h2 => h2) (fun i h1 h2 => by exact h2)
             replace H26 := H26.keep K573 (fun h => h)
             replace H27 := H27.keep K573 (fun h => h)
             replace H28 := H28.keep K573 (fun h => h)
             replace H61 := H61.keep K573 (fun h => h)
             replace H44 := H44.keep K573 (fun h => h)
             replace O562 := own_keep0 O562 K573
             clear K573
             refine Ops.call (by kernel_rfl) (d := (some 116)) (by kernel_rfl) (SameRows_calls _ A557 c558 (rowsS SS (-1)) A570 c571 (rowsS (chgS (holdF bw) RR x.name) (-1)) (OwnT.rd O562) (OwnT.rd O575)) ?_
             rintro _ w588 ⟨t585, rfl, ht586, K587⟩
             have hsr589 := ht586.2 hre64.all
             refine ⟨_, _, rfl, rfl, ?_⟩
             replace K25 := K25.trans K587 (U := none_) (fun i h1 h2 => h2) (fun i h1 h2 => by exact h2)
             replace H26 := H26.keep K587 (fun h => h)
             replace H27 := H27.keep K587 (fun h => h)
             replace H28 := H28.keep K587 (fun h => h)
             replace H61 := H61.keep K587 (fun h => h)
             replace H44 := H44.keep K587 (fun h => h)
             replace O562 := own_keep0 O562 K587
             replace O575 := own_keep0 O575 K587
             clear K587
             refine og 2 [(0, (Value.slice A l.length c)), (1, (Value.string (str bw))), (5, (ptr b1)), (6, (ptr b10)), (7, (i64 ((i : Nat) : Int))), (8, (ptr b37)), (9, (i64 0)), (10, (i64 0)), (40, (Value.bool true)), (59, (Value.bool false)), (66, (i64 x.kind)), (67, (Value.bool false)), (78, (Value.bool false)), (93, (Value.bool false)), (118, (Value.bool (!t585)))] 11 ?_
             refine od ?_
             have h590 : (!t585) = false := by rw [show t585 = true from hsr589]; rfl
             rw [h590]
             refine q_else (o := .tmp 118) (by kernel_rfl) rfl ?_
             refine q_skip (by kernel_rfl) ?_
             refine qs ?_
             refine qg ?_
             refine og 1 [(0, (Value.slice A l.length c)), (1, (Value.string (str bw))), (5, (ptr b1)), (6, (ptr b10)), (7, (i64 ((i : Nat) : Int))), (8, (ptr b37)), (9, (i64 0)), (10, (i64 0)), (40, (Value.bool true)), (59, (Value.bool false)), (66, (i64 x.kind)), (67, (Value.bool false)), (78, (Value.bool false)), (93, (Value.bool false)), (118, (Value.bool false)), (119, (Value.string (str bw)))] 1 ?_
             refine Ops.go (v := (Value.bool (!(bw == ([] : List UInt8))))) (by kernel_rfl) (Runs.strne (t := 9) (by kernel_rfl)) (d := (some 120)) (by kernel_rfl) rfl ?_
             refine og 1 [(0, (Value.slice A l.length c)), (1, (Value.string (str bw))), (5, (ptr b1)), (6, (ptr b10)), (7, (i64 ((i : Nat) : Int))), (8, (ptr b37)), (9, (i64 0)), (10, (i64 0)), (40, (Value.bool true)), (59, (Value.bool false)), (66, (i64 x.kind)), (67, (Value.bool false)), (78, (Value.bool false)), (93, (Value.bool false)), (118, (Value.bool false)), (121, (Value.bool (!(bw == ([] : List UInt8)))))] 3 ?_
             refine Ops.split (!(bw == ([] : List UInt8))) (fun h591 => ?_) (fun h591 => ?_)
             ·rw [h591]
              have p592 : (bw == ([] : List UInt8)) = false := (bnot_true h591)
              refine og 2 [(0, (Value.slice A l.length c)), (1, (Value.string (str bw))), (5, (ptr b1)), (6, (ptr b10)), (7, (i64 ((i : Nat) : Int))), (8, (ptr b37)), (9, (i64 0)), (10, (i64 0)), (40, (Value.bool true)), (59, (Value.bool false)), (66, (i64 x.kind)), (67, (Value.bool false)), (78, (Value.bool false)), (93, (Value.bool false)), (118, (Value.bool false)), (121, (Value.bool true)), (122, (ptr b10)), (123, (Value.pointer (some ⟨b37, 1, none⟩)))] 5 ?_
              refine Ops.go (v := (Value.string (str x.name))) (by kernel_rfl) (Runs.load (t := 9) (a := ⟨b37, 1, none⟩) (by kernel_rfl) (H44.loads (by kernel_rfl))) (d := (some 124)) (by kernel_rfl) rfl ?_
              refine Ops.call (by kernel_rfl) (d := (some 125)) (by kernel_rfl) (By_calls _ b10 mb11 m58 (chgS (holdF bw) RR x.name) x.name H28 H61 (by omega) hB62) ?_
              rintro _ w594 ⟨rfl, K593⟩
              refine ⟨_, _, rfl, rfl, ?_⟩
              replace K25 := K25.trans K593 (U := none_) (fun i h1 h2 => h2) (fun i h1 h2 => by exact h2)
              replace H26 := H26.keep K593 (fun h => h)
              replace H27 := H27.keep K593 (fun h => h)
              replace H28 := H28.keep K593 (fun h => h)
              replace H61 := H61.keep K593 (fun h => h)
              replace H44 := H44.keep K593 (fun h => h)
              replace O562 := own_keep0 O562 K593
              replace O575 := own_keep0 O575 K593
              clear K593
              refine og 1 [(0, (Value.slice A l.length c)), (1, (Value.string (str bw))), (5, (ptr b1)), (6, (ptr b10)), (7, (i64 ((i : Nat) : Int))), (8, (ptr b37)), (9, (i64 0)), (10, (i64 0)), (40, (Value.bool true)), (59, (Value.bool false)), (66, (i64 x.kind)), (67, (Value.bool false)), (78, (Value.bool false)), (93, (Value.bool false)), (118, (Value.bool false)), (121, (Value.bool true)), (125, (Value.string (str (ownE (chgS (holdF bw) RR x.name) x.name)))), (126, (Value.string (str bw)))] 8 ?_
              refine Ops.go (v := (Value.bool ((ownE (chgS (holdF bw) RR x.name) x.name) == bw))) (by kernel_rfl) (Runs.streq (t := 9) (by kernel_rfl)) (d := (some 127)) (by kernel_rfl) rfl ?_
              refine og 2 [(0, (Value.slice A l.length c)), (1, (Value.string (str bw))), (5, (ptr b1)), (6, (ptr b10)), (7, (i64 ((i : Nat) : Int))), (8, (ptr b37)), (9, (i64 0)), (10, (i64 0)), (40, (Value.bool true)), (59, (Value.bool false)), (66, (i64 x.kind)), (67, (Value.bool false)), (78, (Value.bool false)), (93, (Value.bool false)), (118, (Value.bool false)), (129, (Value.bool ((ownE (chgS (holdF bw) RR x.name) x.name) == bw)))] 11 ?_
              refine Ops.split ((ownE (chgS (holdF bw) RR x.name) x.name) == bw) (fun h595 => ?_) (fun h595 => ?_)
              ·rw [h595]
               have p596 : ((ownE (chgS (holdF bw) RR x.name) x.name) == bw) = true := h595
               refine og 2 [(0, (Value.slice A l.length c)), (1, (Value.string (str bw))), (5, (ptr b1)), (6, (ptr b10)), (7, (i64 ((i : Nat) : Int))), (8, (ptr b37)), (9, (i64 0)), (10, (i64 0)), (40, (Value.bool true)), (59, (Value.bool false)), (66, (i64 x.kind)), (67, (Value.bool false)), (78, (Value.bool false)), (93, (Value.bool false)), (118, (Value.bool false)), (129, (Value.bool true)), (130, (ptr b10)), (131, (Value.pointer (some ⟨b37, 1, none⟩)))] 13 ?_
               refine Ops.go (v := (Value.string (str x.name))) (by kernel_rfl) (Runs.load (t := 9) (a := ⟨b37, 1, none⟩) (by kernel_rfl) (H44.loads (by kernel_rfl))) (d := (some 132)) (by kernel_rfl) rfl ?_
               refine og 1 [(0, (Value.slice A l.length c)), (1, (Value.string (str bw))), (5, (ptr b1)), (6, (ptr b10)), (7, (i64 ((i : Nat) : Int))), (8, (ptr b37)), (9, (i64 0)), (10, (i64 0)), (40, (Value.bool true)), (59, (Value.bool false)), (66, (i64 x.kind)), (67, (Value.bool false)), (78, (Value.bool false)), (93, (Value.bool false)), (118, (Value.bool false)), (129, (Value.bool true)), (130, (ptr b10)), (132, (Value.string (str x.name))), (133, (Value.string (str bw)))] 15 ?_
               refine Ops.go (v := (Value.string (str (bw ++ [120])))) (by kernel_rfl) (Runs.stradd (t := 9) (a := bw) (b := [120]) (by kernel_rfl) (by simp only [List.length_cons, List.length_nil]; omega)) (d := (some 134)) (by kernel_rfl) rfl ?_
               refine Ops.call (by kernel_rfl) (d := (some 135)) (by kernel_rfl) (Hold_calls _ b10 mb11 m58 (chgS (holdF bw) RR x.name) x.name (bw ++ [120]) H28 H61 (by omega) hB62) ?_
               rintro _ w598 ⟨m597, rfl, K599, H600, hB601⟩
               have hl602 := hB601.len
               have hho603 := hold_other (x := (bw ++ [120])) hB62.accs (beq_true_eq h595) (by have h := h591; simpa using h) (more_ne _).1 (more_ne _).2 (by rw [List.length_append]; simp only [List.length_cons, List.length_nil]; omega)
               rw [hho603.1]
               have hB604 := hB601
               rw [hho603.2] at hB604
               refine ⟨_, _, rfl, rfl, ?_⟩
               replace K25 := K25.trans K599 (U := none_) (fun i h1 h2 => h2) (fun i h1 h2 => by have h2 : i = mb11 := h2; exfalso; omega)
               replace H26 := H26.keep K599 (by intro h; change b1 = mb11 at h; omega)
               replace H27 := H27.keep K599 (by intro h; change mb2 = mb11 at h; omega)
               replace H28 := H28.keep K599 (by intro h; change b10 = mb11 at h; omega)
               replace H44 := H44.keep K599 (by intro h; change b37 = mb11 at h; omega)
               replace O562 := own_keep O562 K599 (fun i hi hs => by have hs : i = mb11 := hs; have := ob566 i hi; omega)
               replace O575 := own_keep O575 K599 (fun i hi hs => by have hs : i = mb11 := hs; have := ob579 i hi; omega)
               clear K599
               refine og 4 [(0, (Value.slice A l.length c)), (1, (Value.string (str bw))), (5, (ptr b1)), (6, (ptr b10)), (7, (i64 ((i : Nat) : Int))), (8, (ptr b37)), (9, (i64 0)), (10, (i64 0)), (40, (Value.bool true)), (59, (Value.bool false)), (66, (i64 x.kind)), (67, (Value.bool false)), (78, (Value.bool false)), (93, (Value.bool false)), (118, (Value.bool false)), (129, (Value.bool true)), (137, (Value.bool false)), (138, (ptr b10)), (139, (Value.pointer (some ⟨b37, 1, none⟩)))] 21 ?_
               refine Ops.go (v := (Value.string (str x.name))) (by kernel_rfl) (Runs.load (t := 9) (a := ⟨b37, 1, none⟩) (by kernel_rfl) (H44.loads (by kernel_rfl))) (d := (some 140)) (by kernel_rfl) rfl ?_
               refine og 1 [(0, (Value.slice A l.length c)), (1, (Value.string (str bw))), (5, (ptr b1)), (6, (ptr b10)), (7, (i64 ((i : Nat) : Int))), (8, (ptr b37)), (9, (i64 0)), (10, (i64 0)), (40, (Value.bool true)), (59, (Value.bool false)), (66, (i64 x.kind)), (67, (Value.bool false)), (78, (Value.bool false)), (93, (Value.bool false)), (118, (Value.bool false)), (129, (Value.bool true)), (137, (Value.bool false)), (138, (ptr b10)), (140, (Value.string (str x.name))), (141, (Value.string (str bw)))] 23 ?_
               refine Ops.go (v := (Value.string (str (bw ++ [120])))) (by kernel_rfl) (Runs.stradd (t := 9) (a := bw) (b := [120]) (by kernel_rfl) (by simp only [List.length_cons, List.length_nil]; omega)) (d := (some 142)) (by kernel_rfl) rfl ?_
               refine Ops.call (by kernel_rfl) (d := (some 143)) (by kernel_rfl) (Free_calls _ b10 mb11 m597 (chgS (holdF bw) RR x.name) x.name (bw ++ [120]) H28 H600 (by omega) hB604) ?_
               rintro _ w606 ⟨m605, rfl, K607, H608, hB609⟩
               have hl610 := hB609.len
               have hho611 := free_other (x := (bw ++ [120])) hB604.accs (beq_true_eq h595) (by have h := h591; simpa using h) (more_ne _).1 
               rw [hho611.1]
               have hB612 := hB609
               rw [hho611.2] at hB612
               refine ⟨_, _, rfl, rfl, ?_⟩
               replace K25 := K25.trans K607 (U := none_) (fun i h1 h2 => h2) (fun i h1 h2 => by have h2 : i = mb11 := h2; exfalso; omega)
               replace H26 := H26.keep K607 (by intro h; change b1 = mb11 at h; omega)
               replace H27 := H27.keep K607 (by intro h; change mb2 = mb11 at h; omega)
               replace H28 := H28.keep K607 (by intro h; change b10 = mb11 at h; omega)
               replace H44 := H44.keep K607 (by intro h; change b37 = mb11 at h; omega)
               replace O562 := own_keep O562 K607 (fun i hi hs => by have hs : i = mb11 := hs; have := ob566 i hi; omega)
               replace O575 := own_keep O575 K607 (fun i hi hs => by have hs : i = mb11 := hs; have := ob579 i hi; omega)
               clear K607
               refine og 5 [(0, (Value.slice A l.length c)), (1, (Value.string (str bw))), (5, (ptr b1)), (6, (ptr b10)), (7, (i64 ((i : Nat) : Int))), (8, (ptr b37)), (9, (i64 0)), (10, (i64 0)), (40, (Value.bool true)), (59, (Value.bool false)), (66, (i64 x.kind)), (67, (Value.bool false)), (78, (Value.bool false)), (93, (Value.bool false)), (118, (Value.bool false)), (129, (Value.bool true)), (146, (Value.bool false)), (147, (ptr b10)), (148, (Value.pointer (some ⟨b37, 1, none⟩)))] 30 ?_
               refine Ops.go (v := (Value.string (str x.name))) (by kernel_rfl) (Runs.load (t := 9) (a := ⟨b37, 1, none⟩) (by kernel_rfl) (H44.loads (by kernel_rfl))) (d := (some 149)) (by kernel_rfl) rfl ?_
               refine Ops.call (by kernel_rfl) (d := (some 150)) (by kernel_rfl) (By_calls _ b10 mb11 m605 (chgS (holdF bw) RR x.name) x.name H28 H608 (by omega) hB612) ?_
               rintro _ w614 ⟨rfl, K613⟩
               refine ⟨_, _, rfl, rfl, ?_⟩
               replace K25 := K25.trans K613 (U := none_) (fun i h1 h2 => h2) (fun i h1 h2 => by exact h2)
               replace H26 := H26.keep K613 (fun h => h)
               replace H27 := H27.keep K613 (fun h => h)
               replace H28 := H28.keep K613 (fun h => h)
               replace H608 := H608.keep K613 (fun h => h)
               replace H44 := H44.keep K613 (fun h => h)
               replace O562 := own_keep0 O562 K613
               replace O575 := own_keep0 O575 K613
               clear K613
               refine og 1 [(0, (Value.slice A l.length c)), (1, (Value.string (str bw))), (5, (ptr b1)), (6, (ptr b10)), (7, (i64 ((i : Nat) : Int))), (8, (ptr b37)), (9, (i64 0)), (10, (i64 0)), (40, (Value.bool true)), (59, (Value.bool false)), (66, (i64 x.kind)), (67, (Value.bool false)), (78, (Value.bool false)), (93, (Value.bool false)), (118, (Value.bool false)), (129, (Value.bool true)), (146, (Value.bool false)), (150, (Value.string (str (ownE (chgS (holdF bw) RR x.name) x.name)))), (151, (Value.string (str bw)))] 33 ?_
               refine Ops.go (v := (Value.bool (!((ownE (chgS (holdF bw) RR x.name) x.name) == bw)))) (by kernel_rfl) (Runs.strne (t := 9) (by kernel_rfl)) (d := (some 152)) (by kernel_rfl) rfl ?_
               refine og 2 [(0, (Value.slice A l.length c)), (1, (Value.string (str bw))), (5, (ptr b1)), (6, (ptr b10)), (7, (i64 ((i : Nat) : Int))), (8, (ptr b37)), (9, (i64 0)), (10, (i64 0)), (40, (Value.bool true)), (59, (Value.bool false)), (66, (i64 x.kind)), (67, (Value.bool false)), (78, (Value.bool false)), (93, (Value.bool false)), (118, (Value.bool false)), (154, (Value.bool (!((ownE (chgS (holdF bw) RR x.name) x.name) == bw))))] 36 ?_
               refine od ?_
               rw [h595]
               simp only [Bool.not_true]
               refine q_else (o := .tmp 154) (by kernel_rfl) rfl ?_
               refine q_skip (by kernel_rfl) ?_
               refine qg ?_
               refine og 2 [(0, (Value.slice A l.length c)), (1, (Value.string (str bw))), (5, (ptr b1)), (6, (ptr b10)), (7, (i64 ((i : Nat) : Int))), (8, (ptr b37)), (9, (i64 0)), (10, (i64 0)), (40, (Value.bool true)), (42, (i64 (IntKind.i64.wrap (((i : Nat) : Int) + 1)))), (59, (Value.bool false)), (66, (i64 x.kind)), (67, (Value.bool false)), (78, (Value.bool false)), (93, (Value.bool false)), (118, (Value.bool false)), (154, (Value.bool false))] 2 ?_
               have e615 : IntKind.i64.wrap (((i : Nat) : Int) + 1) = ((i + 1 : Nat) : Int) := by rw [wrap_i64 (by omega) (by omega)]; omega
               rw [e615]
               clear e615
               refine og 1 [(0, (Value.slice A l.length c)), (1, (Value.string (str bw))), (5, (ptr b1)), (6, (ptr b10)), (7, (i64 ((i + 1 : Nat) : Int))), (8, (ptr b37)), (9, (i64 0)), (10, (i64 0)), (40, (Value.bool true)), (59, (Value.bool false)), (66, (i64 x.kind)), (67, (Value.bool false)), (78, (Value.bool false)), (93, (Value.bool false)), (118, (Value.bool false)), (154, (Value.bool false))] 3 ?_
               refine Ops.keep (R := [(0, (Value.slice A l.length c)), (1, (Value.string (str bw))), (5, (ptr b1)), (6, (ptr b10)), (7, (i64 ((i + 1 : Nat) : Int)))]) (by kernel_rfl) ?_
               refine od ?_
               exact ⟨(i + 1, mm, SS, m605, chgS (holdF bw) RR x.name), ⟨rfl, (by omega), hBm, hB612, hre64, hNO, K25, H26, H27, H28, H608⟩, (show l.length - (i + 1) < l.length - i from by omega)⟩
              ·rw [h595]
               have p616 : ((ownE (chgS (holdF bw) RR x.name) x.name) == bw) = false := h595
               refine og 25 [(0, (Value.slice A l.length c)), (1, (Value.string (str bw))), (5, (ptr b1)), (6, (ptr b10)), (7, (i64 ((i : Nat) : Int))), (8, (ptr b37)), (9, (i64 0)), (10, (i64 0)), (40, (Value.bool true)), (59, (Value.bool false)), (66, (i64 x.kind)), (67, (Value.bool false)), (78, (Value.bool false)), (93, (Value.bool false)), (118, (Value.bool false)), (154, (Value.bool false))] 36 ?_
               refine od ?_
               refine q_else (o := .tmp 154) (by kernel_rfl) rfl ?_
               refine q_skip (by kernel_rfl) ?_
               refine qg ?_
               refine og 2 [(0, (Value.slice A l.length c)), (1, (Value.string (str bw))), (5, (ptr b1)), (6, (ptr b10)), (7, (i64 ((i : Nat) : Int))), (8, (ptr b37)), (9, (i64 0)), (10, (i64 0)), (40, (Value.bool true)), (42, (i64 (IntKind.i64.wrap (((i : Nat) : Int) + 1)))), (59, (Value.bool false)), (66, (i64 x.kind)), (67, (Value.bool false)), (78, (Value.bool false)), (93, (Value.bool false)), (118, (Value.bool false)), (154, (Value.bool false))] 2 ?_
               have e617 : IntKind.i64.wrap (((i : Nat) : Int) + 1) = ((i + 1 : Nat) : Int) := by rw [wrap_i64 (by omega) (by omega)]; omega
               rw [e617]
               clear e617
               refine og 1 [(0, (Value.slice A l.length c)), (1, (Value.string (str bw))), (5, (ptr b1)), (6, (ptr b10)), (7, (i64 ((i + 1 : Nat) : Int))), (8, (ptr b37)), (9, (i64 0)), (10, (i64 0)), (40, (Value.bool true)), (59, (Value.bool false)), (66, (i64 x.kind)), (67, (Value.bool false)), (78, (Value.bool false)), (93, (Value.bool false)), (118, (Value.bool false)), (154, (Value.bool false))] 3 ?_
               refine Ops.keep (R := [(0, (Value.slice A l.length c)), (1, (Value.string (str bw))), (5, (ptr b1)), (6, (ptr b10)), (7, (i64 ((i + 1 : Nat) : Int)))]) (by kernel_rfl) ?_
               refine od ?_
               exact ⟨(i + 1, mm, SS, m58, chgS (holdF bw) RR x.name), ⟨rfl, (by omega), hBm, hB62, hre64, hNO, K25, H26, H27, H28, H61⟩, (show l.length - (i + 1) < l.length - i from by omega)⟩
             ·rw [h591]
              have p618 : (bw == ([] : List UInt8)) = true := (bnot_false h591)
              refine og 33 [(0, (Value.slice A l.length c)), (1, (Value.string (str bw))), (5, (ptr b1)), (6, (ptr b10)), (7, (i64 ((i : Nat) : Int))), (8, (ptr b37)), (9, (i64 0)), (10, (i64 0)), (40, (Value.bool true)), (59, (Value.bool false)), (66, (i64 x.kind)), (67, (Value.bool false)), (78, (Value.bool false)), (93, (Value.bool false)), (118, (Value.bool false)), (154, (Value.bool false))] 36 ?_
              refine od ?_
              refine q_else (o := .tmp 154) (by kernel_rfl) rfl ?_
              refine q_skip (by kernel_rfl) ?_
              refine qg ?_
              refine og 2 [(0, (Value.slice A l.length c)), (1, (Value.string (str bw))), (5, (ptr b1)), (6, (ptr b10)), (7, (i64 ((i : Nat) : Int))), (8, (ptr b37)), (9, (i64 0)), (10, (i64 0)), (40, (Value.bool true)), (42, (i64 (IntKind.i64.wrap (((i : Nat) : Int) + 1)))), (59, (Value.bool false)), (66, (i64 x.kind)), (67, (Value.bool false)), (78, (Value.bool false)), (93, (Value.bool false)), (118, (Value.bool false)), (154, (Value.bool false))] 2 ?_
              have e619 : IntKind.i64.wrap (((i : Nat) : Int) + 1) = ((i + 1 : Nat) : Int) := by rw [wrap_i64 (by omega) (by omega)]; omega
              rw [e619]
              clear e619
              refine og 1 [(0, (Value.slice A l.length c)), (1, (Value.string (str bw))), (5, (ptr b1)), (6, (ptr b10)), (7, (i64 ((i + 1 : Nat) : Int))), (8, (ptr b37)), (9, (i64 0)), (10, (i64 0)), (40, (Value.bool true)), (59, (Value.bool false)), (66, (i64 x.kind)), (67, (Value.bool false)), (78, (Value.bool false)), (93, (Value.bool false)), (118, (Value.bool false)), (154, (Value.bool false))] 3 ?_
              refine Ops.keep (R := [(0, (Value.slice A l.length c)), (1, (Value.string (str bw))), (5, (ptr b1)), (6, (ptr b10)), (7, (i64 ((i + 1 : Nat) : Int)))]) (by kernel_rfl) ?_
              refine od ?_
              exact ⟨(i + 1, mm, SS, m58, chgS (holdF bw) RR x.name), ⟨rfl, (by omega), hBm, hB62, hre64, hNO, K25, H26, H27, H28, H61⟩, (show l.length - (i + 1) < l.length - i from by omega)⟩
   ·rw [h35]
    have p620 : ¬ (((i : Nat) : Int) < 80) := of_decide_eq_false h35
    refine q_exit (id := 0) (by kernel_rfl) ?_
    refine qs ?_
    refine qg ?_
    refine og 1 [(155, (ptr b1))] 1 ?_
    refine Ops.call (by kernel_rfl) (d := (some 156)) (by kernel_rfl) (Held_calls _ b1 mb2 mm SS H26 H27 (by omega) hBm) ?_
    rintro _ w622 ⟨rfl, K621⟩
    refine ⟨_, _, rfl, rfl, ?_⟩
    replace K25 := K25.trans K621 (U := none_) (fun i h1 h2 => h2) (fun i h1 h2 => by exact h2)
    replace H26 := H26.keep K621 (fun h => h)
    replace H27 := H27.keep K621 (fun h => h)
    replace H28 := H28.keep K621 (fun h => h)
    replace H29 := H29.keep K621 (fun h => h)
    clear K621
    refine og 2 [(158, (Value.bool (((heldN SS : Nat) : Int) == 0)))] 4 ?_
    have h623 : (((heldN SS : Nat) : Int) == 0) = true := beq_t (by rw [hNO.held]; rfl)
    rw [h623]
    refine Ops.call (by kernel_rfl) (d := (some 159)) (by kernel_rfl) (known_calls _) ?_
    rintro _ w625 ⟨rfl, K624⟩
    refine ⟨_, _, rfl, rfl, ?_⟩
    replace K25 := K25.trans K624 (U := none_) (fun i h1 h2 => h2) (fun i h1 h2 => by exact h2)
    replace H26 := H26.keep K624 (fun h => h)
    replace H27 := H27.keep K624 (fun h => h)
    replace H28 := H28.keep K624 (fun h => h)
    replace H29 := H29.keep K624 (fun h => h)
    clear K624
    refine og 2 [(4, (Value.bool true))] 7 ?_
    refine od ?_
    refine q_ret (by kernel_rfl) ?_
    refine ⟨(Value.bool true), retv_tmp rfl rfl, ?_⟩
    exact ⟨rfl, K25⟩
  ·rw [h30]
   have p626 : ¬ (((i : Nat) : Int) < ((l.length : Nat) : Int)) := of_decide_eq_false h30
   refine og 3 [(0, (Value.slice A l.length c)), (1, (Value.string (str bw))), (5, (ptr b1)), (6, (ptr b10)), (7, (i64 ((i : Nat) : Int))), (40, (Value.bool false))] 8 ?_
   refine od ?_
   refine q_else (o := .tmp 40) (by kernel_rfl) rfl ?_
   refine q_exit (id := 0) (by kernel_rfl) ?_
   refine qs ?_
   refine qg ?_
   refine og 1 [(155, (ptr b1))] 1 ?_
   refine Ops.call (by kernel_rfl) (d := (some 156)) (by kernel_rfl) (Held_calls _ b1 mb2 mm SS H26 H27 (by omega) hBm) ?_
   rintro _ w628 ⟨rfl, K627⟩
   refine ⟨_, _, rfl, rfl, ?_⟩
   replace K25 := K25.trans K627 (U := none_) (fun i h1 h2 => h2) (fun i h1 h2 => by exact h2)
   replace H26 := H26.keep K627 (fun h => h)
   replace H27 := H27.keep K627 (fun h => h)
   replace H28 := H28.keep K627 (fun h => h)
   replace H29 := H29.keep K627 (fun h => h)
   clear K627
   refine og 2 [(158, (Value.bool (((heldN SS : Nat) : Int) == 0)))] 4 ?_
   have h629 : (((heldN SS : Nat) : Int) == 0) = true := beq_t (by rw [hNO.held]; rfl)
   rw [h629]
   refine Ops.call (by kernel_rfl) (d := (some 159)) (by kernel_rfl) (known_calls _) ?_
   rintro _ w631 ⟨rfl, K630⟩
   refine ⟨_, _, rfl, rfl, ?_⟩
   replace K25 := K25.trans K630 (U := none_) (fun i h1 h2 => h2) (fun i h1 h2 => by exact h2)
   replace H26 := H26.keep K630 (fun h => h)
   replace H27 := H27.keep K630 (fun h => h)
   replace H28 := H28.keep K630 (fun h => h)
   replace H29 := H29.keep K630 (fun h => h)
   clear K630
   refine og 2 [(4, (Value.bool true))] 7 ?_
   refine od ?_
   refine q_ret (by kernel_rfl) ?_
   refine ⟨(Value.bool true), retv_tmp rfl rfl, ?_⟩
   exact ⟨rfl, K25⟩
end Go.Proofs.YtooginpgclcldaaDoor
