/- chapter 11: BookSums returns true -/
import Derived.Test.YtooginpgclcldaaDoorProg
import Derived.Test.YtooginpgclcldaaDoorKJ
import Derived.Test.YtooginpgclcldaaDoorKG
import Derived.Test.YtooginpgclcldaaDoorOF
import Derived.Test.YtooginpgclcldaaDoorLX
set_option linter.unusedVariables false
namespace Go.Proofs.YtooginpgclcldaaDoor
open Go.Q Go.RowKit

set_option maxHeartbeats 4000000 in
theorem Sums_calls (w : World) (A : Option Addr) (c : Nat) (l : List BopM) (hL : RdT w 5 BopM.cells (.slice A l.length c) l) (hLo : ∀ x ∈ l, x.Ok) : Calls Tryd.prog 5 ⟨[(Value.slice A l.length c)]⟩ w (fun e w' => e = .returned (.bool true) ∧ Keeps none_ w w') := by
 have hcap := RdT.len BopM.five (by decide) hL
 have K0 : Keeps none_ w w := Keeps.refl w
 refine q_calls Tryd.func5 (by kernel_rfl) (by kernel_rfl) ?_
 refine qs ?_
 refine qg ?_
 refine og 1 [(0, (Value.slice A l.length c)), (2, (Value.bool false))] 1 ?_
 refine od ?_
 refine qs ?_
 refine qg ?_
 refine Ops.call (by kernel_rfl) (d := (some 12)) (by kernel_rfl) (New_calls _) ?_
 rintro _ w3 ⟨b1, mb2, rfl, K4, H5, Hm6, hb7, hb8, hb9⟩
 have nb1 : w.heap.size ≤ b1 := by have := K0.size; omega
 have nmb2 : w.heap.size ≤ mb2 := by have := K0.size; omega
 refine ⟨_, _, rfl, rfl, ?_⟩
 replace K0 := K0.t0 K4
 clear K4
 refine og 1 [(0, (Value.slice A l.length c)), (2, (Value.bool false)), (3, (ptr b1))] 2 ?_
 refine od ?_
 refine qs ?_
 refine qs ?_
 refine qg ?_
 refine og 2 [(0, (Value.slice A l.length c)), (2, (Value.bool false)), (3, (ptr b1)), (14, (Value.bool false))] 2 ?_
 refine od ?_
 refine q_else (o := .tmp 14) (by kernel_rfl) rfl ?_
 refine q_skip (by kernel_rfl) ?_
 refine qs ?_
 refine qg ?_
 refine og 1 [(0, (Value.slice A l.length c)), (2, (Value.bool false)), (3, (ptr b1)), (4, (Value.int IntKind.u64 0))] 1 ?_
 refine od ?_
 refine qs ?_
 refine qs ?_
 refine qg ?_
 refine og 1 [(0, (Value.slice A l.length c)), (2, (Value.bool false)), (3, (ptr b1)), (4, (Value.int IntKind.u64 0)), (5, (i64 0))] 1 ?_
 refine od ?_
 refine q_block (id := 0) (by kernel_rfl) ?_
 refine q_keep (R := [(0, (Value.slice A l.length c)), (2, (Value.bool false)), (3, (ptr b1)), (4, (Value.int IntKind.u64 0)), (5, (i64 0))]) (by kernel_rfl) ?_
 refine q_loop (fun (gs : Nat × Int × (List (List UInt8 × AccV)) × (List AccM)) L (wx : World) => match gs with | (i, T, mm, SS) => L = [(0, (Value.slice A l.length c)), (2, (Value.bool false)), (3, (ptr b1)), (4, (Value.int IntKind.u64 (IntKind.u64.wrap T))), (5, (i64 ((i : Nat) : Int)))] ∧ i ≤ l.length ∧ T = total SS ∧ Book mm SS ∧ Keeps none_ w wx ∧ Has wx b1 (rowL [(Value.map (some mb2))] 61) ∧ HasMap wx mb2 kstr accv mm) (fun (gs : Nat × Int × (List (List UInt8 × AccV)) × (List AccM)) => match gs with | (i, T, mm, SS) => l.length - i) (0, 0, [], []) (by kernel_rfl) ⟨rfl, Nat.zero_le _, rfl, Book.nil, K0, H5, Hm6⟩ ?_
 clear H5 Hm6 K0
 rintro ⟨i, T, mm, SS⟩ _ w10 ⟨rfl, hi, hT, hBm, K11, H12, H13⟩
 refine qs ?_
 refine qs ?_
 refine qg ?_
 refine og 5 [(0, (Value.slice A l.length c)), (2, (Value.bool false)), (3, (ptr b1)), (4, (Value.int IntKind.u64 (IntKind.u64.wrap T))), (5, (i64 ((i : Nat) : Int))), (19, (Value.bool (decide (((i : Nat) : Int) < ((l.length : Nat) : Int)))))] 5 ?_
 refine Ops.split (decide (((i : Nat) : Int) < ((l.length : Nat) : Int))) (fun h14 => ?_) (fun h14 => ?_)
 ·rw [h14]
  have p15 : ((i : Nat) : Int) < ((l.length : Nat) : Int) := of_decide_eq_true h14
  obtain ⟨x, hx⟩ : ∃ y, l[i]? = some y := ⟨_, List.getElem?_eq_getElem (by omega)⟩
  have hxo := hLo x (List.mem_of_getElem? hx)
  have hx1 := hxo.kind
  have hx2 := hxo.n
  have hx3 := hxo.slot
  obtain ⟨rb16, ro17, hA18⟩ := Rd.addr (Rd.keep0 (by decide) hL K11) (by omega)
  refine og 3 [(0, (Value.slice A l.length c)), (2, (Value.bool false)), (3, (ptr b1)), (4, (Value.int IntKind.u64 (IntKind.u64.wrap T))), (5, (i64 ((i : Nat) : Int))), (22, (Value.bool (decide (((i : Nat) : Int) < 120))))] 8 ?_
  refine od ?_
  refine q_cond (o := .tmp 22) (b := (decide (((i : Nat) : Int) < 120))) (by kernel_rfl) rfl (fun h19 => ?_) (fun h19 => ?_)
  ·rw [h19]
   have p20 : ((i : Nat) : Int) < 120 := of_decide_eq_true h19
   refine q_skip (by kernel_rfl) ?_
   refine qs ?_
   refine q_block (id := 1) (by kernel_rfl) ?_
   refine qs ?_
   refine qg ?_
   refine og 2 [(0, (Value.slice A l.length c)), (2, (Value.bool false)), (3, (ptr b1)), (4, (Value.int IntKind.u64 (IntKind.u64.wrap T))), (5, (i64 ((i : Nat) : Int))), (22, (Value.bool true)), (25, (Value.slice A l.length c)), (26, (i64 ((i : Nat) : Int)))] 2 ?_
   refine Ops.go (by kernel_rfl) (Runs.ixSliceE (k := IntKind.i64) (t := 39) (len := l.length) (cap := c) (s := 5) (off' := ro17 + i * 5) (i := ((i : Nat) : Int)) hA18 (by kernel_rfl) (by kernel_rfl) (by omega) (by omega) (by omega)) (d := (some 27)) (by kernel_rfl) rfl ?_
   refine Ops.go (v := (agg [(i64 x.kind), (Value.string (str x.name)), (Value.string (str x.own)), (i64 x.n), (i64 x.slot)])) (by kernel_rfl) (Runs.load (t := 41) (a := ⟨rb16, ro17 + i * 5, none⟩) (by kernel_rfl) (RdT.ld (f := BopM.cells) (x := x) BopM.five (Rd.keep0 (by decide) hL K11) (by kernel_rfl) (by kernel_rfl) hA18 hx)) (d := (some 28)) (by kernel_rfl) rfl ?_
   refine Ops.new (o := rowL [(i64 0), (Value.string ByteArray.empty), (Value.string ByteArray.empty), (i64 0), (i64 0)] 41) (V := fun b => (ptr b)) (by kernel_rfl) (d := (some 6)) (by kernel_rfl) (fun b => rfl) (fun b21 w22 hb23 H24 K25 hs26 => ?_)
   have lb21b1 : b1 < b21 := by have := H12.lt; omega
   have lb21mb2 : mb2 < b21 := by have := H13.lt; omega
   have nb21 : w.heap.size ≤ b21 := by have := K11.size; omega
   replace K11 := K11.trans K25 (U := none_) (fun i h1 h2 => h2) (fun i h1 h2 => by exact h2)
   replace H12 := H12.keep K25 (fun h => h)
   replace H13 := H13.keep K25 (fun h => h)
   clear K25 hs26
   refine Ops.put (t := 41) (b := b21) (off := 0) (v := (agg [(i64 x.kind), (Value.string (str x.name)), (Value.string (str x.own)), (i64 x.n), (i64 x.slot)])) (ys := [(i64 x.kind), (Value.string (str x.name)), (Value.string (str x.own)), (i64 x.n), (i64 x.slot)]) (by kernel_rfl) (by kernel_rfl) H24 (by kernel_rfl) (d := none) (by kernel_rfl) rfl (fun w27 H28 K29 => ?_)
   clear H24
   replace K11 := K11.trans K29 (U := none_) (fun i h1 h2 => h2) (fun i h1 h2 => by have h2 : i = b21 := h2; exfalso; omega)
   replace H12 := H12.keep K29 (by intro h; change b1 = b21 at h; omega)
   replace H13 := H13.keep K29 (by intro h; change mb2 = b21 at h; omega)
   clear K29
   refine od ?_
   refine qs ?_
   refine qg ?_
   refine og 1 [(0, (Value.slice A l.length c)), (2, (Value.bool false)), (3, (ptr b1)), (4, (Value.int IntKind.u64 (IntKind.u64.wrap T))), (5, (i64 ((i : Nat) : Int))), (6, (ptr b21)), (22, (Value.bool true)), (29, (ptr b21))] 1 ?_
   refine Ops.go (v := (i64 x.kind)) (by kernel_rfl) (Runs.load (t := 3) (a := ⟨b21, 0, none⟩) (by kernel_rfl) (H28.loads (by kernel_rfl))) (d := (some 30)) (by kernel_rfl) rfl ?_
   refine od ?_
   refine q_block (id := 2) (by kernel_rfl) ?_
   refine qs ?_
   refine qs ?_
   refine qg ?_
   refine og 2 [(0, (Value.slice A l.length c)), (2, (Value.bool false)), (3, (ptr b1)), (4, (Value.int IntKind.u64 (IntKind.u64.wrap T))), (5, (i64 ((i : Nat) : Int))), (6, (ptr b21)), (22, (Value.bool true)), (30, (i64 x.kind)), (31, (Value.bool (x.kind == 0)))] 2 ?_
   refine od ?_
   refine q_cond (o := .tmp 31) (b := (x.kind == 0)) (by kernel_rfl) rfl (fun h30 => ?_) (fun h30 => ?_)
   ·rw [h30]
    have p31 : x.kind = 0 := of_beq_t h30
    refine q_skip (by kernel_rfl) ?_
    refine q_then (o := .tmp 31) (by kernel_rfl) rfl ?_
    refine qg ?_
    refine og 2 [(0, (Value.slice A l.length c)), (2, (Value.bool false)), (3, (ptr b1)), (4, (Value.int IntKind.u64 (IntKind.u64.wrap T))), (5, (i64 ((i : Nat) : Int))), (6, (ptr b21)), (22, (Value.bool true)), (30, (i64 x.kind)), (31, (Value.bool true)), (34, (ptr b1)), (35, (Value.pointer (some ⟨b21, 1, none⟩)))] 2 ?_
    refine Ops.go (v := (Value.string (str x.name))) (by kernel_rfl) (Runs.load (t := 9) (a := ⟨b21, 1, none⟩) (by kernel_rfl) (H28.loads (by kernel_rfl))) (d := (some 36)) (by kernel_rfl) rfl ?_
    refine Ops.call (by kernel_rfl) (d := (some 37)) (by kernel_rfl) (Open_calls _ b1 mb2 mm SS x.name H12 H13 (by omega) hBm) ?_
    rintro _ w33 ⟨m32, rfl, K34, H35, hB36⟩
    have hl37 := hB36.len
    have ht38 := total_put SS x.name 0
    refine ⟨_, _, rfl, rfl, ?_⟩
    replace K11 := K11.trans K34 (U := none_) (fun i h1 h2 => h2) (fun i h1 h2 => by have h2 : i = mb2 := h2; exfalso; omega)
    replace H12 := H12.keep K34 (by intro h; change b1 = mb2 at h; omega)
    replace H28 := H28.keep K34 (by intro h; change b21 = mb2 at h; omega)
    clear K34
    refine od ?_
    refine qg ?_
    refine og 2 [(0, (Value.slice A l.length c)), (2, (Value.bool false)), (3, (ptr b1)), (4, (Value.int IntKind.u64 (IntKind.u64.wrap T))), (5, (i64 ((i : Nat) : Int))), (6, (ptr b21)), (22, (Value.bool true)), (24, (i64 (IntKind.i64.wrap (((i : Nat) : Int) + 1)))), (30, (i64 x.kind)), (31, (Value.bool true))] 2 ?_
    have e39 : IntKind.i64.wrap (((i : Nat) : Int) + 1) = ((i + 1 : Nat) : Int) := by rw [wrap_i64 (by omega) (by omega)]; omega
    rw [e39]
    clear e39
    refine og 1 [(0, (Value.slice A l.length c)), (2, (Value.bool false)), (3, (ptr b1)), (4, (Value.int IntKind.u64 (IntKind.u64.wrap T))), (5, (i64 ((i + 1 : Nat) : Int))), (6, (ptr b21)), (22, (Value.bool true)), (30, (i64 x.kind)), (31, (Value.bool true))] 3 ?_
    refine Ops.keep (R := [(0, (Value.slice A l.length c)), (2, (Value.bool false)), (3, (ptr b1)), (4, (Value.int IntKind.u64 (IntKind.u64.wrap T))), (5, (i64 ((i + 1 : Nat) : Int)))]) (by kernel_rfl) ?_
    refine od ?_
    exact ⟨(i + 1, T, m32, putS SS x.name 0), ⟨rfl, (by omega), (by omega), hB36, K11, H12, H35⟩, (show l.length - (i + 1) < l.length - i from by omega)⟩
   ·rw [h30]
    have p40 : ¬ (x.kind = 0) := of_beq_f h30
    refine qg ?_
    refine og 2 [(0, (Value.slice A l.length c)), (2, (Value.bool false)), (3, (ptr b1)), (4, (Value.int IntKind.u64 (IntKind.u64.wrap T))), (5, (i64 ((i : Nat) : Int))), (6, (ptr b21)), (22, (Value.bool true)), (30, (i64 x.kind)), (31, (Value.bool (x.kind == 1)))] 2 ?_
    refine od ?_
    refine q_cond (o := .tmp 31) (b := (x.kind == 1)) (by kernel_rfl) rfl (fun h41 => ?_) (fun h41 => ?_)
    ·rw [h41]
     have p42 : x.kind = 1 := of_beq_t h41
     refine qg ?_
     refine og 2 [(0, (Value.slice A l.length c)), (2, (Value.bool false)), (3, (ptr b1)), (4, (Value.int IntKind.u64 (IntKind.u64.wrap T))), (5, (i64 ((i : Nat) : Int))), (6, (ptr b21)), (22, (Value.bool true)), (30, (i64 x.kind)), (31, (Value.bool true)), (34, (ptr b1)), (35, (Value.pointer (some ⟨b21, 1, none⟩)))] 2 ?_
     refine Ops.go (v := (Value.string (str x.name))) (by kernel_rfl) (Runs.load (t := 9) (a := ⟨b21, 1, none⟩) (by kernel_rfl) (H28.loads (by kernel_rfl))) (d := (some 36)) (by kernel_rfl) rfl ?_
     refine Ops.call (by kernel_rfl) (d := (some 37)) (by kernel_rfl) (Open_calls _ b1 mb2 mm SS x.name H12 H13 (by omega) hBm) ?_
     rintro _ w44 ⟨m43, rfl, K45, H46, hB47⟩
     have hl48 := hB47.len
     have ht49 := total_put SS x.name 0
     refine ⟨_, _, rfl, rfl, ?_⟩
     replace K11 := K11.trans K45 (U := none_) (fun i h1 h2 => h2) (fun i h1 h2 => by have h2 : i = mb2 := h2; exfalso; omega)
     replace H12 := H12.keep K45 (by intro h; change b1 = mb2 at h; omega)
     replace H28 := H28.keep K45 (by intro h; change b21 = mb2 at h; omega)
     clear K45
     refine od ?_
     refine qg ?_
     refine og 2 [(0, (Value.slice A l.length c)), (2, (Value.bool false)), (3, (ptr b1)), (4, (Value.int IntKind.u64 (IntKind.u64.wrap T))), (5, (i64 ((i : Nat) : Int))), (6, (ptr b21)), (22, (Value.bool true)), (24, (i64 (IntKind.i64.wrap (((i : Nat) : Int) + 1)))), (30, (i64 x.kind)), (31, (Value.bool true))] 2 ?_
     have e50 : IntKind.i64.wrap (((i : Nat) : Int) + 1) = ((i + 1 : Nat) : Int) := by rw [wrap_i64 (by omega) (by omega)]; omega
     rw [e50]
     clear e50
     refine og 1 [(0, (Value.slice A l.length c)), (2, (Value.bool false)), (3, (ptr b1)), (4, (Value.int IntKind.u64 (IntKind.u64.wrap T))), (5, (i64 ((i + 1 : Nat) : Int))), (6, (ptr b21)), (22, (Value.bool true)), (30, (i64 x.kind)), (31, (Value.bool true))] 3 ?_
     refine Ops.keep (R := [(0, (Value.slice A l.length c)), (2, (Value.bool false)), (3, (ptr b1)), (4, (Value.int IntKind.u64 (IntKind.u64.wrap T))), (5, (i64 ((i + 1 : Nat) : Int)))]) (by kernel_rfl) ?_
     refine od ?_
     exact ⟨(i + 1, T, m43, putS SS x.name 0), ⟨rfl, (by omega), (by omega), hB47, K11, H12, H46⟩, (show l.length - (i + 1) < l.length - i from by omega)⟩
    ·rw [h41]
     have p51 : ¬ (x.kind = 1) := of_beq_f h41
     refine qs ?_
     refine qs ?_
     refine qg ?_
     refine og 2 [(0, (Value.slice A l.length c)), (2, (Value.bool false)), (3, (ptr b1)), (4, (Value.int IntKind.u64 (IntKind.u64.wrap T))), (5, (i64 ((i : Nat) : Int))), (6, (ptr b21)), (22, (Value.bool true)), (30, (i64 x.kind)), (31, (Value.bool false)), (38, (Value.bool (x.kind == 2)))] 2 ?_
     refine od ?_
     refine q_cond (o := .tmp 38) (b := (x.kind == 2)) (by kernel_rfl) rfl (fun h52 => ?_) (fun h52 => ?_)
     ·rw [h52]
      have p53 : x.kind = 2 := of_beq_t h52
      refine q_skip (by kernel_rfl) ?_
      refine q_then (o := .tmp 38) (by kernel_rfl) rfl ?_
      refine qs ?_
      refine qg ?_
      refine og 2 [(0, (Value.slice A l.length c)), (2, (Value.bool false)), (3, (ptr b1)), (4, (Value.int IntKind.u64 (IntKind.u64.wrap T))), (5, (i64 ((i : Nat) : Int))), (6, (ptr b21)), (22, (Value.bool true)), (30, (i64 x.kind)), (31, (Value.bool false)), (38, (Value.bool true)), (41, (ptr b1)), (42, (Value.pointer (some ⟨b21, 1, none⟩)))] 2 ?_
      refine Ops.go (v := (Value.string (str x.name))) (by kernel_rfl) (Runs.load (t := 9) (a := ⟨b21, 1, none⟩) (by kernel_rfl) (H28.loads (by kernel_rfl))) (d := (some 43)) (by kernel_rfl) rfl ?_
      refine og 1 [(0, (Value.slice A l.length c)), (2, (Value.bool false)), (3, (ptr b1)), (4, (Value.int IntKind.u64 (IntKind.u64.wrap T))), (5, (i64 ((i : Nat) : Int))), (6, (ptr b21)), (22, (Value.bool true)), (30, (i64 x.kind)), (31, (Value.bool false)), (38, (Value.bool true)), (41, (ptr b1)), (43, (Value.string (str x.name))), (44, (Value.pointer (some ⟨b21, 3, none⟩)))] 4 ?_
      refine Ops.go (v := (i64 x.n)) (by kernel_rfl) (Runs.load (t := 2) (a := ⟨b21, 3, none⟩) (by kernel_rfl) (H28.loads (by kernel_rfl))) (d := (some 45)) (by kernel_rfl) rfl ?_
      refine Ops.call (by kernel_rfl) (d := (some 46)) (by kernel_rfl) (Add_calls _ b1 mb2 mm SS x.name x.n H12 H13 (by omega) hBm (by omega)) ?_
      rintro _ w55 ⟨m54, rfl, K56, H57, hB58⟩
      have hl59 := hB58.len
      have ht60 := total_add hBm.accs x.name x.n
      refine ⟨_, _, rfl, rfl, ?_⟩
      replace K11 := K11.trans K56 (U := none_) (fun i h1 h2 => h2) (fun i h1 h2 => by have h2 : i = mb2 := h2; exfalso; omega)
      replace H12 := H12.keep K56 (by intro h; change b1 = mb2 at h; omega)
      replace H28 := H28.keep K56 (by intro h; change b21 = mb2 at h; omega)
      clear K56
      refine og 1 [(0, (Value.slice A l.length c)), (2, (Value.bool false)), (3, (ptr b1)), (4, (Value.int IntKind.u64 (IntKind.u64.wrap T))), (5, (i64 ((i : Nat) : Int))), (6, (ptr b21)), (22, (Value.bool true)), (30, (i64 x.kind)), (31, (Value.bool false)), (38, (Value.bool true)), (47, (Value.bool ((chgE (addF x.n) SS x.name) == 0)))] 7 ?_
      refine od ?_
      refine q_cond (o := .tmp 47) (b := ((chgE (addF x.n) SS x.name) == 0)) (by kernel_rfl) rfl (fun h61 => ?_) (fun h61 => ?_)
      ·rw [h61]
       have p62 : chgE (addF x.n) SS x.name = 0 := of_beq_t h61
       refine qg ?_
       refine og 2 [(0, (Value.slice A l.length c)), (2, (Value.bool false)), (3, (ptr b1)), (4, (Value.int IntKind.u64 (IntKind.u64.wrap T))), (5, (i64 ((i : Nat) : Int))), (6, (ptr b21)), (22, (Value.bool true)), (30, (i64 x.kind)), (31, (Value.bool false)), (38, (Value.bool true)), (47, (Value.bool true)), (48, (Value.int IntKind.u64 (IntKind.u64.wrap T))), (49, (Value.pointer (some ⟨b21, 3, none⟩)))] 2 ?_
       refine Ops.go (v := (i64 x.n)) (by kernel_rfl) (Runs.load (t := 2) (a := ⟨b21, 3, none⟩) (by kernel_rfl) (H28.loads (by kernel_rfl))) (d := (some 50)) (by kernel_rfl) rfl ?_
       refine og 2 [(0, (Value.slice A l.length c)), (2, (Value.bool false)), (3, (ptr b1)), (4, (Value.int IntKind.u64 (IntKind.u64.wrap T))), (5, (i64 ((i : Nat) : Int))), (6, (ptr b21)), (22, (Value.bool true)), (30, (i64 x.kind)), (31, (Value.bool false)), (38, (Value.bool true)), (47, (Value.bool true)), (52, (Value.int IntKind.u64 (IntKind.u64.wrap ((IntKind.u64.wrap T) + (IntKind.u64.wrap x.n)))))] 5 ?_
       have e63 : IntKind.u64.wrap ((IntKind.u64.wrap T) + (IntKind.u64.wrap x.n)) = IntKind.u64.wrap (T + x.n) := wrapU_add _ _
       rw [e63]
       clear e63
       refine og 1 [(0, (Value.slice A l.length c)), (2, (Value.bool false)), (3, (ptr b1)), (4, (Value.int IntKind.u64 (IntKind.u64.wrap (T + x.n)))), (5, (i64 ((i : Nat) : Int))), (6, (ptr b21)), (22, (Value.bool true)), (30, (i64 x.kind)), (31, (Value.bool false)), (38, (Value.bool true)), (47, (Value.bool true))] 6 ?_
       refine od ?_
       refine qg ?_
       refine og 2 [(0, (Value.slice A l.length c)), (2, (Value.bool false)), (3, (ptr b1)), (4, (Value.int IntKind.u64 (IntKind.u64.wrap (T + x.n)))), (5, (i64 ((i : Nat) : Int))), (6, (ptr b21)), (22, (Value.bool true)), (24, (i64 (IntKind.i64.wrap (((i : Nat) : Int) + 1)))), (30, (i64 x.kind)), (31, (Value.bool false)), (38, (Value.bool true)), (47, (Value.bool true))] 2 ?_
       have e64 : IntKind.i64.wrap (((i : Nat) : Int) + 1) = ((i + 1 : Nat) : Int) := by rw [wrap_i64 (by omega) (by omega)]; omega
       rw [e64]
       clear e64
       refine og 1 [(0, (Value.slice A l.length c)), (2, (Value.bool false)), (3, (ptr b1)), (4, (Value.int IntKind.u64 (IntKind.u64.wrap (T + x.n)))), (5, (i64 ((i + 1 : Nat) : Int))), (6, (ptr b21)), (22, (Value.bool true)), (30, (i64 x.kind)), (31, (Value.bool false)), (38, (Value.bool true)), (47, (Value.bool true))] 3 ?_
       refine Ops.keep (R := [(0, (Value.slice A l.length c)), (2, (Value.bool false)), (3, (ptr b1)), (4, (Value.int IntKind.u64 (IntKind.u64.wrap (T + x.n)))), (5, (i64 ((i + 1 : Nat) : Int)))]) (by kernel_rfl) ?_
       refine od ?_
       exact ⟨(i + 1, T + x.n, m54, chgS (addF x.n) SS x.name), ⟨rfl, (by omega), (by omega), hB58, K11, H12, H57⟩, (show l.length - (i + 1) < l.length - i from by omega)⟩
      ·rw [h61]
       have p65 : ¬ (chgE (addF x.n) SS x.name = 0) := of_beq_f h61
       refine q_skip (by kernel_rfl) ?_
       refine qg ?_
       refine og 2 [(0, (Value.slice A l.length c)), (2, (Value.bool false)), (3, (ptr b1)), (4, (Value.int IntKind.u64 (IntKind.u64.wrap T))), (5, (i64 ((i : Nat) : Int))), (6, (ptr b21)), (22, (Value.bool true)), (24, (i64 (IntKind.i64.wrap (((i : Nat) : Int) + 1)))), (30, (i64 x.kind)), (31, (Value.bool false)), (38, (Value.bool true)), (47, (Value.bool false))] 2 ?_
       have e66 : IntKind.i64.wrap (((i : Nat) : Int) + 1) = ((i + 1 : Nat) : Int) := by rw [wrap_i64 (by omega) (by omega)]; omega
       rw [e66]
       clear e66
       refine og 1 [(0, (Value.slice A l.length c)), (2, (Value.bool false)), (3, (ptr b1)), (4, (Value.int IntKind.u64 (IntKind.u64.wrap T))), (5, (i64 ((i + 1 : Nat) : Int))), (6, (ptr b21)), (22, (Value.bool true)), (30, (i64 x.kind)), (31, (Value.bool false)), (38, (Value.bool true)), (47, (Value.bool false))] 3 ?_
       refine Ops.keep (R := [(0, (Value.slice A l.length c)), (2, (Value.bool false)), (3, (ptr b1)), (4, (Value.int IntKind.u64 (IntKind.u64.wrap T))), (5, (i64 ((i + 1 : Nat) : Int)))]) (by kernel_rfl) ?_
       refine od ?_
       exact ⟨(i + 1, T, m54, chgS (addF x.n) SS x.name), ⟨rfl, (by omega), (by omega), hB58, K11, H12, H57⟩, (show l.length - (i + 1) < l.length - i from by omega)⟩
     ·rw [h52]
      have p67 : ¬ (x.kind = 2) := of_beq_f h52
      refine qg ?_
      refine og 2 [(0, (Value.slice A l.length c)), (2, (Value.bool false)), (3, (ptr b1)), (4, (Value.int IntKind.u64 (IntKind.u64.wrap T))), (5, (i64 ((i : Nat) : Int))), (6, (ptr b21)), (22, (Value.bool true)), (30, (i64 x.kind)), (31, (Value.bool false)), (38, (Value.bool (x.kind == 3)))] 2 ?_
      refine od ?_
      refine q_cond (o := .tmp 38) (b := (x.kind == 3)) (by kernel_rfl) rfl (fun h68 => ?_) (fun h68 => ?_)
      ·rw [h68]
       have p69 : x.kind = 3 := of_beq_t h68
       refine qs ?_
       refine qg ?_
       refine og 2 [(0, (Value.slice A l.length c)), (2, (Value.bool false)), (3, (ptr b1)), (4, (Value.int IntKind.u64 (IntKind.u64.wrap T))), (5, (i64 ((i : Nat) : Int))), (6, (ptr b21)), (22, (Value.bool true)), (30, (i64 x.kind)), (31, (Value.bool false)), (38, (Value.bool true)), (41, (ptr b1)), (42, (Value.pointer (some ⟨b21, 1, none⟩)))] 2 ?_
       refine Ops.go (v := (Value.string (str x.name))) (by kernel_rfl) (Runs.load (t := 9) (a := ⟨b21, 1, none⟩) (by kernel_rfl) (H28.loads (by kernel_rfl))) (d := (some 43)) (by kernel_rfl) rfl ?_
       refine og 1 [(0, (Value.slice A l.length c)), (2, (Value.bool false)), (3, (ptr b1)), (4, (Value.int IntKind.u64 (IntKind.u64.wrap T))), (5, (i64 ((i : Nat) : Int))), (6, (ptr b21)), (22, (Value.bool true)), (30, (i64 x.kind)), (31, (Value.bool false)), (38, (Value.bool true)), (41, (ptr b1)), (43, (Value.string (str x.name))), (44, (Value.pointer (some ⟨b21, 3, none⟩)))] 4 ?_
       refine Ops.go (v := (i64 x.n)) (by kernel_rfl) (Runs.load (t := 2) (a := ⟨b21, 3, none⟩) (by kernel_rfl) (H28.loads (by kernel_rfl))) (d := (some 45)) (by kernel_rfl) rfl ?_
       refine Ops.call (by kernel_rfl) (d := (some 46)) (by kernel_rfl) (Add_calls _ b1 mb2 mm SS x.name x.n H12 H13 (by omega) hBm (by omega)) ?_
       rintro _ w71 ⟨m70, rfl, K72, H73, hB74⟩
       have hl75 := hB74.len
       have ht76 := total_add hBm.accs x.name x.n
       refine ⟨_, _, rfl, rfl, ?_⟩
       replace K11 := K11.trans K72 (U := none_) (fun i h1 h2 => h2) (fun i h1 h2 => by have h2 : i = mb2 := h2; exfalso; omega)
       replace H12 := H12.keep K72 (by intro h; change b1 = mb2 at h; omega)
       replace H28 := H28.keep K72 (by intro h; change b21 = mb2 at h; omega)
       clear K72
       refine og 1 [(0, (Value.slice A l.length c)), (2, (Value.bool false)), (3, (ptr b1)), (4, (Value.int IntKind.u64 (IntKind.u64.wrap T))), (5, (i64 ((i : Nat) : Int))), (6, (ptr b21)), (22, (Value.bool true)), (30, (i64 x.kind)), (31, (Value.bool false)), (38, (Value.bool true)), (47, (Value.bool ((chgE (addF x.n) SS x.name) == 0)))] 7 ?_
       refine od ?_
       refine q_cond (o := .tmp 47) (b := ((chgE (addF x.n) SS x.name) == 0)) (by kernel_rfl) rfl (fun h77 => ?_) (fun h77 => ?_)
       ·rw [h77]
        have p78 : chgE (addF x.n) SS x.name = 0 := of_beq_t h77
        refine qg ?_
        refine og 2 [(0, (Value.slice A l.length c)), (2, (Value.bool false)), (3, (ptr b1)), (4, (Value.int IntKind.u64 (IntKind.u64.wrap T))), (5, (i64 ((i : Nat) : Int))), (6, (ptr b21)), (22, (Value.bool true)), (30, (i64 x.kind)), (31, (Value.bool false)), (38, (Value.bool true)), (47, (Value.bool true)), (48, (Value.int IntKind.u64 (IntKind.u64.wrap T))), (49, (Value.pointer (some ⟨b21, 3, none⟩)))] 2 ?_
        refine Ops.go (v := (i64 x.n)) (by kernel_rfl) (Runs.load (t := 2) (a := ⟨b21, 3, none⟩) (by kernel_rfl) (H28.loads (by kernel_rfl))) (d := (some 50)) (by kernel_rfl) rfl ?_
        refine og 2 [(0, (Value.slice A l.length c)), (2, (Value.bool false)), (3, (ptr b1)), (4, (Value.int IntKind.u64 (IntKind.u64.wrap T))), (5, (i64 ((i : Nat) : Int))), (6, (ptr b21)), (22, (Value.bool true)), (30, (i64 x.kind)), (31, (Value.bool false)), (38, (Value.bool true)), (47, (Value.bool true)), (52, (Value.int IntKind.u64 (IntKind.u64.wrap ((IntKind.u64.wrap T) + (IntKind.u64.wrap x.n)))))] 5 ?_
        have e79 : IntKind.u64.wrap ((IntKind.u64.wrap T) + (IntKind.u64.wrap x.n)) = IntKind.u64.wrap (T + x.n) := wrapU_add _ _
        rw [e79]
        clear e79
        refine og 1 [(0, (Value.slice A l.length c)), (2, (Value.bool false)), (3, (ptr b1)), (4, (Value.int IntKind.u64 (IntKind.u64.wrap (T + x.n)))), (5, (i64 ((i : Nat) : Int))), (6, (ptr b21)), (22, (Value.bool true)), (30, (i64 x.kind)), (31, (Value.bool false)), (38, (Value.bool true)), (47, (Value.bool true))] 6 ?_
        refine od ?_
        refine qg ?_
        refine og 2 [(0, (Value.slice A l.length c)), (2, (Value.bool false)), (3, (ptr b1)), (4, (Value.int IntKind.u64 (IntKind.u64.wrap (T + x.n)))), (5, (i64 ((i : Nat) : Int))), (6, (ptr b21)), (22, (Value.bool true)), (24, (i64 (IntKind.i64.wrap (((i : Nat) : Int) + 1)))), (30, (i64 x.kind)), (31, (Value.bool false)), (38, (Value.bool true)), (47, (Value.bool true))] 2 ?_
        have e80 : IntKind.i64.wrap (((i : Nat) : Int) + 1) = ((i + 1 : Nat) : Int) := by rw [wrap_i64 (by omega) (by omega)]; omega
        rw [e80]
        clear e80
        refine og 1 [(0, (Value.slice A l.length c)), (2, (Value.bool false)), (3, (ptr b1)), (4, (Value.int IntKind.u64 (IntKind.u64.wrap (T + x.n)))), (5, (i64 ((i + 1 : Nat) : Int))), (6, (ptr b21)), (22, (Value.bool true)), (30, (i64 x.kind)), (31, (Value.bool false)), (38, (Value.bool true)), (47, (Value.bool true))] 3 ?_
        refine Ops.keep (R := [(0, (Value.slice A l.length c)), (2, (Value.bool false)), (3, (ptr b1)), (4, (Value.int IntKind.u64 (IntKind.u64.wrap (T + x.n)))), (5, (i64 ((i + 1 : Nat) : Int)))]) (by kernel_rfl) ?_
        refine od ?_
        exact ⟨(i + 1, T + x.n, m70, chgS (addF x.n) SS x.name), ⟨rfl, (by omega), (by omega), hB74, K11, H12, H73⟩, (show l.length - (i + 1) < l.length - i from by omega)⟩
       ·rw [h77]
        have p81 : ¬ (chgE (addF x.n) SS x.name = 0) := of_beq_f h77
        refine q_skip (by kernel_rfl) ?_
        refine qg ?_
        refine og 2 [(0, (Value.slice A l.length c)), (2, (Value.bool false)), (3, (ptr b1)), (4, (Value.int IntKind.u64 (IntKind.u64.wrap T))), (5, (i64 ((i : Nat) : Int))), (6, (ptr b21)), (22, (Value.bool true)), (24, (i64 (IntKind.i64.wrap (((i : Nat) : Int) + 1)))), (30, (i64 x.kind)), (31, (Value.bool false)), (38, (Value.bool true)), (47, (Value.bool false))] 2 ?_
        have e82 : IntKind.i64.wrap (((i : Nat) : Int) + 1) = ((i + 1 : Nat) : Int) := by rw [wrap_i64 (by omega) (by omega)]; omega
        rw [e82]
        clear e82
        refine og 1 [(0, (Value.slice A l.length c)), (2, (Value.bool false)), (3, (ptr b1)), (4, (Value.int IntKind.u64 (IntKind.u64.wrap T))), (5, (i64 ((i + 1 : Nat) : Int))), (6, (ptr b21)), (22, (Value.bool true)), (30, (i64 x.kind)), (31, (Value.bool false)), (38, (Value.bool true)), (47, (Value.bool false))] 3 ?_
        refine Ops.keep (R := [(0, (Value.slice A l.length c)), (2, (Value.bool false)), (3, (ptr b1)), (4, (Value.int IntKind.u64 (IntKind.u64.wrap T))), (5, (i64 ((i + 1 : Nat) : Int)))]) (by kernel_rfl) ?_
        refine od ?_
        exact ⟨(i + 1, T, m70, chgS (addF x.n) SS x.name), ⟨rfl, (by omega), (by omega), hB74, K11, H12, H73⟩, (show l.length - (i + 1) < l.length - i from by omega)⟩
      ·rw [h68]
       have p83 : ¬ (x.kind = 3) := of_beq_f h68
       refine qs ?_
       refine qs ?_
       refine qg ?_
       refine og 2 [(0, (Value.slice A l.length c)), (2, (Value.bool false)), (3, (ptr b1)), (4, (Value.int IntKind.u64 (IntKind.u64.wrap T))), (5, (i64 ((i : Nat) : Int))), (6, (ptr b21)), (22, (Value.bool true)), (30, (i64 x.kind)), (31, (Value.bool false)), (38, (Value.bool false)), (53, (Value.bool (x.kind == 4)))] 2 ?_
       refine od ?_
       refine q_cond (o := .tmp 53) (b := (x.kind == 4)) (by kernel_rfl) rfl (fun h84 => ?_) (fun h84 => ?_)
       ·rw [h84]
        have p85 : x.kind = 4 := of_beq_t h84
        refine q_skip (by kernel_rfl) ?_
        refine q_then (o := .tmp 53) (by kernel_rfl) rfl ?_
        refine qs ?_
        refine qg ?_
        refine og 2 [(0, (Value.slice A l.length c)), (2, (Value.bool false)), (3, (ptr b1)), (4, (Value.int IntKind.u64 (IntKind.u64.wrap T))), (5, (i64 ((i : Nat) : Int))), (6, (ptr b21)), (22, (Value.bool true)), (30, (i64 x.kind)), (31, (Value.bool false)), (38, (Value.bool false)), (53, (Value.bool true)), (56, (ptr b1)), (57, (Value.pointer (some ⟨b21, 1, none⟩)))] 2 ?_
        refine Ops.go (v := (Value.string (str x.name))) (by kernel_rfl) (Runs.load (t := 9) (a := ⟨b21, 1, none⟩) (by kernel_rfl) (H28.loads (by kernel_rfl))) (d := (some 58)) (by kernel_rfl) rfl ?_
        refine og 1 [(0, (Value.slice A l.length c)), (2, (Value.bool false)), (3, (ptr b1)), (4, (Value.int IntKind.u64 (IntKind.u64.wrap T))), (5, (i64 ((i : Nat) : Int))), (6, (ptr b21)), (22, (Value.bool true)), (30, (i64 x.kind)), (31, (Value.bool false)), (38, (Value.bool false)), (53, (Value.bool true)), (56, (ptr b1)), (58, (Value.string (str x.name))), (59, (Value.pointer (some ⟨b21, 3, none⟩)))] 4 ?_
        refine Ops.go (v := (i64 x.n)) (by kernel_rfl) (Runs.load (t := 2) (a := ⟨b21, 3, none⟩) (by kernel_rfl) (H28.loads (by kernel_rfl))) (d := (some 60)) (by kernel_rfl) rfl ?_
        refine Ops.call (by kernel_rfl) (d := (some 61)) (by kernel_rfl) (Take_calls _ b1 mb2 mm SS x.name x.n H12 H13 (by omega) hBm (by omega)) ?_
        rintro _ w87 ⟨m86, rfl, K88, H89, hB90⟩
        have hl91 := hB90.len
        have ht92 := total_take hBm.accs x.name x.n
        refine ⟨_, _, rfl, rfl, ?_⟩
        replace K11 := K11.trans K88 (U := none_) (fun i h1 h2 => h2) (fun i h1 h2 => by have h2 : i = mb2 := h2; exfalso; omega)
        replace H12 := H12.keep K88 (by intro h; change b1 = mb2 at h; omega)
        replace H28 := H28.keep K88 (by intro h; change b21 = mb2 at h; omega)
        clear K88
        refine og 1 [(0, (Value.slice A l.length c)), (2, (Value.bool false)), (3, (ptr b1)), (4, (Value.int IntKind.u64 (IntKind.u64.wrap T))), (5, (i64 ((i : Nat) : Int))), (6, (ptr b21)), (22, (Value.bool true)), (30, (i64 x.kind)), (31, (Value.bool false)), (38, (Value.bool false)), (53, (Value.bool true)), (62, (Value.bool ((chgE (takeF x.n) SS x.name) == 0)))] 7 ?_
        refine od ?_
        refine q_cond (o := .tmp 62) (b := ((chgE (takeF x.n) SS x.name) == 0)) (by kernel_rfl) rfl (fun h93 => ?_) (fun h93 => ?_)
        ·rw [h93]
         have p94 : chgE (takeF x.n) SS x.name = 0 := of_beq_t h93
         refine qg ?_
         refine og 2 [(0, (Value.slice A l.length c)), (2, (Value.bool false)), (3, (ptr b1)), (4, (Value.int IntKind.u64 (IntKind.u64.wrap T))), (5, (i64 ((i : Nat) : Int))), (6, (ptr b21)), (22, (Value.bool true)), (30, (i64 x.kind)), (31, (Value.bool false)), (38, (Value.bool false)), (53, (Value.bool true)), (62, (Value.bool true)), (63, (Value.int IntKind.u64 (IntKind.u64.wrap T))), (64, (Value.pointer (some ⟨b21, 3, none⟩)))] 2 ?_
         refine Ops.go (v := (i64 x.n)) (by kernel_rfl) (Runs.load (t := 2) (a := ⟨b21, 3, none⟩) (by kernel_rfl) (H28.loads (by kernel_rfl))) (d := (some 65)) (by kernel_rfl) rfl ?_
         refine og 2 [(0, (Value.slice A l.length c)), (2, (Value.bool false)), (3, (ptr b1)), (4, (Value.int IntKind.u64 (IntKind.u64.wrap T))), (5, (i64 ((i : Nat) : Int))), (6, (ptr b21)), (22, (Value.bool true)), (30, (i64 x.kind)), (31, (Value.bool false)), (38, (Value.bool false)), (53, (Value.bool true)), (62, (Value.bool true)), (67, (Value.int IntKind.u64 (IntKind.u64.wrap ((IntKind.u64.wrap T) - (IntKind.u64.wrap x.n)))))] 5 ?_
         have e95 : IntKind.u64.wrap ((IntKind.u64.wrap T) - (IntKind.u64.wrap x.n)) = IntKind.u64.wrap (T - x.n) := wrapU_sub _ _
         rw [e95]
         clear e95
         refine og 1 [(0, (Value.slice A l.length c)), (2, (Value.bool false)), (3, (ptr b1)), (4, (Value.int IntKind.u64 (IntKind.u64.wrap (T - x.n)))), (5, (i64 ((i : Nat) : Int))), (6, (ptr b21)), (22, (Value.bool true)), (30, (i64 x.kind)), (31, (Value.bool false)), (38, (Value.bool false)), (53, (Value.bool true)), (62, (Value.bool true))] 6 ?_
         refine od ?_
         refine qg ?_
         refine og 2 [(0, (Value.slice A l.length c)), (2, (Value.bool false)), (3, (ptr b1)), (4, (Value.int IntKind.u64 (IntKind.u64.wrap (T - x.n)))), (5, (i64 ((i : Nat) : Int))), (6, (ptr b21)), (22, (Value.bool true)), (24, (i64 (IntKind.i64.wrap (((i : Nat) : Int) + 1)))), (30, (i64 x.kind)), (31, (Value.bool false)), (38, (Value.bool false)), (53, (Value.bool true)), (62, (Value.bool true))] 2 ?_
         have e96 : IntKind.i64.wrap (((i : Nat) : Int) + 1) = ((i + 1 : Nat) : Int) := by rw [wrap_i64 (by omega) (by omega)]; omega
         rw [e96]
         clear e96
         refine og 1 [(0, (Value.slice A l.length c)), (2, (Value.bool false)), (3, (ptr b1)), (4, (Value.int IntKind.u64 (IntKind.u64.wrap (T - x.n)))), (5, (i64 ((i + 1 : Nat) : Int))), (6, (ptr b21)), (22, (Value.bool true)), (30, (i64 x.kind)), (31, (Value.bool false)), (38, (Value.bool false)), (53, (Value.bool true)), (62, (Value.bool true))] 3 ?_
         refine Ops.keep (R := [(0, (Value.slice A l.length c)), (2, (Value.bool false)), (3, (ptr b1)), (4, (Value.int IntKind.u64 (IntKind.u64.wrap (T - x.n)))), (5, (i64 ((i + 1 : Nat) : Int)))]) (by kernel_rfl) ?_
         refine od ?_
         exact ⟨(i + 1, T - x.n, m86, chgS (takeF x.n) SS x.name), ⟨rfl, (by omega), (by omega), hB90, K11, H12, H89⟩, (show l.length - (i + 1) < l.length - i from by omega)⟩
        ·rw [h93]
         have p97 : ¬ (chgE (takeF x.n) SS x.name = 0) := of_beq_f h93
         refine q_skip (by kernel_rfl) ?_
         refine qg ?_
         refine og 2 [(0, (Value.slice A l.length c)), (2, (Value.bool false)), (3, (ptr b1)), (4, (Value.int IntKind.u64 (IntKind.u64.wrap T))), (5, (i64 ((i : Nat) : Int))), (6, (ptr b21)), (22, (Value.bool true)), (24, (i64 (IntKind.i64.wrap (((i : Nat) : Int) + 1)))), (30, (i64 x.kind)), (31, (Value.bool false)), (38, (Value.bool false)), (53, (Value.bool true)), (62, (Value.bool false))] 2 ?_
         have e98 : IntKind.i64.wrap (((i : Nat) : Int) + 1) = ((i + 1 : Nat) : Int) := by rw [wrap_i64 (by omega) (by omega)]; omega
         rw [e98]
         clear e98
         refine og 1 [(0, (Value.slice A l.length c)), (2, (Value.bool false)), (3, (ptr b1)), (4, (Value.int IntKind.u64 (IntKind.u64.wrap T))), (5, (i64 ((i + 1 : Nat) : Int))), (6, (ptr b21)), (22, (Value.bool true)), (30, (i64 x.kind)), (31, (Value.bool false)), (38, (Value.bool false)), (53, (Value.bool true)), (62, (Value.bool false))] 3 ?_
         refine Ops.keep (R := [(0, (Value.slice A l.length c)), (2, (Value.bool false)), (3, (ptr b1)), (4, (Value.int IntKind.u64 (IntKind.u64.wrap T))), (5, (i64 ((i + 1 : Nat) : Int)))]) (by kernel_rfl) ?_
         refine od ?_
         exact ⟨(i + 1, T, m86, chgS (takeF x.n) SS x.name), ⟨rfl, (by omega), (by omega), hB90, K11, H12, H89⟩, (show l.length - (i + 1) < l.length - i from by omega)⟩
       ·rw [h84]
        have p99 : ¬ (x.kind = 4) := of_beq_f h84
        refine qg ?_
        refine og 2 [(0, (Value.slice A l.length c)), (2, (Value.bool false)), (3, (ptr b1)), (4, (Value.int IntKind.u64 (IntKind.u64.wrap T))), (5, (i64 ((i : Nat) : Int))), (6, (ptr b21)), (22, (Value.bool true)), (30, (i64 x.kind)), (31, (Value.bool false)), (38, (Value.bool false)), (53, (Value.bool (x.kind == 5)))] 2 ?_
        refine od ?_
        refine q_cond (o := .tmp 53) (b := (x.kind == 5)) (by kernel_rfl) rfl (fun h100 => ?_) (fun h100 => ?_)
        ·rw [h100]
         have p101 : x.kind = 5 := of_beq_t h100
         refine qs ?_
         refine qg ?_
         refine og 2 [(0, (Value.slice A l.length c)), (2, (Value.bool false)), (3, (ptr b1)), (4, (Value.int IntKind.u64 (IntKind.u64.wrap T))), (5, (i64 ((i : Nat) : Int))), (6, (ptr b21)), (22, (Value.bool true)), (30, (i64 x.kind)), (31, (Value.bool false)), (38, (Value.bool false)), (53, (Value.bool true)), (56, (ptr b1)), (57, (Value.pointer (some ⟨b21, 1, none⟩)))] 2 ?_
         refine Ops.go (v := (Value.string (str x.name))) (by kernel_rfl) (Runs.load (t := 9) (a := ⟨b21, 1, none⟩) (by kernel_rfl) (H28.loads (by kernel_rfl))) (d := (some 58)) (by kernel_rfl) rfl ?_
         refine og 1 [(0, (Value.slice A l.length c)), (2, (Value.bool false)), (3, (ptr b1)), (4, (Value.int IntKind.u64 (IntKind.u64.wrap T))), (5, (i64 ((i : Nat) : Int))), (6, (ptr b21)), (22, (Value.bool true)), (30, (i64 x.kind)), (31, (Value.bool false)), (38, (Value.bool false)), (53, (Value.bool true)), (56, (ptr b1)), (58, (Value.string (str x.name))), (59, (Value.pointer (some ⟨b21, 3, none⟩)))] 4 ?_
         refine Ops.go (v := (i64 x.n)) (by kernel_rfl) (Runs.load (t := 2) (a := ⟨b21, 3, none⟩) (by kernel_rfl) (H28.loads (by kernel_rfl))) (d := (some 60)) (by kernel_rfl) rfl ?_
         refine Ops.call (by kernel_rfl) (d := (some 61)) (by kernel_rfl) (Take_calls _ b1 mb2 mm SS x.name x.n H12 H13 (by omega) hBm (by omega)) ?_
         rintro _ w103 ⟨m102, rfl, K104, H105, hB106⟩
         have hl107 := hB106.len
         have ht108 := total_take hBm.accs x.name x.n
         refine ⟨_, _, rfl, rfl, ?_⟩
         replace K11 := K11.trans K104 (U := none_) (fun i h1 h2 => h2) (fun i h1 h2 => by have h2 : i = mb2 := h2; exfalso; omega)
         replace H12 := H12.keep K104 (by intro h; change b1 = mb2 at h; omega)
         replace H28 := H28.keep K104 (by intro h; change b21 = mb2 at h; omega)
         clear K104
         refine og 1 [(0, (Value.slice A l.length c)), (2, (Value.bool false)), (3, (ptr b1)), (4, (Value.int IntKind.u64 (IntKind.u64.wrap T))), (5, (i64 ((i : Nat) : Int))), (6, (ptr b21)), (22, (Value.bool true)), (30, (i64 x.kind)), (31, (Value.bool false)), (38, (Value.bool false)), (53, (Value.bool true)), (62, (Value.bool ((chgE (takeF x.n) SS x.name) == 0)))] 7 ?_
         refine od ?_
         refine q_cond (o := .tmp 62) (b := ((chgE (takeF x.n) SS x.name) == 0)) (by kernel_rfl) rfl (fun h109 => ?_) (fun h109 => ?_)
         ·rw [h109]
          have p110 : chgE (takeF x.n) SS x.name = 0 := of_beq_t h109
          refine qg ?_
          refine og 2 [(0, (Value.slice A l.length c)), (2, (Value.bool false)), (3, (ptr b1)), (4, (Value.int IntKind.u64 (IntKind.u64.wrap T))), (5, (i64 ((i : Nat) : Int))), (6, (ptr b21)), (22, (Value.bool true)), (30, (i64 x.kind)), (31, (Value.bool false)), (38, (Value.bool false)), (53, (Value.bool true)), (62, (Value.bool true)), (63, (Value.int IntKind.u64 (IntKind.u64.wrap T))), (64, (Value.pointer (some ⟨b21, 3, none⟩)))] 2 ?_
          refine Ops.go (v := (i64 x.n)) (by kernel_rfl) (Runs.load (t := 2) (a := ⟨b21, 3, none⟩) (by kernel_rfl) (H28.loads (by kernel_rfl))) (d := (some 65)) (by kernel_rfl) rfl ?_
          refine og 2 [(0, (Value.slice A l.length c)), (2, (Value.bool false)), (3, (ptr b1)), (4, (Value.int IntKind.u64 (IntKind.u64.wrap T))), (5, (i64 ((i : Nat) : Int))), (6, (ptr b21)), (22, (Value.bool true)), (30, (i64 x.kind)), (31, (Value.bool false)), (38, (Value.bool false)), (53, (Value.bool true)), (62, (Value.bool true)), (67, (Value.int IntKind.u64 (IntKind.u64.wrap ((IntKind.u64.wrap T) - (IntKind.u64.wrap x.n)))))] 5 ?_
          have e111 : IntKind.u64.wrap ((IntKind.u64.wrap T) - (IntKind.u64.wrap x.n)) = IntKind.u64.wrap (T - x.n) := wrapU_sub _ _
          rw [e111]
          clear e111
          refine og 1 [(0, (Value.slice A l.length c)), (2, (Value.bool false)), (3, (ptr b1)), (4, (Value.int IntKind.u64 (IntKind.u64.wrap (T - x.n)))), (5, (i64 ((i : Nat) : Int))), (6, (ptr b21)), (22, (Value.bool true)), (30, (i64 x.kind)), (31, (Value.bool false)), (38, (Value.bool false)), (53, (Value.bool true)), (62, (Value.bool true))] 6 ?_
          refine od ?_
          refine qg ?_
          refine og 2 [(0, (Value.slice A l.length c)), (2, (Value.bool false)), (3, (ptr b1)), (4, (Value.int IntKind.u64 (IntKind.u64.wrap (T - x.n)))), (5, (i64 ((i : Nat) : Int))), (6, (ptr b21)), (22, (Value.bool true)), (24, (i64 (IntKind.i64.wrap (((i : Nat) : Int) + 1)))), (30, (i64 x.kind)), (31, (Value.bool false)), (38, (Value.bool false)), (53, (Value.bool true)), (62, (Value.bool true))] 2 ?_
          have e112 : IntKind.i64.wrap (((i : Nat) : Int) + 1) = ((i + 1 : Nat) : Int) := by rw [wrap_i64 (by omega) (by omega)]; omega
          rw [e112]
          clear e112
          refine og 1 [(0, (Value.slice A l.length c)), (2, (Value.bool false)), (3, (ptr b1)), (4, (Value.int IntKind.u64 (IntKind.u64.wrap (T - x.n)))), (5, (i64 ((i + 1 : Nat) : Int))), (6, (ptr b21)), (22, (Value.bool true)), (30, (i64 x.kind)), (31, (Value.bool false)), (38, (Value.bool false)), (53, (Value.bool true)), (62, (Value.bool true))] 3 ?_
          refine Ops.keep (R := [(0, (Value.slice A l.length c)), (2, (Value.bool false)), (3, (ptr b1)), (4, (Value.int IntKind.u64 (IntKind.u64.wrap (T - x.n)))), (5, (i64 ((i + 1 : Nat) : Int)))]) (by kernel_rfl) ?_
          refine od ?_
          exact ⟨(i + 1, T - x.n, m102, chgS (takeF x.n) SS x.name), ⟨rfl, (by omega), (by omega), hB106, K11, H12, H105⟩, (show l.length - (i + 1) < l.length - i from by omega)⟩
         ·rw [h109]
          have p113 : ¬ (chgE (takeF x.n) SS x.name = 0) := of_beq_f h109
          refine q_skip (by kernel_rfl) ?_
          refine qg ?_
          refine og 2 [(0, (Value.slice A l.length c)), (2, (Value.bool false)), (3, (ptr b1)), (4, (Value.int IntKind.u64 (IntKind.u64.wrap T))), (5, (i64 ((i : Nat) : Int))), (6, (ptr b21)), (22, (Value.bool true)), (24, (i64 (IntKind.i64.wrap (((i : Nat) : Int) + 1)))), (30, (i64 x.kind)), (31, (Value.bool false)), (38, (Value.bool false)), (53, (Value.bool true)), (62, (Value.bool false))] 2 ?_
          have e114 : IntKind.i64.wrap (((i : Nat) : Int) + 1) = ((i + 1 : Nat) : Int) := by rw [wrap_i64 (by omega) (by omega)]; omega
          rw [e114]
          clear e114
          refine og 1 [(0, (Value.slice A l.length c)), (2, (Value.bool false)), (3, (ptr b1)), (4, (Value.int IntKind.u64 (IntKind.u64.wrap T))), (5, (i64 ((i + 1 : Nat) : Int))), (6, (ptr b21)), (22, (Value.bool true)), (30, (i64 x.kind)), (31, (Value.bool false)), (38, (Value.bool false)), (53, (Value.bool true)), (62, (Value.bool false))] 3 ?_
          refine Ops.keep (R := [(0, (Value.slice A l.length c)), (2, (Value.bool false)), (3, (ptr b1)), (4, (Value.int IntKind.u64 (IntKind.u64.wrap T))), (5, (i64 ((i + 1 : Nat) : Int)))]) (by kernel_rfl) ?_
          refine od ?_
          exact ⟨(i + 1, T, m102, chgS (takeF x.n) SS x.name), ⟨rfl, (by omega), (by omega), hB106, K11, H12, H105⟩, (show l.length - (i + 1) < l.length - i from by omega)⟩
        ·rw [h100]
         have p115 : ¬ (x.kind = 5) := of_beq_f h100
         refine qs ?_
         refine qg ?_
         refine og 2 [(0, (Value.slice A l.length c)), (2, (Value.bool false)), (3, (ptr b1)), (4, (Value.int IntKind.u64 (IntKind.u64.wrap T))), (5, (i64 ((i : Nat) : Int))), (6, (ptr b21)), (22, (Value.bool true)), (30, (i64 x.kind)), (31, (Value.bool false)), (38, (Value.bool false)), (53, (Value.bool false)), (68, (Value.bool (x.kind == 8)))] 2 ?_
         refine od ?_
         refine q_cond (o := .tmp 68) (b := (x.kind == 8)) (by kernel_rfl) rfl (fun h116 => ?_) (fun h116 => ?_)
         ·rw [h116]
          have p117 : x.kind = 8 := of_beq_t h116
          refine qs ?_
          refine qg ?_
          refine og 2 [(0, (Value.slice A l.length c)), (2, (Value.bool false)), (3, (ptr b1)), (4, (Value.int IntKind.u64 (IntKind.u64.wrap T))), (5, (i64 ((i : Nat) : Int))), (6, (ptr b21)), (22, (Value.bool true)), (30, (i64 x.kind)), (31, (Value.bool false)), (38, (Value.bool false)), (53, (Value.bool false)), (68, (Value.bool true)), (70, (ptr b1)), (71, (Value.pointer (some ⟨b21, 1, none⟩)))] 2 ?_
          refine Ops.go (v := (Value.string (str x.name))) (by kernel_rfl) (Runs.load (t := 9) (a := ⟨b21, 1, none⟩) (by kernel_rfl) (H28.loads (by kernel_rfl))) (d := (some 72)) (by kernel_rfl) rfl ?_
          refine og 1 [(0, (Value.slice A l.length c)), (2, (Value.bool false)), (3, (ptr b1)), (4, (Value.int IntKind.u64 (IntKind.u64.wrap T))), (5, (i64 ((i : Nat) : Int))), (6, (ptr b21)), (22, (Value.bool true)), (30, (i64 x.kind)), (31, (Value.bool false)), (38, (Value.bool false)), (53, (Value.bool false)), (68, (Value.bool true)), (70, (ptr b1)), (72, (Value.string (str x.name))), (73, (Value.pointer (some ⟨b21, 3, none⟩)))] 4 ?_
          refine Ops.go (v := (i64 x.n)) (by kernel_rfl) (Runs.load (t := 2) (a := ⟨b21, 3, none⟩) (by kernel_rfl) (H28.loads (by kernel_rfl))) (d := (some 74)) (by kernel_rfl) rfl ?_
          refine og 1 [(0, (Value.slice A l.length c)), (2, (Value.bool false)), (3, (ptr b1)), (4, (Value.int IntKind.u64 (IntKind.u64.wrap T))), (5, (i64 ((i : Nat) : Int))), (6, (ptr b21)), (22, (Value.bool true)), (30, (i64 x.kind)), (31, (Value.bool false)), (38, (Value.bool false)), (53, (Value.bool false)), (68, (Value.bool true)), (70, (ptr b1)), (75, (agg [(Value.string (str x.name)), (i64 x.n)]))] 6 ?_
          refine Ops.call (by kernel_rfl) (d := (some 76)) (by kernel_rfl) (Put_calls _ b1 mb2 mm SS x.name x.n H12 H13 (by omega) hBm (by omega)) ?_
          rintro _ w119 ⟨m118, rfl, K120, H121, hB122⟩
          have hl123 := hB122.len
          have ht124 := total_put SS x.name x.n
          refine ⟨_, _, rfl, rfl, ?_⟩
          replace K11 := K11.trans K120 (U := none_) (fun i h1 h2 => h2) (fun i h1 h2 => by have h2 : i = mb2 := h2; exfalso; omega)
          replace H12 := H12.keep K120 (by intro h; change b1 = mb2 at h; omega)
          replace H28 := H28.keep K120 (by intro h; change b21 = mb2 at h; omega)
          clear K120
          refine og 1 [(0, (Value.slice A l.length c)), (2, (Value.bool false)), (3, (ptr b1)), (4, (Value.int IntKind.u64 (IntKind.u64.wrap T))), (5, (i64 ((i : Nat) : Int))), (6, (ptr b21)), (22, (Value.bool true)), (30, (i64 x.kind)), (31, (Value.bool false)), (38, (Value.bool false)), (53, (Value.bool false)), (68, (Value.bool true)), (77, (Value.bool ((putE SS x.name x.n) == 0)))] 8 ?_
          refine od ?_
          refine q_cond (o := .tmp 77) (b := ((putE SS x.name x.n) == 0)) (by kernel_rfl) rfl (fun h125 => ?_) (fun h125 => ?_)
          ·rw [h125]
           have p126 : putE SS x.name x.n = 0 := of_beq_t h125
           refine qg ?_
           refine og 2 [(0, (Value.slice A l.length c)), (2, (Value.bool false)), (3, (ptr b1)), (4, (Value.int IntKind.u64 (IntKind.u64.wrap T))), (5, (i64 ((i : Nat) : Int))), (6, (ptr b21)), (22, (Value.bool true)), (30, (i64 x.kind)), (31, (Value.bool false)), (38, (Value.bool false)), (53, (Value.bool false)), (68, (Value.bool true)), (77, (Value.bool true)), (78, (Value.int IntKind.u64 (IntKind.u64.wrap T))), (79, (Value.pointer (some ⟨b21, 3, none⟩)))] 2 ?_
           refine Ops.go (v := (i64 x.n)) (by kernel_rfl) (Runs.load (t := 2) (a := ⟨b21, 3, none⟩) (by kernel_rfl) (H28.loads (by kernel_rfl))) (d := (some 80)) (by kernel_rfl) rfl ?_
           refine og 2 [(0, (Value.slice A l.length c)), (2, (Value.bool false)), (3, (ptr b1)), (4, (Value.int IntKind.u64 (IntKind.u64.wrap T))), (5, (i64 ((i : Nat) : Int))), (6, (ptr b21)), (22, (Value.bool true)), (30, (i64 x.kind)), (31, (Value.bool false)), (38, (Value.bool false)), (53, (Value.bool false)), (68, (Value.bool true)), (77, (Value.bool true)), (82, (Value.int IntKind.u64 (IntKind.u64.wrap ((IntKind.u64.wrap T) + (IntKind.u64.wrap x.n)))))] 5 ?_
           have e127 : IntKind.u64.wrap ((IntKind.u64.wrap T) + (IntKind.u64.wrap x.n)) = IntKind.u64.wrap (T + x.n) := wrapU_add _ _
           rw [e127]
           clear e127
           refine og 1 [(0, (Value.slice A l.length c)), (2, (Value.bool false)), (3, (ptr b1)), (4, (Value.int IntKind.u64 (IntKind.u64.wrap (T + x.n)))), (5, (i64 ((i : Nat) : Int))), (6, (ptr b21)), (22, (Value.bool true)), (30, (i64 x.kind)), (31, (Value.bool false)), (38, (Value.bool false)), (53, (Value.bool false)), (68, (Value.bool true)), (77, (Value.bool true))] 6 ?_
           refine od ?_
           refine qg ?_
           refine og 2 [(0, (Value.slice A l.length c)), (2, (Value.bool false)), (3, (ptr b1)), (4, (Value.int IntKind.u64 (IntKind.u64.wrap (T + x.n)))), (5, (i64 ((i : Nat) : Int))), (6, (ptr b21)), (22, (Value.bool true)), (24, (i64 (IntKind.i64.wrap (((i : Nat) : Int) + 1)))), (30, (i64 x.kind)), (31, (Value.bool false)), (38, (Value.bool false)), (53, (Value.bool false)), (68, (Value.bool true)), (77, (Value.bool true))] 2 ?_
           have e128 : IntKind.i64.wrap (((i : Nat) : Int) + 1) = ((i + 1 : Nat) : Int) := by rw [wrap_i64 (by omega) (by omega)]; omega
           rw [e128]
           clear e128
           refine og 1 [(0, (Value.slice A l.length c)), (2, (Value.bool false)), (3, (ptr b1)), (4, (Value.int IntKind.u64 (IntKind.u64.wrap (T + x.n)))), (5, (i64 ((i + 1 : Nat) : Int))), (6, (ptr b21)), (22, (Value.bool true)), (30, (i64 x.kind)), (31, (Value.bool false)), (38, (Value.bool false)), (53, (Value.bool false)), (68, (Value.bool true)), (77, (Value.bool true))] 3 ?_
           refine Ops.keep (R := [(0, (Value.slice A l.length c)), (2, (Value.bool false)), (3, (ptr b1)), (4, (Value.int IntKind.u64 (IntKind.u64.wrap (T + x.n)))), (5, (i64 ((i + 1 : Nat) : Int)))]) (by kernel_rfl) ?_
           refine od ?_
           exact ⟨(i + 1, T + x.n, m118, putS SS x.name x.n), ⟨rfl, (by omega), (by omega), hB122, K11, H12, H121⟩, (show l.length - (i + 1) < l.length - i from by omega)⟩
          ·rw [h125]
           have p129 : ¬ (putE SS x.name x.n = 0) := of_beq_f h125
           refine q_skip (by kernel_rfl) ?_
           refine qg ?_
           refine og 2 [(0, (Value.slice A l.length c)), (2, (Value.bool false)), (3, (ptr b1)), (4, (Value.int IntKind.u64 (IntKind.u64.wrap T))), (5, (i64 ((i : Nat) : Int))), (6, (ptr b21)), (22, (Value.bool true)), (24, (i64 (IntKind.i64.wrap (((i : Nat) : Int) + 1)))), (30, (i64 x.kind)), (31, (Value.bool false)), (38, (Value.bool false)), (53, (Value.bool false)), (68, (Value.bool true)), (77, (Value.bool false))] 2 ?_
           have e130 : IntKind.i64.wrap (((i : Nat) : Int) + 1) = ((i + 1 : Nat) : Int) := by rw [wrap_i64 (by omega) (by omega)]; omega
           rw [e130]
           clear e130
           refine og 1 [(0, (Value.slice A l.length c)), (2, (Value.bool false)), (3, (ptr b1)), (4, (Value.int IntKind.u64 (IntKind.u64.wrap T))), (5, (i64 ((i + 1 : Nat) : Int))), (6, (ptr b21)), (22, (Value.bool true)), (30, (i64 x.kind)), (31, (Value.bool false)), (38, (Value.bool false)), (53, (Value.bool false)), (68, (Value.bool true)), (77, (Value.bool false))] 3 ?_
           refine Ops.keep (R := [(0, (Value.slice A l.length c)), (2, (Value.bool false)), (3, (ptr b1)), (4, (Value.int IntKind.u64 (IntKind.u64.wrap T))), (5, (i64 ((i + 1 : Nat) : Int)))]) (by kernel_rfl) ?_
           refine od ?_
           exact ⟨(i + 1, T, m118, putS SS x.name x.n), ⟨rfl, (by omega), (by omega), hB122, K11, H12, H121⟩, (show l.length - (i + 1) < l.length - i from by omega)⟩
         ·rw [h116]
          have p131 : ¬ (x.kind = 8) := of_beq_f h116
          refine qs ?_
          refine qg ?_
          refine og 2 [(0, (Value.slice A l.length c)), (2, (Value.bool false)), (3, (ptr b1)), (4, (Value.int IntKind.u64 (IntKind.u64.wrap T))), (5, (i64 ((i : Nat) : Int))), (6, (ptr b21)), (22, (Value.bool true)), (30, (i64 x.kind)), (31, (Value.bool false)), (38, (Value.bool false)), (53, (Value.bool false)), (68, (Value.bool false)), (83, (Value.bool (x.kind == 9)))] 2 ?_
          refine od ?_
          refine q_cond (o := .tmp 83) (b := (x.kind == 9)) (by kernel_rfl) rfl (fun h132 => ?_) (fun h132 => ?_)
          ·rw [h132]
           have p133 : x.kind = 9 := of_beq_t h132
           refine qs ?_
           refine qg ?_
           refine og 2 [(0, (Value.slice A l.length c)), (2, (Value.bool false)), (3, (ptr b1)), (4, (Value.int IntKind.u64 (IntKind.u64.wrap T))), (5, (i64 ((i : Nat) : Int))), (6, (ptr b21)), (22, (Value.bool true)), (30, (i64 x.kind)), (31, (Value.bool false)), (38, (Value.bool false)), (53, (Value.bool false)), (68, (Value.bool false)), (83, (Value.bool true)), (85, (ptr b1)), (86, (Value.pointer (some ⟨b21, 4, none⟩)))] 2 ?_
           refine Ops.go (v := (i64 x.slot)) (by kernel_rfl) (Runs.load (t := 3) (a := ⟨b21, 4, none⟩) (by kernel_rfl) (H28.loads (by kernel_rfl))) (d := (some 87)) (by kernel_rfl) rfl ?_
           refine Ops.call (by kernel_rfl) (d := (some 88)) (by kernel_rfl) (Rows_calls _ b1 mb2 mm SS x.slot H12 H13 (by omega) hBm) ?_
           rintro _ w136 ⟨A134, c135, rfl, K137, hO138⟩
           have ob140 : ∀ i, ((Value.slice A134 ((rowsS SS x.slot).length) c135)).ownBlock = some i → i ≠ b1 := fun i hi => by have := (World.ownsRow.lt hO138 i hi).1; have := H12.lt; omega
           have ob141 : ∀ i, ((Value.slice A134 ((rowsS SS x.slot).length) c135)).ownBlock = some i → i ≠ mb2 := fun i hi => by have := (World.ownsRow.lt hO138 i hi).1; have := H13.lt; omega
           have ob142 : ∀ i, ((Value.slice A134 ((rowsS SS x.slot).length) c135)).ownBlock = some i → i ≠ b21 := fun i hi => by have := (World.ownsRow.lt hO138 i hi).1; have := H28.lt; omega
           have O139 := own_base hO138 K11.size
           clear hO138
           have hl143 := rowsS_len SS x.slot
           have hl144 := hBm.accs.len
           refine ⟨_, _, rfl, rfl, ?_⟩
           replace K11 := K11.trans K137 (U := none_) (fun i h1 h2 => h2) (fun i h1 h2 => by exact h2)
           replace H12 := H12.keep K137 (fun h => h)
           replace H13 := H13.keep K137 (fun h => h)
           replace H28 := H28.keep K137 (fun h => h)
           clear K137
           refine og 1 [(0, (Value.slice A l.length c)), (2, (Value.bool false)), (3, (ptr b1)), (4, (Value.int IntKind.u64 (IntKind.u64.wrap T))), (5, (i64 ((i : Nat) : Int))), (6, (ptr b21)), (7, (Value.slice A134 ((rowsS SS x.slot).length) c135)), (22, (Value.bool true)), (30, (i64 x.kind)), (31, (Value.bool false)), (38, (Value.bool false)), (53, (Value.bool false)), (68, (Value.bool false)), (83, (Value.bool true))] 5 ?_
           refine od ?_
           refine qs ?_
           refine qs ?_
           refine qg ?_
           refine og 1 [(0, (Value.slice A l.length c)), (2, (Value.bool false)), (3, (ptr b1)), (4, (Value.int IntKind.u64 (IntKind.u64.wrap T))), (5, (i64 ((i : Nat) : Int))), (6, (ptr b21)), (7, (Value.slice A134 ((rowsS SS x.slot).length) c135)), (22, (Value.bool true)), (30, (i64 x.kind)), (31, (Value.bool false)), (38, (Value.bool false)), (53, (Value.bool false)), (68, (Value.bool false)), (83, (Value.bool true)), (89, (Value.pointer (some ⟨b21, 4, none⟩)))] 1 ?_
           refine Ops.go (v := (i64 x.slot)) (by kernel_rfl) (Runs.load (t := 3) (a := ⟨b21, 4, none⟩) (by kernel_rfl) (H28.loads (by kernel_rfl))) (d := (some 90)) (by kernel_rfl) rfl ?_
           refine og 1 [(0, (Value.slice A l.length c)), (2, (Value.bool false)), (3, (ptr b1)), (4, (Value.int IntKind.u64 (IntKind.u64.wrap T))), (5, (i64 ((i : Nat) : Int))), (6, (ptr b21)), (7, (Value.slice A134 ((rowsS SS x.slot).length) c135)), (22, (Value.bool true)), (30, (i64 x.kind)), (31, (Value.bool false)), (38, (Value.bool false)), (53, (Value.bool false)), (68, (Value.bool false)), (83, (Value.bool true)), (91, (Value.bool (decide (x.slot ≥ 0))))] 3 ?_
           refine od ?_
           refine q_cond (o := .tmp 91) (b := (decide (x.slot ≥ 0))) (by kernel_rfl) rfl (fun h145 => ?_) (fun h145 => ?_)
           ·rw [h145]
            have p146 : x.slot ≥ 0 := of_decide_eq_true h145
            refine qs ?_
            refine qg ?_
            refine og 1 [(0, (Value.slice A l.length c)), (2, (Value.bool false)), (3, (ptr b1)), (4, (Value.int IntKind.u64 (IntKind.u64.wrap T))), (5, (i64 ((i : Nat) : Int))), (6, (ptr b21)), (7, (Value.slice A134 ((rowsS SS x.slot).length) c135)), (8, (i64 0)), (22, (Value.bool true)), (30, (i64 x.kind)), (31, (Value.bool false)), (38, (Value.bool false)), (53, (Value.bool false)), (68, (Value.bool false)), (83, (Value.bool true)), (91, (Value.bool true))] 1 ?_
            refine od ?_
            refine q_block (id := 3) (by kernel_rfl) ?_
            refine q_keep (R := [(0, (Value.slice A l.length c)), (2, (Value.bool false)), (3, (ptr b1)), (4, (Value.int IntKind.u64 (IntKind.u64.wrap T))), (5, (i64 ((i : Nat) : Int))), (6, (ptr b21)), (7, (Value.slice A134 ((rowsS SS x.slot).length) c135)), (8, (i64 0)), (22, (Value.bool true)), (30, (i64 x.kind)), (31, (Value.bool false)), (38, (Value.bool false)), (53, (Value.bool false)), (68, (Value.bool false)), (83, (Value.bool true)), (91, (Value.bool true))]) (by kernel_rfl) ?_
            refine q_loop (fun (gs : Nat × Int) L (wx : World) => match gs with | (j, T2) => L = [(0, (Value.slice A l.length c)), (2, (Value.bool false)), (3, (ptr b1)), (4, (Value.int IntKind.u64 (IntKind.u64.wrap T2))), (5, (i64 ((i : Nat) : Int))), (6, (ptr b21)), (7, (Value.slice A134 ((rowsS SS x.slot).length) c135)), (8, (i64 ((j : Nat) : Int))), (22, (Value.bool true)), (30, (i64 x.kind)), (31, (Value.bool false)), (38, (Value.bool false)), (53, (Value.bool false)), (68, (Value.bool false)), (83, (Value.bool true)), (91, (Value.bool true))] ∧ OwnR wx w.heap.size 27 (Value.slice A134 ((rowsS SS x.slot).length) c135) (rowsS SS x.slot) ∧ (∀ i, ((Value.slice A134 ((rowsS SS x.slot).length) c135)).ownBlock = some i → i ≠ b1) ∧ (∀ i, ((Value.slice A134 ((rowsS SS x.slot).length) c135)).ownBlock = some i → i ≠ mb2) ∧ (∀ i, ((Value.slice A134 ((rowsS SS x.slot).length) c135)).ownBlock = some i → i ≠ b21) ∧ j ≤ (rowsS SS x.slot).length ∧ T2 = T - sumR ((rowsS SS x.slot).take j) ∧ Keeps none_ w wx ∧ Has wx b1 (rowL [(Value.map (some mb2))] 61) ∧ HasMap wx mb2 kstr accv mm ∧ Has wx b21 (rowL [(i64 x.kind), (Value.string (str x.name)), (Value.string (str x.own)), (i64 x.n), (i64 x.slot)] 41)) (fun (gs : Nat × Int) => match gs with | (j, T2) => (rowsS SS x.slot).length - j) (0, T) (by kernel_rfl) ⟨rfl, O139, ob140, ob141, ob142, Nat.zero_le _, (by simp [sumR]), K11, H12, H13, H28⟩ ?_
            clear H12 H13 H28 O139 K11
            rintro ⟨j, T2⟩ _ w147 ⟨rfl, hON, obNb1, obNmb2, obNb21, hj, hT2, K148, H149, H150, H151⟩
            refine qs ?_
            refine qs ?_
            refine qg ?_
            refine og 4 [(0, (Value.slice A l.length c)), (2, (Value.bool false)), (3, (ptr b1)), (4, (Value.int IntKind.u64 (IntKind.u64.wrap T2))), (5, (i64 ((i : Nat) : Int))), (6, (ptr b21)), (7, (Value.slice A134 ((rowsS SS x.slot).length) c135)), (8, (i64 ((j : Nat) : Int))), (22, (Value.bool true)), (30, (i64 x.kind)), (31, (Value.bool false)), (38, (Value.bool false)), (53, (Value.bool false)), (68, (Value.bool false)), (83, (Value.bool true)), (91, (Value.bool true)), (95, (Value.bool (decide (((j : Nat) : Int) < (((rowsS SS x.slot).length : Nat) : Int)))))] 4 ?_
            refine od ?_
            refine q_cond (o := .tmp 95) (b := (decide (((j : Nat) : Int) < (((rowsS SS x.slot).length : Nat) : Int)))) (by kernel_rfl) rfl (fun h152 => ?_) (fun h152 => ?_)
            ·rw [h152]
             have p153 : ((j : Nat) : Int) < (((rowsS SS x.slot).length : Nat) : Int) := of_decide_eq_true h152
             obtain ⟨r, hr⟩ : ∃ y, (rowsS SS x.slot)[j]? = some y := ⟨_, List.getElem?_eq_getElem (by omega)⟩
             have hst := sumR_take hr
             have hrp := rows_pos hBm.accs (List.mem_of_getElem? hr)
             obtain ⟨rb154, ro155, hA156⟩ := Rd.addr (OwnT.rd hON) (by omega)
             refine q_skip (by kernel_rfl) ?_
             refine qs ?_
             refine q_block (id := 4) (by kernel_rfl) ?_
             refine qg ?_
             refine og 3 [(0, (Value.slice A l.length c)), (2, (Value.bool false)), (3, (ptr b1)), (4, (Value.int IntKind.u64 (IntKind.u64.wrap T2))), (5, (i64 ((i : Nat) : Int))), (6, (ptr b21)), (7, (Value.slice A134 ((rowsS SS x.slot).length) c135)), (8, (i64 ((j : Nat) : Int))), (22, (Value.bool true)), (30, (i64 x.kind)), (31, (Value.bool false)), (38, (Value.bool false)), (53, (Value.bool false)), (68, (Value.bool false)), (83, (Value.bool true)), (91, (Value.bool true)), (95, (Value.bool true)), (98, (Value.int IntKind.u64 (IntKind.u64.wrap T2))), (99, (Value.slice A134 ((rowsS SS x.slot).length) c135)), (100, (i64 ((j : Nat) : Int)))] 3 ?_
             refine Ops.go (by kernel_rfl) (Runs.ixSliceE (k := IntKind.i64) (t := 43) (len := ((rowsS SS x.slot).length)) (cap := c135) (s := 2) (off' := ro155 + j * 2) (i := ((j : Nat) : Int)) hA156 (by kernel_rfl) (by kernel_rfl) (by omega) (by omega) (by omega)) (d := (some 101)) (by kernel_rfl) rfl ?_
             refine og 1 [(0, (Value.slice A l.length c)), (2, (Value.bool false)), (3, (ptr b1)), (4, (Value.int IntKind.u64 (IntKind.u64.wrap T2))), (5, (i64 ((i : Nat) : Int))), (6, (ptr b21)), (7, (Value.slice A134 ((rowsS SS x.slot).length) c135)), (8, (i64 ((j : Nat) : Int))), (22, (Value.bool true)), (30, (i64 x.kind)), (31, (Value.bool false)), (38, (Value.bool false)), (53, (Value.bool false)), (68, (Value.bool false)), (83, (Value.bool true)), (91, (Value.bool true)), (95, (Value.bool true)), (98, (Value.int IntKind.u64 (IntKind.u64.wrap T2))), (102, (Value.pointer (some ⟨rb154, ro155 + j * 2 + 1, none⟩)))] 5 ?_
             refine Ops.go (v := (i64 r.amount)) (by kernel_rfl) (Runs.load (t := 2) (a := ⟨rb154, ro155 + j * 2 + 1, none⟩) (by kernel_rfl) (RdT.ldf (f := RowM.cells) (x := r) (o := 1) RowM.two (OwnT.rd hON) (by kernel_rfl) hA156 hr rfl)) (d := (some 103)) (by kernel_rfl) rfl ?_
             refine og 2 [(0, (Value.slice A l.length c)), (2, (Value.bool false)), (3, (ptr b1)), (4, (Value.int IntKind.u64 (IntKind.u64.wrap T2))), (5, (i64 ((i : Nat) : Int))), (6, (ptr b21)), (7, (Value.slice A134 ((rowsS SS x.slot).length) c135)), (8, (i64 ((j : Nat) : Int))), (22, (Value.bool true)), (30, (i64 x.kind)), (31, (Value.bool false)), (38, (Value.bool false)), (53, (Value.bool false)), (68, (Value.bool false)), (83, (Value.bool true)), (91, (Value.bool true)), (95, (Value.bool true)), (105, (Value.int IntKind.u64 (IntKind.u64.wrap ((IntKind.u64.wrap T2) - (IntKind.u64.wrap r.amount)))))] 8 ?_
             have e157 : IntKind.u64.wrap ((IntKind.u64.wrap T2) - (IntKind.u64.wrap r.amount)) = IntKind.u64.wrap (T2 - r.amount) := wrapU_sub _ _
             rw [e157]
             clear e157
             refine og 1 [(0, (Value.slice A l.length c)), (2, (Value.bool false)), (3, (ptr b1)), (4, (Value.int IntKind.u64 (IntKind.u64.wrap (T2 - r.amount)))), (5, (i64 ((i : Nat) : Int))), (6, (ptr b21)), (7, (Value.slice A134 ((rowsS SS x.slot).length) c135)), (8, (i64 ((j : Nat) : Int))), (22, (Value.bool true)), (30, (i64 x.kind)), (31, (Value.bool false)), (38, (Value.bool false)), (53, (Value.bool false)), (68, (Value.bool false)), (83, (Value.bool true)), (91, (Value.bool true)), (95, (Value.bool true))] 9 ?_
             refine od ?_
             refine qg ?_
             refine og 2 [(0, (Value.slice A l.length c)), (2, (Value.bool false)), (3, (ptr b1)), (4, (Value.int IntKind.u64 (IntKind.u64.wrap (T2 - r.amount)))), (5, (i64 ((i : Nat) : Int))), (6, (ptr b21)), (7, (Value.slice A134 ((rowsS SS x.slot).length) c135)), (8, (i64 ((j : Nat) : Int))), (22, (Value.bool true)), (30, (i64 x.kind)), (31, (Value.bool false)), (38, (Value.bool false)), (53, (Value.bool false)), (68, (Value.bool false)), (83, (Value.bool true)), (91, (Value.bool true)), (95, (Value.bool true)), (97, (i64 (IntKind.i64.wrap (((j : Nat) : Int) + 1))))] 2 ?_
             have e158 : IntKind.i64.wrap (((j : Nat) : Int) + 1) = ((j + 1 : Nat) : Int) := by rw [wrap_i64 (by omega) (by omega)]; omega
             rw [e158]
             clear e158
             refine og 1 [(0, (Value.slice A l.length c)), (2, (Value.bool false)), (3, (ptr b1)), (4, (Value.int IntKind.u64 (IntKind.u64.wrap (T2 - r.amount)))), (5, (i64 ((i : Nat) : Int))), (6, (ptr b21)), (7, (Value.slice A134 ((rowsS SS x.slot).length) c135)), (8, (i64 ((j + 1 : Nat) : Int))), (22, (Value.bool true)), (30, (i64 x.kind)), (31, (Value.bool false)), (38, (Value.bool false)), (53, (Value.bool false)), (68, (Value.bool false)), (83, (Value.bool true)), (91, (Value.bool true)), (95, (Value.bool true))] 3 ?_
             refine Ops.keep (R := [(0, (Value.slice A l.length c)), (2, (Value.bool false)), (3, (ptr b1)), (4, (Value.int IntKind.u64 (IntKind.u64.wrap (T2 - r.amount)))), (5, (i64 ((i : Nat) : Int))), (6, (ptr b21)), (7, (Value.slice A134 ((rowsS SS x.slot).length) c135)), (8, (i64 ((j + 1 : Nat) : Int))), (22, (Value.bool true)), (30, (i64 x.kind)), (31, (Value.bool false)), (38, (Value.bool false)), (53, (Value.bool false)), (68, (Value.bool false)), (83, (Value.bool true)), (91, (Value.bool true))]) (by kernel_rfl) ?_
             refine od ?_
             exact ⟨(j + 1, T2 - r.amount), ⟨rfl, hON, obNb1, obNmb2, obNb21, (by omega), (by omega), K148, H149, H150, H151⟩, (show (rowsS SS x.slot).length - (j + 1) < (rowsS SS x.slot).length - j from by omega)⟩
            ·rw [h152]
             have p159 : ¬ (((j : Nat) : Int) < (((rowsS SS x.slot).length : Nat) : Int)) := of_decide_eq_false h152
             rw [List.take_of_length_le (show (rowsS SS x.slot).length ≤ j from by omega)] at hT2
             refine q_exit (id := 3) (by kernel_rfl) ?_
             refine qg ?_
             refine og 2 [(0, (Value.slice A l.length c)), (2, (Value.bool false)), (3, (ptr b1)), (4, (Value.int IntKind.u64 (IntKind.u64.wrap T2))), (5, (i64 ((i : Nat) : Int))), (6, (ptr b21)), (7, (Value.slice A134 ((rowsS SS x.slot).length) c135)), (8, (i64 ((j : Nat) : Int))), (22, (Value.bool true)), (30, (i64 x.kind)), (31, (Value.bool false)), (38, (Value.bool false)), (53, (Value.bool false)), (68, (Value.bool false)), (83, (Value.bool true)), (91, (Value.bool true)), (95, (Value.bool false)), (106, (ptr b1)), (107, (Value.pointer (some ⟨b21, 4, none⟩)))] 2 ?_
             refine Ops.go (v := (i64 x.slot)) (by kernel_rfl) (Runs.load (t := 3) (a := ⟨b21, 4, none⟩) (by kernel_rfl) (H151.loads (by kernel_rfl))) (d := (some 108)) (by kernel_rfl) rfl ?_
             refine Ops.call (by kernel_rfl) (d := (some 109)) (by kernel_rfl) (Drop_calls _ b1 mb2 mm SS x.slot H149 H150 (by omega) hBm) ?_
             rintro _ w161 ⟨m160, rfl, K162, H163, hB164⟩
             have hl165 := hB164.len
             have ht166 : total (dropS SS x.slot) = total SS - sumR (rowsS SS x.slot) := total_drop SS (by omega)
             refine ⟨_, _, rfl, rfl, ?_⟩
             replace K148 := K148.trans K162 (U := none_) (fun i h1 h2 => h2) (fun i h1 h2 => by have h2 : i = mb2 := h2; exfalso; omega)
             replace H149 := H149.keep K162 (by intro h; change b1 = mb2 at h; omega)
             replace H151 := H151.keep K162 (by intro h; change b21 = mb2 at h; omega)
             replace hON := own_keep hON K162 (fun i hi hs => by have hs : i = mb2 := hs; have := obNmb2 i hi; omega)
             clear K162
             refine od ?_
             refine qg ?_
             refine og 2 [(0, (Value.slice A l.length c)), (2, (Value.bool false)), (3, (ptr b1)), (4, (Value.int IntKind.u64 (IntKind.u64.wrap T2))), (5, (i64 ((i : Nat) : Int))), (6, (ptr b21)), (7, (Value.slice A134 ((rowsS SS x.slot).length) c135)), (8, (i64 ((j : Nat) : Int))), (22, (Value.bool true)), (24, (i64 (IntKind.i64.wrap (((i : Nat) : Int) + 1)))), (30, (i64 x.kind)), (31, (Value.bool false)), (38, (Value.bool false)), (53, (Value.bool false)), (68, (Value.bool false)), (83, (Value.bool true)), (91, (Value.bool true)), (95, (Value.bool false))] 2 ?_
             have e167 : IntKind.i64.wrap (((i : Nat) : Int) + 1) = ((i + 1 : Nat) : Int) := by rw [wrap_i64 (by omega) (by omega)]; omega
             rw [e167]
             clear e167
             refine og 1 [(0, (Value.slice A l.length c)), (2, (Value.bool false)), (3, (ptr b1)), (4, (Value.int IntKind.u64 (IntKind.u64.wrap T2))), (5, (i64 ((i + 1 : Nat) : Int))), (6, (ptr b21)), (7, (Value.slice A134 ((rowsS SS x.slot).length) c135)), (8, (i64 ((j : Nat) : Int))), (22, (Value.bool true)), (30, (i64 x.kind)), (31, (Value.bool false)), (38, (Value.bool false)), (53, (Value.bool false)), (68, (Value.bool false)), (83, (Value.bool true)), (91, (Value.bool true)), (95, (Value.bool false))] 3 ?_
             refine Ops.keep (R := [(0, (Value.slice A l.length c)), (2, (Value.bool false)), (3, (ptr b1)), (4, (Value.int IntKind.u64 (IntKind.u64.wrap T2))), (5, (i64 ((i + 1 : Nat) : Int)))]) (by kernel_rfl) ?_
             refine od ?_
             exact ⟨(i + 1, T2, m160, dropS SS x.slot), ⟨rfl, (by omega), (by omega), hB164, K148, H149, H163⟩, (show l.length - (i + 1) < l.length - i from by omega)⟩
           ·rw [h145]
            have p168 : ¬ (x.slot ≥ 0) := of_decide_eq_false h145
            refine q_skip (by kernel_rfl) ?_
            refine qg ?_
            refine og 2 [(0, (Value.slice A l.length c)), (2, (Value.bool false)), (3, (ptr b1)), (4, (Value.int IntKind.u64 (IntKind.u64.wrap T))), (5, (i64 ((i : Nat) : Int))), (6, (ptr b21)), (7, (Value.slice A134 ((rowsS SS x.slot).length) c135)), (22, (Value.bool true)), (30, (i64 x.kind)), (31, (Value.bool false)), (38, (Value.bool false)), (53, (Value.bool false)), (68, (Value.bool false)), (83, (Value.bool true)), (91, (Value.bool false)), (106, (ptr b1)), (107, (Value.pointer (some ⟨b21, 4, none⟩)))] 2 ?_
            refine Ops.go (v := (i64 x.slot)) (by kernel_rfl) (Runs.load (t := 3) (a := ⟨b21, 4, none⟩) (by kernel_rfl) (H28.loads (by kernel_rfl))) (d := (some 108)) (by kernel_rfl) rfl ?_
            refine Ops.call (by kernel_rfl) (d := (some 109)) (by kernel_rfl) (Drop_calls _ b1 mb2 mm SS x.slot H12 H13 (by omega) hBm) ?_
            rintro _ w170 ⟨m169, rfl, K171, H172, hB173⟩
            have hl174 := hB173.len
            have ht175 : total (dropS SS x.slot) = total SS := by unfold dropS; rw [if_pos (by omega)]
            refine ⟨_, _, rfl, rfl, ?_⟩
            replace K11 := K11.trans K171 (U := none_) (fun i h1 h2 => h2) (fun i h1 h2 => by have h2 : i = mb2 := h2; exfalso; omega)
            replace H12 := H12.keep K171 (by intro h; change b1 = mb2 at h; omega)
            replace H28 := H28.keep K171 (by intro h; change b21 = mb2 at h; omega)
            replace O139 := own_keep O139 K171 (fun i hi hs => by have hs : i = mb2 := hs; have := ob141 i hi; omega)
            clear K171
            refine od ?_
            refine qg ?_
            refine og 2 [(0, (Value.slice A l.length c)), (2, (Value.bool false)), (3, (ptr b1)), (4, (Value.int IntKind.u64 (IntKind.u64.wrap T))), (5, (i64 ((i : Nat) : Int))), (6, (ptr b21)), (7, (Value.slice A134 ((rowsS SS x.slot).length) c135)), (22, (Value.bool true)), (24, (i64 (IntKind.i64.wrap (((i : Nat) : Int) + 1)))), (30, (i64 x.kind)), (31, (Value.bool false)), (38, (Value.bool false)), (53, (Value.bool false)), (68, (Value.bool false)), (83, (Value.bool true)), (91, (Value.bool false))] 2 ?_
            have e176 : IntKind.i64.wrap (((i : Nat) : Int) + 1) = ((i + 1 : Nat) : Int) := by rw [wrap_i64 (by omega) (by omega)]; omega
            rw [e176]
            clear e176
            refine og 1 [(0, (Value.slice A l.length c)), (2, (Value.bool false)), (3, (ptr b1)), (4, (Value.int IntKind.u64 (IntKind.u64.wrap T))), (5, (i64 ((i + 1 : Nat) : Int))), (6, (ptr b21)), (7, (Value.slice A134 ((rowsS SS x.slot).length) c135)), (22, (Value.bool true)), (30, (i64 x.kind)), (31, (Value.bool false)), (38, (Value.bool false)), (53, (Value.bool false)), (68, (Value.bool false)), (83, (Value.bool true)), (91, (Value.bool false))] 3 ?_
            refine Ops.keep (R := [(0, (Value.slice A l.length c)), (2, (Value.bool false)), (3, (ptr b1)), (4, (Value.int IntKind.u64 (IntKind.u64.wrap T))), (5, (i64 ((i + 1 : Nat) : Int)))]) (by kernel_rfl) ?_
            refine od ?_
            exact ⟨(i + 1, T, m169, dropS SS x.slot), ⟨rfl, (by omega), (by omega), hB173, K11, H12, H172⟩, (show l.length - (i + 1) < l.length - i from by omega)⟩
          ·rw [h132]
           have p177 : ¬ (x.kind = 9) := of_beq_f h132
           refine q_skip (by kernel_rfl) ?_
           refine qg ?_
           refine og 2 [(0, (Value.slice A l.length c)), (2, (Value.bool false)), (3, (ptr b1)), (4, (Value.int IntKind.u64 (IntKind.u64.wrap T))), (5, (i64 ((i : Nat) : Int))), (6, (ptr b21)), (22, (Value.bool true)), (24, (i64 (IntKind.i64.wrap (((i : Nat) : Int) + 1)))), (30, (i64 x.kind)), (31, (Value.bool false)), (38, (Value.bool false)), (53, (Value.bool false)), (68, (Value.bool false)), (83, (Value.bool false))] 2 ?_
           have e178 : IntKind.i64.wrap (((i : Nat) : Int) + 1) = ((i + 1 : Nat) : Int) := by rw [wrap_i64 (by omega) (by omega)]; omega
           rw [e178]
           clear e178
           refine og 1 [(0, (Value.slice A l.length c)), (2, (Value.bool false)), (3, (ptr b1)), (4, (Value.int IntKind.u64 (IntKind.u64.wrap T))), (5, (i64 ((i + 1 : Nat) : Int))), (6, (ptr b21)), (22, (Value.bool true)), (30, (i64 x.kind)), (31, (Value.bool false)), (38, (Value.bool false)), (53, (Value.bool false)), (68, (Value.bool false)), (83, (Value.bool false))] 3 ?_
           refine Ops.keep (R := [(0, (Value.slice A l.length c)), (2, (Value.bool false)), (3, (ptr b1)), (4, (Value.int IntKind.u64 (IntKind.u64.wrap T))), (5, (i64 ((i + 1 : Nat) : Int)))]) (by kernel_rfl) ?_
           refine od ?_
           exact ⟨(i + 1, T, mm, SS), ⟨rfl, (by omega), (by omega), hBm, K11, H12, H13⟩, (show l.length - (i + 1) < l.length - i from by omega)⟩
  ·rw [h19]
   have p179 : ¬ (((i : Nat) : Int) < 120) := of_decide_eq_false h19
   refine q_exit (id := 0) (by kernel_rfl) ?_
   refine qs ?_
   refine qg ?_
   refine og 1 [(2, (Value.bool false)), (3, (ptr b1)), (4, (Value.int IntKind.u64 (IntKind.u64.wrap T))), (9, (Value.int IntKind.u64 0))] 1 ?_
   refine od ?_
   refine qs ?_
   refine qg ?_
   refine og 1 [(2, (Value.bool false)), (4, (Value.int IntKind.u64 (IntKind.u64.wrap T))), (9, (Value.int IntKind.u64 0)), (110, (ptr b1))] 1 ?_
   refine Ops.call (by kernel_rfl) (d := (some 111)) (by kernel_rfl) (Rows_calls _ b1 mb2 mm SS (-1) H12 H13 (by omega) hBm) ?_
   rintro _ w182 ⟨A180, c181, rfl, K183, hO184⟩
   have ob186 : ∀ i, ((Value.slice A180 ((rowsS SS (-1)).length) c181)).ownBlock = some i → i ≠ b1 := fun i hi => by have := (World.ownsRow.lt hO184 i hi).1; have := H12.lt; omega
   have ob187 : ∀ i, ((Value.slice A180 ((rowsS SS (-1)).length) c181)).ownBlock = some i → i ≠ mb2 := fun i hi => by have := (World.ownsRow.lt hO184 i hi).1; have := H13.lt; omega
   have O185 := own_base hO184 K11.size
   clear hO184
   have hl188 := rowsS_len SS (-1)
   have hl189 := hBm.accs.len
   refine ⟨_, _, rfl, rfl, ?_⟩
   replace K11 := K11.trans K183 (U := none_) (fun i h1 h2 => h2) (fun i h1 h2 => by exact h2)
   replace H12 := H12.keep K183 (fun h => h)
   replace H13 := H13.keep K183 (fun h => h)
   clear K183
   refine og 1 [(2, (Value.bool false)), (4, (Value.int IntKind.u64 (IntKind.u64.wrap T))), (9, (Value.int IntKind.u64 0)), (10, (Value.slice A180 ((rowsS SS (-1)).length) c181))] 3 ?_
   refine od ?_
   refine qs ?_
   refine qs ?_
   refine qg ?_
   refine og 1 [(2, (Value.bool false)), (4, (Value.int IntKind.u64 (IntKind.u64.wrap T))), (9, (Value.int IntKind.u64 0)), (10, (Value.slice A180 ((rowsS SS (-1)).length) c181)), (11, (i64 0))] 1 ?_
   refine od ?_
   refine q_block (id := 5) (by kernel_rfl) ?_
   refine q_keep (R := [(4, (Value.int IntKind.u64 (IntKind.u64.wrap T))), (9, (Value.int IntKind.u64 0)), (10, (Value.slice A180 ((rowsS SS (-1)).length) c181)), (11, (i64 0))]) (by kernel_rfl) ?_
   refine q_loop (fun (gs : Nat × Int) L (wx : World) => match gs with | (j, T2) => L = [(4, (Value.int IntKind.u64 (IntKind.u64.wrap T))), (9, (Value.int IntKind.u64 (IntKind.u64.wrap T2))), (10, (Value.slice A180 ((rowsS SS (-1)).length) c181)), (11, (i64 ((j : Nat) : Int)))] ∧ OwnR wx w.heap.size 27 (Value.slice A180 ((rowsS SS (-1)).length) c181) (rowsS SS (-1)) ∧ (∀ i, ((Value.slice A180 ((rowsS SS (-1)).length) c181)).ownBlock = some i → i ≠ b1) ∧ (∀ i, ((Value.slice A180 ((rowsS SS (-1)).length) c181)).ownBlock = some i → i ≠ mb2) ∧ j ≤ (rowsS SS (-1)).length ∧ T2 = 0 + sumR ((rowsS SS (-1)).take j) ∧ Keeps none_ w wx ∧ Has wx b1 (rowL [(Value.map (some mb2))] 61) ∧ HasMap wx mb2 kstr accv mm) (fun (gs : Nat × Int) => match gs with | (j, T2) => (rowsS SS (-1)).length - j) (0, 0) (by kernel_rfl) ⟨rfl, O185, ob186, ob187, Nat.zero_le _, (by simp [sumR]), K11, H12, H13⟩ ?_
   clear H12 H13 O185 K11
   rintro ⟨j, T2⟩ _ w190 ⟨rfl, hON, obNb1, obNmb2, hj, hT2, K191, H192, H193⟩
   refine qs ?_
   refine qs ?_
   refine qg ?_
   refine og 4 [(4, (Value.int IntKind.u64 (IntKind.u64.wrap T))), (9, (Value.int IntKind.u64 (IntKind.u64.wrap T2))), (10, (Value.slice A180 ((rowsS SS (-1)).length) c181)), (11, (i64 ((j : Nat) : Int))), (115, (Value.bool (decide (((j : Nat) : Int) < (((rowsS SS (-1)).length : Nat) : Int)))))] 4 ?_
   refine od ?_
   refine q_cond (o := .tmp 115) (b := (decide (((j : Nat) : Int) < (((rowsS SS (-1)).length : Nat) : Int)))) (by kernel_rfl) rfl (fun h194 => ?_) (fun h194 => ?_)
   ·rw [h194]
    have p195 : ((j : Nat) : Int) < (((rowsS SS (-1)).length : Nat) : Int) := of_decide_eq_true h194
    obtain ⟨r, hr⟩ : ∃ y, (rowsS SS (-1))[j]? = some y := ⟨_, List.getElem?_eq_getElem (by omega)⟩
    have hst := sumR_take hr
    have hrp := rows_pos hBm.accs (List.mem_of_getElem? hr)
    obtain ⟨rb196, ro197, hA198⟩ := Rd.addr (OwnT.rd hON) (by omega)
    refine q_skip (by kernel_rfl) ?_
    refine qs ?_
    refine q_block (id := 6) (by kernel_rfl) ?_
    refine qs ?_
    refine qs ?_
    refine qg ?_
    refine og 2 [(4, (Value.int IntKind.u64 (IntKind.u64.wrap T))), (9, (Value.int IntKind.u64 (IntKind.u64.wrap T2))), (10, (Value.slice A180 ((rowsS SS (-1)).length) c181)), (11, (i64 ((j : Nat) : Int))), (115, (Value.bool true)), (118, (Value.slice A180 ((rowsS SS (-1)).length) c181)), (119, (i64 ((j : Nat) : Int)))] 2 ?_
    refine Ops.go (by kernel_rfl) (Runs.ixSliceE (k := IntKind.i64) (t := 43) (len := ((rowsS SS (-1)).length)) (cap := c181) (s := 2) (off' := ro197 + j * 2) (i := ((j : Nat) : Int)) hA198 (by kernel_rfl) (by kernel_rfl) (by omega) (by omega) (by omega)) (d := (some 120)) (by kernel_rfl) rfl ?_
    refine og 1 [(4, (Value.int IntKind.u64 (IntKind.u64.wrap T))), (9, (Value.int IntKind.u64 (IntKind.u64.wrap T2))), (10, (Value.slice A180 ((rowsS SS (-1)).length) c181)), (11, (i64 ((j : Nat) : Int))), (115, (Value.bool true)), (121, (Value.pointer (some ⟨rb196, ro197 + j * 2 + 1, none⟩)))] 4 ?_
    refine Ops.go (v := (i64 r.amount)) (by kernel_rfl) (Runs.load (t := 2) (a := ⟨rb196, ro197 + j * 2 + 1, none⟩) (by kernel_rfl) (RdT.ldf (f := RowM.cells) (x := r) (o := 1) RowM.two (OwnT.rd hON) (by kernel_rfl) hA198 hr rfl)) (d := (some 122)) (by kernel_rfl) rfl ?_
    refine og 1 [(4, (Value.int IntKind.u64 (IntKind.u64.wrap T))), (9, (Value.int IntKind.u64 (IntKind.u64.wrap T2))), (10, (Value.slice A180 ((rowsS SS (-1)).length) c181)), (11, (i64 ((j : Nat) : Int))), (115, (Value.bool true)), (123, (Value.bool (decide (r.amount < 0))))] 6 ?_
    refine od ?_
    have h199 : (decide (r.amount < 0)) = false := decide_eq_false (by omega)
    rw [h199]
    refine q_else (o := .tmp 123) (by kernel_rfl) rfl ?_
    refine q_skip (by kernel_rfl) ?_
    refine qg ?_
    refine og 3 [(4, (Value.int IntKind.u64 (IntKind.u64.wrap T))), (9, (Value.int IntKind.u64 (IntKind.u64.wrap T2))), (10, (Value.slice A180 ((rowsS SS (-1)).length) c181)), (11, (i64 ((j : Nat) : Int))), (115, (Value.bool true)), (123, (Value.bool false)), (124, (Value.int IntKind.u64 (IntKind.u64.wrap T2))), (125, (Value.slice A180 ((rowsS SS (-1)).length) c181)), (126, (i64 ((j : Nat) : Int)))] 3 ?_
    refine Ops.go (by kernel_rfl) (Runs.ixSliceE (k := IntKind.i64) (t := 43) (len := ((rowsS SS (-1)).length)) (cap := c181) (s := 2) (off' := ro197 + j * 2) (i := ((j : Nat) : Int)) hA198 (by kernel_rfl) (by kernel_rfl) (by omega) (by omega) (by omega)) (d := (some 127)) (by kernel_rfl) rfl ?_
    refine og 1 [(4, (Value.int IntKind.u64 (IntKind.u64.wrap T))), (9, (Value.int IntKind.u64 (IntKind.u64.wrap T2))), (10, (Value.slice A180 ((rowsS SS (-1)).length) c181)), (11, (i64 ((j : Nat) : Int))), (115, (Value.bool true)), (123, (Value.bool false)), (124, (Value.int IntKind.u64 (IntKind.u64.wrap T2))), (128, (Value.pointer (some ⟨rb196, ro197 + j * 2 + 1, none⟩)))] 5 ?_
    refine Ops.go (v := (i64 r.amount)) (by kernel_rfl) (Runs.load (t := 2) (a := ⟨rb196, ro197 + j * 2 + 1, none⟩) (by kernel_rfl) (RdT.ldf (f := RowM.cells) (x := r) (o := 1) RowM.two (OwnT.rd hON) (by kernel_rfl) hA198 hr rfl)) (d := (some 129)) (by kernel_rfl) rfl ?_
    refine og 2 [(4, (Value.int IntKind.u64 (IntKind.u64.wrap T))), (9, (Value.int IntKind.u64 (IntKind.u64.wrap T2))), (10, (Value.slice A180 ((rowsS SS (-1)).length) c181)), (11, (i64 ((j : Nat) : Int))), (115, (Value.bool true)), (123, (Value.bool false)), (131, (Value.int IntKind.u64 (IntKind.u64.wrap ((IntKind.u64.wrap T2) + (IntKind.u64.wrap r.amount)))))] 8 ?_
    have e200 : IntKind.u64.wrap ((IntKind.u64.wrap T2) + (IntKind.u64.wrap r.amount)) = IntKind.u64.wrap (T2 + r.amount) := wrapU_add _ _
    rw [e200]
    clear e200
    refine og 1 [(4, (Value.int IntKind.u64 (IntKind.u64.wrap T))), (9, (Value.int IntKind.u64 (IntKind.u64.wrap (T2 + r.amount)))), (10, (Value.slice A180 ((rowsS SS (-1)).length) c181)), (11, (i64 ((j : Nat) : Int))), (115, (Value.bool true)), (123, (Value.bool false))] 9 ?_
    refine od ?_
    refine qg ?_
    refine og 2 [(4, (Value.int IntKind.u64 (IntKind.u64.wrap T))), (9, (Value.int IntKind.u64 (IntKind.u64.wrap (T2 + r.amount)))), (10, (Value.slice A180 ((rowsS SS (-1)).length) c181)), (11, (i64 ((j : Nat) : Int))), (115, (Value.bool true)), (117, (i64 (IntKind.i64.wrap (((j : Nat) : Int) + 1)))), (123, (Value.bool false))] 2 ?_
    have e201 : IntKind.i64.wrap (((j : Nat) : Int) + 1) = ((j + 1 : Nat) : Int) := by rw [wrap_i64 (by omega) (by omega)]; omega
    rw [e201]
    clear e201
    refine og 1 [(4, (Value.int IntKind.u64 (IntKind.u64.wrap T))), (9, (Value.int IntKind.u64 (IntKind.u64.wrap (T2 + r.amount)))), (10, (Value.slice A180 ((rowsS SS (-1)).length) c181)), (11, (i64 ((j + 1 : Nat) : Int))), (115, (Value.bool true)), (123, (Value.bool false))] 3 ?_
    refine Ops.keep (R := [(4, (Value.int IntKind.u64 (IntKind.u64.wrap T))), (9, (Value.int IntKind.u64 (IntKind.u64.wrap (T2 + r.amount)))), (10, (Value.slice A180 ((rowsS SS (-1)).length) c181)), (11, (i64 ((j + 1 : Nat) : Int)))]) (by kernel_rfl) ?_
    refine od ?_
    exact ⟨(j + 1, T2 + r.amount), ⟨rfl, hON, obNb1, obNmb2, (by omega), (by omega), K191, H192, H193⟩, (show (rowsS SS (-1)).length - (j + 1) < (rowsS SS (-1)).length - j from by omega)⟩
   ·rw [h194]
    have p202 : ¬ (((j : Nat) : Int) < (((rowsS SS (-1)).length : Nat) : Int)) := of_decide_eq_false h194
    rw [List.take_of_length_le (show (rowsS SS (-1)).length ≤ j from by omega)] at hT2
    refine q_exit (id := 5) (by kernel_rfl) ?_
    refine qs ?_
    refine qg ?_
    refine og 4 [(135, (Value.bool ((IntKind.u64.wrap T2) == (IntKind.u64.wrap T))))] 4 ?_
    have h203 : ((IntKind.u64.wrap T2) == (IntKind.u64.wrap T)) = true := beq_t (by rw [hT2, hT, sum_all, Int.zero_add])
    rw [h203]
    refine Ops.call (by kernel_rfl) (d := (some 136)) (by kernel_rfl) (known_calls _) ?_
    rintro _ w205 ⟨rfl, K204⟩
    refine ⟨_, _, rfl, rfl, ?_⟩
    replace K191 := K191.trans K204 (U := none_) (fun i h1 h2 => h2) (fun i h1 h2 => by exact h2)
    replace H192 := H192.keep K204 (fun h => h)
    replace H193 := H193.keep K204 (fun h => h)
    replace hON := own_keep0 hON K204
    clear K204
    refine og 2 [(2, (Value.bool true))] 7 ?_
    refine od ?_
    refine q_ret (by kernel_rfl) ?_
    refine ⟨(Value.bool true), retv_tmp rfl rfl, ?_⟩
    exact ⟨rfl, K191⟩
 ·rw [h14]
  have p206 : ¬ (((i : Nat) : Int) < ((l.length : Nat) : Int)) := of_decide_eq_false h14
  refine og 3 [(0, (Value.slice A l.length c)), (2, (Value.bool false)), (3, (ptr b1)), (4, (Value.int IntKind.u64 (IntKind.u64.wrap T))), (5, (i64 ((i : Nat) : Int))), (22, (Value.bool false))] 8 ?_
  refine od ?_
  refine q_else (o := .tmp 22) (by kernel_rfl) rfl ?_
  refine q_exit (id := 0) (by kernel_rfl) ?_
  refine qs ?_
  refine qg ?_
  refine og 1 [(2, (Value.bool false)), (3, (ptr b1)), (4, (Value.int IntKind.u64 (IntKind.u64.wrap T))), (9, (Value.int IntKind.u64 0))] 1 ?_
  refine od ?_
  refine qs ?_
  refine qg ?_
  refine og 1 [(2, (Value.bool false)), (4, (Value.int IntKind.u64 (IntKind.u64.wrap T))), (9, (Value.int IntKind.u64 0)), (110, (ptr b1))] 1 ?_
  refine Ops.call (by kernel_rfl) (d := (some 111)) (by kernel_rfl) (Rows_calls _ b1 mb2 mm SS (-1) H12 H13 (by omega) hBm) ?_
  rintro _ w209 ⟨A207, c208, rfl, K210, hO211⟩
  have ob213 : ∀ i, ((Value.slice A207 ((rowsS SS (-1)).length) c208)).ownBlock = some i → i ≠ b1 := fun i hi => by have := (World.ownsRow.lt hO211 i hi).1; have := H12.lt; omega
  have ob214 : ∀ i, ((Value.slice A207 ((rowsS SS (-1)).length) c208)).ownBlock = some i → i ≠ mb2 := fun i hi => by have := (World.ownsRow.lt hO211 i hi).1; have := H13.lt; omega
  have O212 := own_base hO211 K11.size
  clear hO211
  have hl215 := rowsS_len SS (-1)
  have hl216 := hBm.accs.len
  refine ⟨_, _, rfl, rfl, ?_⟩
  replace K11 := K11.trans K210 (U := none_) (fun i h1 h2 => h2) (fun i h1 h2 => by exact h2)
  replace H12 := H12.keep K210 (fun h => h)
  replace H13 := H13.keep K210 (fun h => h)
  clear K210
  refine og 1 [(2, (Value.bool false)), (4, (Value.int IntKind.u64 (IntKind.u64.wrap T))), (9, (Value.int IntKind.u64 0)), (10, (Value.slice A207 ((rowsS SS (-1)).length) c208))] 3 ?_
  refine od ?_
  refine qs ?_
  refine qs ?_
  refine qg ?_
  refine og 1 [(2, (Value.bool false)), (4, (Value.int IntKind.u64 (IntKind.u64.wrap T))), (9, (Value.int IntKind.u64 0)), (10, (Value.slice A207 ((rowsS SS (-1)).length) c208)), (11, (i64 0))] 1 ?_
  refine od ?_
  refine q_block (id := 5) (by kernel_rfl) ?_
  refine q_keep (R := [(4, (Value.int IntKind.u64 (IntKind.u64.wrap T))), (9, (Value.int IntKind.u64 0)), (10, (Value.slice A207 ((rowsS SS (-1)).length) c208)), (11, (i64 0))]) (by kernel_rfl) ?_
  refine q_loop (fun (gs : Nat × Int) L (wx : World) => match gs with | (j, T2) => L = [(4, (Value.int IntKind.u64 (IntKind.u64.wrap T))), (9, (Value.int IntKind.u64 (IntKind.u64.wrap T2))), (10, (Value.slice A207 ((rowsS SS (-1)).length) c208)), (11, (i64 ((j : Nat) : Int)))] ∧ OwnR wx w.heap.size 27 (Value.slice A207 ((rowsS SS (-1)).length) c208) (rowsS SS (-1)) ∧ (∀ i, ((Value.slice A207 ((rowsS SS (-1)).length) c208)).ownBlock = some i → i ≠ b1) ∧ (∀ i, ((Value.slice A207 ((rowsS SS (-1)).length) c208)).ownBlock = some i → i ≠ mb2) ∧ j ≤ (rowsS SS (-1)).length ∧ T2 = 0 + sumR ((rowsS SS (-1)).take j) ∧ Keeps none_ w wx ∧ Has wx b1 (rowL [(Value.map (some mb2))] 61) ∧ HasMap wx mb2 kstr accv mm) (fun (gs : Nat × Int) => match gs with | (j, T2) => (rowsS SS (-1)).length - j) (0, 0) (by kernel_rfl) ⟨rfl, O212, ob213, ob214, Nat.zero_le _, (by simp [sumR]), K11, H12, H13⟩ ?_
  clear H12 H13 O212 K11
  rintro ⟨j, T2⟩ _ w217 ⟨rfl, hON, obNb1, obNmb2, hj, hT2, K218, H219, H220⟩
  refine qs ?_
  refine qs ?_
  refine qg ?_
  refine og 4 [(4, (Value.int IntKind.u64 (IntKind.u64.wrap T))), (9, (Value.int IntKind.u64 (IntKind.u64.wrap T2))), (10, (Value.slice A207 ((rowsS SS (-1)).length) c208)), (11, (i64 ((j : Nat) : Int))), (115, (Value.bool (decide (((j : Nat) : Int) < (((rowsS SS (-1)).length : Nat) : Int)))))] 4 ?_
  refine od ?_
  refine q_cond (o := .tmp 115) (b := (decide (((j : Nat) : Int) < (((rowsS SS (-1)).length : Nat) : Int)))) (by kernel_rfl) rfl (fun h221 => ?_) (fun h221 => ?_)
  ·rw [h221]
   have p222 : ((j : Nat) : Int) < (((rowsS SS (-1)).length : Nat) : Int) := of_decide_eq_true h221
   obtain ⟨r, hr⟩ : ∃ y, (rowsS SS (-1))[j]? = some y := ⟨_, List.getElem?_eq_getElem (by omega)⟩
   have hst := sumR_take hr
   have hrp := rows_pos hBm.accs (List.mem_of_getElem? hr)
   obtain ⟨rb223, ro224, hA225⟩ := Rd.addr (OwnT.rd hON) (by omega)
   refine q_skip (by kernel_rfl) ?_
   refine qs ?_
   refine q_block (id := 6) (by kernel_rfl) ?_
   refine qs ?_
   refine qs ?_
   refine qg ?_
   refine og 2 [(4, (Value.int IntKind.u64 (IntKind.u64.wrap T))), (9, (Value.int IntKind.u64 (IntKind.u64.wrap T2))), (10, (Value.slice A207 ((rowsS SS (-1)).length) c208)), (11, (i64 ((j : Nat) : Int))), (115, (Value.bool true)), (118, (Value.slice A207 ((rowsS SS (-1)).length) c208)), (119, (i64 ((j : Nat) : Int)))] 2 ?_
   refine Ops.go (by kernel_rfl) (Runs.ixSliceE (k := IntKind.i64) (t := 43) (len := ((rowsS SS (-1)).length)) (cap := c208) (s := 2) (off' := ro224 + j * 2) (i := ((j : Nat) : Int)) hA225 (by kernel_rfl) (by kernel_rfl) (by omega) (by omega) (by omega)) (d := (some 120)) (by kernel_rfl) rfl ?_
   refine og 1 [(4, (Value.int IntKind.u64 (IntKind.u64.wrap T))), (9, (Value.int IntKind.u64 (IntKind.u64.wrap T2))), (10, (Value.slice A207 ((rowsS SS (-1)).length) c208)), (11, (i64 ((j : Nat) : Int))), (115, (Value.bool true)), (121, (Value.pointer (some ⟨rb223, ro224 + j * 2 + 1, none⟩)))] 4 ?_
   refine Ops.go (v := (i64 r.amount)) (by kernel_rfl) (Runs.load (t := 2) (a := ⟨rb223, ro224 + j * 2 + 1, none⟩) (by kernel_rfl) (RdT.ldf (f := RowM.cells) (x := r) (o := 1) RowM.two (OwnT.rd hON) (by kernel_rfl) hA225 hr rfl)) (d := (some 122)) (by kernel_rfl) rfl ?_
   refine og 1 [(4, (Value.int IntKind.u64 (IntKind.u64.wrap T))), (9, (Value.int IntKind.u64 (IntKind.u64.wrap T2))), (10, (Value.slice A207 ((rowsS SS (-1)).length) c208)), (11, (i64 ((j : Nat) : Int))), (115, (Value.bool true)), (123, (Value.bool (decide (r.amount < 0))))] 6 ?_
   refine od ?_
   have h226 : (decide (r.amount < 0)) = false := decide_eq_false (by omega)
   rw [h226]
   refine q_else (o := .tmp 123) (by kernel_rfl) rfl ?_
   refine q_skip (by kernel_rfl) ?_
   refine qg ?_
   refine og 3 [(4, (Value.int IntKind.u64 (IntKind.u64.wrap T))), (9, (Value.int IntKind.u64 (IntKind.u64.wrap T2))), (10, (Value.slice A207 ((rowsS SS (-1)).length) c208)), (11, (i64 ((j : Nat) : Int))), (115, (Value.bool true)), (123, (Value.bool false)), (124, (Value.int IntKind.u64 (IntKind.u64.wrap T2))), (125, (Value.slice A207 ((rowsS SS (-1)).length) c208)), (126, (i64 ((j : Nat) : Int)))] 3 ?_
   refine Ops.go (by kernel_rfl) (Runs.ixSliceE (k := IntKind.i64) (t := 43) (len := ((rowsS SS (-1)).length)) (cap := c208) (s := 2) (off' := ro224 + j * 2) (i := ((j : Nat) : Int)) hA225 (by kernel_rfl) (by kernel_rfl) (by omega) (by omega) (by omega)) (d := (some 127)) (by kernel_rfl) rfl ?_
   refine og 1 [(4, (Value.int IntKind.u64 (IntKind.u64.wrap T))), (9, (Value.int IntKind.u64 (IntKind.u64.wrap T2))), (10, (Value.slice A207 ((rowsS SS (-1)).length) c208)), (11, (i64 ((j : Nat) : Int))), (115, (Value.bool true)), (123, (Value.bool false)), (124, (Value.int IntKind.u64 (IntKind.u64.wrap T2))), (128, (Value.pointer (some ⟨rb223, ro224 + j * 2 + 1, none⟩)))] 5 ?_
   refine Ops.go (v := (i64 r.amount)) (by kernel_rfl) (Runs.load (t := 2) (a := ⟨rb223, ro224 + j * 2 + 1, none⟩) (by kernel_rfl) (RdT.ldf (f := RowM.cells) (x := r) (o := 1) RowM.two (OwnT.rd hON) (by kernel_rfl) hA225 hr rfl)) (d := (some 129)) (by kernel_rfl) rfl ?_
   refine og 2 [(4, (Value.int IntKind.u64 (IntKind.u64.wrap T))), (9, (Value.int IntKind.u64 (IntKind.u64.wrap T2))), (10, (Value.slice A207 ((rowsS SS (-1)).length) c208)), (11, (i64 ((j : Nat) : Int))), (115, (Value.bool true)), (123, (Value.bool false)), (131, (Value.int IntKind.u64 (IntKind.u64.wrap ((IntKind.u64.wrap T2) + (IntKind.u64.wrap r.amount)))))] 8 ?_
   have e227 : IntKind.u64.wrap ((IntKind.u64.wrap T2) + (IntKind.u64.wrap r.amount)) = IntKind.u64.wrap (T2 + r.amount) := wrapU_add _ _
   rw [e227]
   clear e227
   refine og 1 [(4, (Value.int IntKind.u64 (IntKind.u64.wrap T))), (9, (Value.int IntKind.u64 (IntKind.u64.wrap (T2 + r.amount)))), (10, (Value.slice A207 ((rowsS SS (-1)).length) c208)), (11, (i64 ((j : Nat) : Int))), (115, (Value.bool true)), (123, (Value.bool false))] 9 ?_
   refine od ?_
   refine qg ?_
   refine og 2 [(4, (Value.int IntKind.u64 (IntKind.u64.wrap T))), (9, (Value.int IntKind.u64 (IntKind.u64.wrap (T2 + r.amount)))), (10, (Value.slice A207 ((rowsS SS (-1)).length) c208)), (11, (i64 ((j : Nat) : Int))), (115, (Value.bool true)), (117, (i64 (IntKind.i64.wrap (((j : Nat) : Int) + 1)))), (123, (Value.bool false))] 2 ?_
   have e228 : IntKind.i64.wrap (((j : Nat) : Int) + 1) = ((j + 1 : Nat) : Int) := by rw [wrap_i64 (by omega) (by omega)]; omega
   rw [e228]
   clear e228
   refine og 1 [(4, (Value.int IntKind.u64 (IntKind.u64.wrap T))), (9, (Value.int IntKind.u64 (IntKind.u64.wrap (T2 + r.amount)))), (10, (Value.slice A207 ((rowsS SS (-1)).length) c208)), (11, (i64 ((j + 1 : Nat) : Int))), (115, (Value.bool true)), (123, (Value.bool false))] 3 ?_
   refine Ops.keep (R := [(4, (Value.int IntKind.u64 (IntKind.u64.wrap T))), (9, (Value.int IntKind.u64 (IntKind.u64.wrap (T2 + r.amount)))), (10, (Value.slice A207 ((rowsS SS (-1)).length) c208)), (11, (i64 ((j + 1 : Nat) : Int)))]) (by kernel_rfl) ?_
   refine od ?_
   exact ⟨(j + 1, T2 + r.amount), ⟨rfl, hON, obNb1, obNmb2, (by omega), (by omega), K218, H219, H220⟩, (show (rowsS SS (-1)).length - (j + 1) < (rowsS SS (-1)).length - j from by omega)⟩
  ·rw [h221]
   have p229 : ¬ (((j : Nat) : Int) < (((rowsS SS (-1)).length : Nat) : Int)) := of_decide_eq_false h221
   rw [List.take_of_length_le (show (rowsS SS (-1)).length ≤ j from by omega)] at hT2
   refine q_exit (id := 5) (by kernel_rfl) ?_
   refine qs ?_
   refine qg ?_
   refine og 4 [(135, (Value.bool ((IntKind.u64.wrap T2) == (IntKind.u64.wrap T))))] 4 ?_
   have h230 : ((IntKind.u64.wrap T2) == (IntKind.u64.wrap T)) = true := beq_t (by rw [hT2, hT, sum_all, Int.zero_add])
   rw [h230]
   refine Ops.call (by kernel_rfl) (d := (some 136)) (by kernel_rfl) (known_calls _) ?_
   rintro _ w232 ⟨rfl, K231⟩
   refine ⟨_, _, rfl, rfl, ?_⟩
   replace K218 := K218.trans K231 (U := none_) (fun i h1 h2 => h2) (fun i h1 h2 => by exact h2)
   replace H219 := H219.keep K231 (fun h => h)
   replace H220 := H220.keep K231 (fun h => h)
   replace hON := own_keep0 hON K231
   clear K231
   refine og 2 [(2, (Value.bool true))] 7 ?_
   refine od ?_
   refine q_ret (by kernel_rfl) ?_
   refine ⟨(Value.bool true), retv_tmp rfl rfl, ?_⟩
   exact ⟨rfl, K218⟩
end Go.Proofs.YtooginpgclcldaaDoor
