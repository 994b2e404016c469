/- chart: bytes -/
import Derived.Test.YtoljbckhoigibaaProg
import Derived.Test.YtoljbckhoigibaaH
set_option linter.unusedVariables false
namespace Go.Proofs.Ytoljbckhoigibaa
open Go.Q Go.RowKit

theorem Image_calls (w : World) (b : Nat) (c : Ch) (h : c.Inv) (H0 : Has w b (rowL (chL c) 118)) : Calls Try.prog 28 ⟨[(Value.pointer (some ⟨b, 0, none⟩))]⟩ w (fun e w' => ∃ v', e = .returned v' ∧ Keeps none_ w w' ∧ OwnB w' w.heap.size 5 v' (c.image)) := by
  have hsh := h.sh
  have hsm := h.small
  have hbg := h.bg
  have hmb := h.mb
  have hph := h.ph
  have K0 : Keeps none_ w w := Keeps.refl w
  refine q_calls Try.func28 (by kernel_rfl) (by kernel_rfl) ?_
  refine q_seq (by kernel_rfl) ?_
  refine q_region (by kernel_rfl) ?_
  refine Ops.regs 1 [(0, (Value.pointer (some ⟨b, 0, none⟩))), (2, (Value.slice none 0 0))] (j := 1) (by kernel_rfl) (by kernel_rfl) ?_
  refine Ops.done (by kernel_rfl) ?_
  refine q_seq (by kernel_rfl) ?_
  refine q_seq (by kernel_rfl) ?_
  refine q_region (by kernel_rfl) ?_
  refine Ops.regs 2 [(0, (Value.pointer (some ⟨b, 0, none⟩))), (2, (Value.slice none 0 0)), (7, (Value.bool false))] (j := 2) (by kernel_rfl) (by kernel_rfl) ?_
  refine Ops.done (by kernel_rfl) ?_
  refine q_else (o := .tmp 7) (by kernel_rfl) rfl ?_
  refine q_skip (by kernel_rfl) ?_
  refine q_seq (by kernel_rfl) ?_
  refine q_region (by kernel_rfl) ?_
  refine Ops.regs 3 [(0, (Value.pointer (some ⟨b, 0, none⟩))), (2, (Value.slice none 0 0)), (10, (Value.pointer (some ⟨b, 0, none⟩)))] (j := 3) (by kernel_rfl) (by kernel_rfl) ?_
  refine Ops.go (v := (i64 c.shards)) (by kernel_rfl) (Runs.load (t := 3) (a := ⟨b, 0, none⟩) (by kernel_rfl) (H0.loads (loadC1 (by kernel_rfl) (ch_0 h.ok)))) (d := (some 11)) (by kernel_rfl) rfl ?_
  refine Ops.new (o := rowL [(i64 c.shards)] 2) (V := fun b => (Value.slice (some ⟨b, 0, none⟩) 1 1)) (by kernel_rfl) (d := (some 12)) (by kernel_rfl) (fun b => rfl) (fun b1 w2 hb3 H4 K5 hs6 => ?_)
  have lb1 : b < b1 := by have := H0.lt; omega
  have nb1 : w.heap.size ≤ b1 := by have := K0.size; omega
  have H7 := H0.keep K5 (fun h => h)
  clear H0
  have K8 := K0.trans K5 (U := none_) (fun i h1 h2 => h2) (fun i h1 h2 => by exact h2)
  clear K0
  clear K5 hs6
  have hr9 : ∀ z ∈ ([c.shards] : List Int), -9223372036854775808 ≤ z ∧ z ≤ 9223372036854775807 := by
    intro z hz
    simp only [List.mem_cons, List.not_mem_nil, or_false] at hz
    omega
  refine Ops.call (by kernel_rfl) (d := (some 13)) (by kernel_rfl) (ints_calls _ (Value.slice none 0 0) [] b1 [c.shards] 1 (Rd.nil _ _) (show Has _ b1 (rowL (ints [c.shards]) 2) from H4) rfl hr9 (by omega) (by (try simp only at *); (try simp only [List.length_append] at *); (try simp only [List.length_cons] at *); (try simp only [List.length_nil] at *); omega)) ?_
  rintro _ w12 ⟨v11, rfl, K13, hO14⟩
  have O15 := own_base hO14 K8.size
  clear hO14
  have hL10 : (ivs [c.shards]).length ≤ 10 := ivs_length_le hr9
  refine ⟨_, _, rfl, rfl, ?_⟩
  have H16 := H7.keep K13 (fun h => h)
  clear H7
  have H17 := H4.keep K13 (fun h => h)
  clear H4
  have K18 := K8.trans K13 (U := none_) (fun i h1 h2 => h2) (fun i h1 h2 => by exact h2)
  clear K8
  clear K13
  refine Ops.regs 1 [(0, (Value.pointer (some ⟨b, 0, none⟩))), (2, (Value.slice none 0 0)), (3, v11)] (j := 7) (by kernel_rfl) (by kernel_rfl) ?_
  refine Ops.done (by kernel_rfl) ?_
  refine q_seq (by kernel_rfl) ?_
  refine q_seq (by kernel_rfl) ?_
  refine q_region (by kernel_rfl) ?_
  refine Ops.regs 1 [(0, (Value.pointer (some ⟨b, 0, none⟩))), (2, (Value.slice none 0 0)), (3, v11), (14, (i64 0))] (j := 1) (by kernel_rfl) (by kernel_rfl) ?_
  refine Ops.done (by kernel_rfl) ?_
  refine q_block (id := 0) (by kernel_rfl) ?_
  refine q_keep (R := [(0, (Value.pointer (some ⟨b, 0, none⟩))), (2, (Value.slice none 0 0)), (3, v11), (14, (i64 0))]) (by kernel_rfl) ?_
  refine q_loop (fun (gs : Value × Nat × (List UInt8)) L (wx : World) => match gs with | (v, k, ys) => L = [(0, (Value.pointer (some ⟨b, 0, none⟩))), (2, (Value.slice none 0 0)), (3, v), (14, (i64 ((k : Nat) : Int)))] ∧ OwnB wx w.heap.size 5 v ys ∧ ys = imgk c k ∧ k ≤ 16 ∧ ys.length ≤ 10 + 20 * k ∧ Keeps none_ w wx ∧ Has wx b (rowL (chL c) 118) ∧ Has wx b1 (rowL [(i64 c.shards)] 2)) (fun (gs : Value × Nat × (List UInt8)) => match gs with | (v, k, ys) => 16 - k) (v11, 0, [] ++ ivs [c.shards]) (by kernel_rfl) ⟨rfl, O15, (by simp [imgk]), (by omega), (by (try simp only at *); (try simp only [List.length_append] at *); (try simp only [List.length_cons] at *); (try simp only [List.length_nil] at *); omega), K18, H16, H17⟩ ?_
  clear H16 H17 O15 K18
  rintro ⟨v, k, ys⟩ _ w19 ⟨rfl, hO, hE, hk, hyl, K20, H21, H22⟩
  refine q_seq (by kernel_rfl) ?_
  refine q_region (by kernel_rfl) ?_
  refine Ops.regs 1 [(0, (Value.pointer (some ⟨b, 0, none⟩))), (2, (Value.slice none 0 0)), (3, v), (14, (i64 ((k : Nat) : Int))), (15, (Value.bool (decide (((k : Nat) : Int) < 16))))] (j := 1) (by kernel_rfl) (by kernel_rfl) ?_
  refine Ops.done (by kernel_rfl) ?_
  refine q_seq (by kernel_rfl) ?_
  refine q_cond (o := .tmp 15) (b := (decide (((k : Nat) : Int) < 16))) (by kernel_rfl) rfl (fun h23 => ?_) (fun h23 => ?_)
  · rw [h23]
    have p24 : ((k : Nat) : Int) < 16 := of_decide_eq_true h23
    have hok := h.own k (by omega)
    have hek := h.ep k (by omega)
    refine q_skip (by kernel_rfl) ?_
    refine q_seq (by kernel_rfl) ?_
    refine q_block (id := 1) (by kernel_rfl) ?_
    refine q_seq (by kernel_rfl) ?_
    refine q_region (by kernel_rfl) ?_
    refine Ops.regs 2 [(0, (Value.pointer (some ⟨b, 0, none⟩))), (2, (Value.slice none 0 0)), (3, v), (4, (i64 ((k : Nat) : Int))), (14, (i64 ((k : Nat) : Int))), (15, (Value.bool true))] (j := 2) (by kernel_rfl) (by kernel_rfl) ?_
    refine Ops.done (by kernel_rfl) ?_
    refine q_draw (fun wz => Keeps none_ w19 wz) 16 (by kernel_rfl) (by kernel_rfl) (by kernel_rfl) (fun w25 K26 _ _ => ⟨K26, ?_⟩)
    have H27 := H21.keep K26 (fun h => h)
    clear H21
    have H28 := H22.keep K26 (fun h => h)
    clear H22
    have F29 := own_keep0 hO K26
    clear hO
    have K30 := K20.trans K26 (U := none_) (fun i h1 h2 => h2) (fun i h1 h2 => by exact h2)
    clear K20
    refine Dr.strong (S' := (fun wz => Keeps none_ w25 wz)) (Keeps.refl w25) (fun wz hx => K26.trans hx (fun _ _ h => h) (fun _ _ h => h)) ?_
    clear K26
    refine Dr.takes (fuel' := 11) (is' := [4, 3, 2, 1, 0]) [0, 1, 2, 3, 4] [(0, (Value.pointer (some ⟨b, 0, none⟩))), (2, (Value.slice none 0 0)), (3, v), (4, (i64 ((k : Nat) : Int))), (14, (i64 ((k : Nat) : Int))), (15, (Value.bool true)), (17, v), (19, (i64 ((k : Nat) : Int))), (21, (Value.pointer (some ⟨b, 1, none⟩)))] (by kernel_rfl) rfl (by kernel_rfl) ?_
    refine Dr.take (i := 5) (v := (Value.pointer (some ⟨b, 1 + k, none⟩))) (by kernel_rfl) (by kernel_rfl) (fun wz hS => Runs.ixArray (k := IntKind.i64) (t := 115) (b := b) (off := 1) (len := 16) (s := 1) (off' := 1 + k) (i := ((k : Nat) : Int)) (by kernel_rfl) (by kernel_rfl) (by omega) (by omega) (by omega)) (d := (some 22)) (by kernel_rfl) rfl ?_
    refine Dr.take (i := 6) (v := (i64 (c.owner.getD k 0))) (by kernel_rfl) (by kernel_rfl) (fun wz hS => Runs.load (t := 3) (a := ⟨b, 1 + k, none⟩) (by kernel_rfl) ((H27.keep hS (fun h => h)).loads (loadC1 (by kernel_rfl) (ch_own h.ok k (by omega))))) (d := (some 23)) (by kernel_rfl) rfl ?_
    refine Dr.takes (fuel' := 5) (is' := [10, 9, 8, 7, 6, 5, 4, 3, 2, 1, 0]) [7, 8, 9, 10] [(0, (Value.pointer (some ⟨b, 0, none⟩))), (2, (Value.slice none 0 0)), (3, v), (4, (i64 ((k : Nat) : Int))), (14, (i64 ((k : Nat) : Int))), (15, (Value.bool true)), (17, v), (23, (i64 (c.owner.getD k 0))), (25, (i64 ((k : Nat) : Int))), (27, (Value.pointer (some ⟨b, 17, none⟩)))] (by kernel_rfl) rfl (by kernel_rfl) ?_
    refine Dr.take (i := 11) (v := (Value.pointer (some ⟨b, 17 + k, none⟩))) (by kernel_rfl) (by kernel_rfl) (fun wz hS => Runs.ixArray (k := IntKind.i64) (t := 116) (b := b) (off := 17) (len := 16) (s := 1) (off' := 17 + k) (i := ((k : Nat) : Int)) (by kernel_rfl) (by kernel_rfl) (by omega) (by omega) (by omega)) (d := (some 28)) (by kernel_rfl) rfl ?_
    refine Dr.take (i := 12) (v := (i64 (c.epoch.getD k 0))) (by kernel_rfl) (by kernel_rfl) (fun wz hS => Runs.load (t := 2) (a := ⟨b, 17 + k, none⟩) (by kernel_rfl) ((H27.keep hS (fun h => h)).loads (loadC1 (by kernel_rfl) (ch_ep h.ok k (by omega))))) (d := (some 29)) (by kernel_rfl) rfl ?_
    refine Dr.new (i := 13) (o := rowL [(i64 (c.owner.getD k 0)), (i64 (c.epoch.getD k 0))] 2) (V := fun b => (Value.slice (some ⟨b, 0, none⟩) 2 2)) (by kernel_rfl) (by kernel_rfl) (d := (some 30)) (by kernel_rfl) (fun b => rfl) (fun b31 w32 hb33 H34 K35 hs36 => ?_)
    have lb31 : b1 < b31 := by have := H28.lt; omega
    have nb31 : w.heap.size ≤ b31 := by have := K30.size; omega
    have ob37 : ∀ i, (v).ownBlock = some i → i < b31 := fun i hi => by have := (World.ownsRow.lt F29 i hi).2; omega
    have H38 := H27.keep K35 (fun h => h)
    clear H27
    have H39 := H28.keep K35 (fun h => h)
    clear H28
    have F40 := own_keep0 F29 K35
    clear F29
    have K41 := K30.trans K35 (U := none_) (fun i h1 h2 => h2) (fun i h1 h2 => by exact h2)
    clear K30
    refine ⟨K35, ?_⟩
    refine Dr.strong (S' := (fun wz => Keeps none_ w32 wz)) (Keeps.refl w32) (fun wz hx => K35.trans hx (fun _ _ h => h) (fun _ _ h => h)) ?_
    clear K35 hs36
    have hr42 : ∀ z ∈ ([c.owner.getD k 0, c.epoch.getD k 0] : List Int), -9223372036854775808 ≤ z ∧ z ≤ 9223372036854775807 := by
      intro z hz
      simp only [List.mem_cons, List.not_mem_nil, or_false] at hz
      omega
    refine Dr.call (i := 14) (by kernel_rfl) (by kernel_rfl) (d := (some 31)) (by kernel_rfl) (fun _ => ints_calls _ v ys b31 [c.owner.getD k 0, c.epoch.getD k 0] 2 (OwnB.rd F40) (show Has _ b31 (rowL (ints [c.owner.getD k 0, c.epoch.getD k 0]) 2) from H34) rfl hr42 (by omega) (by (try simp only at *); (try simp only [List.length_append] at *); (try simp only [List.length_cons] at *); (try simp only [List.length_nil] at *); omega)) ?_
    rintro _ w45 ⟨v44, rfl, K46, hO47⟩
    have O48 := own_base hO47 K41.size
    clear hO47
    have hL43 : (ivs [c.owner.getD k 0, c.epoch.getD k 0]).length ≤ 20 := ivs_length_le hr42
    have H49 := H38.keep K46 (fun h => h)
    clear H38
    have H50 := H39.keep K46 (fun h => h)
    clear H39
    have H51 := H34.keep K46 (fun h => h)
    clear H34
    have F52 := own_keep0 F40 K46
    clear F40
    have K53 := K41.trans K46 (U := none_) (fun i h1 h2 => h2) (fun i h1 h2 => by exact h2)
    clear K41
    refine ⟨_, _, rfl, rfl, K46, ?_⟩
    refine Dr.strong (S' := (fun wz => Keeps none_ w45 wz)) (Keeps.refl w45) (fun wz hx => K46.trans hx (fun _ _ h => h) (fun _ _ h => h)) ?_
    clear K46
    refine Dr.takes (fuel' := 0) (is' := [15, 14, 13, 12, 11, 10, 9, 8, 7, 6, 5, 4, 3, 2, 1, 0]) [15] [(0, (Value.pointer (some ⟨b, 0, none⟩))), (2, (Value.slice none 0 0)), (3, v44), (4, (i64 ((k : Nat) : Int))), (14, (i64 ((k : Nat) : Int))), (15, (Value.bool true))] (by kernel_rfl) rfl (by kernel_rfl) ?_
    refine Dr.done (by kernel_rfl) ?_
    refine q_region (by kernel_rfl) ?_
    refine Ops.regs 1 [(0, (Value.pointer (some ⟨b, 0, none⟩))), (2, (Value.slice none 0 0)), (3, v44), (4, (i64 ((k : Nat) : Int))), (14, (i64 ((k : Nat) : Int))), (15, (Value.bool true)), (32, (i64 (IntKind.i64.wrap (((k : Nat) : Int) + 1))))] (j := 1) (by kernel_rfl) (by kernel_rfl) ?_
    have e54 : IntKind.i64.wrap (((k : Nat) : Int) + 1) = ((k : Nat) : Int) + 1 := wrap_i64 (by omega) (by omega)
    rw [e54]
    refine Ops.regs 1 [(0, (Value.pointer (some ⟨b, 0, none⟩))), (2, (Value.slice none 0 0)), (3, v44), (4, (i64 ((k : Nat) : Int))), (14, (i64 (((k : Nat) : Int) + 1))), (15, (Value.bool true))] (j := 2) (by kernel_rfl) (by kernel_rfl) ?_
    refine Ops.keep (R := [(0, (Value.pointer (some ⟨b, 0, none⟩))), (2, (Value.slice none 0 0)), (3, v44), (14, (i64 ((k + 1 : Nat) : Int)))]) (by kernel_rfl) ?_
    refine Ops.done (by kernel_rfl) ?_
    exact ⟨(v44, k + 1, ys ++ ivs [c.owner.getD k 0, c.epoch.getD k 0]), ⟨rfl, O48, (show _ = imgk c k ++ ivs [_, _] from by rw [← hE]), (by omega), (by (try simp only at *); (try simp only [List.length_append] at *); (try simp only [List.length_cons] at *); (try simp only [List.length_nil] at *); omega), K53, H49, H50⟩, (show 16 - (k + 1) < 16 - k from by omega)⟩
  · rw [h23]
    have p55 : ¬ (((k : Nat) : Int) < 16) := of_decide_eq_false h23
    refine q_exit (id := 0) (by kernel_rfl) ?_
    refine q_seq (by kernel_rfl) ?_
    refine q_region (by kernel_rfl) ?_
    refine Ops.regs 3 [(0, (Value.pointer (some ⟨b, 0, none⟩))), (2, (Value.slice none 0 0)), (3, v), (35, (Value.pointer (some ⟨b, 34, none⟩)))] (j := 3) (by kernel_rfl) (by kernel_rfl) ?_
    refine Ops.go (v := (agg [(i64 c.ms), (i64 c.mf), (i64 c.mt), (i64 c.me), (i64 c.mp), (i64 c.mn)])) (by kernel_rfl) (Runs.load (t := 34) (a := ⟨b, 34, none⟩) (by kernel_rfl) (H21.loads (loadCN (by kernel_rfl) (by kernel_rfl) (ch_move h.ok) (by rw [chL_length h.ok]; exact Nat.le_of_ble_eq_true rfl)))) (d := (some 36)) (by kernel_rfl) rfl ?_
    refine Ops.new (o := rowL [(i64 0), (i64 0), (i64 0), (i64 0), (i64 0), (i64 0)] 34) (V := fun b => (Value.pointer (some ⟨b, 0, none⟩))) (by kernel_rfl) (d := (some 5)) (by kernel_rfl) (fun b => rfl) (fun b56 w57 hb58 H59 K60 hs61 => ?_)
    have lb56 : b1 < b56 := by have := H22.lt; omega
    have nb56 : w.heap.size ≤ b56 := by have := K20.size; omega
    have ob62 : ∀ i, (v).ownBlock = some i → i < b56 := fun i hi => by have := (World.ownsRow.lt hO i hi).2; omega
    have H63 := H21.keep K60 (fun h => h)
    clear H21
    have H64 := H22.keep K60 (fun h => h)
    clear H22
    have F65 := own_keep0 hO K60
    clear hO
    have K66 := K20.trans K60 (U := none_) (fun i h1 h2 => h2) (fun i h1 h2 => by exact h2)
    clear K20
    clear K60 hs61
    refine Ops.put (t := 34) (b := b56) (off := 0) (v := (agg [(i64 c.ms), (i64 c.mf), (i64 c.mt), (i64 c.me), (i64 c.mp), (i64 c.mn)])) (ys := [(i64 c.ms), (i64 c.mf), (i64 c.mt), (i64 c.me), (i64 c.mp), (i64 c.mn)]) (by kernel_rfl) (by kernel_rfl) H59 (by kernel_rfl) (d := none) (by kernel_rfl) rfl (fun w67 H68 K69 => ?_)
    clear H59
    have H70 := H63.keep K69 (by intro h; change b = b56 at h; omega)
    clear H63
    have H71 := H64.keep K69 (by intro h; change b1 = b56 at h; omega)
    clear H64
    have F72 := own_keep F65 K69 (fun i hi hs => by have hs : i = b56 := hs; have := ob62 i hi; omega)
    clear F65
    have K73 := K66.trans K69 (U := none_) (fun i h1 h2 => h2) (fun i h1 h2 => by have h2 : i = b56 := h2; exfalso; omega)
    clear K66
    clear K69
    refine Ops.done (by kernel_rfl) ?_
    refine q_seq (by kernel_rfl) ?_
    refine q_draw (fun wz => Keeps none_ w67 wz) 28 (by kernel_rfl) (by kernel_rfl) (by kernel_rfl) (fun w74 K75 _ _ => ⟨K75, ?_⟩)
    have H76 := H70.keep K75 (fun h => h)
    clear H70
    have H77 := H71.keep K75 (fun h => h)
    clear H71
    have H78 := H68.keep K75 (fun h => h)
    clear H68
    have F79 := own_keep0 F72 K75
    clear F72
    have K80 := K73.trans K75 (U := none_) (fun i h1 h2 => h2) (fun i h1 h2 => by exact h2)
    clear K73
    refine Dr.strong (S' := (fun wz => Keeps none_ w74 wz)) (Keeps.refl w74) (fun wz hx => K75.trans hx (fun _ _ h => h) (fun _ _ h => h)) ?_
    clear K75
    refine Dr.takes (fuel' := 24) (is' := [3, 2, 1, 0]) [0, 1, 2, 3] [(0, (Value.pointer (some ⟨b, 0, none⟩))), (2, (Value.slice none 0 0)), (5, (Value.pointer (some ⟨b56, 0, none⟩))), (37, v), (40, (Value.pointer (some ⟨b, 33, none⟩)))] (by kernel_rfl) rfl (by kernel_rfl) ?_
    refine Dr.take (i := 4) (v := (i64 c.began)) (by kernel_rfl) (by kernel_rfl) (fun wz hS => Runs.load (t := 2) (a := ⟨b, 33, none⟩) (by kernel_rfl) ((H76.keep hS (fun h => h)).loads (loadC1 (by kernel_rfl) (ch_33 h.ok)))) (d := (some 41)) (by kernel_rfl) rfl ?_
    refine Dr.takes (fuel' := 22) (is' := [5, 4, 3, 2, 1, 0]) [5] [(0, (Value.pointer (some ⟨b, 0, none⟩))), (2, (Value.slice none 0 0)), (5, (Value.pointer (some ⟨b56, 0, none⟩))), (37, v), (41, (i64 c.began)), (42, (Value.pointer (some ⟨b56, 0, none⟩)))] (by kernel_rfl) rfl (by kernel_rfl) ?_
    refine Dr.take (i := 6) (v := (i64 c.ms)) (by kernel_rfl) (by kernel_rfl) (fun wz hS => Runs.load (t := 3) (a := ⟨b56, 0, none⟩) (by kernel_rfl) ((H78.keep hS (fun h => h)).loads (by kernel_rfl))) (d := (some 43)) (by kernel_rfl) rfl ?_
    refine Dr.takes (fuel' := 20) (is' := [7, 6, 5, 4, 3, 2, 1, 0]) [7] [(0, (Value.pointer (some ⟨b, 0, none⟩))), (2, (Value.slice none 0 0)), (5, (Value.pointer (some ⟨b56, 0, none⟩))), (37, v), (41, (i64 c.began)), (43, (i64 c.ms)), (44, (Value.pointer (some ⟨b56, 1, none⟩)))] (by kernel_rfl) rfl (by kernel_rfl) ?_
    refine Dr.take (i := 8) (v := (i64 c.mf)) (by kernel_rfl) (by kernel_rfl) (fun wz hS => Runs.load (t := 3) (a := ⟨b56, 1, none⟩) (by kernel_rfl) ((H78.keep hS (fun h => h)).loads (by kernel_rfl))) (d := (some 45)) (by kernel_rfl) rfl ?_
    refine Dr.takes (fuel' := 18) (is' := [9, 8, 7, 6, 5, 4, 3, 2, 1, 0]) [9] [(0, (Value.pointer (some ⟨b, 0, none⟩))), (2, (Value.slice none 0 0)), (5, (Value.pointer (some ⟨b56, 0, none⟩))), (37, v), (41, (i64 c.began)), (43, (i64 c.ms)), (45, (i64 c.mf)), (46, (Value.pointer (some ⟨b56, 2, none⟩)))] (by kernel_rfl) rfl (by kernel_rfl) ?_
    refine Dr.take (i := 10) (v := (i64 c.mt)) (by kernel_rfl) (by kernel_rfl) (fun wz hS => Runs.load (t := 3) (a := ⟨b56, 2, none⟩) (by kernel_rfl) ((H78.keep hS (fun h => h)).loads (by kernel_rfl))) (d := (some 47)) (by kernel_rfl) rfl ?_
    refine Dr.takes (fuel' := 16) (is' := [11, 10, 9, 8, 7, 6, 5, 4, 3, 2, 1, 0]) [11] [(0, (Value.pointer (some ⟨b, 0, none⟩))), (2, (Value.slice none 0 0)), (5, (Value.pointer (some ⟨b56, 0, none⟩))), (37, v), (41, (i64 c.began)), (43, (i64 c.ms)), (45, (i64 c.mf)), (47, (i64 c.mt)), (48, (Value.pointer (some ⟨b56, 3, none⟩)))] (by kernel_rfl) rfl (by kernel_rfl) ?_
    refine Dr.take (i := 12) (v := (i64 c.me)) (by kernel_rfl) (by kernel_rfl) (fun wz hS => Runs.load (t := 2) (a := ⟨b56, 3, none⟩) (by kernel_rfl) ((H78.keep hS (fun h => h)).loads (by kernel_rfl))) (d := (some 49)) (by kernel_rfl) rfl ?_
    refine Dr.takes (fuel' := 14) (is' := [13, 12, 11, 10, 9, 8, 7, 6, 5, 4, 3, 2, 1, 0]) [13] [(0, (Value.pointer (some ⟨b, 0, none⟩))), (2, (Value.slice none 0 0)), (5, (Value.pointer (some ⟨b56, 0, none⟩))), (37, v), (41, (i64 c.began)), (43, (i64 c.ms)), (45, (i64 c.mf)), (47, (i64 c.mt)), (49, (i64 c.me)), (50, (Value.pointer (some ⟨b56, 4, none⟩)))] (by kernel_rfl) rfl (by kernel_rfl) ?_
    refine Dr.take (i := 14) (v := (i64 c.mp)) (by kernel_rfl) (by kernel_rfl) (fun wz hS => Runs.load (t := 3) (a := ⟨b56, 4, none⟩) (by kernel_rfl) ((H78.keep hS (fun h => h)).loads (by kernel_rfl))) (d := (some 51)) (by kernel_rfl) rfl ?_
    refine Dr.takes (fuel' := 12) (is' := [15, 14, 13, 12, 11, 10, 9, 8, 7, 6, 5, 4, 3, 2, 1, 0]) [15] [(0, (Value.pointer (some ⟨b, 0, none⟩))), (2, (Value.slice none 0 0)), (37, v), (41, (i64 c.began)), (43, (i64 c.ms)), (45, (i64 c.mf)), (47, (i64 c.mt)), (49, (i64 c.me)), (51, (i64 c.mp)), (52, (Value.pointer (some ⟨b56, 5, none⟩)))] (by kernel_rfl) rfl (by kernel_rfl) ?_
    refine Dr.take (i := 16) (v := (i64 c.mn)) (by kernel_rfl) (by kernel_rfl) (fun wz hS => Runs.load (t := 2) (a := ⟨b56, 5, none⟩) (by kernel_rfl) ((H78.keep hS (fun h => h)).loads (by kernel_rfl))) (d := (some 53)) (by kernel_rfl) rfl ?_
    refine Dr.takes (fuel' := 8) (is' := [19, 18, 17, 16, 15, 14, 13, 12, 11, 10, 9, 8, 7, 6, 5, 4, 3, 2, 1, 0]) [17, 18, 19] [(0, (Value.pointer (some ⟨b, 0, none⟩))), (2, (Value.slice none 0 0)), (37, v), (41, (i64 c.began)), (43, (i64 c.ms)), (45, (i64 c.mf)), (47, (i64 c.mt)), (49, (i64 c.me)), (51, (i64 c.mp)), (53, (i64 c.mn)), (56, (Value.pointer (some ⟨b, 40, none⟩)))] (by kernel_rfl) rfl (by kernel_rfl) ?_
    refine Dr.take (i := 20) (v := (i64 c.audit)) (by kernel_rfl) (by kernel_rfl) (fun wz hS => Runs.load (t := 2) (a := ⟨b, 40, none⟩) (by kernel_rfl) ((H76.keep hS (fun h => h)).loads (loadC1 (by kernel_rfl) (ch_40 h.ok)))) (d := (some 57)) (by kernel_rfl) rfl ?_
    refine Dr.takes (fuel' := 4) (is' := [23, 22, 21, 20, 19, 18, 17, 16, 15, 14, 13, 12, 11, 10, 9, 8, 7, 6, 5, 4, 3, 2, 1, 0]) [21, 22, 23] [(2, (Value.slice none 0 0)), (37, v), (41, (i64 c.began)), (43, (i64 c.ms)), (45, (i64 c.mf)), (47, (i64 c.mt)), (49, (i64 c.me)), (51, (i64 c.mp)), (53, (i64 c.mn)), (57, (i64 c.audit)), (60, (Value.pointer (some ⟨b, 41, none⟩)))] (by kernel_rfl) rfl (by kernel_rfl) ?_
    refine Dr.take (i := 24) (v := (i64 c.phase)) (by kernel_rfl) (by kernel_rfl) (fun wz hS => Runs.load (t := 3) (a := ⟨b, 41, none⟩) (by kernel_rfl) ((H76.keep hS (fun h => h)).loads (loadC1 (by kernel_rfl) (ch_41 h.ok)))) (d := (some 61)) (by kernel_rfl) rfl ?_
    refine Dr.new (i := 25) (o := rowL [(i64 c.began), (i64 c.ms), (i64 c.mf), (i64 c.mt), (i64 c.me), (i64 c.mp), (i64 c.mn), (i64 c.audit), (i64 c.phase)] 2) (V := fun b => (Value.slice (some ⟨b, 0, none⟩) 9 9)) (by kernel_rfl) (by kernel_rfl) (d := (some 62)) (by kernel_rfl) (fun b => rfl) (fun b81 w82 hb83 H84 K85 hs86 => ?_)
    have lb81 : b56 < b81 := by have := H78.lt; omega
    have nb81 : w.heap.size ≤ b81 := by have := K80.size; omega
    have ob87 : ∀ i, (v).ownBlock = some i → i < b81 := fun i hi => by have := (World.ownsRow.lt F79 i hi).2; omega
    have H88 := H76.keep K85 (fun h => h)
    clear H76
    have H89 := H77.keep K85 (fun h => h)
    clear H77
    have H90 := H78.keep K85 (fun h => h)
    clear H78
    have F91 := own_keep0 F79 K85
    clear F79
    have K92 := K80.trans K85 (U := none_) (fun i h1 h2 => h2) (fun i h1 h2 => by exact h2)
    clear K80
    refine ⟨K85, ?_⟩
    refine Dr.strong (S' := (fun wz => Keeps none_ w82 wz)) (Keeps.refl w82) (fun wz hx => K85.trans hx (fun _ _ h => h) (fun _ _ h => h)) ?_
    clear K85 hs86
    have hr93 : ∀ z ∈ ([c.began, c.ms, c.mf, c.mt, c.me, c.mp, c.mn, c.audit, c.phase] : List Int), -9223372036854775808 ≤ z ∧ z ≤ 9223372036854775807 := by
      intro z hz
      simp only [List.mem_cons, List.not_mem_nil, or_false] at hz
      omega
    refine Dr.call (i := 26) (by kernel_rfl) (by kernel_rfl) (d := (some 63)) (by kernel_rfl) (fun _ => ints_calls _ v ys b81 [c.began, c.ms, c.mf, c.mt, c.me, c.mp, c.mn, c.audit, c.phase] 9 (OwnB.rd F91) (show Has _ b81 (rowL (ints [c.began, c.ms, c.mf, c.mt, c.me, c.mp, c.mn, c.audit, c.phase]) 2) from H84) rfl hr93 (by omega) (by (try simp only at *); (try simp only [List.length_append] at *); (try simp only [List.length_cons] at *); (try simp only [List.length_nil] at *); omega)) ?_
    rintro _ w96 ⟨v95, rfl, K97, hO98⟩
    have O99 := own_base hO98 K92.size
    clear hO98
    have hL94 : (ivs [c.began, c.ms, c.mf, c.mt, c.me, c.mp, c.mn, c.audit, c.phase]).length ≤ 90 := ivs_length_le hr93
    have H100 := H88.keep K97 (fun h => h)
    clear H88
    have H101 := H89.keep K97 (fun h => h)
    clear H89
    have H102 := H90.keep K97 (fun h => h)
    clear H90
    have H103 := H84.keep K97 (fun h => h)
    clear H84
    have F104 := own_keep0 F91 K97
    clear F91
    have K105 := K92.trans K97 (U := none_) (fun i h1 h2 => h2) (fun i h1 h2 => by exact h2)
    clear K92
    refine ⟨_, _, rfl, rfl, K97, ?_⟩
    refine Dr.strong (S' := (fun wz => Keeps none_ w96 wz)) (Keeps.refl w96) (fun wz hx => K97.trans hx (fun _ _ h => h) (fun _ _ h => h)) ?_
    clear K97
    refine Dr.takes (fuel' := 0) (is' := [27, 26, 25, 24, 23, 22, 21, 20, 19, 18, 17, 16, 15, 14, 13, 12, 11, 10, 9, 8, 7, 6, 5, 4, 3, 2, 1, 0]) [27] [(2, v95)] (by kernel_rfl) rfl (by kernel_rfl) ?_
    refine Dr.done (by kernel_rfl) ?_
    refine q_ret (by kernel_rfl) ?_
    refine ⟨v95, retv_tmp rfl rfl, ?_⟩
    have hfin : ys ++ ivs [c.began, c.ms, c.mf, c.mt, c.me, c.mp, c.mn, c.audit, c.phase] = c.image := by rw [hE, show k = 16 from by omega]; rfl
    rw [hfin] at O99
    exact ⟨_, rfl, K105, O99⟩

theorem RImage_calls (w : World) (b go co ge ce : Nat) (ro re : List Value) (c : Ch) (h : c.Inv) (H0 : Has w b (rowL (rchL c go co ge ce) 54)) (H1 : Has w go (rowL (ints c.owner ++ ro) 3)) (H2 : Has w ge (rowL (ints c.epoch ++ re) 2)) (hd : go ≠ b ∧ ge ≠ b ∧ go ≠ ge) : Calls Try.prog 65 ⟨[(Value.pointer (some ⟨b, 0, none⟩))]⟩ w (fun e w' => ∃ v', e = .returned v' ∧ Keeps none_ w w' ∧ OwnB w' w.heap.size 5 v' (c.image)) := by
  have hsh := h.sh
  have hsm := h.small
  have hbg := h.bg
  have hmb := h.mb
  have hph := h.ph
  have K0 : Keeps none_ w w := Keeps.refl w
  refine q_calls Try.func65 (by kernel_rfl) (by kernel_rfl) ?_
  refine q_seq (by kernel_rfl) ?_
  refine q_region (by kernel_rfl) ?_
  refine Ops.regs 1 [(0, (Value.pointer (some ⟨b, 0, none⟩))), (2, (Value.slice none 0 0))] (j := 1) (by kernel_rfl) (by kernel_rfl) ?_
  refine Ops.done (by kernel_rfl) ?_
  refine q_seq (by kernel_rfl) ?_
  refine q_region (by kernel_rfl) ?_
  refine Ops.regs 3 [(0, (Value.pointer (some ⟨b, 0, none⟩))), (2, (Value.slice none 0 0)), (7, (Value.pointer (some ⟨b, 0, none⟩)))] (j := 3) (by kernel_rfl) (by kernel_rfl) ?_
  refine Ops.go (v := (i64 c.shards)) (by kernel_rfl) (Runs.load (t := 3) (a := ⟨b, 0, none⟩) (by kernel_rfl) (H0.loads (by kernel_rfl))) (d := (some 8)) (by kernel_rfl) rfl ?_
  refine Ops.call (by kernel_rfl) (d := (some 9)) (by kernel_rfl) (RInt_calls _ (Value.slice none 0 0) [] c.shards (Rd.nil _ _) (by omega) (by (try simp only at *); (try simp only [List.length_append] at *); (try simp only [List.length_cons] at *); (try simp only [List.length_nil] at *); omega)) ?_
  rintro _ w3 ⟨v2, rfl, K4, hO5⟩
  have O6 := own_base hO5 K0.size
  clear hO5
  have hL1 := iv_length_10 (n := c.shards) (by omega)
  refine ⟨_, _, rfl, rfl, ?_⟩
  have H7 := H0.keep K4 (fun h => h)
  clear H0
  have H8 := H1.keep K4 (fun h => h)
  clear H1
  have H9 := H2.keep K4 (fun h => h)
  clear H2
  have K10 := K0.trans K4 (U := none_) (fun i h1 h2 => h2) (fun i h1 h2 => by exact h2)
  clear K0
  clear K4
  refine Ops.regs 1 [(0, (Value.pointer (some ⟨b, 0, none⟩))), (2, (Value.slice none 0 0)), (3, v2)] (j := 6) (by kernel_rfl) (by kernel_rfl) ?_
  refine Ops.done (by kernel_rfl) ?_
  refine q_seq (by kernel_rfl) ?_
  refine q_seq (by kernel_rfl) ?_
  refine q_region (by kernel_rfl) ?_
  refine Ops.regs 1 [(0, (Value.pointer (some ⟨b, 0, none⟩))), (2, (Value.slice none 0 0)), (3, v2), (4, (i64 0))] (j := 1) (by kernel_rfl) (by kernel_rfl) ?_
  refine Ops.done (by kernel_rfl) ?_
  refine q_block (id := 0) (by kernel_rfl) ?_
  refine q_keep (R := [(0, (Value.pointer (some ⟨b, 0, none⟩))), (2, (Value.slice none 0 0)), (3, v2), (4, (i64 0))]) (by kernel_rfl) ?_
  refine q_loop (fun (gs : Value × Nat × (List UInt8)) L (wx : World) => match gs with | (v, k, ys) => L = [(0, (Value.pointer (some ⟨b, 0, none⟩))), (2, (Value.slice none 0 0)), (3, v), (4, (i64 ((k : Nat) : Int)))] ∧ OwnB wx w.heap.size 5 v ys ∧ ys = imgk c k ∧ k ≤ 16 ∧ ys.length ≤ 10 + 20 * k ∧ Keeps none_ w wx ∧ Has wx b (rowL [(i64 c.shards), (Value.slice (some ⟨go, 0, none⟩) 16 co), (Value.slice (some ⟨ge, 0, none⟩) 16 ce), (i64 c.began), (i64 c.ms), (i64 c.mf), (i64 c.mt), (i64 c.me), (i64 c.mp), (i64 c.mn), (i64 c.audit), (i64 c.phase)] 54) ∧ Has wx go (rowL (ints c.owner ++ ro) 3) ∧ Has wx ge (rowL (ints c.epoch ++ re) 2)) (fun (gs : Value × Nat × (List UInt8)) => match gs with | (v, k, ys) => 16 - k) (v2, 0, [] ++ iv c.shards) (by kernel_rfl) ⟨rfl, O6, (by simp [imgk]), (by omega), (by (try simp only at *); (try simp only [List.length_append] at *); (try simp only [List.length_cons] at *); (try simp only [List.length_nil] at *); omega), K10, H7, H8, H9⟩ ?_
  clear H7 H8 H9 O6 K10
  rintro ⟨v, k, ys⟩ _ w11 ⟨rfl, hO, hE, hk, hyl, K12, H13, H14, H15⟩
  refine q_seq (by kernel_rfl) ?_
  refine q_seq (by kernel_rfl) ?_
  refine q_region (by kernel_rfl) ?_
  refine Ops.regs 4 [(0, (Value.pointer (some ⟨b, 0, none⟩))), (2, (Value.slice none 0 0)), (3, v), (4, (i64 ((k : Nat) : Int))), (10, (i64 ((k : Nat) : Int))), (13, (Value.pointer (some ⟨b, 1, none⟩)))] (j := 4) (by kernel_rfl) (by kernel_rfl) ?_
  refine Ops.go (v := (Value.slice (some ⟨go, 0, none⟩) 16 co)) (by kernel_rfl) (Runs.load (t := 44) (a := ⟨b, 1, none⟩) (by kernel_rfl) (H13.loads (by kernel_rfl))) (d := (some 14)) (by kernel_rfl) rfl ?_
  refine Ops.regs 2 [(0, (Value.pointer (some ⟨b, 0, none⟩))), (2, (Value.slice none 0 0)), (3, v), (4, (i64 ((k : Nat) : Int))), (16, (Value.bool (decide (((k : Nat) : Int) < 16))))] (j := 7) (by kernel_rfl) (by kernel_rfl) ?_
  refine Ops.done (by kernel_rfl) ?_
  refine q_cond (o := .tmp 16) (b := (decide (((k : Nat) : Int) < 16))) (by kernel_rfl) rfl (fun h16 => ?_) (fun h16 => ?_)
  · rw [h16]
    have p17 : ((k : Nat) : Int) < 16 := of_decide_eq_true h16
    have hok := h.own k (by omega)
    have hek := h.ep k (by omega)
    refine q_skip (by kernel_rfl) ?_
    refine q_seq (by kernel_rfl) ?_
    refine q_block (id := 1) (by kernel_rfl) ?_
    refine q_seq (by kernel_rfl) ?_
    refine q_region (by kernel_rfl) ?_
    refine Ops.regs 4 [(0, (Value.pointer (some ⟨b, 0, none⟩))), (2, (Value.slice none 0 0)), (3, v), (4, (i64 ((k : Nat) : Int))), (16, (Value.bool true)), (19, v), (22, (Value.pointer (some ⟨b, 1, none⟩)))] (j := 4) (by kernel_rfl) (by kernel_rfl) ?_
    refine Ops.go (v := (Value.slice (some ⟨go, 0, none⟩) 16 co)) (by kernel_rfl) (Runs.load (t := 44) (a := ⟨b, 1, none⟩) (by kernel_rfl) (H13.loads (by kernel_rfl))) (d := (some 23)) (by kernel_rfl) rfl ?_
    refine Ops.regs 1 [(0, (Value.pointer (some ⟨b, 0, none⟩))), (2, (Value.slice none 0 0)), (3, v), (4, (i64 ((k : Nat) : Int))), (16, (Value.bool true)), (19, v), (23, (Value.slice (some ⟨go, 0, none⟩) 16 co)), (24, (i64 ((k : Nat) : Int)))] (j := 6) (by kernel_rfl) (by kernel_rfl) ?_
    refine Ops.go (by kernel_rfl) (Runs.ixSlice (k := IntKind.i64) (t := 44) (b := go) (off := 0) (len := 16) (cap := co) (s := 1) (off' := k) (i := ((k : Nat) : Int)) (by kernel_rfl) (by kernel_rfl) (by omega) (by omega) (by omega)) (d := (some 25)) (by kernel_rfl) rfl ?_
    refine Ops.go (v := (i64 (c.owner.getD k 0))) (by kernel_rfl) (Runs.load (t := 3) (a := ⟨go, k, none⟩) (by kernel_rfl) (H14.loads (loadC1 (by kernel_rfl) (intsR_at _ _ k (by rw [h.ok.o]; omega))))) (d := (some 26)) (by kernel_rfl) rfl ?_
    refine Ops.call (by kernel_rfl) (d := (some 27)) (by kernel_rfl) (RInt_calls _ v ys (c.owner.getD k 0) (OwnB.rd hO) (by omega) (by (try simp only at *); (try simp only [List.length_append] at *); (try simp only [List.length_cons] at *); (try simp only [List.length_nil] at *); omega)) ?_
    rintro _ w20 ⟨v19, rfl, K21, hO22⟩
    have O23 := own_base hO22 K12.size
    clear hO22
    have hL18 := iv_length_10 (n := (c.owner.getD k 0)) (by omega)
    refine ⟨_, _, rfl, rfl, ?_⟩
    have H24 := H13.keep K21 (fun h => h)
    clear H13
    have H25 := H14.keep K21 (fun h => h)
    clear H14
    have H26 := H15.keep K21 (fun h => h)
    clear H15
    have F27 := own_keep0 hO K21
    clear hO
    have K28 := K12.trans K21 (U := none_) (fun i h1 h2 => h2) (fun i h1 h2 => by exact h2)
    clear K12
    clear K21
    refine Ops.regs 1 [(0, (Value.pointer (some ⟨b, 0, none⟩))), (2, (Value.slice none 0 0)), (3, v19), (4, (i64 ((k : Nat) : Int))), (16, (Value.bool true))] (j := 10) (by kernel_rfl) (by kernel_rfl) ?_
    refine Ops.done (by kernel_rfl) ?_
    refine q_region (by kernel_rfl) ?_
    refine Ops.regs 4 [(0, (Value.pointer (some ⟨b, 0, none⟩))), (2, (Value.slice none 0 0)), (3, v19), (4, (i64 ((k : Nat) : Int))), (16, (Value.bool true)), (28, v19), (31, (Value.pointer (some ⟨b, 2, none⟩)))] (j := 4) (by kernel_rfl) (by kernel_rfl) ?_
    refine Ops.go (v := (Value.slice (some ⟨ge, 0, none⟩) 16 ce)) (by kernel_rfl) (Runs.load (t := 45) (a := ⟨b, 2, none⟩) (by kernel_rfl) (H24.loads (by kernel_rfl))) (d := (some 32)) (by kernel_rfl) rfl ?_
    refine Ops.regs 1 [(0, (Value.pointer (some ⟨b, 0, none⟩))), (2, (Value.slice none 0 0)), (3, v19), (4, (i64 ((k : Nat) : Int))), (16, (Value.bool true)), (28, v19), (32, (Value.slice (some ⟨ge, 0, none⟩) 16 ce)), (33, (i64 ((k : Nat) : Int)))] (j := 6) (by kernel_rfl) (by kernel_rfl) ?_
    refine Ops.go (by kernel_rfl) (Runs.ixSlice (k := IntKind.i64) (t := 45) (b := ge) (off := 0) (len := 16) (cap := ce) (s := 1) (off' := k) (i := ((k : Nat) : Int)) (by kernel_rfl) (by kernel_rfl) (by omega) (by omega) (by omega)) (d := (some 34)) (by kernel_rfl) rfl ?_
    refine Ops.go (v := (i64 (c.epoch.getD k 0))) (by kernel_rfl) (Runs.load (t := 2) (a := ⟨ge, k, none⟩) (by kernel_rfl) (H26.loads (loadC1 (by kernel_rfl) (intsR_at _ _ k (by rw [h.ok.e]; omega))))) (d := (some 35)) (by kernel_rfl) rfl ?_
    refine Ops.call (by kernel_rfl) (d := (some 36)) (by kernel_rfl) (RInt_calls _ v19 (ys ++ iv (c.owner.getD k 0)) (c.epoch.getD k 0) (OwnB.rd O23) (by omega) (by (try simp only at *); (try simp only [List.length_append] at *); (try simp only [List.length_cons] at *); (try simp only [List.length_nil] at *); omega)) ?_
    rintro _ w31 ⟨v30, rfl, K32, hO33⟩
    have O34 := own_base hO33 K28.size
    clear hO33
    have hL29 := iv_length_10 (n := (c.epoch.getD k 0)) (by omega)
    refine ⟨_, _, rfl, rfl, ?_⟩
    have H35 := H24.keep K32 (fun h => h)
    clear H24
    have H36 := H25.keep K32 (fun h => h)
    clear H25
    have H37 := H26.keep K32 (fun h => h)
    clear H26
    have F38 := own_keep0 F27 K32
    clear F27
    have F39 := own_keep0 O23 K32
    clear O23
    have K40 := K28.trans K32 (U := none_) (fun i h1 h2 => h2) (fun i h1 h2 => by exact h2)
    clear K28
    clear K32
    refine Ops.regs 1 [(0, (Value.pointer (some ⟨b, 0, none⟩))), (2, (Value.slice none 0 0)), (3, v30), (4, (i64 ((k : Nat) : Int))), (16, (Value.bool true))] (j := 10) (by kernel_rfl) (by kernel_rfl) ?_
    refine Ops.done (by kernel_rfl) ?_
    refine q_region (by kernel_rfl) ?_
    refine Ops.regs 2 [(0, (Value.pointer (some ⟨b, 0, none⟩))), (2, (Value.slice none 0 0)), (3, v30), (4, (i64 ((k : Nat) : Int))), (16, (Value.bool true)), (18, (i64 (IntKind.i64.wrap (((k : Nat) : Int) + 1))))] (j := 2) (by kernel_rfl) (by kernel_rfl) ?_
    have e41 : IntKind.i64.wrap (((k : Nat) : Int) + 1) = ((k : Nat) : Int) + 1 := wrap_i64 (by omega) (by omega)
    rw [e41]
    refine Ops.regs 1 [(0, (Value.pointer (some ⟨b, 0, none⟩))), (2, (Value.slice none 0 0)), (3, v30), (4, (i64 (((k : Nat) : Int) + 1))), (16, (Value.bool true))] (j := 3) (by kernel_rfl) (by kernel_rfl) ?_
    refine Ops.keep (R := [(0, (Value.pointer (some ⟨b, 0, none⟩))), (2, (Value.slice none 0 0)), (3, v30), (4, (i64 ((k + 1 : Nat) : Int)))]) (by kernel_rfl) ?_
    refine Ops.done (by kernel_rfl) ?_
    exact ⟨(v30, k + 1, ys ++ iv (c.owner.getD k 0) ++ iv (c.epoch.getD k 0)), ⟨rfl, O34, (show _ = imgk c k ++ ivs [_, _] from by rw [← hE]; simp), (by omega), (by (try simp only at *); (try simp only [List.length_append] at *); (try simp only [List.length_cons] at *); (try simp only [List.length_nil] at *); omega), K40, H35, H36, H37⟩, (show 16 - (k + 1) < 16 - k from by omega)⟩
  · rw [h16]
    have p42 : ¬ (((k : Nat) : Int) < 16) := of_decide_eq_false h16
    refine q_exit (id := 0) (by kernel_rfl) ?_
    refine q_seq (by kernel_rfl) ?_
    refine q_region (by kernel_rfl) ?_
    refine Ops.regs 4 [(0, (Value.pointer (some ⟨b, 0, none⟩))), (2, (Value.slice none 0 0)), (3, v), (37, v), (40, (Value.pointer (some ⟨b, 3, none⟩)))] (j := 4) (by kernel_rfl) (by kernel_rfl) ?_
    refine Ops.go (v := (i64 c.began)) (by kernel_rfl) (Runs.load (t := 2) (a := ⟨b, 3, none⟩) (by kernel_rfl) (H13.loads (by kernel_rfl))) (d := (some 41)) (by kernel_rfl) rfl ?_
    refine Ops.call (by kernel_rfl) (d := (some 42)) (by kernel_rfl) (RInt_calls _ v ys c.began (OwnB.rd hO) (by omega) (by (try simp only at *); (try simp only [List.length_append] at *); (try simp only [List.length_cons] at *); (try simp only [List.length_nil] at *); omega)) ?_
    rintro _ w45 ⟨v44, rfl, K46, hO47⟩
    have O48 := own_base hO47 K12.size
    clear hO47
    have hL43 := iv_length_10 (n := c.began) (by omega)
    refine ⟨_, _, rfl, rfl, ?_⟩
    have H49 := H13.keep K46 (fun h => h)
    clear H13
    have H50 := H14.keep K46 (fun h => h)
    clear H14
    have H51 := H15.keep K46 (fun h => h)
    clear H15
    have F52 := own_keep0 hO K46
    clear hO
    have K53 := K12.trans K46 (U := none_) (fun i h1 h2 => h2) (fun i h1 h2 => by exact h2)
    clear K12
    clear K46
    refine Ops.regs 1 [(0, (Value.pointer (some ⟨b, 0, none⟩))), (2, (Value.slice none 0 0)), (3, v44)] (j := 7) (by kernel_rfl) (by kernel_rfl) ?_
    refine Ops.done (by kernel_rfl) ?_
    refine q_seq (by kernel_rfl) ?_
    refine q_region (by kernel_rfl) ?_
    refine Ops.regs 5 [(0, (Value.pointer (some ⟨b, 0, none⟩))), (2, (Value.slice none 0 0)), (3, v44), (43, v44), (47, (Value.pointer (some ⟨b, 4, none⟩)))] (j := 5) (by kernel_rfl) (by kernel_rfl) ?_
    refine Ops.go (v := (i64 c.ms)) (by kernel_rfl) (Runs.load (t := 3) (a := ⟨b, 4, none⟩) (by kernel_rfl) (H49.loads (by kernel_rfl))) (d := (some 48)) (by kernel_rfl) rfl ?_
    refine Ops.call (by kernel_rfl) (d := (some 49)) (by kernel_rfl) (RInt_calls _ v44 (ys ++ iv c.began) c.ms (OwnB.rd O48) (by omega) (by (try simp only at *); (try simp only [List.length_append] at *); (try simp only [List.length_cons] at *); (try simp only [List.length_nil] at *); omega)) ?_
    rintro _ w56 ⟨v55, rfl, K57, hO58⟩
    have O59 := own_base hO58 K53.size
    clear hO58
    have hL54 := iv_length_10 (n := c.ms) (by omega)
    refine ⟨_, _, rfl, rfl, ?_⟩
    have H60 := H49.keep K57 (fun h => h)
    clear H49
    have H61 := H50.keep K57 (fun h => h)
    clear H50
    have H62 := H51.keep K57 (fun h => h)
    clear H51
    have F63 := own_keep0 F52 K57
    clear F52
    have F64 := own_keep0 O48 K57
    clear O48
    have K65 := K53.trans K57 (U := none_) (fun i h1 h2 => h2) (fun i h1 h2 => by exact h2)
    clear K53
    clear K57
    refine Ops.regs 1 [(0, (Value.pointer (some ⟨b, 0, none⟩))), (2, (Value.slice none 0 0)), (3, v55)] (j := 8) (by kernel_rfl) (by kernel_rfl) ?_
    refine Ops.done (by kernel_rfl) ?_
    refine q_seq (by kernel_rfl) ?_
    refine q_region (by kernel_rfl) ?_
    refine Ops.regs 5 [(0, (Value.pointer (some ⟨b, 0, none⟩))), (2, (Value.slice none 0 0)), (3, v55), (50, v55), (54, (Value.pointer (some ⟨b, 5, none⟩)))] (j := 5) (by kernel_rfl) (by kernel_rfl) ?_
    refine Ops.go (v := (i64 c.mf)) (by kernel_rfl) (Runs.load (t := 3) (a := ⟨b, 5, none⟩) (by kernel_rfl) (H60.loads (by kernel_rfl))) (d := (some 55)) (by kernel_rfl) rfl ?_
    refine Ops.call (by kernel_rfl) (d := (some 56)) (by kernel_rfl) (RInt_calls _ v55 (ys ++ iv c.began ++ iv c.ms) c.mf (OwnB.rd O59) (by omega) (by (try simp only at *); (try simp only [List.length_append] at *); (try simp only [List.length_cons] at *); (try simp only [List.length_nil] at *); omega)) ?_
    rintro _ w68 ⟨v67, rfl, K69, hO70⟩
    have O71 := own_base hO70 K65.size
    clear hO70
    have hL66 := iv_length_10 (n := c.mf) (by omega)
    refine ⟨_, _, rfl, rfl, ?_⟩
    have H72 := H60.keep K69 (fun h => h)
    clear H60
    have H73 := H61.keep K69 (fun h => h)
    clear H61
    have H74 := H62.keep K69 (fun h => h)
    clear H62
    have F75 := own_keep0 F63 K69
    clear F63
    have F76 := own_keep0 F64 K69
    clear F64
    have F77 := own_keep0 O59 K69
    clear O59
    have K78 := K65.trans K69 (U := none_) (fun i h1 h2 => h2) (fun i h1 h2 => by exact h2)
    clear K65
    clear K69
    refine Ops.regs 1 [(0, (Value.pointer (some ⟨b, 0, none⟩))), (2, (Value.slice none 0 0)), (3, v67)] (j := 8) (by kernel_rfl) (by kernel_rfl) ?_
    refine Ops.done (by kernel_rfl) ?_
    refine q_seq (by kernel_rfl) ?_
    refine q_region (by kernel_rfl) ?_
    refine Ops.regs 5 [(0, (Value.pointer (some ⟨b, 0, none⟩))), (2, (Value.slice none 0 0)), (3, v67), (57, v67), (61, (Value.pointer (some ⟨b, 6, none⟩)))] (j := 5) (by kernel_rfl) (by kernel_rfl) ?_
    refine Ops.go (v := (i64 c.mt)) (by kernel_rfl) (Runs.load (t := 3) (a := ⟨b, 6, none⟩) (by kernel_rfl) (H72.loads (by kernel_rfl))) (d := (some 62)) (by kernel_rfl) rfl ?_
    refine Ops.call (by kernel_rfl) (d := (some 63)) (by kernel_rfl) (RInt_calls _ v67 (ys ++ iv c.began ++ iv c.ms ++ iv c.mf) c.mt (OwnB.rd O71) (by omega) (by (try simp only at *); (try simp only [List.length_append] at *); (try simp only [List.length_cons] at *); (try simp only [List.length_nil] at *); omega)) ?_
    rintro _ w81 ⟨v80, rfl, K82, hO83⟩
    have O84 := own_base hO83 K78.size
    clear hO83
    have hL79 := iv_length_10 (n := c.mt) (by omega)
    refine ⟨_, _, rfl, rfl, ?_⟩
    have H85 := H72.keep K82 (fun h => h)
    clear H72
    have H86 := H73.keep K82 (fun h => h)
    clear H73
    have H87 := H74.keep K82 (fun h => h)
    clear H74
    have F88 := own_keep0 F75 K82
    clear F75
    have F89 := own_keep0 F76 K82
    clear F76
    have F90 := own_keep0 F77 K82
    clear F77
    have F91 := own_keep0 O71 K82
    clear O71
    have K92 := K78.trans K82 (U := none_) (fun i h1 h2 => h2) (fun i h1 h2 => by exact h2)
    clear K78
    clear K82
    refine Ops.regs 1 [(0, (Value.pointer (some ⟨b, 0, none⟩))), (2, (Value.slice none 0 0)), (3, v80)] (j := 8) (by kernel_rfl) (by kernel_rfl) ?_
    refine Ops.done (by kernel_rfl) ?_
    refine q_seq (by kernel_rfl) ?_
    refine q_region (by kernel_rfl) ?_
    refine Ops.regs 5 [(0, (Value.pointer (some ⟨b, 0, none⟩))), (2, (Value.slice none 0 0)), (3, v80), (64, v80), (68, (Value.pointer (some ⟨b, 7, none⟩)))] (j := 5) (by kernel_rfl) (by kernel_rfl) ?_
    refine Ops.go (v := (i64 c.me)) (by kernel_rfl) (Runs.load (t := 2) (a := ⟨b, 7, none⟩) (by kernel_rfl) (H85.loads (by kernel_rfl))) (d := (some 69)) (by kernel_rfl) rfl ?_
    refine Ops.call (by kernel_rfl) (d := (some 70)) (by kernel_rfl) (RInt_calls _ v80 (ys ++ iv c.began ++ iv c.ms ++ iv c.mf ++ iv c.mt) c.me (OwnB.rd O84) (by omega) (by (try simp only at *); (try simp only [List.length_append] at *); (try simp only [List.length_cons] at *); (try simp only [List.length_nil] at *); omega)) ?_
    rintro _ w95 ⟨v94, rfl, K96, hO97⟩
    have O98 := own_base hO97 K92.size
    clear hO97
    have hL93 := iv_length_10 (n := c.me) (by omega)
    refine ⟨_, _, rfl, rfl, ?_⟩
    have H99 := H85.keep K96 (fun h => h)
    clear H85
    have H100 := H86.keep K96 (fun h => h)
    clear H86
    have H101 := H87.keep K96 (fun h => h)
    clear H87
    have F102 := own_keep0 F88 K96
    clear F88
    have F103 := own_keep0 F89 K96
    clear F89
    have F104 := own_keep0 F90 K96
    clear F90
    have F105 := own_keep0 F91 K96
    clear F91
    have F106 := own_keep0 O84 K96
    clear O84
    have K107 := K92.trans K96 (U := none_) (fun i h1 h2 => h2) (fun i h1 h2 => by exact h2)
    clear K92
    clear K96
    refine Ops.regs 1 [(0, (Value.pointer (some ⟨b, 0, none⟩))), (2, (Value.slice none 0 0)), (3, v94)] (j := 8) (by kernel_rfl) (by kernel_rfl) ?_
    refine Ops.done (by kernel_rfl) ?_
    refine q_seq (by kernel_rfl) ?_
    refine q_region (by kernel_rfl) ?_
    refine Ops.regs 5 [(0, (Value.pointer (some ⟨b, 0, none⟩))), (2, (Value.slice none 0 0)), (3, v94), (71, v94), (75, (Value.pointer (some ⟨b, 8, none⟩)))] (j := 5) (by kernel_rfl) (by kernel_rfl) ?_
    refine Ops.go (v := (i64 c.mp)) (by kernel_rfl) (Runs.load (t := 3) (a := ⟨b, 8, none⟩) (by kernel_rfl) (H99.loads (by kernel_rfl))) (d := (some 76)) (by kernel_rfl) rfl ?_
    refine Ops.call (by kernel_rfl) (d := (some 77)) (by kernel_rfl) (RInt_calls _ v94 (ys ++ iv c.began ++ iv c.ms ++ iv c.mf ++ iv c.mt ++ iv c.me) c.mp (OwnB.rd O98) (by omega) (by (try simp only at *); (try simp only [List.length_append] at *); (try simp only [List.length_cons] at *); (try simp only [List.length_nil] at *); omega)) ?_
    rintro _ w110 ⟨v109, rfl, K111, hO112⟩
    have O113 := own_base hO112 K107.size
    clear hO112
    have hL108 := iv_length_10 (n := c.mp) (by omega)
    refine ⟨_, _, rfl, rfl, ?_⟩
    have H114 := H99.keep K111 (fun h => h)
    clear H99
    have H115 := H100.keep K111 (fun h => h)
    clear H100
    have H116 := H101.keep K111 (fun h => h)
    clear H101
    have F117 := own_keep0 F102 K111
    clear F102
    have F118 := own_keep0 F103 K111
    clear F103
    have F119 := own_keep0 F104 K111
    clear F104
    have F120 := own_keep0 F105 K111
    clear F105
    have F121 := own_keep0 F106 K111
    clear F106
    have F122 := own_keep0 O98 K111
    clear O98
    have K123 := K107.trans K111 (U := none_) (fun i h1 h2 => h2) (fun i h1 h2 => by exact h2)
    clear K107
    clear K111
    refine Ops.regs 1 [(0, (Value.pointer (some ⟨b, 0, none⟩))), (2, (Value.slice none 0 0)), (3, v109)] (j := 8) (by kernel_rfl) (by kernel_rfl) ?_
    refine Ops.done (by kernel_rfl) ?_
    refine q_seq (by kernel_rfl) ?_
    refine q_region (by kernel_rfl) ?_
    refine Ops.regs 5 [(0, (Value.pointer (some ⟨b, 0, none⟩))), (2, (Value.slice none 0 0)), (3, v109), (78, v109), (82, (Value.pointer (some ⟨b, 9, none⟩)))] (j := 5) (by kernel_rfl) (by kernel_rfl) ?_
    refine Ops.go (v := (i64 c.mn)) (by kernel_rfl) (Runs.load (t := 2) (a := ⟨b, 9, none⟩) (by kernel_rfl) (H114.loads (by kernel_rfl))) (d := (some 83)) (by kernel_rfl) rfl ?_
    refine Ops.call (by kernel_rfl) (d := (some 84)) (by kernel_rfl) (RInt_calls _ v109 (ys ++ iv c.began ++ iv c.ms ++ iv c.mf ++ iv c.mt ++ iv c.me ++ iv c.mp) c.mn (OwnB.rd O113) (by omega) (by (try simp only at *); (try simp only [List.length_append] at *); (try simp only [List.length_cons] at *); (try simp only [List.length_nil] at *); omega)) ?_
    rintro _ w126 ⟨v125, rfl, K127, hO128⟩
    have O129 := own_base hO128 K123.size
    clear hO128
    have hL124 := iv_length_10 (n := c.mn) (by omega)
    refine ⟨_, _, rfl, rfl, ?_⟩
    have H130 := H114.keep K127 (fun h => h)
    clear H114
    have H131 := H115.keep K127 (fun h => h)
    clear H115
    have H132 := H116.keep K127 (fun h => h)
    clear H116
    have F133 := own_keep0 F117 K127
    clear F117
    have F134 := own_keep0 F118 K127
    clear F118
    have F135 := own_keep0 F119 K127
    clear F119
    have F136 := own_keep0 F120 K127
    clear F120
    have F137 := own_keep0 F121 K127
    clear F121
    have F138 := own_keep0 F122 K127
    clear F122
    have F139 := own_keep0 O113 K127
    clear O113
    have K140 := K123.trans K127 (U := none_) (fun i h1 h2 => h2) (fun i h1 h2 => by exact h2)
    clear K123
    clear K127
    refine Ops.regs 1 [(0, (Value.pointer (some ⟨b, 0, none⟩))), (2, (Value.slice none 0 0)), (3, v125)] (j := 8) (by kernel_rfl) (by kernel_rfl) ?_
    refine Ops.done (by kernel_rfl) ?_
    refine q_seq (by kernel_rfl) ?_
    refine q_region (by kernel_rfl) ?_
    refine Ops.regs 4 [(0, (Value.pointer (some ⟨b, 0, none⟩))), (2, (Value.slice none 0 0)), (3, v125), (85, v125), (88, (Value.pointer (some ⟨b, 10, none⟩)))] (j := 4) (by kernel_rfl) (by kernel_rfl) ?_
    refine Ops.go (v := (i64 c.audit)) (by kernel_rfl) (Runs.load (t := 2) (a := ⟨b, 10, none⟩) (by kernel_rfl) (H130.loads (by kernel_rfl))) (d := (some 89)) (by kernel_rfl) rfl ?_
    refine Ops.call (by kernel_rfl) (d := (some 90)) (by kernel_rfl) (RInt_calls _ v125 (ys ++ iv c.began ++ iv c.ms ++ iv c.mf ++ iv c.mt ++ iv c.me ++ iv c.mp ++ iv c.mn) c.audit (OwnB.rd O129) (by omega) (by (try simp only at *); (try simp only [List.length_append] at *); (try simp only [List.length_cons] at *); (try simp only [List.length_nil] at *); omega)) ?_
    rintro _ w143 ⟨v142, rfl, K144, hO145⟩
    have O146 := own_base hO145 K140.size
    clear hO145
    have hL141 := iv_length_10 (n := c.audit) (by omega)
    refine ⟨_, _, rfl, rfl, ?_⟩
    have H147 := H130.keep K144 (fun h => h)
    clear H130
    have H148 := H131.keep K144 (fun h => h)
    clear H131
    have H149 := H132.keep K144 (fun h => h)
    clear H132
    have F150 := own_keep0 F133 K144
    clear F133
    have F151 := own_keep0 F134 K144
    clear F134
    have F152 := own_keep0 F135 K144
    clear F135
    have F153 := own_keep0 F136 K144
    clear F136
    have F154 := own_keep0 F137 K144
    clear F137
    have F155 := own_keep0 F138 K144
    clear F138
    have F156 := own_keep0 F139 K144
    clear F139
    have F157 := own_keep0 O129 K144
    clear O129
    have K158 := K140.trans K144 (U := none_) (fun i h1 h2 => h2) (fun i h1 h2 => by exact h2)
    clear K140
    clear K144
    refine Ops.regs 1 [(0, (Value.pointer (some ⟨b, 0, none⟩))), (2, (Value.slice none 0 0)), (3, v142)] (j := 7) (by kernel_rfl) (by kernel_rfl) ?_
    refine Ops.done (by kernel_rfl) ?_
    refine q_seq (by kernel_rfl) ?_
    refine q_region (by kernel_rfl) ?_
    refine Ops.regs 4 [(2, (Value.slice none 0 0)), (91, v142), (94, (Value.pointer (some ⟨b, 11, none⟩)))] (j := 4) (by kernel_rfl) (by kernel_rfl) ?_
    refine Ops.go (v := (i64 c.phase)) (by kernel_rfl) (Runs.load (t := 3) (a := ⟨b, 11, none⟩) (by kernel_rfl) (H147.loads (by kernel_rfl))) (d := (some 95)) (by kernel_rfl) rfl ?_
    refine Ops.call (by kernel_rfl) (d := (some 96)) (by kernel_rfl) (RInt_calls _ v142 (ys ++ iv c.began ++ iv c.ms ++ iv c.mf ++ iv c.mt ++ iv c.me ++ iv c.mp ++ iv c.mn ++ iv c.audit) c.phase (OwnB.rd O146) (by omega) (by (try simp only at *); (try simp only [List.length_append] at *); (try simp only [List.length_cons] at *); (try simp only [List.length_nil] at *); omega)) ?_
    rintro _ w161 ⟨v160, rfl, K162, hO163⟩
    have O164 := own_base hO163 K158.size
    clear hO163
    have hL159 := iv_length_10 (n := c.phase) (by omega)
    refine ⟨_, _, rfl, rfl, ?_⟩
    have H165 := H147.keep K162 (fun h => h)
    clear H147
    have H166 := H148.keep K162 (fun h => h)
    clear H148
    have H167 := H149.keep K162 (fun h => h)
    clear H149
    have F168 := own_keep0 F150 K162
    clear F150
    have F169 := own_keep0 F151 K162
    clear F151
    have F170 := own_keep0 F152 K162
    clear F152
    have F171 := own_keep0 F153 K162
    clear F153
    have F172 := own_keep0 F154 K162
    clear F154
    have F173 := own_keep0 F155 K162
    clear F155
    have F174 := own_keep0 F156 K162
    clear F156
    have F175 := own_keep0 F157 K162
    clear F157
    have F176 := own_keep0 O146 K162
    clear O146
    have K177 := K158.trans K162 (U := none_) (fun i h1 h2 => h2) (fun i h1 h2 => by exact h2)
    clear K158
    clear K162
    refine Ops.regs 1 [(2, v160)] (j := 7) (by kernel_rfl) (by kernel_rfl) ?_
    refine Ops.done (by kernel_rfl) ?_
    refine q_ret (by kernel_rfl) ?_
    refine ⟨v160, retv_tmp rfl rfl, ?_⟩
    have hfin : ys ++ iv c.began ++ iv c.ms ++ iv c.mf ++ iv c.mt ++ iv c.me ++ iv c.mp ++ iv c.mn ++ iv c.audit ++ iv c.phase = c.image := by rw [hE, show k = 16 from by omega]; simp [Ch.image]
    rw [hfin] at O164
    exact ⟨_, rfl, K177, O164⟩
end Go.Proofs.Ytoljbckhoigibaa
