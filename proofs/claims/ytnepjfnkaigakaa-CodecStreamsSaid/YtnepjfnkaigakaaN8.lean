/- chapter 02: CodecStreams returns true -/
import Derived.Test.YtnepjfnkaigakaaProg
import Derived.Test.YtnepjfnkaigakaaLR
import Derived.Test.YtnepjfnkaigakaaKN
import Derived.Test.YtnepjfnkaigakaaKO
set_option linter.unusedVariables false
namespace Go.Proofs.Ytnepjfnkaigakaa
open Go.Q Go.RowKit

theorem Streams_body (w : World) (ln : Nat) (LA : Option Addr) (lc : Nat) (l : List PartP) (VA : Option Addr) (vc i k j b2 b3 b6 b10 : Nat) (p : Value) (px : List UInt8) (Ha : Has w b2 (rowL [(Value.slice LA l.length lc)] 33)) (Hb : Has w b3 (rowL [(i64 ((k : Nat) : Int))] 3)) (Hc : Has w b6 (rowL [(Value.slice VA ((endsI l i).length) vc)] 34)) (Hd : Has w b10 (rowL [(i64 ((j : Nat) : Int))] 3)) (hd : b2 < b10 ∧ b3 < b10 ∧ b6 < b10) (hL : RdP w (.slice LA l.length lc) l) (hIn : PartsIn w l) (hV : RdT w 1 icell (.slice VA (endsI l i).length vc) (endsI l i)) (hVb : ∀ q, (Value.slice VA (endsI l i).length vc).ownBlock = some q → q ≠ b10) (hp : RdB w p px) (hx : ∀ x, l[j]? = some x → px = x.data) (hj : j < i) (hi : i ≤ l.length) (hi30 : i ≤ 30) (hend : (allB l (j + 1)).length ≤ k) : wpR (Fence.wide.inRound ln) Try.prog 9 Try.f4.ntmps (cd Try.f4 [1, 0, 1, 0, 1, 1, 1, 1, 1, 1, 1, 1]) (fun _ e _ w' => e = .normal ∧ Keeps (fun q => q = b10) w w' ∧ Has w' b10 (rowL [(i64 ((j + 1 : Nat) : Int))] 3)) [] [(2, (Value.pointer (some ⟨b2, 0, none⟩))), (3, (Value.pointer (some ⟨b3, 0, none⟩))), (6, (Value.pointer (some ⟨b6, 0, none⟩))), (10, (Value.pointer (some ⟨b10, 0, none⟩))), (12, p)] w := by
  have hel := endsI_len l i
  have K0 : Keeps (fun q => q = b10) w w := (Keeps.refl w).mono (fun _ _ h => h.elim)
  refine qr_block (id := 3) (by kernel_rfl) ?_
  refine qr_seq (by kernel_rfl) ?_
  refine qr_seq (by kernel_rfl) ?_
  refine qr_draw (Open.round ln) (fun wz => Keeps none_ w wz) 22 (by kernel_rfl) (by kernel_rfl) (by kernel_rfl) (by kernel_rfl) (fun w1 K2 _ _ => ⟨K2, ?_⟩)
  have K3 := K0.trans K2 (U := (fun i => i = b10)) (fun i h1 h2 => h2) (fun i h1 h2 => by exact h2.elim)
  clear K0
  have H4 := Ha.keep K2 (fun h => h)
  clear Ha
  have H5 := Hb.keep K2 (fun h => h)
  clear Hb
  have H6 := Hc.keep K2 (fun h => h)
  clear Hc
  have H7 := Hd.keep K2 (fun h => h)
  clear Hd
  have F8 := (Rd.keep0 (by omega) hp K2)
  clear hp
  have F9 := (Rd.keep0 (by omega) hL K2)
  clear hL
  have F10 := PartsIn.keep hIn K2
  clear hIn
  have F11 := (Rd.keep0 (by omega) hV K2)
  clear hV
  refine Dr.strong (S' := (fun wz => Keeps none_ w1 wz)) (Keeps.refl w1) (fun wz hx => K2.trans hx (fun i _ h => h) (fun _ _ h => h)) ?_
  clear K2
  refine Dr.take (i := 0) (v := (i64 ((j : Nat) : Int))) (by kernel_rfl) (by kernel_rfl) (fun wz hS => Runs.load (t := 3) (a := ⟨b10, 0, none⟩) (by kernel_rfl) ((H7.keep hS (fun h => h)).loads (by kernel_rfl))) (d := (some 68)) (by kernel_rfl) rfl ?_
  refine Dr.take (i := 1) (v := (Value.slice VA ((endsI l i).length) vc)) (by kernel_rfl) (by kernel_rfl) (fun wz hS => Runs.load (t := 34) (a := ⟨b6, 0, none⟩) (by kernel_rfl) ((H6.keep hS (fun h => h)).loads (by kernel_rfl))) (d := (some 69)) (by kernel_rfl) rfl ?_
  refine Dr.takes (fuel' := 17) (is' := [4, 3, 2, 1, 0]) [2, 3, 4] [(2, (Value.pointer (some ⟨b2, 0, none⟩))), (3, (Value.pointer (some ⟨b3, 0, none⟩))), (6, (Value.pointer (some ⟨b6, 0, none⟩))), (10, (Value.pointer (some ⟨b10, 0, none⟩))), (12, p), (72, (Value.bool (decide (((j : Nat) : Int) ≥ (((endsI l i).length : Nat) : Int)))))] (by kernel_rfl) rfl (by kernel_rfl) ?_
  have h12 : (decide (((j : Nat) : Int) ≥ (((endsI l i).length : Nat) : Int))) = false := decide_eq_false (by omega)
  rw [h12]
  refine Dr.take (i := 5) (v := (Value.slice VA ((endsI l i).length) vc)) (by kernel_rfl) (by kernel_rfl) (fun wz hS => Runs.load (t := 34) (a := ⟨b6, 0, none⟩) (by kernel_rfl) ((H6.keep hS (fun h => h)).loads (by kernel_rfl))) (d := (some 73)) (by kernel_rfl) rfl ?_
  refine Dr.take (i := 6) (v := (i64 ((j : Nat) : Int))) (by kernel_rfl) (by kernel_rfl) (fun wz hS => Runs.load (t := 3) (a := ⟨b10, 0, none⟩) (by kernel_rfl) ((H7.keep hS (fun h => h)).loads (by kernel_rfl))) (d := (some 74)) (by kernel_rfl) rfl ?_
  obtain ⟨rb13, ro14, y, hA15, hx16⟩ := RdT.open F11 rfl (k := j) (by omega)
  have hye := endsI_at hx16
  refine Dr.take (i := 7) (v := (Value.pointer (some ⟨rb13, ro14 + j, none⟩))) (by kernel_rfl) (by kernel_rfl) (fun wz hS => Runs.ixSliceE (k := IntKind.i64) (t := 34) (len := ((endsI l i).length)) (cap := vc) (s := 1) (off' := ro14 + j) (i := ((j : Nat) : Int)) hA15 (by kernel_rfl) (by kernel_rfl) (by omega) (by omega) (by omega)) (d := (some 75)) (by kernel_rfl) rfl ?_
  refine Dr.take (i := 8) (v := (i64 y)) (by kernel_rfl) (by kernel_rfl) (fun wz hS => Runs.load (t := 3) (a := ⟨rb13, ro14 + j, none⟩) (by kernel_rfl) (RdT.ldu (f := icell) (x := y) icell_two (Rd.keep0 (by omega) F11 hS) (by kernel_rfl) hA15 hx16 rfl)) (d := (some 76)) (by kernel_rfl) rfl ?_
  refine Dr.take (i := 9) (v := (i64 ((k : Nat) : Int))) (by kernel_rfl) (by kernel_rfl) (fun wz hS => Runs.load (t := 3) (a := ⟨b3, 0, none⟩) (by kernel_rfl) ((H5.keep hS (fun h => h)).loads (by kernel_rfl))) (d := (some 77)) (by kernel_rfl) rfl ?_
  refine Dr.takes (fuel' := 9) (is' := [12, 11, 10, 9, 8, 7, 6, 5, 4, 3, 2, 1, 0]) [10, 11, 12] [(2, (Value.pointer (some ⟨b2, 0, none⟩))), (3, (Value.pointer (some ⟨b3, 0, none⟩))), (6, (Value.pointer (some ⟨b6, 0, none⟩))), (10, (Value.pointer (some ⟨b10, 0, none⟩))), (12, p), (80, (Value.bool (decide (y > ((k : Nat) : Int)))))] (by kernel_rfl) rfl (by kernel_rfl) ?_
  have h17 : (decide (y > ((k : Nat) : Int))) = false := decide_eq_false (by omega)
  rw [h17]
  refine Dr.takes (fuel' := 8) (is' := [13, 12, 11, 10, 9, 8, 7, 6, 5, 4, 3, 2, 1, 0]) [13] [(2, (Value.pointer (some ⟨b2, 0, none⟩))), (3, (Value.pointer (some ⟨b3, 0, none⟩))), (6, (Value.pointer (some ⟨b6, 0, none⟩))), (10, (Value.pointer (some ⟨b10, 0, none⟩))), (12, p), (80, (Value.bool false)), (81, p)] (by kernel_rfl) rfl (by kernel_rfl) ?_
  refine Dr.take (i := 14) (v := (Value.string (str px))) (by kernel_rfl) (by kernel_rfl) (fun wz hS => Runs.b2s (s := 23) (d := 9) (e := 5) (by kernel_rfl) (by kernel_rfl) (by kernel_rfl) (Rd.keep0 (by omega) F8 hS)) (d := (some 82)) (by kernel_rfl) rfl ?_
  refine Dr.take (i := 15) (v := (Value.slice LA l.length lc)) (by kernel_rfl) (by kernel_rfl) (fun wz hS => Runs.load (t := 33) (a := ⟨b2, 0, none⟩) (by kernel_rfl) ((H4.keep hS (fun h => h)).loads (by kernel_rfl))) (d := (some 83)) (by kernel_rfl) rfl ?_
  refine Dr.take (i := 16) (v := (i64 ((j : Nat) : Int))) (by kernel_rfl) (by kernel_rfl) (fun wz hS => Runs.load (t := 3) (a := ⟨b10, 0, none⟩) (by kernel_rfl) ((H7.keep hS (fun h => h)).loads (by kernel_rfl))) (d := (some 84)) (by kernel_rfl) rfl ?_
  obtain ⟨rb18, ro19, x, hA20, hx21⟩ := RdT.open F9 rfl (k := j) (by omega)
  have hXx := hx21
  have hB22 := F10 x (List.mem_of_getElem? hXx)
  have hBlx := hB22.slice
  unfold maxLen at hBlx
  have hpx := hx x hXx
  refine Dr.take (i := 17) (v := (Value.pointer (some ⟨rb18, ro19 + j, none⟩))) (by kernel_rfl) (by kernel_rfl) (fun wz hS => Runs.ixSliceE (k := IntKind.i64) (t := 33) (len := l.length) (cap := lc) (s := 1) (off' := ro19 + j) (i := ((j : Nat) : Int)) hA20 (by kernel_rfl) (by kernel_rfl) (by omega) (by omega) (by omega)) (d := (some 85)) (by kernel_rfl) rfl ?_
  refine Dr.take (i := 18) (v := (Value.slice x.A x.data.length x.c)) (by kernel_rfl) (by kernel_rfl) (fun wz hS => Runs.load (t := 23) (a := ⟨rb18, ro19 + j, none⟩) (by kernel_rfl) (RdT.ldu (f := PartP.cells) (x := x) PartP.two (Rd.keep0 (by omega) F9 hS) (by kernel_rfl) hA20 hx21 rfl)) (d := (some 86)) (by kernel_rfl) rfl ?_
  refine Dr.take (i := 19) (v := (Value.string (str x.data))) (by kernel_rfl) (by kernel_rfl) (fun wz hS => Runs.b2s (s := 23) (d := 9) (e := 5) (by kernel_rfl) (by kernel_rfl) (by kernel_rfl) (Rd.keep0 (by omega) hB22 hS)) (d := (some 87)) (by kernel_rfl) rfl ?_
  refine Dr.take (i := 20) (v := (Value.bool (!(px == x.data)))) (by kernel_rfl) (by kernel_rfl) (fun wz hS => Runs.strne (t := 9) (by kernel_rfl)) (d := (some 88)) (by kernel_rfl) rfl ?_
  refine Dr.takes (fuel' := 0) (is' := [21, 20, 19, 18, 17, 16, 15, 14, 13, 12, 11, 10, 9, 8, 7, 6, 5, 4, 3, 2, 1, 0]) [21] [(2, (Value.pointer (some ⟨b2, 0, none⟩))), (3, (Value.pointer (some ⟨b3, 0, none⟩))), (6, (Value.pointer (some ⟨b6, 0, none⟩))), (10, (Value.pointer (some ⟨b10, 0, none⟩))), (12, p), (89, (Value.bool (!(px == x.data))))] (by kernel_rfl) rfl (by kernel_rfl) ?_
  refine Dr.done (by kernel_rfl) ?_
  have h23 : (!(px == x.data)) = false := by rw [hpx]; simp
  rw [h23]
  refine qr_else (o := .tmp 89) (by kernel_rfl) rfl ?_
  refine qr_skip (by kernel_rfl) ?_
  refine qr_region (Open.round ln) (by kernel_rfl) (by kernel_rfl) ?_
  refine Ops.go (v := (i64 ((j : Nat) : Int))) (by kernel_rfl) (Runs.load (t := 3) (a := ⟨b10, 0, none⟩) (by kernel_rfl) (H7.loads (by kernel_rfl))) (d := (some 90)) (by kernel_rfl) rfl ?_
  refine Ops.regs 1 [(2, (Value.pointer (some ⟨b2, 0, none⟩))), (3, (Value.pointer (some ⟨b3, 0, none⟩))), (6, (Value.pointer (some ⟨b6, 0, none⟩))), (10, (Value.pointer (some ⟨b10, 0, none⟩))), (12, p), (89, (Value.bool false)), (91, (i64 (IntKind.i64.wrap (((j : Nat) : Int) + 1))))] (j := 2) (by kernel_rfl) (by kernel_rfl) ?_
  have e24 : IntKind.i64.wrap (((j : Nat) : Int) + 1) = ((j + 1 : Nat) : Int) := by rw [wrap_i64 (by omega) (by omega)]; omega
  rw [e24]
  clear e24
  refine Ops.put (t := 3) (b := b10) (off := 0) (v := (i64 ((j + 1 : Nat) : Int))) (ys := [(i64 ((j + 1 : Nat) : Int))]) (by kernel_rfl) (by kernel_rfl) H7 (by kernel_rfl) (d := none) (by kernel_rfl) rfl (fun w25 H26 K27 => ?_)
  clear H7
  have K28 := K3.trans K27 (U := (fun i => i = b10)) (fun i h1 h2 => h2) (fun i h1 h2 => by have h2 : i = b10 := h2; show i = b10; omega)
  clear K3
  have H29 := H4.keep K27 (by intro h; change b2 = b10 at h; omega)
  clear H4
  have H30 := H5.keep K27 (by intro h; change b3 = b10 at h; omega)
  clear H5
  have H31 := H6.keep K27 (by intro h; change b6 = b10 at h; omega)
  clear H6
  clear F8
  clear F9
  clear F10
  clear F11
  clear hB22
  clear K27
  refine Ops.done (by kernel_rfl) ?_
  exact ⟨rfl, K28, H26⟩
theorem tyI : ElemTy Try.prog 34 3 1 8 := elemTy (by kernel_rfl)

set_option maxHeartbeats 4000000 in
theorem Streams_calls (w : World) (LA : Option Addr) (lc : Nat) (l : List PartP) (cut : Int) (hL : RdP w (.slice LA l.length lc) l) (hIn : PartsIn w l) (hcut : -9223372036854775808 ≤ cut ∧ cut ≤ 9223372036854775807) : Calls Try.prog 4 ⟨[(Value.slice LA l.length lc), (i64 cut)]⟩ w (fun e w' => e = .returned (.bool true) ∧ Keeps none_ w w') := by
  have K0 : Keeps none_ w w := Keeps.refl w
  have hll := (RdT.len PartP.two (by decide) hL).2
  unfold maxLen at hll
  refine qr_calls 11 Try.func4 (by kernel_rfl) (by kernel_rfl) ?_
  refine qr_seq (by kernel_rfl) ?_
  refine qr_region Open.wide (by kernel_rfl) (by kernel_rfl) ?_
  refine Ops.new (o := rowL [(Value.slice LA l.length lc)] 33) (V := fun b => (Value.pointer (some ⟨b, 0, none⟩))) (by kernel_rfl) (d := (some 2)) (by kernel_rfl) (fun b => rfl) (fun b1 w2 hb3 H4 K5 hs6 => ?_)
  have nb1 : w.heap.size ≤ b1 := by have := K0.size; omega
  have K7 := K0.trans K5 (U := none_) (fun i h1 h2 => h2) (fun i h1 h2 => by exact h2)
  clear K0
  clear K5 hs6
  refine Ops.new (o := rowL [(i64 cut)] 3) (V := fun b => (Value.pointer (some ⟨b, 0, none⟩))) (by kernel_rfl) (d := (some 3)) (by kernel_rfl) (fun b => rfl) (fun b8 w9 hb10 H11 K12 hs13 => ?_)
  have lb8b1 : b1 < b8 := by have := H4.lt; omega
  have nb8 : w.heap.size ≤ b8 := by have := K7.size; omega
  have K14 := K7.trans K12 (U := none_) (fun i h1 h2 => h2) (fun i h1 h2 => by exact h2)
  clear K7
  have H15 := H4.keep K12 (fun h => h)
  clear H4
  clear K12 hs13
  refine Ops.new (o := rowL [(Value.bool false)] 4) (V := fun b => (Value.pointer (some ⟨b, 0, none⟩))) (by kernel_rfl) (d := (some 4)) (by kernel_rfl) (fun b => rfl) (fun b16 w17 hb18 H19 K20 hs21 => ?_)
  have lb16b1 : b1 < b16 := by have := H15.lt; omega
  have lb16b8 : b8 < b16 := by have := H11.lt; omega
  have nb16 : w.heap.size ≤ b16 := by have := K14.size; omega
  have K22 := K14.trans K20 (U := none_) (fun i h1 h2 => h2) (fun i h1 h2 => by exact h2)
  clear K14
  have H23 := H15.keep K20 (fun h => h)
  clear H15
  have H24 := H11.keep K20 (fun h => h)
  clear H11
  clear K20 hs21
  refine Ops.done (by kernel_rfl) ?_
  refine qr_seq (by kernel_rfl) ?_
  refine qr_region Open.wide (by kernel_rfl) (by kernel_rfl) ?_
  refine Ops.regs 1 [(2, (Value.pointer (some ⟨b1, 0, none⟩))), (3, (Value.pointer (some ⟨b8, 0, none⟩))), (4, (Value.pointer (some ⟨b16, 0, none⟩))), (5, (Value.slice none 0 0))] (j := 1) (by kernel_rfl) (by kernel_rfl) ?_
  refine Ops.done (by kernel_rfl) ?_
  refine qr_seq (by kernel_rfl) ?_
  refine qr_region Open.wide (by kernel_rfl) (by kernel_rfl) ?_
  refine Ops.new (o := rowL [(Value.slice none 0 0)] 34) (V := fun b => (Value.pointer (some ⟨b, 0, none⟩))) (by kernel_rfl) (d := (some 6)) (by kernel_rfl) (fun b => rfl) (fun b25 w26 hb27 H28 K29 hs30 => ?_)
  have lb25b1 : b1 < b25 := by have := H23.lt; omega
  have lb25b8 : b8 < b25 := by have := H24.lt; omega
  have lb25b16 : b16 < b25 := by have := H19.lt; omega
  have nb25 : w.heap.size ≤ b25 := by have := K22.size; omega
  have K31 := K22.trans K29 (U := none_) (fun i h1 h2 => h2) (fun i h1 h2 => by exact h2)
  clear K22
  have H32 := H23.keep K29 (fun h => h)
  clear H23
  have H33 := H24.keep K29 (fun h => h)
  clear H24
  have H34 := H19.keep K29 (fun h => h)
  clear H19
  clear K29 hs30
  refine Ops.done (by kernel_rfl) ?_
  refine qr_seq (by kernel_rfl) ?_
  refine qr_seq (by kernel_rfl) ?_
  refine qr_region Open.wide (by kernel_rfl) (by kernel_rfl) ?_
  refine Ops.regs 1 [(2, (Value.pointer (some ⟨b1, 0, none⟩))), (3, (Value.pointer (some ⟨b8, 0, none⟩))), (4, (Value.pointer (some ⟨b16, 0, none⟩))), (5, (Value.slice none 0 0)), (6, (Value.pointer (some ⟨b25, 0, none⟩))), (7, (i64 0))] (j := 1) (by kernel_rfl) (by kernel_rfl) ?_
  refine Ops.done (by kernel_rfl) ?_
  refine qr_block (id := 0) (by kernel_rfl) ?_
  refine qr_keep (R := [(2, (Value.pointer (some ⟨b1, 0, none⟩))), (3, (Value.pointer (some ⟨b8, 0, none⟩))), (4, (Value.pointer (some ⟨b16, 0, none⟩))), (5, (Value.slice none 0 0)), (6, (Value.pointer (some ⟨b25, 0, none⟩))), (7, (i64 0))]) (by kernel_rfl) ?_
  refine qr_loop (fun (gs : (Option Addr) × Nat × (List UInt8) × (Option Addr) × Nat × (List Int) × Nat) (ds : List Deferred) L (wx : World) => match gs with | (uA, uc, ys, VA, vc, es, i) => ds = [] ∧ L = [(2, (Value.pointer (some ⟨b1, 0, none⟩))), (3, (Value.pointer (some ⟨b8, 0, none⟩))), (4, (Value.pointer (some ⟨b16, 0, none⟩))), (5, (Value.slice uA ys.length uc)), (6, (Value.pointer (some ⟨b25, 0, none⟩))), (7, (i64 ((i : Nat) : Int)))] ∧ OwnB wx w.heap.size 5 (Value.slice uA ys.length uc) ys ∧ (∀ i, ((Value.slice uA ys.length uc)).ownBlock = some i → i ≠ b1) ∧ (∀ i, ((Value.slice uA ys.length uc)).ownBlock = some i → i ≠ b8) ∧ (∀ i, ((Value.slice uA ys.length uc)).ownBlock = some i → i ≠ b16) ∧ (∀ i, ((Value.slice uA ys.length uc)).ownBlock = some i → i ≠ b25) ∧ (∀ i, ((Value.slice VA es.length vc)).ownBlock = some i → ((Value.slice uA ys.length uc)).ownBlock = some i → False) ∧ OwnT wx w.heap.size 3 1 icell (Value.slice VA es.length vc) es ∧ (∀ i, ((Value.slice VA es.length vc)).ownBlock = some i → i ≠ b1) ∧ (∀ i, ((Value.slice VA es.length vc)).ownBlock = some i → i ≠ b8) ∧ (∀ i, ((Value.slice VA es.length vc)).ownBlock = some i → i ≠ b16) ∧ (∀ i, ((Value.slice VA es.length vc)).ownBlock = some i → i ≠ b25) ∧ (∀ i, ((Value.slice uA ys.length uc)).ownBlock = some i → ((Value.slice VA es.length vc)).ownBlock = some i → False) ∧ ys = allB l i ∧ es = endsI l i ∧ (∀ x ∈ l.take i, x.data.length ≤ 65536) ∧ ys.length ≤ i * 65550 ∧ i ≤ l.length ∧ i ≤ 30 ∧ Keeps none_ w wx ∧ Has wx b1 (rowL [(Value.slice LA l.length lc)] 33) ∧ Has wx b8 (rowL [(i64 cut)] 3) ∧ Has wx b16 (rowL [(Value.bool false)] 4) ∧ Has wx b25 (rowL [(Value.slice VA es.length vc)] 34)) (fun (gs : (Option Addr) × Nat × (List UInt8) × (Option Addr) × Nat × (List Int) × Nat) => match gs with | (uA, uc, ys, VA, vc, es, i) => l.length - i) (none, 0, [], none, 0, [], 0) (by kernel_rfl) ⟨rfl, rfl, (World.ownsRow_nil _ _ _ _), (fun i hi => by cases hi), (fun i hi => by cases hi), (fun i hi => by cases hi), (fun i hi => by cases hi), (fun _ _ h => by cases h), (OwnT.nil _ _ _ _ _), (fun i hi => by cases hi), (fun i hi => by cases hi), (fun i hi => by cases hi), (fun i hi => by cases hi), (fun _ _ h => by cases h), rfl, rfl, (by simp), (by decide), Nat.zero_le _, Nat.zero_le _, K31, H32, H33, H34, H28⟩ ?_
  clear H32 H33 H34 H28 K31
  rintro ⟨uA, uc, ys, VA, vc, es, i⟩ _ _ w35 ⟨rfl, rfl, hOU, obUb1, obUb8, obUb16, obUb25, ooUV, hOV, obVb1, obVb8, obVb16, obVb25, ooVU, hy, he, hsm, hyl, hi, hi30, K36, H37, H38, H39, H40⟩
  have hel := congrArg List.length he
  rw [endsI_len] at hel
  have hcU := (OwnB.rd hOU).slice
  refine qr_seq (by kernel_rfl) ?_
  refine qr_seq (by kernel_rfl) ?_
  refine qr_region Open.wide (by kernel_rfl) (by kernel_rfl) ?_
  refine Ops.regs 1 [(2, (Value.pointer (some ⟨b1, 0, none⟩))), (3, (Value.pointer (some ⟨b8, 0, none⟩))), (4, (Value.pointer (some ⟨b16, 0, none⟩))), (5, (Value.slice uA ys.length uc)), (6, (Value.pointer (some ⟨b25, 0, none⟩))), (7, (i64 ((i : Nat) : Int))), (13, (i64 ((i : Nat) : Int)))] (j := 1) (by kernel_rfl) (by kernel_rfl) ?_
  refine Ops.go (v := (Value.slice LA l.length lc)) (by kernel_rfl) (Runs.load (t := 33) (a := ⟨b1, 0, none⟩) (by kernel_rfl) (H37.loads (by kernel_rfl))) (d := (some 14)) (by kernel_rfl) rfl ?_
  refine Ops.regs 3 [(2, (Value.pointer (some ⟨b1, 0, none⟩))), (3, (Value.pointer (some ⟨b8, 0, none⟩))), (4, (Value.pointer (some ⟨b16, 0, none⟩))), (5, (Value.slice uA ys.length uc)), (6, (Value.pointer (some ⟨b25, 0, none⟩))), (7, (i64 ((i : Nat) : Int))), (17, (Value.bool (decide (((i : Nat) : Int) < ((l.length : Nat) : Int)))))] (j := 5) (by kernel_rfl) (by kernel_rfl) ?_
  refine Ops.split (decide (((i : Nat) : Int) < ((l.length : Nat) : Int))) (fun h41 => ?_) (fun h41 => ?_)
  · rw [h41]
    have p42 : ((i : Nat) : Int) < ((l.length : Nat) : Int) := of_decide_eq_true h41
    refine Ops.regs 3 [(2, (Value.pointer (some ⟨b1, 0, none⟩))), (3, (Value.pointer (some ⟨b8, 0, none⟩))), (4, (Value.pointer (some ⟨b16, 0, none⟩))), (5, (Value.slice uA ys.length uc)), (6, (Value.pointer (some ⟨b25, 0, none⟩))), (7, (i64 ((i : Nat) : Int))), (20, (Value.bool (decide (((i : Nat) : Int) < 30))))] (j := 8) (by kernel_rfl) (by kernel_rfl) ?_
    refine Ops.done (by kernel_rfl) ?_
    refine qr_cond (o := .tmp 20) (b := (decide (((i : Nat) : Int) < 30))) (by kernel_rfl) rfl (fun h43 => ?_) (fun h43 => ?_)
    · rw [h43]
      have p44 : ((i : Nat) : Int) < 30 := of_decide_eq_true h43
      refine qr_skip (by kernel_rfl) ?_
      refine qr_seq (by kernel_rfl) ?_
      refine qr_block (id := 1) (by kernel_rfl) ?_
      refine qr_seq (by kernel_rfl) ?_
      refine qr_region Open.wide (by kernel_rfl) (by kernel_rfl) ?_
      refine Ops.go (v := (Value.slice LA l.length lc)) (by kernel_rfl) (Runs.load (t := 33) (a := ⟨b1, 0, none⟩) (by kernel_rfl) (H37.loads (by kernel_rfl))) (d := (some 24)) (by kernel_rfl) rfl ?_
      refine Ops.regs 1 [(2, (Value.pointer (some ⟨b1, 0, none⟩))), (3, (Value.pointer (some ⟨b8, 0, none⟩))), (4, (Value.pointer (some ⟨b16, 0, none⟩))), (5, (Value.slice uA ys.length uc)), (6, (Value.pointer (some ⟨b25, 0, none⟩))), (7, (i64 ((i : Nat) : Int))), (20, (Value.bool true)), (24, (Value.slice LA l.length lc)), (25, (i64 ((i : Nat) : Int)))] (j := 2) (by kernel_rfl) (by kernel_rfl) ?_
      obtain ⟨rb45, ro46, x, hA47, hx48⟩ := RdT.open (Rd.keep0 (by omega) hL K36) rfl (k := i) (by omega)
      have hXx := hx48
      have hBx := hIn x (List.mem_of_getElem? hXx)
      have hBlx := hBx.slice
      unfold maxLen at hBlx
      refine Ops.go (by kernel_rfl) (Runs.ixSliceE (k := IntKind.i64) (t := 33) (len := l.length) (cap := lc) (s := 1) (off' := ro46 + i) (i := ((i : Nat) : Int)) hA47 (by kernel_rfl) (by kernel_rfl) (by omega) (by omega) (by omega)) (d := (some 26)) (by kernel_rfl) rfl ?_
      refine Ops.go (v := (Value.slice x.A x.data.length x.c)) (by kernel_rfl) (Runs.load (t := 23) (a := ⟨rb45, ro46 + i, none⟩) (by kernel_rfl) (RdT.ldu (f := PartP.cells) (x := x) PartP.two (Rd.keep0 (by omega) hL K36) (by kernel_rfl) hA47 hx48 rfl)) (d := (some 27)) (by kernel_rfl) rfl ?_
      refine Ops.call (by kernel_rfl) (d := (some 28)) (by kernel_rfl) (Frame_of _ (Value.slice x.A x.data.length x.c) x.data (hBx.keep0 (by omega) K36)) ?_
      rintro _ w52 ⟨v49, er50, fo51, rfl, K53, hO54, hc56⟩
      obtain ⟨A57, c58, hf59⟩ := RdB.form (OwnB.rd hO54)
      subst hf59
      have hsA57 := (OwnB.rd hO54).slice
      have O55 := own_base hO54 K36.size
      clear hO54
      have hfr := hc56
      refine ⟨_, _, rfl, rfl, ?_⟩
      have K60 := K36.trans K53 (U := none_) (fun i h1 h2 => h2) (fun i h1 h2 => by exact h2)
      clear K36
      have H61 := H37.keep K53 (fun h => h)
      clear H37
      have H62 := H38.keep K53 (fun h => h)
      clear H38
      have H63 := H39.keep K53 (fun h => h)
      clear H39
      have H64 := H40.keep K53 (fun h => h)
      clear H40
      have F65 := own_keep0 hOU K53
      clear hOU
      have F66 := own_keep0 hOV K53
      clear hOV
      clear K53
      refine Ops.regs 5 [(2, (Value.pointer (some ⟨b1, 0, none⟩))), (3, (Value.pointer (some ⟨b8, 0, none⟩))), (4, (Value.pointer (some ⟨b16, 0, none⟩))), (5, (Value.slice uA ys.length uc)), (6, (Value.pointer (some ⟨b25, 0, none⟩))), (7, (i64 ((i : Nat) : Int))), (8, (Value.slice A57 fo51.length c58)), (9, (i64 er50)), (20, (Value.bool true))] (j := 10) (by kernel_rfl) (by kernel_rfl) ?_
      refine Ops.done (by kernel_rfl) ?_
      refine qr_seq (by kernel_rfl) ?_
      refine qr_seq (by kernel_rfl) ?_
      refine qr_region Open.wide (by kernel_rfl) (by kernel_rfl) ?_
      refine Ops.regs 3 [(2, (Value.pointer (some ⟨b1, 0, none⟩))), (3, (Value.pointer (some ⟨b8, 0, none⟩))), (4, (Value.pointer (some ⟨b16, 0, none⟩))), (5, (Value.slice uA ys.length uc)), (6, (Value.pointer (some ⟨b25, 0, none⟩))), (7, (i64 ((i : Nat) : Int))), (8, (Value.slice A57 fo51.length c58)), (9, (i64 er50)), (20, (Value.bool true)), (33, (Value.bool (er50 != 0)))] (j := 3) (by kernel_rfl) (by kernel_rfl) ?_
      refine Ops.split (er50 != 0) (fun h67 => ?_) (fun h67 => ?_)
      · rw [h67]
        have p68 : ¬ (er50 = 0) := of_bne_t h67
        have hlong : 65536 < x.data.length := by rcases hfr with ⟨a, b, c⟩ | ⟨a, b, c⟩; (exfalso; omega); (exact a)
        refine Ops.regs 4 [(2, (Value.pointer (some ⟨b1, 0, none⟩))), (3, (Value.pointer (some ⟨b8, 0, none⟩))), (4, (Value.pointer (some ⟨b16, 0, none⟩))), (5, (Value.slice uA ys.length uc)), (6, (Value.pointer (some ⟨b25, 0, none⟩))), (7, (i64 ((i : Nat) : Int))), (8, (Value.slice A57 fo51.length c58)), (9, (i64 er50)), (20, (Value.bool true)), (37, (Value.bool true))] (j := 7) (by kernel_rfl) (by kernel_rfl) ?_
        refine Ops.done (by kernel_rfl) ?_
        refine qr_then (o := .tmp 37) (by kernel_rfl) rfl ?_
        refine qr_seq (by kernel_rfl) ?_
        refine qr_region Open.wide (by kernel_rfl) (by kernel_rfl) ?_
        refine Ops.go (v := (Value.slice LA l.length lc)) (by kernel_rfl) (Runs.load (t := 33) (a := ⟨b1, 0, none⟩) (by kernel_rfl) (H61.loads (by kernel_rfl))) (d := (some 38)) (by kernel_rfl) rfl ?_
        refine Ops.regs 1 [(2, (Value.pointer (some ⟨b1, 0, none⟩))), (3, (Value.pointer (some ⟨b8, 0, none⟩))), (4, (Value.pointer (some ⟨b16, 0, none⟩))), (5, (Value.slice uA ys.length uc)), (6, (Value.pointer (some ⟨b25, 0, none⟩))), (7, (i64 ((i : Nat) : Int))), (8, (Value.slice A57 fo51.length c58)), (9, (i64 er50)), (20, (Value.bool true)), (37, (Value.bool true)), (38, (Value.slice LA l.length lc)), (39, (i64 ((i : Nat) : Int)))] (j := 2) (by kernel_rfl) (by kernel_rfl) ?_
        refine Ops.go (by kernel_rfl) (Runs.ixSliceE (k := IntKind.i64) (t := 33) (len := l.length) (cap := lc) (s := 1) (off' := ro46 + i) (i := ((i : Nat) : Int)) hA47 (by kernel_rfl) (by kernel_rfl) (by omega) (by omega) (by omega)) (d := (some 40)) (by kernel_rfl) rfl ?_
        refine Ops.go (v := (Value.slice x.A x.data.length x.c)) (by kernel_rfl) (Runs.load (t := 23) (a := ⟨rb45, ro46 + i, none⟩) (by kernel_rfl) (RdT.ldu (f := PartP.cells) (x := x) PartP.two (Rd.keep0 (by omega) hL K60) (by kernel_rfl) hA47 hx48 rfl)) (d := (some 41)) (by kernel_rfl) rfl ?_
        refine Ops.regs 3 [(2, (Value.pointer (some ⟨b1, 0, none⟩))), (3, (Value.pointer (some ⟨b8, 0, none⟩))), (4, (Value.pointer (some ⟨b16, 0, none⟩))), (5, (Value.slice uA ys.length uc)), (6, (Value.pointer (some ⟨b25, 0, none⟩))), (7, (i64 ((i : Nat) : Int))), (8, (Value.slice A57 fo51.length c58)), (9, (i64 er50)), (20, (Value.bool true)), (37, (Value.bool true)), (44, (Value.bool (decide (((x.data.length : Nat) : Int) > 65536))))] (j := 7) (by kernel_rfl) (by kernel_rfl) ?_
        have h69 : (decide (((x.data.length : Nat) : Int) > 65536)) = true := decide_eq_true (by omega)
        rw [h69]
        refine Ops.call (by kernel_rfl) (d := (some 45)) (by kernel_rfl) (known_calls _) ?_
        rintro _ w70 ⟨rfl, K71⟩
        refine ⟨_, _, rfl, rfl, ?_⟩
        have K72 := K60.trans K71 (U := none_) (fun i h1 h2 => h2) (fun i h1 h2 => by exact h2)
        clear K60
        have H73 := H61.keep K71 (fun h => h)
        clear H61
        have H74 := H62.keep K71 (fun h => h)
        clear H62
        have H75 := H63.keep K71 (fun h => h)
        clear H63
        have H76 := H64.keep K71 (fun h => h)
        clear H64
        have F77 := own_keep0 F65 K71
        clear F65
        have F78 := own_keep0 F66 K71
        clear F66
        have F79 := own_keep0 O55 K71
        clear O55
        clear K71
        refine Ops.regs 1 [(2, (Value.pointer (some ⟨b1, 0, none⟩))), (3, (Value.pointer (some ⟨b8, 0, none⟩))), (4, (Value.pointer (some ⟨b16, 0, none⟩))), (5, (Value.slice uA ys.length uc)), (6, (Value.pointer (some ⟨b25, 0, none⟩))), (7, (i64 ((i : Nat) : Int))), (8, (Value.slice A57 fo51.length c58)), (9, (i64 er50)), (20, (Value.bool true)), (37, (Value.bool true)), (46, (Value.bool true))] (j := 9) (by kernel_rfl) (by kernel_rfl) ?_
        refine Ops.put (t := 4) (b := b16) (off := 0) (v := (Value.bool true)) (ys := [(Value.bool true)]) (by kernel_rfl) (by kernel_rfl) H75 (by kernel_rfl) (d := none) (by kernel_rfl) rfl (fun w80 H81 K82 => ?_)
        clear H75
        have K83 := K72.trans K82 (U := none_) (fun i h1 h2 => h2) (fun i h1 h2 => by have h2 : i = b16 := h2; exfalso; omega)
        clear K72
        have H84 := H73.keep K82 (by intro h; change b1 = b16 at h; omega)
        clear H73
        have H85 := H74.keep K82 (by intro h; change b8 = b16 at h; omega)
        clear H74
        have H86 := H76.keep K82 (by intro h; change b25 = b16 at h; omega)
        clear H76
        have F87 := own_keep F77 K82 (fun i hi hs => by have hs : i = b16 := hs; have := obUb16 i hi; omega)
        clear F77
        have F88 := own_keep F78 K82 (fun i hi hs => by have hs : i = b16 := hs; have := obVb16 i hi; omega)
        clear F78
        clear F79
        clear K82
        refine Ops.done (by kernel_rfl) ?_
        refine qr_ret (by kernel_rfl) ?_
        refine retR_none (v := (Value.bool true)) (retv_cell rfl rfl (H81.loads (by kernel_rfl))) ?_
        exact ⟨rfl, K83⟩
      · rw [h67]
        have p89 : er50 = 0 := of_bne_f h67
        obtain ⟨hple, hfo⟩ : x.data.length ≤ 65536 ∧ fo51 = frameB x.data := by rcases hfr with ⟨a, b, c⟩ | ⟨a, b, c⟩; (exact ⟨a, c⟩); (exfalso; omega)
        have hfl := frame_len x.data
        have hfol := congrArg List.length hfo
        have hu5 := uv_length_10 (n := x.data.length) (by omega)
        have hyn : ys = allB l i → ys ++ fo51 = allB l (i + 1) := fun h => by rw [h, hfo, allB_next hXx]
        have hen : es = endsI l i → es ++ [(((ys ++ fo51).length : Nat) : Int)] = endsI l (i + 1) := fun h => by rw [h, endsI_next, hyn hy]
        have hsn : (∀ z ∈ l.take i, z.data.length ≤ 65536) → ∀ z ∈ l.take (i + 1), z.data.length ≤ 65536 := fun h z hz => by rw [List.take_succ_eq_append_getElem (by omega), List.mem_append, List.mem_singleton] at hz; rcases hz with hz | hz; (exact h z hz); (subst hz; rw [(List.getElem?_eq_some_iff.1 hXx).2]; exact hple)
        refine Ops.regs 4 [(2, (Value.pointer (some ⟨b1, 0, none⟩))), (3, (Value.pointer (some ⟨b8, 0, none⟩))), (4, (Value.pointer (some ⟨b16, 0, none⟩))), (5, (Value.slice uA ys.length uc)), (6, (Value.pointer (some ⟨b25, 0, none⟩))), (7, (i64 ((i : Nat) : Int))), (8, (Value.slice A57 fo51.length c58)), (9, (i64 er50)), (20, (Value.bool true)), (37, (Value.bool (((fo51.length : Nat) : Int) == 0)))] (j := 7) (by kernel_rfl) (by kernel_rfl) ?_
        refine Ops.done (by kernel_rfl) ?_
        have h90 : (((fo51.length : Nat) : Int) == 0) = false := beq_f (by omega)
        rw [h90]
        refine qr_else (o := .tmp 37) (by kernel_rfl) rfl ?_
        refine qr_skip (by kernel_rfl) ?_
        refine qr_seq (by kernel_rfl) ?_
        refine qr_region Open.wide (by kernel_rfl) (by kernel_rfl) ?_
        refine Ops.regs 2 [(2, (Value.pointer (some ⟨b1, 0, none⟩))), (3, (Value.pointer (some ⟨b8, 0, none⟩))), (4, (Value.pointer (some ⟨b16, 0, none⟩))), (5, (Value.slice uA ys.length uc)), (6, (Value.pointer (some ⟨b25, 0, none⟩))), (7, (i64 ((i : Nat) : Int))), (8, (Value.slice A57 fo51.length c58)), (9, (i64 er50)), (20, (Value.bool true)), (37, (Value.bool false)), (47, (Value.slice uA ys.length uc)), (48, (Value.slice A57 fo51.length c58))] (j := 2) (by kernel_rfl) (by kernel_rfl) ?_
        obtain ⟨v91, w92, hr93, hO94, K95, hg96⟩ := OwnB.app2 (ty := 23) tyB F65 (OwnB.rd O55) (by (try simp only [List.length_append]); (try simp only [List.length_nil]); omega) K60.size
        obtain ⟨A98, c99, hf97⟩ := RdB.form (OwnB.rd hO94)
        subst hf97
        have ob100 : ∀ i, ((Value.slice A98 ((ys ++ fo51).length) c99)).ownBlock = some i → i ≠ b1 := fun i hi => by rcases hg96 i hi with h | h; (have := obUb1 i h; omega); (have := H61.lt; omega)
        have ob101 : ∀ i, ((Value.slice A98 ((ys ++ fo51).length) c99)).ownBlock = some i → i ≠ b8 := fun i hi => by rcases hg96 i hi with h | h; (have := obUb8 i h; omega); (have := H62.lt; omega)
        have ob102 : ∀ i, ((Value.slice A98 ((ys ++ fo51).length) c99)).ownBlock = some i → i ≠ b16 := fun i hi => by rcases hg96 i hi with h | h; (have := obUb16 i h; omega); (have := H63.lt; omega)
        have ob103 : ∀ i, ((Value.slice A98 ((ys ++ fo51).length) c99)).ownBlock = some i → i ≠ b25 := fun i hi => by rcases hg96 i hi with h | h; (have := obUb25 i h; omega); (have := H64.lt; omega)
        have oo104 : ∀ i, ((Value.slice VA es.length vc)).ownBlock = some i → ((Value.slice A98 ((ys ++ fo51).length) c99)).ownBlock = some i → False := fun i hi hs => by rcases hg96 i hs with h | h; (exact ooUV i hi h); (have := (World.ownsRow.lt F66 i hi).2; omega)
        have oo105 : ∀ i, ((Value.slice A98 ((ys ++ fo51).length) c99)).ownBlock = some i → ((Value.slice VA es.length vc)).ownBlock = some i → False := fun i hi hs => oo104 i hs hi
        refine Ops.go (v := (Value.slice A98 ((ys ++ fo51).length) c99)) (by kernel_rfl) (Runs.append (ts := #[23, 23]) (ty := 23) (vs := [(Value.slice uA ys.length uc), (Value.slice A57 fo51.length c58)]) (by kernel_rfl) hr93) (d := (some 49)) (by kernel_rfl) rfl ?_
        have K106 := K60.trans K95 (U := none_) (fun i h1 h2 => h2) (fun i h1 h2 => by have h2 : ((Value.slice uA ys.length uc)).ownBlock = some i := h2; exfalso; have := (World.ownsRow.lt F65 i h2).1; omega)
        clear K60
        have H107 := H61.keep K95 (by intro h; change ((Value.slice uA ys.length uc)).ownBlock = some b1 at h; have := obUb1 b1 h; omega)
        clear H61
        have H108 := H62.keep K95 (by intro h; change ((Value.slice uA ys.length uc)).ownBlock = some b8 at h; have := obUb8 b8 h; omega)
        clear H62
        have H109 := H63.keep K95 (by intro h; change ((Value.slice uA ys.length uc)).ownBlock = some b16 at h; have := obUb16 b16 h; omega)
        clear H63
        have H110 := H64.keep K95 (by intro h; change ((Value.slice uA ys.length uc)).ownBlock = some b25 at h; have := obUb25 b25 h; omega)
        clear H64
        clear F65
        have F111 := own_keep F66 K95 (fun i hi hs => by have hs : ((Value.slice uA ys.length uc)).ownBlock = some i := hs; exact ooUV i hi hs)
        clear F66
        clear O55
        clear K95 hr93 hg96
        refine Ops.regs 1 [(2, (Value.pointer (some ⟨b1, 0, none⟩))), (3, (Value.pointer (some ⟨b8, 0, none⟩))), (4, (Value.pointer (some ⟨b16, 0, none⟩))), (5, (Value.slice A98 ((ys ++ fo51).length) c99)), (6, (Value.pointer (some ⟨b25, 0, none⟩))), (7, (i64 ((i : Nat) : Int))), (8, (Value.slice A57 fo51.length c58)), (9, (i64 er50)), (20, (Value.bool true)), (37, (Value.bool false))] (j := 4) (by kernel_rfl) (by kernel_rfl) ?_
        refine Ops.done (by kernel_rfl) ?_
        refine qr_region Open.wide (by kernel_rfl) (by kernel_rfl) ?_
        refine Ops.go (v := (Value.slice VA es.length vc)) (by kernel_rfl) (Runs.load (t := 34) (a := ⟨b25, 0, none⟩) (by kernel_rfl) (H110.loads (by kernel_rfl))) (d := (some 50)) (by kernel_rfl) rfl ?_
        refine Ops.regs 2 [(2, (Value.pointer (some ⟨b1, 0, none⟩))), (3, (Value.pointer (some ⟨b8, 0, none⟩))), (4, (Value.pointer (some ⟨b16, 0, none⟩))), (5, (Value.slice A98 ((ys ++ fo51).length) c99)), (6, (Value.pointer (some ⟨b25, 0, none⟩))), (7, (i64 ((i : Nat) : Int))), (8, (Value.slice A57 fo51.length c58)), (9, (i64 er50)), (20, (Value.bool true)), (37, (Value.bool false)), (50, (Value.slice VA es.length vc)), (52, (i64 (((ys ++ fo51).length : Nat) : Int)))] (j := 3) (by kernel_rfl) (by kernel_rfl) ?_
        refine Ops.new (o := rowL [(i64 (((ys ++ fo51).length : Nat) : Int))] 3) (V := fun b => (Value.slice (some ⟨b, 0, none⟩) 1 1)) (by kernel_rfl) (d := (some 53)) (by kernel_rfl) (fun b => rfl) (fun b112 w113 hb114 H115 K116 hs117 => ?_)
        have lb112b1 : b1 < b112 := by have := H107.lt; omega
        have lb112b8 : b8 < b112 := by have := H108.lt; omega
        have lb112b16 : b16 < b112 := by have := H109.lt; omega
        have lb112b25 : b25 < b112 := by have := H110.lt; omega
        have nb112 : w.heap.size ≤ b112 := by have := K106.size; omega
        have ob118 : ∀ i, ((Value.slice VA es.length vc)).ownBlock = some i → i < b112 := fun i hi => by have := (World.ownsRow.lt F111 i hi).2; omega
        have ob119 : ∀ i, ((Value.slice A98 ((ys ++ fo51).length) c99)).ownBlock = some i → i < b112 := fun i hi => by have := (World.ownsRow.lt hO94 i hi).2; omega
        have K120 := K106.trans K116 (U := none_) (fun i h1 h2 => h2) (fun i h1 h2 => by exact h2)
        clear K106
        have H121 := H107.keep K116 (fun h => h)
        clear H107
        have H122 := H108.keep K116 (fun h => h)
        clear H108
        have H123 := H109.keep K116 (fun h => h)
        clear H109
        have H124 := H110.keep K116 (fun h => h)
        clear H110
        have F125 := own_keep0 F111 K116
        clear F111
        have F126 := own_keep0 hO94 K116
        clear hO94
        clear K116 hs117
        obtain ⟨v127, w128, hr129, hO130, hK131, hg132⟩ := OwnT.app (ty := 34) icell_two icell_one tyI F125 (show RdT _ 1 icell _ [(((ys ++ fo51).length : Nat) : Int)] from Rd.lit H115 (n := 1) rfl (by decide)) (by simp only [List.length_cons, List.length_nil]; omega) (by simp only [List.length_cons, List.length_nil]; omega) K120.size
        obtain ⟨A134, c135, rfl⟩ := RdT.form icell_two (by decide) (OwnT.rd hO130)
        have ob136 : ∀ i, ((Value.slice A134 ((es ++ [(((ys ++ fo51).length : Nat) : Int)]).length) c135)).ownBlock = some i → i ≠ b1 := fun i hi => by rcases hg132 i hi with h | h; (have := obVb1 i h; omega); (have := H121.lt; omega)
        have ob137 : ∀ i, ((Value.slice A134 ((es ++ [(((ys ++ fo51).length : Nat) : Int)]).length) c135)).ownBlock = some i → i ≠ b8 := fun i hi => by rcases hg132 i hi with h | h; (have := obVb8 i h; omega); (have := H122.lt; omega)
        have ob138 : ∀ i, ((Value.slice A134 ((es ++ [(((ys ++ fo51).length : Nat) : Int)]).length) c135)).ownBlock = some i → i ≠ b16 := fun i hi => by rcases hg132 i hi with h | h; (have := obVb16 i h; omega); (have := H123.lt; omega)
        have ob139 : ∀ i, ((Value.slice A134 ((es ++ [(((ys ++ fo51).length : Nat) : Int)]).length) c135)).ownBlock = some i → i ≠ b25 := fun i hi => by rcases hg132 i hi with h | h; (have := obVb25 i h; omega); (have := H124.lt; omega)
        have ob140 : ∀ i, ((Value.slice A134 ((es ++ [(((ys ++ fo51).length : Nat) : Int)]).length) c135)).ownBlock = some i → i ≠ b112 := fun i hi => by rcases hg132 i hi with h | h; (have := ob118 i h; omega); (have := H115.lt; omega)
        have oo141 : ∀ i, ((Value.slice A98 ((ys ++ fo51).length) c99)).ownBlock = some i → ((Value.slice A134 ((es ++ [(((ys ++ fo51).length : Nat) : Int)]).length) c135)).ownBlock = some i → False := fun i hi hs => by rcases hg132 i hs with h | h; (exact oo105 i hi h); (have := (World.ownsRow.lt F126 i hi).2; omega)
        have oo142 : ∀ i, ((Value.slice A134 ((es ++ [(((ys ++ fo51).length : Nat) : Int)]).length) c135)).ownBlock = some i → ((Value.slice A98 ((ys ++ fo51).length) c99)).ownBlock = some i → False := fun i hi hs => oo141 i hs hi
        have K133 := hK131
        refine Ops.go (v := (Value.slice A134 ((es ++ [(((ys ++ fo51).length : Nat) : Int)]).length) c135)) (by kernel_rfl) (Runs.append (ts := #[34, 34]) (ty := 34) (vs := [(Value.slice VA es.length vc), (Value.slice (some ⟨b112, 0, none⟩) 1 1)]) (by kernel_rfl) hr129) (d := (some 54)) (by kernel_rfl) rfl ?_
        have K143 := K120.trans K133 (U := none_) (fun i h1 h2 => h2) (fun i h1 h2 => by have h2 : ((Value.slice VA es.length vc)).ownBlock = some i := h2; exfalso; have := (World.ownsRow.lt F125 i h2).1; omega)
        clear K120
        have H144 := H121.keep K133 (by intro h; change ((Value.slice VA es.length vc)).ownBlock = some b1 at h; have := obVb1 b1 h; omega)
        clear H121
        have H145 := H122.keep K133 (by intro h; change ((Value.slice VA es.length vc)).ownBlock = some b8 at h; have := obVb8 b8 h; omega)
        clear H122
        have H146 := H123.keep K133 (by intro h; change ((Value.slice VA es.length vc)).ownBlock = some b16 at h; have := obVb16 b16 h; omega)
        clear H123
        have H147 := H124.keep K133 (by intro h; change ((Value.slice VA es.length vc)).ownBlock = some b25 at h; have := obVb25 b25 h; omega)
        clear H124
        have H148 := H115.keep K133 (by intro h; change ((Value.slice VA es.length vc)).ownBlock = some b112 at h; have := ob118 b112 h; omega)
        clear H115
        clear F125
        have F149 := own_keep F126 K133 (fun i hi hs => by have hs : ((Value.slice VA es.length vc)).ownBlock = some i := hs; exact oo105 i hi hs)
        clear F126
        clear K133 hr129 hK131 hg132
        refine Ops.put (t := 34) (b := b25) (off := 0) (v := (Value.slice A134 ((es ++ [(((ys ++ fo51).length : Nat) : Int)]).length) c135)) (ys := [(Value.slice A134 ((es ++ [(((ys ++ fo51).length : Nat) : Int)]).length) c135)]) (by kernel_rfl) (by kernel_rfl) H147 (by kernel_rfl) (d := none) (by kernel_rfl) rfl (fun w150 H151 K152 => ?_)
        clear H147
        have K153 := K143.trans K152 (U := none_) (fun i h1 h2 => h2) (fun i h1 h2 => by have h2 : i = b25 := h2; exfalso; omega)
        clear K143
        have H154 := H144.keep K152 (by intro h; change b1 = b25 at h; omega)
        clear H144
        have H155 := H145.keep K152 (by intro h; change b8 = b25 at h; omega)
        clear H145
        have H156 := H146.keep K152 (by intro h; change b16 = b25 at h; omega)
        clear H146
        have H157 := H148.keep K152 (by intro h; change b112 = b25 at h; omega)
        clear H148
        have F158 := own_keep F149 K152 (fun i hi hs => by have hs : i = b25 := hs; have := ob103 i hi; omega)
        clear F149
        have F159 := own_keep hO130 K152 (fun i hi hs => by have hs : i = b25 := hs; have := ob139 i hi; omega)
        clear hO130
        clear K152
        refine Ops.done (by kernel_rfl) ?_
        refine qr_region Open.wide (by kernel_rfl) (by kernel_rfl) ?_
        refine Ops.regs 2 [(2, (Value.pointer (some ⟨b1, 0, none⟩))), (3, (Value.pointer (some ⟨b8, 0, none⟩))), (4, (Value.pointer (some ⟨b16, 0, none⟩))), (5, (Value.slice A98 ((ys ++ fo51).length) c99)), (6, (Value.pointer (some ⟨b25, 0, none⟩))), (7, (i64 ((i : Nat) : Int))), (8, (Value.slice A57 fo51.length c58)), (9, (i64 er50)), (20, (Value.bool true)), (22, (i64 (IntKind.i64.wrap (((i : Nat) : Int) + 1)))), (37, (Value.bool false))] (j := 2) (by kernel_rfl) (by kernel_rfl) ?_
        have e160 : IntKind.i64.wrap (((i : Nat) : Int) + 1) = ((i + 1 : Nat) : Int) := by rw [wrap_i64 (by omega) (by omega)]; omega
        rw [e160]
        clear e160
        refine Ops.regs 1 [(2, (Value.pointer (some ⟨b1, 0, none⟩))), (3, (Value.pointer (some ⟨b8, 0, none⟩))), (4, (Value.pointer (some ⟨b16, 0, none⟩))), (5, (Value.slice A98 ((ys ++ fo51).length) c99)), (6, (Value.pointer (some ⟨b25, 0, none⟩))), (7, (i64 ((i + 1 : Nat) : Int))), (8, (Value.slice A57 fo51.length c58)), (9, (i64 er50)), (20, (Value.bool true)), (37, (Value.bool false))] (j := 3) (by kernel_rfl) (by kernel_rfl) ?_
        refine Ops.keep (R := [(2, (Value.pointer (some ⟨b1, 0, none⟩))), (3, (Value.pointer (some ⟨b8, 0, none⟩))), (4, (Value.pointer (some ⟨b16, 0, none⟩))), (5, (Value.slice A98 ((ys ++ fo51).length) c99)), (6, (Value.pointer (some ⟨b25, 0, none⟩))), (7, (i64 ((i + 1 : Nat) : Int)))]) (by kernel_rfl) ?_
        refine Ops.done (by kernel_rfl) ?_
        exact ⟨(A98, c99, ys ++ fo51, A134, c135, es ++ [(((ys ++ fo51).length : Nat) : Int)], i + 1), ⟨rfl, rfl, F158, ob100, ob101, ob102, ob103, oo142, F159, ob136, ob137, ob138, ob139, oo141, (hyn hy), (hen he), (hsn hsm), (by rw [List.length_append, hfo]; omega), (by omega), (by omega), K153, H154, H155, H156, H151⟩, (show l.length - (i + 1) < l.length - i from by omega)⟩
    · rw [h43]
      have p161 : ¬ (((i : Nat) : Int) < 30) := of_decide_eq_false h43
      refine qr_exit (id := 0) (by kernel_rfl) ?_
      refine qr_seq (by kernel_rfl) ?_
      refine qr_region Open.wide (by kernel_rfl) (by kernel_rfl) ?_
      refine Ops.go (v := (i64 cut)) (by kernel_rfl) (Runs.load (t := 3) (a := ⟨b8, 0, none⟩) (by kernel_rfl) (H38.loads (by kernel_rfl))) (d := (some 55)) (by kernel_rfl) rfl ?_
      refine Ops.regs 3 [(2, (Value.pointer (some ⟨b1, 0, none⟩))), (3, (Value.pointer (some ⟨b8, 0, none⟩))), (4, (Value.pointer (some ⟨b16, 0, none⟩))), (5, (Value.slice uA ys.length uc)), (6, (Value.pointer (some ⟨b25, 0, none⟩))), (55, (i64 cut)), (58, (i64 (IntKind.i64.wrap (((ys.length : Nat) : Int) + 1))))] (j := 4) (by kernel_rfl) (by kernel_rfl) ?_
      have e162 : IntKind.i64.wrap (((ys.length : Nat) : Int) + 1) = ((ys.length + 1 : Nat) : Int) := by rw [wrap_i64 (by omega) (by omega)]; omega
      rw [e162]
      clear e162
      refine Ops.call (by kernel_rfl) (d := (some 59)) (by kernel_rfl) (Count_nat _ cut (ys.length + 1) (by omega)) ?_
      rintro _ _ ⟨k163, rfl, hk164, rfl⟩
      refine ⟨_, _, rfl, rfl, ?_⟩
      refine Ops.put (t := 3) (b := b8) (off := 0) (v := (i64 ((k163 : Nat) : Int))) (ys := [(i64 ((k163 : Nat) : Int))]) (by kernel_rfl) (by kernel_rfl) H38 (by kernel_rfl) (d := none) (by kernel_rfl) rfl (fun w165 H166 K167 => ?_)
      clear H38
      have K168 := K36.trans K167 (U := none_) (fun i h1 h2 => h2) (fun i h1 h2 => by have h2 : i = b8 := h2; exfalso; omega)
      clear K36
      have H169 := H37.keep K167 (by intro h; change b1 = b8 at h; omega)
      clear H37
      have H170 := H39.keep K167 (by intro h; change b16 = b8 at h; omega)
      clear H39
      have H171 := H40.keep K167 (by intro h; change b25 = b8 at h; omega)
      clear H40
      have F172 := own_keep hOU K167 (fun i hi hs => by have hs : i = b8 := hs; have := obUb8 i hi; omega)
      clear hOU
      have F173 := own_keep hOV K167 (fun i hi hs => by have hs : i = b8 := hs; have := obVb8 i hi; omega)
      clear hOV
      clear K167
      refine Ops.done (by kernel_rfl) ?_
      refine qr_seq (by kernel_rfl) ?_
      refine qr_region Open.wide (by kernel_rfl) (by kernel_rfl) ?_
      refine Ops.new (o := rowL [(i64 0)] 3) (V := fun b => (Value.pointer (some ⟨b, 0, none⟩))) (by kernel_rfl) (d := (some 10)) (by kernel_rfl) (fun b => rfl) (fun b174 w175 hb176 H177 K178 hs179 => ?_)
      have lb174b1 : b1 < b174 := by have := H169.lt; omega
      have lb174b8 : b8 < b174 := by have := H166.lt; omega
      have lb174b16 : b16 < b174 := by have := H170.lt; omega
      have lb174b25 : b25 < b174 := by have := H171.lt; omega
      have nb174 : w.heap.size ≤ b174 := by have := K168.size; omega
      have ob180 : ∀ i, ((Value.slice uA ys.length uc)).ownBlock = some i → i < b174 := fun i hi => by have := (World.ownsRow.lt F172 i hi).2; omega
      have ob181 : ∀ i, ((Value.slice VA es.length vc)).ownBlock = some i → i < b174 := fun i hi => by have := (World.ownsRow.lt F173 i hi).2; omega
      have K182 := K168.trans K178 (U := none_) (fun i h1 h2 => h2) (fun i h1 h2 => by exact h2)
      clear K168
      have H183 := H169.keep K178 (fun h => h)
      clear H169
      have H184 := H166.keep K178 (fun h => h)
      clear H166
      have H185 := H170.keep K178 (fun h => h)
      clear H170
      have H186 := H171.keep K178 (fun h => h)
      clear H171
      have F187 := own_keep0 F172 K178
      clear F172
      have F188 := own_keep0 F173 K178
      clear F173
      clear K178 hs179
      refine Ops.put (t := 3) (b := b174) (off := 0) (v := (i64 0)) (ys := [(i64 0)]) (by kernel_rfl) (by kernel_rfl) H177 (by kernel_rfl) (d := none) (by kernel_rfl) rfl (fun w189 H190 K191 => ?_)
      clear H177
      have K192 := K182.trans K191 (U := none_) (fun i h1 h2 => h2) (fun i h1 h2 => by have h2 : i = b174 := h2; exfalso; omega)
      clear K182
      have H193 := H183.keep K191 (by intro h; change b1 = b174 at h; omega)
      clear H183
      have H194 := H184.keep K191 (by intro h; change b8 = b174 at h; omega)
      clear H184
      have H195 := H185.keep K191 (by intro h; change b16 = b174 at h; omega)
      clear H185
      have H196 := H186.keep K191 (by intro h; change b25 = b174 at h; omega)
      clear H186
      have F197 := own_keep F187 K191 (fun i hi hs => by have hs : i = b174 := hs; have := ob180 i hi; omega)
      clear F187
      have F198 := own_keep F188 K191 (fun i hi hs => by have hs : i = b174 := hs; have := ob181 i hi; omega)
      clear F188
      clear K191
      refine Ops.done (by kernel_rfl) ?_
      refine qr_seq (by kernel_rfl) ?_
      refine qr_region Open.wide (by kernel_rfl) (by kernel_rfl) ?_
      refine Ops.regs 1 [(2, (Value.pointer (some ⟨b1, 0, none⟩))), (3, (Value.pointer (some ⟨b8, 0, none⟩))), (4, (Value.pointer (some ⟨b16, 0, none⟩))), (6, (Value.pointer (some ⟨b25, 0, none⟩))), (10, (Value.pointer (some ⟨b174, 0, none⟩))), (60, (Value.slice uA ys.length uc))] (j := 1) (by kernel_rfl) (by kernel_rfl) ?_
      refine Ops.go (v := (i64 ((k163 : Nat) : Int))) (by kernel_rfl) (Runs.load (t := 3) (a := ⟨b8, 0, none⟩) (by kernel_rfl) (H194.loads (by kernel_rfl))) (d := (some 61)) (by kernel_rfl) rfl ?_
      have hcut := run_cut (sz := 1) (P := Try.prog) (w := w189) (t := 23) (A := uA) (n := ys.length) (c := uc) 0 k163 uc (lo := none) (hi := some (i64 ((k163 : Nat) : Int))) (mx := none) tyB.slice (by kernel_rfl) (.inl ⟨rfl, rfl⟩) (.inr ⟨_, rfl⟩) (.inl ⟨rfl, rfl⟩) (by omega) (by omega) (by omega)
      have hA0 : (if uc = 0 then uA else Option.map (fun q => Addr.add q (0 * 1)) uA) = uA := by cases uA <;> simp [Addr.add]
      rw [hA0, Nat.sub_zero, Nat.sub_zero] at hcut
      have F199 := RdB.take (OwnB.rd F197) (k := k163) (by omega)
      have htl : ((ys).take k163).length = k163 := by rw [List.length_take]; omega
      refine Ops.go (v := (Value.slice uA k163 uc)) (by kernel_rfl) (Runs.slice (by kernel_rfl) hcut) (d := (some 62)) (by kernel_rfl) rfl ?_
      clear hcut hA0
      refine Ops.call (by kernel_rfl) (d := (some 63)) (by kernel_rfl) (Frames_calls _ (Value.slice uA k163 uc) ((ys).take k163) F199 (by omega)) ?_
      rintro _ w203 ⟨b200, A201, c202, rfl, K204, H205, hO206, nb208⟩
      have ob209 : ∀ i, ((Value.slice A201 (((ys).take k163).length) c202)).ownBlock = some i → i ≠ b1 := fun i hi => by have := (World.ownsRow.lt hO206 i hi).1; have := H193.lt; omega
      have ob210 : ∀ i, ((Value.slice A201 (((ys).take k163).length) c202)).ownBlock = some i → i ≠ b8 := fun i hi => by have := (World.ownsRow.lt hO206 i hi).1; have := H194.lt; omega
      have ob211 : ∀ i, ((Value.slice A201 (((ys).take k163).length) c202)).ownBlock = some i → i ≠ b16 := fun i hi => by have := (World.ownsRow.lt hO206 i hi).1; have := H195.lt; omega
      have ob212 : ∀ i, ((Value.slice A201 (((ys).take k163).length) c202)).ownBlock = some i → i ≠ b25 := fun i hi => by have := (World.ownsRow.lt hO206 i hi).1; have := H196.lt; omega
      have ob213 : ∀ i, ((Value.slice A201 (((ys).take k163).length) c202)).ownBlock = some i → i ≠ b174 := fun i hi => by have := (World.ownsRow.lt hO206 i hi).1; have := H190.lt; omega
      have oo214 : ∀ i, ((Value.slice uA ys.length uc)).ownBlock = some i → ((Value.slice A201 (((ys).take k163).length) c202)).ownBlock = some i → False := fun i hi hs => by have := (World.ownsRow.lt hO206 i hs).1; have := (World.ownsRow.lt F197 i hi).2; omega
      have oo215 : ∀ i, ((Value.slice A201 (((ys).take k163).length) c202)).ownBlock = some i → ((Value.slice uA ys.length uc)).ownBlock = some i → False := fun i hi hs => oo214 i hs hi
      have oo216 : ∀ i, ((Value.slice VA es.length vc)).ownBlock = some i → ((Value.slice A201 (((ys).take k163).length) c202)).ownBlock = some i → False := fun i hi hs => by have := (World.ownsRow.lt hO206 i hs).1; have := (World.ownsRow.lt F198 i hi).2; omega
      have oo217 : ∀ i, ((Value.slice A201 (((ys).take k163).length) c202)).ownBlock = some i → ((Value.slice VA es.length vc)).ownBlock = some i → False := fun i hi hs => oo216 i hs hi
      have O207 := own_base hO206 K192.size
      have lb200b1 : b1 < b200 := by have := H193.lt; omega
      have lb200b8 : b8 < b200 := by have := H194.lt; omega
      have lb200b16 : b16 < b200 := by have := H195.lt; omega
      have lb200b25 : b25 < b200 := by have := H196.lt; omega
      have lb200b174 : b174 < b200 := by have := H190.lt; omega
      have nb200 : w.heap.size ≤ b200 := by have := K192.size; omega
      refine ⟨_, _, rfl, rfl, ?_⟩
      have K218 := K192.trans K204 (U := none_) (fun i h1 h2 => h2) (fun i h1 h2 => by exact h2)
      clear K192
      have H219 := H193.keep K204 (fun h => h)
      clear H193
      have H220 := H194.keep K204 (fun h => h)
      clear H194
      have H221 := H195.keep K204 (fun h => h)
      clear H195
      have H222 := H196.keep K204 (fun h => h)
      clear H196
      have H223 := H190.keep K204 (fun h => h)
      clear H190
      have F224 := own_keep0 F197 K204
      clear F197
      have F225 := own_keep0 F198 K204
      clear F198
      have F226 := (Rd.keep0 (by omega) F199 K204)
      clear F199
      clear K204
      refine Ops.regs 1 [(2, (Value.pointer (some ⟨b1, 0, none⟩))), (3, (Value.pointer (some ⟨b8, 0, none⟩))), (4, (Value.pointer (some ⟨b16, 0, none⟩))), (6, (Value.pointer (some ⟨b25, 0, none⟩))), (10, (Value.pointer (some ⟨b174, 0, none⟩))), (11, (Value.func (Fn.func 62) ⟨[]⟩ ⟨[(Value.pointer (some ⟨b200, 0, none⟩))]⟩))] (j := 5) (by kernel_rfl) (by kernel_rfl) ?_
      refine Ops.done (by kernel_rfl) ?_
      refine qr_seq (by kernel_rfl) ?_
      refine qr_seq (by kernel_rfl) ?_
      clear F224 obUb1 obUb8 obUb16 obUb25 ooUV ooVU ob180 oo214 oo215 F226
      refine qr_region Open.wide (by kernel_rfl) (by kernel_rfl) ?_
      refine Ops.regs 2 [(2, (Value.pointer (some ⟨b1, 0, none⟩))), (3, (Value.pointer (some ⟨b8, 0, none⟩))), (4, (Value.pointer (some ⟨b16, 0, none⟩))), (6, (Value.pointer (some ⟨b25, 0, none⟩))), (10, (Value.pointer (some ⟨b174, 0, none⟩))), (11, (Value.func (Fn.func 62) ⟨[]⟩ ⟨[(Value.pointer (some ⟨b200, 0, none⟩))]⟩)), (65, (Value.bool false))] (j := 2) (by kernel_rfl) (by kernel_rfl) ?_
      refine Ops.done (by kernel_rfl) ?_
      refine qr_else (o := .tmp 65) (by kernel_rfl) rfl ?_
      refine qr_skip (by kernel_rfl) ?_
      refine qr_seq (by kernel_rfl) ?_
      refine qr_seq (by kernel_rfl) ?_
      refine qr_region Open.wide (by kernel_rfl) (by kernel_rfl) ?_
      refine Ops.regs 1 [(2, (Value.pointer (some ⟨b1, 0, none⟩))), (3, (Value.pointer (some ⟨b8, 0, none⟩))), (4, (Value.pointer (some ⟨b16, 0, none⟩))), (6, (Value.pointer (some ⟨b25, 0, none⟩))), (10, (Value.pointer (some ⟨b174, 0, none⟩))), (66, (Value.func (Fn.func 62) ⟨[]⟩ ⟨[(Value.pointer (some ⟨b200, 0, none⟩))]⟩))] (j := 1) (by kernel_rfl) (by kernel_rfl) ?_
      refine Ops.done (by kernel_rfl) ?_
      refine qr_block (id := 2) (by kernel_rfl) ?_
      have zb1 := H219.lt
      have zb8 := H220.lt
      have zb25 := H222.lt
      have zb174 := H223.lt
      have zb200 := H205.lt
      have zb16 := H221.lt
      have htd := told (k := k163) hi hsm
      subst hy
      subst he
      have hbl : ((allB l i).take k163).length ≤ 140737488351232 := by rw [List.length_take]; omega
      obtain ⟨NN, hNN⟩ : ∃ NN, NN = (framesB (((allB l i)).take k163)).length := ⟨_, rfl⟩
      rw [← hNN] at htd
      refine qr_keep (R := [(2, (Value.pointer (some ⟨b1, 0, none⟩))), (3, (Value.pointer (some ⟨b8, 0, none⟩))), (4, (Value.pointer (some ⟨b16, 0, none⟩))), (6, (Value.pointer (some ⟨b25, 0, none⟩))), (10, (Value.pointer (some ⟨b174, 0, none⟩))), (66, (Value.func (Fn.func 62) ⟨[]⟩ ⟨[(Value.pointer (some ⟨b200, 0, none⟩))]⟩))]) (by kernel_rfl) ?_
      refine qr_each (g := .tmp 66) (t := 67) (m := 11) (A := fun k x W => OwnB W w203.heap.size 5 x ((framesB (((allB l i)).take k163)).getD k [])) (N := NN) (w0 := w203) (T := fun i => i = b174 ∨ w203.heap.size ≤ i) (by kernel_rfl) (by decide) (gf := 62) (lb := [ptr b200]) rfl (enters Try.func62 (by kernel_rfl) (by kernel_rfl))
        (by rw [hNN]; exact Frames1_tells w203 9 b200 A201 c202 (((allB l i)).take k163) (fun i => i = b174 ∨ w203.heap.size ≤ i) H205 (by intro h; change b200 = b174 ∨ w203.heap.size ≤ b200 at h; omega) (OwnB.rd O207) (fun b hb h => by have q1 := ob213 b hb; have q2 := (World.ownsRow.lt O207 b hb).2; have h : b = b174 ∨ w203.heap.size ≤ b := h; omega) hbl)
        (fun i h => .inr h) ((Keeps.refl _).mono (fun _ _ h => h.elim)) (fun j W => Has W b174 (rowL [i64 ((j : Nat) : Int)] 3) ∧ Keeps (fun i => i = b174 ∨ w203.heap.size ≤ i) w203 W)
        (fun k W W' h lo => ⟨lo.has h.1, h.2.trans lo.keeps (fun _ _ h => h) (fun _ _ h => .inr h)⟩) (fun k v W W' h lo => lo.own h) ⟨H223, (Keeps.refl _).mono (fun _ _ h => h.elim)⟩ (fun v => ((67, v) :: [(2, (Value.pointer (some ⟨b1, 0, none⟩))), (3, (Value.pointer (some ⟨b8, 0, none⟩))), (4, (Value.pointer (some ⟨b16, 0, none⟩))), (6, (Value.pointer (some ⟨b25, 0, none⟩))), (10, (Value.pointer (some ⟨b174, 0, none⟩))), (66, (Value.func (Fn.func 62) ⟨[]⟩ ⟨[(Value.pointer (some ⟨b200, 0, none⟩))]⟩))])) (fun v => [(2, (Value.pointer (some ⟨b1, 0, none⟩))), (3, (Value.pointer (some ⟨b8, 0, none⟩))), (4, (Value.pointer (some ⟨b16, 0, none⟩))), (6, (Value.pointer (some ⟨b25, 0, none⟩))), (10, (Value.pointer (some ⟨b174, 0, none⟩))), (12, v)]) (fun v => rfl) ?_ ?_ ?_
      · intro ln v W
        refine qr_region (Open.round ln) (by kernel_rfl) (by kernel_rfl) ?_
        refine Ops.regs 1 [(2, (Value.pointer (some ⟨b1, 0, none⟩))), (3, (Value.pointer (some ⟨b8, 0, none⟩))), (4, (Value.pointer (some ⟨b16, 0, none⟩))), (6, (Value.pointer (some ⟨b25, 0, none⟩))), (10, (Value.pointer (some ⟨b174, 0, none⟩))), (12, v)] (j := 1) (by kernel_rfl) (by kernel_rfl) ?_
        refine Ops.done (by kernel_rfl) ?_
        exact ⟨rfl, rfl, rfl, rfl⟩
      · rintro ln j v W ⟨hj10, hk⟩ hjN hO
        have hkn : Keeps none_ w W := K218.trans hk (U := none_) (fun _ _ h => h) (fun i hi h => by rcases h with h | h; (omega); (have := K218.size; omega))
        refine qr_keep (R := [(2, (Value.pointer (some ⟨b1, 0, none⟩))), (3, (Value.pointer (some ⟨b8, 0, none⟩))), (6, (Value.pointer (some ⟨b25, 0, none⟩))), (10, (Value.pointer (some ⟨b174, 0, none⟩))), (12, v)]) (by kernel_rfl) ?_
        refine qr_mono (Streams_body W ln LA lc l VA vc i k163 j b1 b8 b25 b174 v ((framesB (((allB l i)).take k163)).getD j []) (H219.keep hk (by intro h; change b1 = b174 ∨ w203.heap.size ≤ b1 at h; omega)) (H220.keep hk (by intro h; change b8 = b174 ∨ w203.heap.size ≤ b8 at h; omega)) (H222.keep hk (by intro h; change b25 = b174 ∨ w203.heap.size ≤ b25 at h; omega)) hj10 (by omega) (Rd.keep0 (by omega) hL hkn) (PartsIn.keep hIn hkn) (Rd.keep (by omega) (OwnT.rd F225) hk (fun b hb h => by have q1 := ob181 b hb; have q2 := (World.ownsRow.lt F225 b hb).2; have h : b = b174 ∨ w203.heap.size ≤ b := h; omega)) ?_ (OwnB.rd hO) (htd.2.1 j hjN).2 (by omega) hi hi30 (htd.2.1 j hjN).1) ?_
        · exact fun q hq => by have := ob181 q hq; omega
        · rintro ds e L W2 ⟨rfl, k2, h2⟩
          exact ⟨rfl, keepsFrom_of k2 (fun i hi hB => by exfalso; have hi : i = b174 := hi; omega), k2.mono (fun i _ h => .inl h), h2, hk.trans k2 (fun _ _ h => h) (fun i _ h => .inl h)⟩
      · rintro D W hDw ⟨hj10, hk⟩ hD
        have K227 : Keeps none_ w W := K218.trans hk (U := none_) (fun _ _ h => h) (fun i hi h => by rcases h with h | h; (omega); (have := K218.size; omega))
        have H228 := (H219.keep hk (by intro h; change b1 = b174 ∨ w203.heap.size ≤ b1 at h; omega))
        have H229 := (H220.keep hk (by intro h; change b8 = b174 ∨ w203.heap.size ≤ b8 at h; omega))
        have H230 := (H221.keep hk (by intro h; change b16 = b174 ∨ w203.heap.size ≤ b16 at h; omega))
        have H231 := (H222.keep hk (by intro h; change b25 = b174 ∨ w203.heap.size ≤ b25 at h; omega))
        have H232 := (H205.keep hk (by intro h; change b200 = b174 ∨ w203.heap.size ≤ b200 at h; omega))
        have F233 := (Rd.keep (by omega) (OwnT.rd F225) hk (fun b hb h => by have q1 := ob181 b hb; have q2 := (World.ownsRow.lt F225 b hb).2; have h : b = b174 ∨ w203.heap.size ≤ b := h; omega))
        clear H219 H220 H221 H222 H223 H205 F225 O207 K218
        have hbD : b1 < D ∧ b8 < D ∧ b16 < D ∧ b25 < D ∧ b174 < D ∧ b200 < D := by omega
        have hel := endsI_len l i
        have hn1 := htd.1
        have hn2 := htd.2.2
        have hwD : w.heap.size ≤ D := by have := K227.size; omega
        have hD1 : Has W D (.deferred (some [])) := hD
        clear hD
        refine qr_seq (by kernel_rfl) ?_
        refine qr_draw Open.wide (fun wz => Keeps (fun i => i = b16) W wz) 16 (by kernel_rfl) (by kernel_rfl) (by kernel_rfl) (by kernel_rfl) (fun w234 K235 _ _ => ⟨(K235.mono (fun _ _ h => h.elim)), ?_⟩)
        have K236 := K227.trans K235 (U := none_) (fun i h1 h2 => h2) (fun i h1 h2 => by exact h2)
        clear K227
        have H237 := H228.keep K235 (fun h => h)
        clear H228
        have H238 := H229.keep K235 (fun h => h)
        clear H229
        have H239 := H230.keep K235 (fun h => h)
        clear H230
        have H240 := H231.keep K235 (fun h => h)
        clear H231
        have H241 := hj10.keep K235 (fun h => h)
        clear hj10
        have H242 := H232.keep K235 (fun h => h)
        clear H232
        have H243 := hD1.keep K235 (fun h => h)
        clear hD1
        have F244 := (Rd.keep0 (by omega) F233 K235)
        clear F233
        refine Dr.strong (S' := (fun wz => Keeps (fun i => i = b16) w234 wz)) ((Keeps.refl w234).mono (fun _ _ h => h.elim)) (fun wz hx => K235.trans hx (fun i _ h => h.elim) (fun _ _ h => h)) ?_
        clear K235
        refine Dr.take (i := 0) (v := (i64 ((NN : Nat) : Int))) (by kernel_rfl) (by kernel_rfl) (fun wz hS => Runs.load (t := 3) (a := ⟨b174, 0, none⟩) (by kernel_rfl) ((H241.keep hS (by intro h; change b174 = b16 at h; omega)).loads (by kernel_rfl))) (d := (some 92)) (by kernel_rfl) rfl ?_
        refine Dr.take (i := 1) (v := (Value.slice VA ((endsI l i).length) vc)) (by kernel_rfl) (by kernel_rfl) (fun wz hS => Runs.load (t := 34) (a := ⟨b25, 0, none⟩) (by kernel_rfl) ((H240.keep hS (by intro h; change b25 = b16 at h; omega)).loads (by kernel_rfl))) (d := (some 93)) (by kernel_rfl) rfl ?_
        refine Dr.takes (fuel' := 11) (is' := [4, 3, 2, 1, 0]) [2, 3, 4] [(3, (Value.pointer (some ⟨b8, 0, none⟩))), (4, (Value.pointer (some ⟨b16, 0, none⟩))), (6, (Value.pointer (some ⟨b25, 0, none⟩))), (10, (Value.pointer (some ⟨b174, 0, none⟩))), (96, (Value.bool (((NN : Nat) : Int) == (((endsI l i).length : Nat) : Int))))] (by kernel_rfl) rfl (by kernel_rfl) ?_
        refine Dr.split (((NN : Nat) : Int) == (((endsI l i).length : Nat) : Int)) (fun h245 => ?_) (fun h245 => ?_)
        · rw [h245]
          have p246 : ((NN : Nat) : Int) = (((endsI l i).length : Nat) : Int) := of_beq_t h245
          refine Dr.takes (fuel' := 3) (is' := [12, 11, 10, 9, 8, 7, 6, 5, 4, 3, 2, 1, 0]) [5, 6, 7, 8, 9, 10, 11, 12] [(4, (Value.pointer (some ⟨b16, 0, none⟩))), (104, (Value.bool true))] (by kernel_rfl) rfl (by kernel_rfl) ?_
          refine Dr.call (i := 13) (by kernel_rfl) (by kernel_rfl) (d := (some 105)) (by kernel_rfl) (fun _ => known_calls _) ?_
          rintro _ w247 ⟨rfl, K248⟩
          have K249 := K236.trans K248 (U := none_) (fun i h1 h2 => h2) (fun i h1 h2 => by exact h2)
          clear K236
          have H250 := H237.keep K248 (fun h => h)
          clear H237
          have H251 := H238.keep K248 (fun h => h)
          clear H238
          have H252 := H239.keep K248 (fun h => h)
          clear H239
          have H253 := H240.keep K248 (fun h => h)
          clear H240
          have H254 := H241.keep K248 (fun h => h)
          clear H241
          have H255 := H242.keep K248 (fun h => h)
          clear H242
          have H256 := H243.keep K248 (fun h => h)
          clear H243
          have F257 := (Rd.keep0 (by omega) F244 K248)
          clear F244
          refine ⟨_, _, rfl, rfl, (K248.mono (fun _ _ h => h.elim)), ?_⟩
          refine Dr.strong (S' := (fun wz => Keeps (fun i => i = b16) w247 wz)) ((Keeps.refl w247).mono (fun _ _ h => h.elim)) (fun wz hx => K248.trans hx (fun i _ h => h.elim) (fun _ _ h => h)) ?_
          clear K248
          refine Dr.takes (fuel' := 1) (is' := [14, 13, 12, 11, 10, 9, 8, 7, 6, 5, 4, 3, 2, 1, 0]) [14] [(4, (Value.pointer (some ⟨b16, 0, none⟩))), (106, (Value.bool true))] (by kernel_rfl) rfl (by kernel_rfl) ?_
          refine Dr.put (i := 15) (t := 4) (b := b16) (off := 0) (v := (Value.bool true)) (ys := [(Value.bool true)]) (by kernel_rfl) (by kernel_rfl) (by kernel_rfl) H252 (by kernel_rfl) (d := none) (by kernel_rfl) rfl (fun w258 H259 K260 => ?_)
          clear H252
          have K261 := K249.trans K260 (U := none_) (fun i h1 h2 => h2) (fun i h1 h2 => by have h2 : i = b16 := h2; exfalso; omega)
          clear K249
          have H262 := H250.keep K260 (by intro h; change b1 = b16 at h; omega)
          clear H250
          have H263 := H251.keep K260 (by intro h; change b8 = b16 at h; omega)
          clear H251
          have H264 := H253.keep K260 (by intro h; change b25 = b16 at h; omega)
          clear H253
          have H265 := H254.keep K260 (by intro h; change b174 = b16 at h; omega)
          clear H254
          have H266 := H255.keep K260 (by intro h; change b200 = b16 at h; omega)
          clear H255
          have H267 := H256.keep K260 (by intro h; change D = b16 at h; omega)
          clear H256
          have F268 := Rd.keep (by omega) F257 K260 (fun i hi hs => by have hs : i = b16 := hs; have := obVb16 i hi; omega)
          clear F257
          refine ⟨K260, ?_⟩
          refine Dr.strong (S' := (fun wz => Keeps (fun i => i = b16) w258 wz)) ((Keeps.refl w258).mono (fun _ _ h => h.elim)) (fun wz hx => K260.trans hx (fun i _ h => by have h : i = b16 := h; show i = b16; omega) (fun _ _ h => h)) ?_
          clear K260
          refine Dr.done (by kernel_rfl) ?_
          refine qr_ret (by kernel_rfl) ?_
          refine retR_one (D := D) H267 (v := (Value.bool true)) (retv_cell rfl rfl (((Loose.put (B := D) (.deferred none) (Nat.le_refl _) H267 rfl).has H259).loads (by kernel_rfl))) ?_
          exact ⟨rfl, (K261.trans (Loose.put (B := D) (.deferred none) (Nat.le_refl _) H267 rfl).keeps (fun _ _ h => h) (fun i hi h => by have h : D ≤ i := h; omega))⟩
        · rw [h245]
          have p269 : ¬ (((NN : Nat) : Int) = (((endsI l i).length : Nat) : Int)) := of_beq_f h245
          refine Dr.take (i := 5) (v := (Value.slice VA ((endsI l i).length) vc)) (by kernel_rfl) (by kernel_rfl) (fun wz hS => Runs.load (t := 34) (a := ⟨b25, 0, none⟩) (by kernel_rfl) ((H240.keep hS (by intro h; change b25 = b16 at h; omega)).loads (by kernel_rfl))) (d := (some 97)) (by kernel_rfl) rfl ?_
          refine Dr.take (i := 6) (v := (i64 ((NN : Nat) : Int))) (by kernel_rfl) (by kernel_rfl) (fun wz hS => Runs.load (t := 3) (a := ⟨b174, 0, none⟩) (by kernel_rfl) ((H241.keep hS (by intro h; change b174 = b16 at h; omega)).loads (by kernel_rfl))) (d := (some 98)) (by kernel_rfl) rfl ?_
          obtain ⟨rb270, ro271, y, hA272, hx273⟩ := RdT.open F244 rfl (k := NN) (by omega)
          have hye := endsI_at hx273
          refine Dr.take (i := 7) (v := (Value.pointer (some ⟨rb270, ro271 + NN, none⟩))) (by kernel_rfl) (by kernel_rfl) (fun wz hS => Runs.ixSliceE (k := IntKind.i64) (t := 34) (len := ((endsI l i).length)) (cap := vc) (s := 1) (off' := ro271 + NN) (i := ((NN : Nat) : Int)) hA272 (by kernel_rfl) (by kernel_rfl) (by omega) (by omega) (by omega)) (d := (some 99)) (by kernel_rfl) rfl ?_
          refine Dr.take (i := 8) (v := (i64 y)) (by kernel_rfl) (by kernel_rfl) (fun wz hS => Runs.load (t := 3) (a := ⟨rb270, ro271 + NN, none⟩) (by kernel_rfl) (RdT.ldu (f := icell) (x := y) icell_two (Rd.keep (by omega) F244 hS (fun i hi hs => by have hs : i = b16 := hs; have := obVb16 i hi; omega)) (by kernel_rfl) hA272 hx273 rfl)) (d := (some 100)) (by kernel_rfl) rfl ?_
          refine Dr.take (i := 9) (v := (i64 ((k163 : Nat) : Int))) (by kernel_rfl) (by kernel_rfl) (fun wz hS => Runs.load (t := 3) (a := ⟨b8, 0, none⟩) (by kernel_rfl) ((H238.keep hS (by intro h; change b8 = b16 at h; omega)).loads (by kernel_rfl))) (d := (some 101)) (by kernel_rfl) rfl ?_
          refine Dr.takes (fuel' := 3) (is' := [12, 11, 10, 9, 8, 7, 6, 5, 4, 3, 2, 1, 0]) [10, 11, 12] [(4, (Value.pointer (some ⟨b16, 0, none⟩))), (104, (Value.bool (decide (y > ((k163 : Nat) : Int)))))] (by kernel_rfl) rfl (by kernel_rfl) ?_
          have h274 : (decide (y > ((k163 : Nat) : Int))) = true := decide_eq_true (by omega)
          rw [h274]
          refine Dr.call (i := 13) (by kernel_rfl) (by kernel_rfl) (d := (some 105)) (by kernel_rfl) (fun _ => known_calls _) ?_
          rintro _ w275 ⟨rfl, K276⟩
          have K277 := K236.trans K276 (U := none_) (fun i h1 h2 => h2) (fun i h1 h2 => by exact h2)
          clear K236
          have H278 := H237.keep K276 (fun h => h)
          clear H237
          have H279 := H238.keep K276 (fun h => h)
          clear H238
          have H280 := H239.keep K276 (fun h => h)
          clear H239
          have H281 := H240.keep K276 (fun h => h)
          clear H240
          have H282 := H241.keep K276 (fun h => h)
          clear H241
          have H283 := H242.keep K276 (fun h => h)
          clear H242
          have H284 := H243.keep K276 (fun h => h)
          clear H243
          have F285 := (Rd.keep0 (by omega) F244 K276)
          clear F244
          refine ⟨_, _, rfl, rfl, (K276.mono (fun _ _ h => h.elim)), ?_⟩
          refine Dr.strong (S' := (fun wz => Keeps (fun i => i = b16) w275 wz)) ((Keeps.refl w275).mono (fun _ _ h => h.elim)) (fun wz hx => K276.trans hx (fun i _ h => h.elim) (fun _ _ h => h)) ?_
          clear K276
          refine Dr.takes (fuel' := 1) (is' := [14, 13, 12, 11, 10, 9, 8, 7, 6, 5, 4, 3, 2, 1, 0]) [14] [(4, (Value.pointer (some ⟨b16, 0, none⟩))), (106, (Value.bool true))] (by kernel_rfl) rfl (by kernel_rfl) ?_
          refine Dr.put (i := 15) (t := 4) (b := b16) (off := 0) (v := (Value.bool true)) (ys := [(Value.bool true)]) (by kernel_rfl) (by kernel_rfl) (by kernel_rfl) H280 (by kernel_rfl) (d := none) (by kernel_rfl) rfl (fun w286 H287 K288 => ?_)
          clear H280
          have K289 := K277.trans K288 (U := none_) (fun i h1 h2 => h2) (fun i h1 h2 => by have h2 : i = b16 := h2; exfalso; omega)
          clear K277
          have H290 := H278.keep K288 (by intro h; change b1 = b16 at h; omega)
          clear H278
          have H291 := H279.keep K288 (by intro h; change b8 = b16 at h; omega)
          clear H279
          have H292 := H281.keep K288 (by intro h; change b25 = b16 at h; omega)
          clear H281
          have H293 := H282.keep K288 (by intro h; change b174 = b16 at h; omega)
          clear H282
          have H294 := H283.keep K288 (by intro h; change b200 = b16 at h; omega)
          clear H283
          have H295 := H284.keep K288 (by intro h; change D = b16 at h; omega)
          clear H284
          have F296 := Rd.keep (by omega) F285 K288 (fun i hi hs => by have hs : i = b16 := hs; have := obVb16 i hi; omega)
          clear F285
          refine ⟨K288, ?_⟩
          refine Dr.strong (S' := (fun wz => Keeps (fun i => i = b16) w286 wz)) ((Keeps.refl w286).mono (fun _ _ h => h.elim)) (fun wz hx => K288.trans hx (fun i _ h => by have h : i = b16 := h; show i = b16; omega) (fun _ _ h => h)) ?_
          clear K288
          refine Dr.done (by kernel_rfl) ?_
          refine qr_ret (by kernel_rfl) ?_
          refine retR_one (D := D) H295 (v := (Value.bool true)) (retv_cell rfl rfl (((Loose.put (B := D) (.deferred none) (Nat.le_refl _) H295 rfl).has H287).loads (by kernel_rfl))) ?_
          exact ⟨rfl, (K289.trans (Loose.put (B := D) (.deferred none) (Nat.le_refl _) H295 rfl).keeps (fun _ _ h => h) (fun i hi h => by have h : D ≤ i := h; omega))⟩
  · rw [h41]
    have p297 : ¬ (((i : Nat) : Int) < ((l.length : Nat) : Int)) := of_decide_eq_false h41
    refine Ops.regs 3 [(2, (Value.pointer (some ⟨b1, 0, none⟩))), (3, (Value.pointer (some ⟨b8, 0, none⟩))), (4, (Value.pointer (some ⟨b16, 0, none⟩))), (5, (Value.slice uA ys.length uc)), (6, (Value.pointer (some ⟨b25, 0, none⟩))), (7, (i64 ((i : Nat) : Int))), (20, (Value.bool false))] (j := 8) (by kernel_rfl) (by kernel_rfl) ?_
    refine Ops.done (by kernel_rfl) ?_
    refine qr_else (o := .tmp 20) (by kernel_rfl) rfl ?_
    refine qr_exit (id := 0) (by kernel_rfl) ?_
    refine qr_seq (by kernel_rfl) ?_
    refine qr_region Open.wide (by kernel_rfl) (by kernel_rfl) ?_
    refine Ops.go (v := (i64 cut)) (by kernel_rfl) (Runs.load (t := 3) (a := ⟨b8, 0, none⟩) (by kernel_rfl) (H38.loads (by kernel_rfl))) (d := (some 55)) (by kernel_rfl) rfl ?_
    refine Ops.regs 3 [(2, (Value.pointer (some ⟨b1, 0, none⟩))), (3, (Value.pointer (some ⟨b8, 0, none⟩))), (4, (Value.pointer (some ⟨b16, 0, none⟩))), (5, (Value.slice uA ys.length uc)), (6, (Value.pointer (some ⟨b25, 0, none⟩))), (55, (i64 cut)), (58, (i64 (IntKind.i64.wrap (((ys.length : Nat) : Int) + 1))))] (j := 4) (by kernel_rfl) (by kernel_rfl) ?_
    have e298 : IntKind.i64.wrap (((ys.length : Nat) : Int) + 1) = ((ys.length + 1 : Nat) : Int) := by rw [wrap_i64 (by omega) (by omega)]; omega
    rw [e298]
    clear e298
    refine Ops.call (by kernel_rfl) (d := (some 59)) (by kernel_rfl) (Count_nat _ cut (ys.length + 1) (by omega)) ?_
    rintro _ _ ⟨k299, rfl, hk300, rfl⟩
    refine ⟨_, _, rfl, rfl, ?_⟩
    refine Ops.put (t := 3) (b := b8) (off := 0) (v := (i64 ((k299 : Nat) : Int))) (ys := [(i64 ((k299 : Nat) : Int))]) (by kernel_rfl) (by kernel_rfl) H38 (by kernel_rfl) (d := none) (by kernel_rfl) rfl (fun w301 H302 K303 => ?_)
    clear H38
    have K304 := K36.trans K303 (U := none_) (fun i h1 h2 => h2) (fun i h1 h2 => by have h2 : i = b8 := h2; exfalso; omega)
    clear K36
    have H305 := H37.keep K303 (by intro h; change b1 = b8 at h; omega)
    clear H37
    have H306 := H39.keep K303 (by intro h; change b16 = b8 at h; omega)
    clear H39
    have H307 := H40.keep K303 (by intro h; change b25 = b8 at h; omega)
    clear H40
    have F308 := own_keep hOU K303 (fun i hi hs => by have hs : i = b8 := hs; have := obUb8 i hi; omega)
    clear hOU
    have F309 := own_keep hOV K303 (fun i hi hs => by have hs : i = b8 := hs; have := obVb8 i hi; omega)
    clear hOV
    clear K303
    refine Ops.done (by kernel_rfl) ?_
    refine qr_seq (by kernel_rfl) ?_
    refine qr_region Open.wide (by kernel_rfl) (by kernel_rfl) ?_
    refine Ops.new (o := rowL [(i64 0)] 3) (V := fun b => (Value.pointer (some ⟨b, 0, none⟩))) (by kernel_rfl) (d := (some 10)) (by kernel_rfl) (fun b => rfl) (fun b310 w311 hb312 H313 K314 hs315 => ?_)
    have lb310b1 : b1 < b310 := by have := H305.lt; omega
    have lb310b8 : b8 < b310 := by have := H302.lt; omega
    have lb310b16 : b16 < b310 := by have := H306.lt; omega
    have lb310b25 : b25 < b310 := by have := H307.lt; omega
    have nb310 : w.heap.size ≤ b310 := by have := K304.size; omega
    have ob316 : ∀ i, ((Value.slice uA ys.length uc)).ownBlock = some i → i < b310 := fun i hi => by have := (World.ownsRow.lt F308 i hi).2; omega
    have ob317 : ∀ i, ((Value.slice VA es.length vc)).ownBlock = some i → i < b310 := fun i hi => by have := (World.ownsRow.lt F309 i hi).2; omega
    have K318 := K304.trans K314 (U := none_) (fun i h1 h2 => h2) (fun i h1 h2 => by exact h2)
    clear K304
    have H319 := H305.keep K314 (fun h => h)
    clear H305
    have H320 := H302.keep K314 (fun h => h)
    clear H302
    have H321 := H306.keep K314 (fun h => h)
    clear H306
    have H322 := H307.keep K314 (fun h => h)
    clear H307
    have F323 := own_keep0 F308 K314
    clear F308
    have F324 := own_keep0 F309 K314
    clear F309
    clear K314 hs315
    refine Ops.put (t := 3) (b := b310) (off := 0) (v := (i64 0)) (ys := [(i64 0)]) (by kernel_rfl) (by kernel_rfl) H313 (by kernel_rfl) (d := none) (by kernel_rfl) rfl (fun w325 H326 K327 => ?_)
    clear H313
    have K328 := K318.trans K327 (U := none_) (fun i h1 h2 => h2) (fun i h1 h2 => by have h2 : i = b310 := h2; exfalso; omega)
    clear K318
    have H329 := H319.keep K327 (by intro h; change b1 = b310 at h; omega)
    clear H319
    have H330 := H320.keep K327 (by intro h; change b8 = b310 at h; omega)
    clear H320
    have H331 := H321.keep K327 (by intro h; change b16 = b310 at h; omega)
    clear H321
    have H332 := H322.keep K327 (by intro h; change b25 = b310 at h; omega)
    clear H322
    have F333 := own_keep F323 K327 (fun i hi hs => by have hs : i = b310 := hs; have := ob316 i hi; omega)
    clear F323
    have F334 := own_keep F324 K327 (fun i hi hs => by have hs : i = b310 := hs; have := ob317 i hi; omega)
    clear F324
    clear K327
    refine Ops.done (by kernel_rfl) ?_
    refine qr_seq (by kernel_rfl) ?_
    refine qr_region Open.wide (by kernel_rfl) (by kernel_rfl) ?_
    refine Ops.regs 1 [(2, (Value.pointer (some ⟨b1, 0, none⟩))), (3, (Value.pointer (some ⟨b8, 0, none⟩))), (4, (Value.pointer (some ⟨b16, 0, none⟩))), (6, (Value.pointer (some ⟨b25, 0, none⟩))), (10, (Value.pointer (some ⟨b310, 0, none⟩))), (60, (Value.slice uA ys.length uc))] (j := 1) (by kernel_rfl) (by kernel_rfl) ?_
    refine Ops.go (v := (i64 ((k299 : Nat) : Int))) (by kernel_rfl) (Runs.load (t := 3) (a := ⟨b8, 0, none⟩) (by kernel_rfl) (H330.loads (by kernel_rfl))) (d := (some 61)) (by kernel_rfl) rfl ?_
    have hcut := run_cut (sz := 1) (P := Try.prog) (w := w325) (t := 23) (A := uA) (n := ys.length) (c := uc) 0 k299 uc (lo := none) (hi := some (i64 ((k299 : Nat) : Int))) (mx := none) tyB.slice (by kernel_rfl) (.inl ⟨rfl, rfl⟩) (.inr ⟨_, rfl⟩) (.inl ⟨rfl, rfl⟩) (by omega) (by omega) (by omega)
    have hA0 : (if uc = 0 then uA else Option.map (fun q => Addr.add q (0 * 1)) uA) = uA := by cases uA <;> simp [Addr.add]
    rw [hA0, Nat.sub_zero, Nat.sub_zero] at hcut
    have F335 := RdB.take (OwnB.rd F333) (k := k299) (by omega)
    have htl : ((ys).take k299).length = k299 := by rw [List.length_take]; omega
    refine Ops.go (v := (Value.slice uA k299 uc)) (by kernel_rfl) (Runs.slice (by kernel_rfl) hcut) (d := (some 62)) (by kernel_rfl) rfl ?_
    clear hcut hA0
    refine Ops.call (by kernel_rfl) (d := (some 63)) (by kernel_rfl) (Frames_calls _ (Value.slice uA k299 uc) ((ys).take k299) F335 (by omega)) ?_
    rintro _ w339 ⟨b336, A337, c338, rfl, K340, H341, hO342, nb344⟩
    have ob345 : ∀ i, ((Value.slice A337 (((ys).take k299).length) c338)).ownBlock = some i → i ≠ b1 := fun i hi => by have := (World.ownsRow.lt hO342 i hi).1; have := H329.lt; omega
    have ob346 : ∀ i, ((Value.slice A337 (((ys).take k299).length) c338)).ownBlock = some i → i ≠ b8 := fun i hi => by have := (World.ownsRow.lt hO342 i hi).1; have := H330.lt; omega
    have ob347 : ∀ i, ((Value.slice A337 (((ys).take k299).length) c338)).ownBlock = some i → i ≠ b16 := fun i hi => by have := (World.ownsRow.lt hO342 i hi).1; have := H331.lt; omega
    have ob348 : ∀ i, ((Value.slice A337 (((ys).take k299).length) c338)).ownBlock = some i → i ≠ b25 := fun i hi => by have := (World.ownsRow.lt hO342 i hi).1; have := H332.lt; omega
    have ob349 : ∀ i, ((Value.slice A337 (((ys).take k299).length) c338)).ownBlock = some i → i ≠ b310 := fun i hi => by have := (World.ownsRow.lt hO342 i hi).1; have := H326.lt; omega
    have oo350 : ∀ i, ((Value.slice uA ys.length uc)).ownBlock = some i → ((Value.slice A337 (((ys).take k299).length) c338)).ownBlock = some i → False := fun i hi hs => by have := (World.ownsRow.lt hO342 i hs).1; have := (World.ownsRow.lt F333 i hi).2; omega
    have oo351 : ∀ i, ((Value.slice A337 (((ys).take k299).length) c338)).ownBlock = some i → ((Value.slice uA ys.length uc)).ownBlock = some i → False := fun i hi hs => oo350 i hs hi
    have oo352 : ∀ i, ((Value.slice VA es.length vc)).ownBlock = some i → ((Value.slice A337 (((ys).take k299).length) c338)).ownBlock = some i → False := fun i hi hs => by have := (World.ownsRow.lt hO342 i hs).1; have := (World.ownsRow.lt F334 i hi).2; omega
    have oo353 : ∀ i, ((Value.slice A337 (((ys).take k299).length) c338)).ownBlock = some i → ((Value.slice VA es.length vc)).ownBlock = some i → False := fun i hi hs => oo352 i hs hi
    have O343 := own_base hO342 K328.size
    have lb336b1 : b1 < b336 := by have := H329.lt; omega
    have lb336b8 : b8 < b336 := by have := H330.lt; omega
    have lb336b16 : b16 < b336 := by have := H331.lt; omega
    have lb336b25 : b25 < b336 := by have := H332.lt; omega
    have lb336b310 : b310 < b336 := by have := H326.lt; omega
    have nb336 : w.heap.size ≤ b336 := by have := K328.size; omega
    refine ⟨_, _, rfl, rfl, ?_⟩
    have K354 := K328.trans K340 (U := none_) (fun i h1 h2 => h2) (fun i h1 h2 => by exact h2)
    clear K328
    have H355 := H329.keep K340 (fun h => h)
    clear H329
    have H356 := H330.keep K340 (fun h => h)
    clear H330
    have H357 := H331.keep K340 (fun h => h)
    clear H331
    have H358 := H332.keep K340 (fun h => h)
    clear H332
    have H359 := H326.keep K340 (fun h => h)
    clear H326
    have F360 := own_keep0 F333 K340
    clear F333
    have F361 := own_keep0 F334 K340
    clear F334
    have F362 := (Rd.keep0 (by omega) F335 K340)
    clear F335
    clear K340
    refine Ops.regs 1 [(2, (Value.pointer (some ⟨b1, 0, none⟩))), (3, (Value.pointer (some ⟨b8, 0, none⟩))), (4, (Value.pointer (some ⟨b16, 0, none⟩))), (6, (Value.pointer (some ⟨b25, 0, none⟩))), (10, (Value.pointer (some ⟨b310, 0, none⟩))), (11, (Value.func (Fn.func 62) ⟨[]⟩ ⟨[(Value.pointer (some ⟨b336, 0, none⟩))]⟩))] (j := 5) (by kernel_rfl) (by kernel_rfl) ?_
    refine Ops.done (by kernel_rfl) ?_
    refine qr_seq (by kernel_rfl) ?_
    refine qr_seq (by kernel_rfl) ?_
    clear F360 obUb1 obUb8 obUb16 obUb25 ooUV ooVU ob316 oo350 oo351 F362
    refine qr_region Open.wide (by kernel_rfl) (by kernel_rfl) ?_
    refine Ops.regs 2 [(2, (Value.pointer (some ⟨b1, 0, none⟩))), (3, (Value.pointer (some ⟨b8, 0, none⟩))), (4, (Value.pointer (some ⟨b16, 0, none⟩))), (6, (Value.pointer (some ⟨b25, 0, none⟩))), (10, (Value.pointer (some ⟨b310, 0, none⟩))), (11, (Value.func (Fn.func 62) ⟨[]⟩ ⟨[(Value.pointer (some ⟨b336, 0, none⟩))]⟩)), (65, (Value.bool false))] (j := 2) (by kernel_rfl) (by kernel_rfl) ?_
    refine Ops.done (by kernel_rfl) ?_
    refine qr_else (o := .tmp 65) (by kernel_rfl) rfl ?_
    refine qr_skip (by kernel_rfl) ?_
    refine qr_seq (by kernel_rfl) ?_
    refine qr_seq (by kernel_rfl) ?_
    refine qr_region Open.wide (by kernel_rfl) (by kernel_rfl) ?_
    refine Ops.regs 1 [(2, (Value.pointer (some ⟨b1, 0, none⟩))), (3, (Value.pointer (some ⟨b8, 0, none⟩))), (4, (Value.pointer (some ⟨b16, 0, none⟩))), (6, (Value.pointer (some ⟨b25, 0, none⟩))), (10, (Value.pointer (some ⟨b310, 0, none⟩))), (66, (Value.func (Fn.func 62) ⟨[]⟩ ⟨[(Value.pointer (some ⟨b336, 0, none⟩))]⟩))] (j := 1) (by kernel_rfl) (by kernel_rfl) ?_
    refine Ops.done (by kernel_rfl) ?_
    refine qr_block (id := 2) (by kernel_rfl) ?_
    have zb1 := H355.lt
    have zb8 := H356.lt
    have zb25 := H358.lt
    have zb310 := H359.lt
    have zb336 := H341.lt
    have zb16 := H357.lt
    have htd := told (k := k299) hi hsm
    subst hy
    subst he
    have hbl : ((allB l i).take k299).length ≤ 140737488351232 := by rw [List.length_take]; omega
    obtain ⟨NN, hNN⟩ : ∃ NN, NN = (framesB (((allB l i)).take k299)).length := ⟨_, rfl⟩
    rw [← hNN] at htd
    refine qr_keep (R := [(2, (Value.pointer (some ⟨b1, 0, none⟩))), (3, (Value.pointer (some ⟨b8, 0, none⟩))), (4, (Value.pointer (some ⟨b16, 0, none⟩))), (6, (Value.pointer (some ⟨b25, 0, none⟩))), (10, (Value.pointer (some ⟨b310, 0, none⟩))), (66, (Value.func (Fn.func 62) ⟨[]⟩ ⟨[(Value.pointer (some ⟨b336, 0, none⟩))]⟩))]) (by kernel_rfl) ?_
    refine qr_each (g := .tmp 66) (t := 67) (m := 11) (A := fun k x W => OwnB W w339.heap.size 5 x ((framesB (((allB l i)).take k299)).getD k [])) (N := NN) (w0 := w339) (T := fun i => i = b310 ∨ w339.heap.size ≤ i) (by kernel_rfl) (by decide) (gf := 62) (lb := [ptr b336]) rfl (enters Try.func62 (by kernel_rfl) (by kernel_rfl))
      (by rw [hNN]; exact Frames1_tells w339 9 b336 A337 c338 (((allB l i)).take k299) (fun i => i = b310 ∨ w339.heap.size ≤ i) H341 (by intro h; change b336 = b310 ∨ w339.heap.size ≤ b336 at h; omega) (OwnB.rd O343) (fun b hb h => by have q1 := ob349 b hb; have q2 := (World.ownsRow.lt O343 b hb).2; have h : b = b310 ∨ w339.heap.size ≤ b := h; omega) hbl)
      (fun i h => .inr h) ((Keeps.refl _).mono (fun _ _ h => h.elim)) (fun j W => Has W b310 (rowL [i64 ((j : Nat) : Int)] 3) ∧ Keeps (fun i => i = b310 ∨ w339.heap.size ≤ i) w339 W)
      (fun k W W' h lo => ⟨lo.has h.1, h.2.trans lo.keeps (fun _ _ h => h) (fun _ _ h => .inr h)⟩) (fun k v W W' h lo => lo.own h) ⟨H359, (Keeps.refl _).mono (fun _ _ h => h.elim)⟩ (fun v => ((67, v) :: [(2, (Value.pointer (some ⟨b1, 0, none⟩))), (3, (Value.pointer (some ⟨b8, 0, none⟩))), (4, (Value.pointer (some ⟨b16, 0, none⟩))), (6, (Value.pointer (some ⟨b25, 0, none⟩))), (10, (Value.pointer (some ⟨b310, 0, none⟩))), (66, (Value.func (Fn.func 62) ⟨[]⟩ ⟨[(Value.pointer (some ⟨b336, 0, none⟩))]⟩))])) (fun v => [(2, (Value.pointer (some ⟨b1, 0, none⟩))), (3, (Value.pointer (some ⟨b8, 0, none⟩))), (4, (Value.pointer (some ⟨b16, 0, none⟩))), (6, (Value.pointer (some ⟨b25, 0, none⟩))), (10, (Value.pointer (some ⟨b310, 0, none⟩))), (12, v)]) (fun v => rfl) ?_ ?_ ?_
    · intro ln v W
      refine qr_region (Open.round ln) (by kernel_rfl) (by kernel_rfl) ?_
      refine Ops.regs 1 [(2, (Value.pointer (some ⟨b1, 0, none⟩))), (3, (Value.pointer (some ⟨b8, 0, none⟩))), (4, (Value.pointer (some ⟨b16, 0, none⟩))), (6, (Value.pointer (some ⟨b25, 0, none⟩))), (10, (Value.pointer (some ⟨b310, 0, none⟩))), (12, v)] (j := 1) (by kernel_rfl) (by kernel_rfl) ?_
      refine Ops.done (by kernel_rfl) ?_
      exact ⟨rfl, rfl, rfl, rfl⟩
    · rintro ln j v W ⟨hj10, hk⟩ hjN hO
      have hkn : Keeps none_ w W := K354.trans hk (U := none_) (fun _ _ h => h) (fun i hi h => by rcases h with h | h; (omega); (have := K354.size; omega))
      refine qr_keep (R := [(2, (Value.pointer (some ⟨b1, 0, none⟩))), (3, (Value.pointer (some ⟨b8, 0, none⟩))), (6, (Value.pointer (some ⟨b25, 0, none⟩))), (10, (Value.pointer (some ⟨b310, 0, none⟩))), (12, v)]) (by kernel_rfl) ?_
      refine qr_mono (Streams_body W ln LA lc l VA vc i k299 j b1 b8 b25 b310 v ((framesB (((allB l i)).take k299)).getD j []) (H355.keep hk (by intro h; change b1 = b310 ∨ w339.heap.size ≤ b1 at h; omega)) (H356.keep hk (by intro h; change b8 = b310 ∨ w339.heap.size ≤ b8 at h; omega)) (H358.keep hk (by intro h; change b25 = b310 ∨ w339.heap.size ≤ b25 at h; omega)) hj10 (by omega) (Rd.keep0 (by omega) hL hkn) (PartsIn.keep hIn hkn) (Rd.keep (by omega) (OwnT.rd F361) hk (fun b hb h => by have q1 := ob317 b hb; have q2 := (World.ownsRow.lt F361 b hb).2; have h : b = b310 ∨ w339.heap.size ≤ b := h; omega)) ?_ (OwnB.rd hO) (htd.2.1 j hjN).2 (by omega) hi hi30 (htd.2.1 j hjN).1) ?_
      · exact fun q hq => by have := ob317 q hq; omega
      · rintro ds e L W2 ⟨rfl, k2, h2⟩
        exact ⟨rfl, keepsFrom_of k2 (fun i hi hB => by exfalso; have hi : i = b310 := hi; omega), k2.mono (fun i _ h => .inl h), h2, hk.trans k2 (fun _ _ h => h) (fun i _ h => .inl h)⟩
    · rintro D W hDw ⟨hj10, hk⟩ hD
      have K363 : Keeps none_ w W := K354.trans hk (U := none_) (fun _ _ h => h) (fun i hi h => by rcases h with h | h; (omega); (have := K354.size; omega))
      have H364 := (H355.keep hk (by intro h; change b1 = b310 ∨ w339.heap.size ≤ b1 at h; omega))
      have H365 := (H356.keep hk (by intro h; change b8 = b310 ∨ w339.heap.size ≤ b8 at h; omega))
      have H366 := (H357.keep hk (by intro h; change b16 = b310 ∨ w339.heap.size ≤ b16 at h; omega))
      have H367 := (H358.keep hk (by intro h; change b25 = b310 ∨ w339.heap.size ≤ b25 at h; omega))
      have H368 := (H341.keep hk (by intro h; change b336 = b310 ∨ w339.heap.size ≤ b336 at h; omega))
      have F369 := (Rd.keep (by omega) (OwnT.rd F361) hk (fun b hb h => by have q1 := ob317 b hb; have q2 := (World.ownsRow.lt F361 b hb).2; have h : b = b310 ∨ w339.heap.size ≤ b := h; omega))
      clear H355 H356 H357 H358 H359 H341 F361 O343 K354
      have hbD : b1 < D ∧ b8 < D ∧ b16 < D ∧ b25 < D ∧ b310 < D ∧ b336 < D := by omega
      have hel := endsI_len l i
      have hn1 := htd.1
      have hn2 := htd.2.2
      have hwD : w.heap.size ≤ D := by have := K363.size; omega
      have hD1 : Has W D (.deferred (some [])) := hD
      clear hD
      refine qr_seq (by kernel_rfl) ?_
      refine qr_draw Open.wide (fun wz => Keeps (fun i => i = b16) W wz) 16 (by kernel_rfl) (by kernel_rfl) (by kernel_rfl) (by kernel_rfl) (fun w370 K371 _ _ => ⟨(K371.mono (fun _ _ h => h.elim)), ?_⟩)
      have K372 := K363.trans K371 (U := none_) (fun i h1 h2 => h2) (fun i h1 h2 => by exact h2)
      clear K363
      have H373 := H364.keep K371 (fun h => h)
      clear H364
      have H374 := H365.keep K371 (fun h => h)
      clear H365
      have H375 := H366.keep K371 (fun h => h)
      clear H366
      have H376 := H367.keep K371 (fun h => h)
      clear H367
      have H377 := hj10.keep K371 (fun h => h)
      clear hj10
      have H378 := H368.keep K371 (fun h => h)
      clear H368
      have H379 := hD1.keep K371 (fun h => h)
      clear hD1
      have F380 := (Rd.keep0 (by omega) F369 K371)
      clear F369
      refine Dr.strong (S' := (fun wz => Keeps (fun i => i = b16) w370 wz)) ((Keeps.refl w370).mono (fun _ _ h => h.elim)) (fun wz hx => K371.trans hx (fun i _ h => h.elim) (fun _ _ h => h)) ?_
      clear K371
      refine Dr.take (i := 0) (v := (i64 ((NN : Nat) : Int))) (by kernel_rfl) (by kernel_rfl) (fun wz hS => Runs.load (t := 3) (a := ⟨b310, 0, none⟩) (by kernel_rfl) ((H377.keep hS (by intro h; change b310 = b16 at h; omega)).loads (by kernel_rfl))) (d := (some 92)) (by kernel_rfl) rfl ?_
      refine Dr.take (i := 1) (v := (Value.slice VA ((endsI l i).length) vc)) (by kernel_rfl) (by kernel_rfl) (fun wz hS => Runs.load (t := 34) (a := ⟨b25, 0, none⟩) (by kernel_rfl) ((H376.keep hS (by intro h; change b25 = b16 at h; omega)).loads (by kernel_rfl))) (d := (some 93)) (by kernel_rfl) rfl ?_
      refine Dr.takes (fuel' := 11) (is' := [4, 3, 2, 1, 0]) [2, 3, 4] [(3, (Value.pointer (some ⟨b8, 0, none⟩))), (4, (Value.pointer (some ⟨b16, 0, none⟩))), (6, (Value.pointer (some ⟨b25, 0, none⟩))), (10, (Value.pointer (some ⟨b310, 0, none⟩))), (96, (Value.bool (((NN : Nat) : Int) == (((endsI l i).length : Nat) : Int))))] (by kernel_rfl) rfl (by kernel_rfl) ?_
      refine Dr.split (((NN : Nat) : Int) == (((endsI l i).length : Nat) : Int)) (fun h381 => ?_) (fun h381 => ?_)
      · rw [h381]
        have p382 : ((NN : Nat) : Int) = (((endsI l i).length : Nat) : Int) := of_beq_t h381
        refine Dr.takes (fuel' := 3) (is' := [12, 11, 10, 9, 8, 7, 6, 5, 4, 3, 2, 1, 0]) [5, 6, 7, 8, 9, 10, 11, 12] [(4, (Value.pointer (some ⟨b16, 0, none⟩))), (104, (Value.bool true))] (by kernel_rfl) rfl (by kernel_rfl) ?_
        refine Dr.call (i := 13) (by kernel_rfl) (by kernel_rfl) (d := (some 105)) (by kernel_rfl) (fun _ => known_calls _) ?_
        rintro _ w383 ⟨rfl, K384⟩
        have K385 := K372.trans K384 (U := none_) (fun i h1 h2 => h2) (fun i h1 h2 => by exact h2)
        clear K372
        have H386 := H373.keep K384 (fun h => h)
        clear H373
        have H387 := H374.keep K384 (fun h => h)
        clear H374
        have H388 := H375.keep K384 (fun h => h)
        clear H375
        have H389 := H376.keep K384 (fun h => h)
        clear H376
        have H390 := H377.keep K384 (fun h => h)
        clear H377
        have H391 := H378.keep K384 (fun h => h)
        clear H378
        have H392 := H379.keep K384 (fun h => h)
        clear H379
        have F393 := (Rd.keep0 (by omega) F380 K384)
        clear F380
        refine ⟨_, _, rfl, rfl, (K384.mono (fun _ _ h => h.elim)), ?_⟩
        refine Dr.strong (S' := (fun wz => Keeps (fun i => i = b16) w383 wz)) ((Keeps.refl w383).mono (fun _ _ h => h.elim)) (fun wz hx => K384.trans hx (fun i _ h => h.elim) (fun _ _ h => h)) ?_
        clear K384
        refine Dr.takes (fuel' := 1) (is' := [14, 13, 12, 11, 10, 9, 8, 7, 6, 5, 4, 3, 2, 1, 0]) [14] [(4, (Value.pointer (some ⟨b16, 0, none⟩))), (106, (Value.bool true))] (by kernel_rfl) rfl (by kernel_rfl) ?_
        refine Dr.put (i := 15) (t := 4) (b := b16) (off := 0) (v := (Value.bool true)) (ys := [(Value.bool true)]) (by kernel_rfl) (by kernel_rfl) (by kernel_rfl) H388 (by kernel_rfl) (d := none) (by kernel_rfl) rfl (fun w394 H395 K396 => ?_)
        clear H388
        have K397 := K385.trans K396 (U := none_) (fun i h1 h2 => h2) (fun i h1 h2 => by have h2 : i = b16 := h2; exfalso; omega)
        clear K385
        have H398 := H386.keep K396 (by intro h; change b1 = b16 at h; omega)
        clear H386
        have H399 := H387.keep K396 (by intro h; change b8 = b16 at h; omega)
        clear H387
        have H400 := H389.keep K396 (by intro h; change b25 = b16 at h; omega)
        clear H389
        have H401 := H390.keep K396 (by intro h; change b310 = b16 at h; omega)
        clear H390
        have H402 := H391.keep K396 (by intro h; change b336 = b16 at h; omega)
        clear H391
        have H403 := H392.keep K396 (by intro h; change D = b16 at h; omega)
        clear H392
        have F404 := Rd.keep (by omega) F393 K396 (fun i hi hs => by have hs : i = b16 := hs; have := obVb16 i hi; omega)
        clear F393
        refine ⟨K396, ?_⟩
        refine Dr.strong (S' := (fun wz => Keeps (fun i => i = b16) w394 wz)) ((Keeps.refl w394).mono (fun _ _ h => h.elim)) (fun wz hx => K396.trans hx (fun i _ h => by have h : i = b16 := h; show i = b16; omega) (fun _ _ h => h)) ?_
        clear K396
        refine Dr.done (by kernel_rfl) ?_
        refine qr_ret (by kernel_rfl) ?_
        refine retR_one (D := D) H403 (v := (Value.bool true)) (retv_cell rfl rfl (((Loose.put (B := D) (.deferred none) (Nat.le_refl _) H403 rfl).has H395).loads (by kernel_rfl))) ?_
        exact ⟨rfl, (K397.trans (Loose.put (B := D) (.deferred none) (Nat.le_refl _) H403 rfl).keeps (fun _ _ h => h) (fun i hi h => by have h : D ≤ i := h; omega))⟩
      · rw [h381]
        have p405 : ¬ (((NN : Nat) : Int) = (((endsI l i).length : Nat) : Int)) := of_beq_f h381
        refine Dr.take (i := 5) (v := (Value.slice VA ((endsI l i).length) vc)) (by kernel_rfl) (by kernel_rfl) (fun wz hS => Runs.load (t := 34) (a := ⟨b25, 0, none⟩) (by kernel_rfl) ((H376.keep hS (by intro h; change b25 = b16 at h; omega)).loads (by kernel_rfl))) (d := (some 97)) (by kernel_rfl) rfl ?_
        refine Dr.take (i := 6) (v := (i64 ((NN : Nat) : Int))) (by kernel_rfl) (by kernel_rfl) (fun wz hS => Runs.load (t := 3) (a := ⟨b310, 0, none⟩) (by kernel_rfl) ((H377.keep hS (by intro h; change b310 = b16 at h; omega)).loads (by kernel_rfl))) (d := (some 98)) (by kernel_rfl) rfl ?_
        obtain ⟨rb406, ro407, y, hA408, hx409⟩ := RdT.open F380 rfl (k := NN) (by omega)
        have hye := endsI_at hx409
        refine Dr.take (i := 7) (v := (Value.pointer (some ⟨rb406, ro407 + NN, none⟩))) (by kernel_rfl) (by kernel_rfl) (fun wz hS => Runs.ixSliceE (k := IntKind.i64) (t := 34) (len := ((endsI l i).length)) (cap := vc) (s := 1) (off' := ro407 + NN) (i := ((NN : Nat) : Int)) hA408 (by kernel_rfl) (by kernel_rfl) (by omega) (by omega) (by omega)) (d := (some 99)) (by kernel_rfl) rfl ?_
        refine Dr.take (i := 8) (v := (i64 y)) (by kernel_rfl) (by kernel_rfl) (fun wz hS => Runs.load (t := 3) (a := ⟨rb406, ro407 + NN, none⟩) (by kernel_rfl) (RdT.ldu (f := icell) (x := y) icell_two (Rd.keep (by omega) F380 hS (fun i hi hs => by have hs : i = b16 := hs; have := obVb16 i hi; omega)) (by kernel_rfl) hA408 hx409 rfl)) (d := (some 100)) (by kernel_rfl) rfl ?_
        refine Dr.take (i := 9) (v := (i64 ((k299 : Nat) : Int))) (by kernel_rfl) (by kernel_rfl) (fun wz hS => Runs.load (t := 3) (a := ⟨b8, 0, none⟩) (by kernel_rfl) ((H374.keep hS (by intro h; change b8 = b16 at h; omega)).loads (by kernel_rfl))) (d := (some 101)) (by kernel_rfl) rfl ?_
        refine Dr.takes (fuel' := 3) (is' := [12, 11, 10, 9, 8, 7, 6, 5, 4, 3, 2, 1, 0]) [10, 11, 12] [(4, (Value.pointer (some ⟨b16, 0, none⟩))), (104, (Value.bool (decide (y > ((k299 : Nat) : Int)))))] (by kernel_rfl) rfl (by kernel_rfl) ?_
        have h410 : (decide (y > ((k299 : Nat) : Int))) = true := decide_eq_true (by omega)
        rw [h410]
        refine Dr.call (i := 13) (by kernel_rfl) (by kernel_rfl) (d := (some 105)) (by kernel_rfl) (fun _ => known_calls _) ?_
        rintro _ w411 ⟨rfl, K412⟩
        have K413 := K372.trans K412 (U := none_) (fun i h1 h2 => h2) (fun i h1 h2 => by exact h2)
        clear K372
        have H414 := H373.keep K412 (fun h => h)
        clear H373
        have H415 := H374.keep K412 (fun h => h)
        clear H374
        have H416 := H375.keep K412 (fun h => h)
        clear H375
        have H417 := H376.keep K412 (fun h => h)
        clear H376
        have H418 := H377.keep K412 (fun h => h)
        clear H377
        have H419 := H378.keep K412 (fun h => h)
        clear H378
        have H420 := H379.keep K412 (fun h => h)
        clear H379
        have F421 := (Rd.keep0 (by omega) F380 K412)
        clear F380
        refine ⟨_, _, rfl, rfl, (K412.mono (fun _ _ h => h.elim)), ?_⟩
        refine Dr.strong (S' := (fun wz => Keeps (fun i => i = b16) w411 wz)) ((Keeps.refl w411).mono (fun _ _ h => h.elim)) (fun wz hx => K412.trans hx (fun i _ h => h.elim) (fun _ _ h => h)) ?_
        clear K412
        refine Dr.takes (fuel' := 1) (is' := [14, 13, 12, 11, 10, 9, 8, 7, 6, 5, 4, 3, 2, 1, 0]) [14] [(4, (Value.pointer (some ⟨b16, 0, none⟩))), (106, (Value.bool true))] (by kernel_rfl) rfl (by kernel_rfl) ?_
        refine Dr.put (i := 15) (t := 4) (b := b16) (off := 0) (v := (Value.bool true)) (ys := [(Value.bool true)]) (by kernel_rfl) (by kernel_rfl) (by kernel_rfl) H416 (by kernel_rfl) (d := none) (by kernel_rfl) rfl (fun w422 H423 K424 => ?_)
        clear H416
        have K425 := K413.trans K424 (U := none_) (fun i h1 h2 => h2) (fun i h1 h2 => by have h2 : i = b16 := h2; exfalso; omega)
        clear K413
        have H426 := H414.keep K424 (by intro h; change b1 = b16 at h; omega)
        clear H414
        have H427 := H415.keep K424 (by intro h; change b8 = b16 at h; omega)
        clear H415
        have H428 := H417.keep K424 (by intro h; change b25 = b16 at h; omega)
        clear H417
        have H429 := H418.keep K424 (by intro h; change b310 = b16 at h; omega)
        clear H418
        have H430 := H419.keep K424 (by intro h; change b336 = b16 at h; omega)
        clear H419
        have H431 := H420.keep K424 (by intro h; change D = b16 at h; omega)
        clear H420
        have F432 := Rd.keep (by omega) F421 K424 (fun i hi hs => by have hs : i = b16 := hs; have := obVb16 i hi; omega)
        clear F421
        refine ⟨K424, ?_⟩
        refine Dr.strong (S' := (fun wz => Keeps (fun i => i = b16) w422 wz)) ((Keeps.refl w422).mono (fun _ _ h => h.elim)) (fun wz hx => K424.trans hx (fun i _ h => by have h : i = b16 := h; show i = b16; omega) (fun _ _ h => h)) ?_
        clear K424
        refine Dr.done (by kernel_rfl) ?_
        refine qr_ret (by kernel_rfl) ?_
        refine retR_one (D := D) H431 (v := (Value.bool true)) (retv_cell rfl rfl (((Loose.put (B := D) (.deferred none) (Nat.le_refl _) H431 rfl).has H423).loads (by kernel_rfl))) ?_
        exact ⟨rfl, (K425.trans (Loose.put (B := D) (.deferred none) (Nat.le_refl _) H431 rfl).keeps (fun _ _ h => h) (fun i hi h => by have h : D ≤ i := h; omega))⟩
end Go.Proofs.Ytnepjfnkaigakaa
