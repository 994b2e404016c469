/- chapter 02: CodecFrames returns true -/
import Derived.Test.YtnepjfnkaigakaaProg
import Derived.Test.YtnepjfnkaigakaaKN
import Derived.Test.YtnepjfnkaigakaaKO
import Derived.Test.YtnepjfnkaigakaaKP
import Derived.Test.YtnepjfnkaigakaaKH
import Derived.Test.YtnepjfnkaigakaaKQ
import Derived.Test.YtnepjfnkaigakaaKS
import Derived.Test.YtnepjfnkaigakaaKV
set_option linter.unusedVariables false
namespace Go.Proofs.Ytnepjfnkaigakaa
open Go.Q Go.RowKit

theorem Frames_body (w : World) (ln : Nat) (VA : Option Addr) (vc : Nat) (l : List PartP) (j b12 b14 base : Nat) (p : Value) (px : List UInt8) (Ha : Has w b12 (rowL [(Value.slice VA l.length vc)] 33)) (Hb : Has w b14 (rowL [(i64 ((j : Nat) : Int))] 3)) (hd : b12 < b14 ∧ b14 < base) (hV : RdP w (.slice VA l.length vc) l) (hIn : PartsIn w l) (hp : OwnB w base 5 p px) (hx : ∀ x, l[j]? = some x → px = x.data) (hj : j < l.length) (hl : l.length ≤ 140737488351232) (hpl : px.length ≤ 140737488351232) : wpR (Fence.wide.inRound ln) Try.prog 9 Try.f9.ntmps (cd Try.f9 [1, 0, 1, 0, 1, 1, 1, 1, 1, 1, 1, 1, 1, 1, 1, 1, 1]) (fun _ e _ w' => e = .normal ∧ Keeps (fun q => q = b14 ∨ p.ownBlock = some q) w w' ∧ Has w' b14 (rowL [(i64 ((j + 1 : Nat) : Int))] 3)) [] [(12, (ptr b12)), (14, (ptr b14)), (15, p)] w := by
  have hpa : ∀ i, p.ownBlock = some i → i ≠ b12 := fun i hi => by have := (World.ownsRow.lt hp i hi).1; omega
  have hpb : ∀ i, p.ownBlock = some i → i ≠ b14 := fun i hi => by have := (World.ownsRow.lt hp i hi).1; omega
  have K0 : Keeps (fun q => q = b14 ∨ p.ownBlock = some q) w w := (Keeps.refl w).mono (fun _ _ h => h.elim)
  refine qr_block (id := 1) (by kernel_rfl) ?_
  refine qr_seq (by kernel_rfl) ?_
  refine qr_seq (by kernel_rfl) ?_
  refine qr_draw (Open.round ln) (fun wz => Keeps none_ w wz) 14 (by kernel_rfl) (by kernel_rfl) (by kernel_rfl) (by kernel_rfl) (fun w1 K2 _ _ => ⟨K2, ?_⟩)
  replace K0 := K0.trans K2 (U := (fun i => i = b14 ∨ (p).ownBlock = some i)) (fun i h1 h2 => h2) (fun i h1 h2 => by exact h2.elim)
  replace Ha := Ha.keep K2 (fun h => h)
  replace Hb := Hb.keep K2 (fun h => h)
  replace hp := own_keep0 hp K2
  replace hV := (Rd.keep0 (by omega) hV K2)
  replace hIn := PartsIn.keep hIn K2
  refine Dr.strong (S' := (fun wz => Keeps none_ w1 wz)) (Keeps.refl w1) (fun wz hx => K2.trans hx (fun i _ h => h) (fun _ _ h => h)) ?_
  clear K2
  refine Dr.take (i := 0) (v := (i64 ((j : Nat) : Int))) (by kernel_rfl) (by kernel_rfl) (fun wz hS => Runs.load (t := 3) (a := ⟨b14, 0, none⟩) (by kernel_rfl) ((Hb.keep hS (fun h => h)).loads (by kernel_rfl))) (d := (some 71)) (by kernel_rfl) rfl ?_
  refine Dr.take (i := 1) (v := (Value.slice VA l.length vc)) (by kernel_rfl) (by kernel_rfl) (fun wz hS => Runs.load (t := 33) (a := ⟨b12, 0, none⟩) (by kernel_rfl) ((Ha.keep hS (fun h => h)).loads (by kernel_rfl))) (d := (some 72)) (by kernel_rfl) rfl ?_
  refine Dr.takes (fuel' := 9) (is' := [4, 3, 2, 1, 0]) [2, 3, 4] [(12, (ptr b12)), (14, (ptr b14)), (15, p), (75, (Value.bool (decide (((j : Nat) : Int) ≥ ((l.length : Nat) : Int)))))] (by kernel_rfl) rfl (by kernel_rfl) ?_
  have h3 : (decide (((j : Nat) : Int) ≥ ((l.length : Nat) : Int))) = false := decide_eq_false (by omega)
  rw [h3]
  refine Dr.takes (fuel' := 8) (is' := [5, 4, 3, 2, 1, 0]) [5] [(12, (ptr b12)), (14, (ptr b14)), (15, p), (75, (Value.bool false)), (76, p)] (by kernel_rfl) rfl (by kernel_rfl) ?_
  refine Dr.take (i := 6) (v := (Value.string (str px))) (by kernel_rfl) (by kernel_rfl) (fun wz hS => Runs.b2s (s := 23) (d := 9) (e := 5) (by kernel_rfl) (by kernel_rfl) (by kernel_rfl) (Rd.keep0 (by omega) (OwnB.rd hp) hS)) (d := (some 77)) (by kernel_rfl) rfl ?_
  refine Dr.take (i := 7) (v := (Value.slice VA l.length vc)) (by kernel_rfl) (by kernel_rfl) (fun wz hS => Runs.load (t := 33) (a := ⟨b12, 0, none⟩) (by kernel_rfl) ((Ha.keep hS (fun h => h)).loads (by kernel_rfl))) (d := (some 78)) (by kernel_rfl) rfl ?_
  refine Dr.take (i := 8) (v := (i64 ((j : Nat) : Int))) (by kernel_rfl) (by kernel_rfl) (fun wz hS => Runs.load (t := 3) (a := ⟨b14, 0, none⟩) (by kernel_rfl) ((Hb.keep hS (fun h => h)).loads (by kernel_rfl))) (d := (some 79)) (by kernel_rfl) rfl ?_
  obtain ⟨rb4, ro5, x, hA6, hx7⟩ := RdT.open hV rfl (k := j) (by omega)
  have hXx := hx7
  have hB8 := hIn x (List.mem_of_getElem? hXx)
  have hBlx := hB8.slice
  have hpx := hx x hXx
  refine Dr.take (i := 9) (v := (Value.pointer (some ⟨rb4, ro5 + j, none⟩))) (by kernel_rfl) (by kernel_rfl) (fun wz hS => Runs.ixSliceE (k := IntKind.i64) (t := 33) (len := l.length) (cap := vc) (s := 1) (off' := ro5 + j) (i := ((j : Nat) : Int)) hA6 (by kernel_rfl) (by kernel_rfl) (by omega) (by omega) (by omega)) (d := (some 80)) (by kernel_rfl) rfl ?_
  refine Dr.take (i := 10) (v := (Value.slice x.A x.data.length x.c)) (by kernel_rfl) (by kernel_rfl) (fun wz hS => Runs.load (t := 23) (a := ⟨rb4, ro5 + j, none⟩) (by kernel_rfl) (RdT.ldu (f := PartP.cells) (x := x) PartP.two (Rd.keep0 (by omega) hV hS) (by kernel_rfl) hA6 hx7 rfl)) (d := (some 81)) (by kernel_rfl) rfl ?_
  refine Dr.take (i := 11) (v := (Value.string (str x.data))) (by kernel_rfl) (by kernel_rfl) (fun wz hS => Runs.b2s (s := 23) (d := 9) (e := 5) (by kernel_rfl) (by kernel_rfl) (by kernel_rfl) (Rd.keep0 (by omega) hB8 hS)) (d := (some 82)) (by kernel_rfl) rfl ?_
  refine Dr.take (i := 12) (v := (Value.bool (!(px == x.data)))) (by kernel_rfl) (by kernel_rfl) (fun wz hS => Runs.strne (t := 9) (by kernel_rfl)) (d := (some 83)) (by kernel_rfl) rfl ?_
  refine Dr.takes (fuel' := 0) (is' := [13, 12, 11, 10, 9, 8, 7, 6, 5, 4, 3, 2, 1, 0]) [13] [(12, (ptr b12)), (14, (ptr b14)), (15, p), (84, (Value.bool (!(px == x.data))))] (by kernel_rfl) rfl (by kernel_rfl) ?_
  refine Dr.done (by kernel_rfl) ?_
  have h9 : (!(px == x.data)) = false := by rw [hpx]; simp
  rw [h9]
  refine qr_else (o := .tmp 84) (by kernel_rfl) rfl ?_
  refine qr_skip (by kernel_rfl) ?_
  refine qr_seq (by kernel_rfl) ?_
  refine qr_region (Open.round ln) (by kernel_rfl) (by kernel_rfl) ?_
  refine Ops.regs 1 [(12, (ptr b12)), (14, (ptr b14)), (15, p), (84, (Value.bool false)), (85, p)] (j := 1) (by kernel_rfl) (by kernel_rfl) ?_
  refine Ops.call (by kernel_rfl) (d := (some 86)) (by kernel_rfl) (Spoil_calls _ p px _ hp (by (try simp only [List.length_append]); omega)) ?_
  rintro _ w11 ⟨rfl, K10⟩
  refine ⟨_, _, rfl, rfl, ?_⟩
  replace K0 := K0.trans K10 (U := (fun i => i = b14 ∨ (p).ownBlock = some i)) (fun i h1 h2 => h2) (fun i h1 h2 => by have h2 : (p).ownBlock = some i := h2; exact .inr (h2))
  replace Ha := Ha.keep K10 (by intro h; change (p).ownBlock = some b12 at h; have := hpa b12 h; omega)
  replace Hb := Hb.keep K10 (by intro h; change (p).ownBlock = some b14 at h; have := hpb b14 h; omega)
  clear hp
  clear hV
  clear hIn
  clear hB8
  clear K10
  refine Ops.done (by kernel_rfl) ?_
  refine qr_region (Open.round ln) (by kernel_rfl) (by kernel_rfl) ?_
  refine Ops.go (v := (i64 ((j : Nat) : Int))) (by kernel_rfl) (Runs.load (t := 3) (a := ⟨b14, 0, none⟩) (by kernel_rfl) (Hb.loads (by kernel_rfl))) (d := (some 87)) (by kernel_rfl) rfl ?_
  refine Ops.regs 1 [(12, (ptr b12)), (14, (ptr b14)), (15, p), (84, (Value.bool false)), (88, (i64 (IntKind.i64.wrap (((j : Nat) : Int) + 1))))] (j := 2) (by kernel_rfl) (by kernel_rfl) ?_
  have e12 : IntKind.i64.wrap (((j : Nat) : Int) + 1) = ((j + 1 : Nat) : Int) := by rw [wrap_i64 (by omega) (by omega)]; omega
  rw [e12]
  clear e12
  refine Ops.put (t := 3) (b := b14) (off := 0) (v := (i64 ((j + 1 : Nat) : Int))) (ys := [(i64 ((j + 1 : Nat) : Int))]) (by kernel_rfl) (by kernel_rfl) Hb (by kernel_rfl) (d := none) (by kernel_rfl) rfl (fun w13 H14 K15 => ?_)
  clear Hb
  replace K0 := K0.trans K15 (U := (fun i => i = b14 ∨ (p).ownBlock = some i)) (fun i h1 h2 => h2) (fun i h1 h2 => by have h2 : i = b14 := h2; exact .inl h2)
  replace Ha := Ha.keep K15 (by intro h; change b12 = b14 at h; omega)
  clear K15
  refine Ops.done (by kernel_rfl) ?_
  exact ⟨rfl, K0, H14⟩

set_option maxHeartbeats 4000000 in
theorem CFrames_calls (w : World) (B : Option Addr) (bc : Nat) (bs : List UInt8) (hB : RdB w (.slice B bs.length bc) bs) (hbl : bs.length ≤ 5000000000000) : Calls Try.prog 9 ⟨[(Value.slice B bs.length bc)]⟩ w (fun e w' => e = .returned (.bool true) ∧ Keeps none_ w w') := by
  have K0 : Keeps none_ w w := Keeps.refl w
  have hbc := hB.slice
  unfold maxLen at hbc
  refine qr_calls 11 Try.func9 (by kernel_rfl) (by kernel_rfl) ?_
  refine qr_seq (by kernel_rfl) ?_
  refine qr_region Open.wide (by kernel_rfl) (by kernel_rfl) ?_
  refine Ops.new (o := rowL [(Value.bool false)] 4) (V := fun b => (ptr b)) (by kernel_rfl) (d := (some 2)) (by kernel_rfl) (fun b => rfl) (fun b1 w2 hb3 H4 K5 hs6 => ?_)
  have nb1 : w.heap.size ≤ b1 := by have := K0.size; omega
  replace K0 := K0.trans K5 (U := none_) (fun i h1 h2 => h2) (fun i h1 h2 => by exact h2)
  clear K5 hs6
  refine Ops.done (by kernel_rfl) ?_
  refine qr_seq (by kernel_rfl) ?_
  refine qr_region Open.wide (by kernel_rfl) (by kernel_rfl) ?_
  refine Ops.regs 1 [(0, (Value.slice B bs.length bc)), (2, (ptr b1)), (16, (Value.slice B bs.length bc))] (j := 1) (by kernel_rfl) (by kernel_rfl) ?_
  refine Ops.call (by kernel_rfl) (d := (some 17)) (by kernel_rfl) (Lent_calls _ B bc bs (hB.keep0 (by omega) K0) (by omega)) ?_
  rintro _ w9 ⟨A7, c8, rfl, K10, hO11⟩
  have O13 := OwnB.cut hO11 (by simp)
  have ob14 : ∀ i, ((Value.slice A7 bs.length c8)).ownBlock = some i → i ≠ b1 := fun i hi => by have := (World.ownsRow.lt O13 i hi).1; have := H4.lt; omega
  have ob15 : ∀ i, ((Value.slice A7 ((bs ++ [byte 167]).length) c8)).ownBlock = some i → i ≠ b1 := fun i hi => by have := (World.ownsRow.lt hO11 i hi).1; have := H4.lt; omega
  have O12 := own_base O13 K0.size
  clear O13
  have O16 := own_base hO11 K0.size
  clear hO11
  refine ⟨_, _, rfl, rfl, ?_⟩
  replace K0 := K0.trans K10 (U := none_) (fun i h1 h2 => h2) (fun i h1 h2 => by exact h2)
  replace H4 := H4.keep K10 (fun h => h)
  clear K10
  refine Ops.regs 1 [(0, (Value.slice B bs.length bc)), (2, (ptr b1)), (3, (Value.slice A7 bs.length c8))] (j := 3) (by kernel_rfl) (by kernel_rfl) ?_
  refine Ops.done (by kernel_rfl) ?_
  refine qr_seq (by kernel_rfl) ?_
  refine qr_region Open.wide (by kernel_rfl) (by kernel_rfl) ?_
  refine Ops.regs 1 [(0, (Value.slice B bs.length bc)), (2, (ptr b1)), (3, (Value.slice A7 bs.length c8)), (19, (Value.slice A7 bs.length c8))] (j := 1) (by kernel_rfl) (by kernel_rfl) ?_
  refine Ops.call (by kernel_rfl) (d := (some 20)) (by kernel_rfl) (Unframe_of _ (Value.slice A7 bs.length c8) bs (OwnB.rd O12) (by omega)) ?_
  rintro _ w18 ⟨v17, rfl, K19, hO20⟩
  have ob22 : ∀ i, (v17).ownBlock = some i → i ≠ b1 := fun i hi => by have := (World.ownsRow.lt hO20 i hi).1; have := H4.lt; omega
  have oo23 : ∀ i, ((Value.slice A7 bs.length c8)).ownBlock = some i → (v17).ownBlock = some i → False := fun i hi hs => by have := (World.ownsRow.lt hO20 i hs).1; have := (World.ownsRow.lt O12 i hi).2; omega
  have oo24 : ∀ i, (v17).ownBlock = some i → ((Value.slice A7 bs.length c8)).ownBlock = some i → False := fun i hi hs => oo23 i hs hi
  have oo25 : ∀ i, ((Value.slice A7 ((bs ++ [byte 167]).length) c8)).ownBlock = some i → (v17).ownBlock = some i → False := fun i hi hs => by have := (World.ownsRow.lt hO20 i hs).1; have := (World.ownsRow.lt O16 i hi).2; omega
  have oo26 : ∀ i, (v17).ownBlock = some i → ((Value.slice A7 ((bs ++ [byte 167]).length) c8)).ownBlock = some i → False := fun i hi hs => oo25 i hs hi
  have O21 := own_base hO20 K0.size
  clear hO20
  have hul := unframe_le bs
  refine ⟨_, _, rfl, rfl, ?_⟩
  replace K0 := K0.trans K19 (U := none_) (fun i h1 h2 => h2) (fun i h1 h2 => by exact h2)
  replace H4 := H4.keep K19 (fun h => h)
  replace O12 := own_keep0 O12 K19
  replace O16 := own_keep0 O16 K19
  clear K19
  refine Ops.regs 5 [(0, (Value.slice B bs.length bc)), (2, (ptr b1)), (3, (Value.slice A7 bs.length c8)), (4, v17), (5, (i64 ((unframeB bs).2)))] (j := 7) (by kernel_rfl) (by kernel_rfl) ?_
  refine Ops.done (by kernel_rfl) ?_
  refine qr_seq (by kernel_rfl) ?_
  refine qr_region Open.wide (by kernel_rfl) (by kernel_rfl) ?_
  refine Ops.regs 1 [(0, (Value.slice B bs.length bc)), (2, (ptr b1)), (3, (Value.slice A7 bs.length c8)), (4, v17), (5, (i64 ((unframeB bs).2))), (24, (Value.slice B bs.length bc))] (j := 1) (by kernel_rfl) (by kernel_rfl) ?_
  refine Ops.call (by kernel_rfl) (d := (some 25)) (by kernel_rfl) (RUnframe_calls _ B bc bs (hB.keep0 (by omega) K0) (by first | omega | decide)) ?_
  rintro _ w28 ⟨v27, rfl, K29, hO30⟩
  have ob32 : ∀ i, (v27).ownBlock = some i → i ≠ b1 := fun i hi => by have := (World.ownsRow.lt hO30 i hi).1; have := H4.lt; omega
  have oo33 : ∀ i, ((Value.slice A7 bs.length c8)).ownBlock = some i → (v27).ownBlock = some i → False := fun i hi hs => by have := (World.ownsRow.lt hO30 i hs).1; have := (World.ownsRow.lt O12 i hi).2; omega
  have oo34 : ∀ i, (v27).ownBlock = some i → ((Value.slice A7 bs.length c8)).ownBlock = some i → False := fun i hi hs => oo33 i hs hi
  have oo35 : ∀ i, ((Value.slice A7 ((bs ++ [byte 167]).length) c8)).ownBlock = some i → (v27).ownBlock = some i → False := fun i hi hs => by have := (World.ownsRow.lt hO30 i hs).1; have := (World.ownsRow.lt O16 i hi).2; omega
  have oo36 : ∀ i, (v27).ownBlock = some i → ((Value.slice A7 ((bs ++ [byte 167]).length) c8)).ownBlock = some i → False := fun i hi hs => oo35 i hs hi
  have oo37 : ∀ i, (v17).ownBlock = some i → (v27).ownBlock = some i → False := fun i hi hs => by have := (World.ownsRow.lt hO30 i hs).1; have := (World.ownsRow.lt O21 i hi).2; omega
  have oo38 : ∀ i, (v27).ownBlock = some i → (v17).ownBlock = some i → False := fun i hi hs => oo37 i hs hi
  have O31 := own_base hO30 K0.size
  clear hO30
  refine ⟨_, _, rfl, rfl, ?_⟩
  replace K0 := K0.trans K29 (U := none_) (fun i h1 h2 => h2) (fun i h1 h2 => by exact h2)
  replace H4 := H4.keep K29 (fun h => h)
  replace O12 := own_keep0 O12 K29
  replace O16 := own_keep0 O16 K29
  replace O21 := own_keep0 O21 K29
  clear K29
  refine Ops.regs 5 [(0, (Value.slice B bs.length bc)), (2, (ptr b1)), (3, (Value.slice A7 bs.length c8)), (4, v17), (5, (i64 ((unframeB bs).2))), (6, v27), (7, (i64 ((unframeB bs).2)))] (j := 7) (by kernel_rfl) (by kernel_rfl) ?_
  refine Ops.done (by kernel_rfl) ?_
  refine qr_seq (by kernel_rfl) ?_
  refine qr_region Open.wide (by kernel_rfl) (by kernel_rfl) ?_
  refine Ops.regs 1 [(0, (Value.slice B bs.length bc)), (2, (ptr b1)), (3, (Value.slice A7 bs.length c8)), (4, v17), (5, (i64 ((unframeB bs).2))), (6, v27), (7, (i64 ((unframeB bs).2))), (29, (Value.slice A7 bs.length c8))] (j := 1) (by kernel_rfl) (by kernel_rfl) ?_
  refine Ops.call (by kernel_rfl) (d := (some 30)) (by kernel_rfl) (Unmsg_own _ A7 c8 bs (OwnB.rd O12) (by omega)) ?_
  rintro _ w45 ⟨x39, E40, D41, ec42, dc43, er44, rfl, K46, hok47, hq48, hE49, hM50, hD51, hpw52, hn53, hn54⟩
  have olt56 : ∀ i, ((Value.slice A7 bs.length c8)).ownBlock = some i → i < w28.heap.size := fun i hi => (World.ownsRow.lt O12 i hi).2
  have oo55 : ∀ y ∈ x39.entries, ∀ g o s, y.A = some ⟨g, o, s⟩ → ((Value.slice A7 bs.length c8)).ownBlock = some g → False := fun y hy g o s hA hs => by have := ((hM50 y hy).2 g o s hA).1; have := olt56 g hs; omega
  have olt58 : ∀ i, ((Value.slice A7 ((bs ++ [byte 167]).length) c8)).ownBlock = some i → i < w28.heap.size := fun i hi => (World.ownsRow.lt O16 i hi).2
  have oo57 : ∀ y ∈ x39.entries, ∀ g o s, y.A = some ⟨g, o, s⟩ → ((Value.slice A7 ((bs ++ [byte 167]).length) c8)).ownBlock = some g → False := fun y hy g o s hA hs => by have := ((hM50 y hy).2 g o s hA).1; have := olt58 g hs; omega
  have olt60 : ∀ i, (v17).ownBlock = some i → i < w28.heap.size := fun i hi => (World.ownsRow.lt O21 i hi).2
  have oo59 : ∀ y ∈ x39.entries, ∀ g o s, y.A = some ⟨g, o, s⟩ → (v17).ownBlock = some g → False := fun y hy g o s hA hs => by have := ((hM50 y hy).2 g o s hA).1; have := olt60 g hs; omega
  have olt62 : ∀ i, (v27).ownBlock = some i → i < w28.heap.size := fun i hi => (World.ownsRow.lt O31 i hi).2
  have oo61 : ∀ y ∈ x39.entries, ∀ g o s, y.A = some ⟨g, o, s⟩ → (v27).ownBlock = some g → False := fun y hy g o s hA hs => by have := ((hM50 y hy).2 g o s hA).1; have := olt62 g hs; omega
  have ob63 : ∀ i, ((Value.slice E40 x39.entries.length ec42)).ownBlock = some i → i ≠ b1 := fun i hi => by have := (World.ownsRow.lt hE49 i hi).1; have := H4.lt; omega
  have oo64 : ∀ i, ((Value.slice A7 bs.length c8)).ownBlock = some i → ((Value.slice E40 x39.entries.length ec42)).ownBlock = some i → False := fun i hi hs => by have := (World.ownsRow.lt hE49 i hs).1; have := (World.ownsRow.lt O12 i hi).2; omega
  have oo65 : ∀ i, ((Value.slice E40 x39.entries.length ec42)).ownBlock = some i → ((Value.slice A7 bs.length c8)).ownBlock = some i → False := fun i hi hs => oo64 i hs hi
  have oo66 : ∀ i, ((Value.slice A7 ((bs ++ [byte 167]).length) c8)).ownBlock = some i → ((Value.slice E40 x39.entries.length ec42)).ownBlock = some i → False := fun i hi hs => by have := (World.ownsRow.lt hE49 i hs).1; have := (World.ownsRow.lt O16 i hi).2; omega
  have oo67 : ∀ i, ((Value.slice E40 x39.entries.length ec42)).ownBlock = some i → ((Value.slice A7 ((bs ++ [byte 167]).length) c8)).ownBlock = some i → False := fun i hi hs => oo66 i hs hi
  have oo68 : ∀ i, (v17).ownBlock = some i → ((Value.slice E40 x39.entries.length ec42)).ownBlock = some i → False := fun i hi hs => by have := (World.ownsRow.lt hE49 i hs).1; have := (World.ownsRow.lt O21 i hi).2; omega
  have oo69 : ∀ i, ((Value.slice E40 x39.entries.length ec42)).ownBlock = some i → (v17).ownBlock = some i → False := fun i hi hs => oo68 i hs hi
  have oo70 : ∀ i, (v27).ownBlock = some i → ((Value.slice E40 x39.entries.length ec42)).ownBlock = some i → False := fun i hi hs => by have := (World.ownsRow.lt hE49 i hs).1; have := (World.ownsRow.lt O31 i hi).2; omega
  have oo71 : ∀ i, ((Value.slice E40 x39.entries.length ec42)).ownBlock = some i → (v27).ownBlock = some i → False := fun i hi hs => oo70 i hs hi
  have ob72 : ∀ i, ((Value.slice D41 x39.data.length dc43)).ownBlock = some i → i ≠ b1 := fun i hi => by have := (World.ownsRow.lt hD51 i hi).1; have := H4.lt; omega
  have oo73 : ∀ i, ((Value.slice A7 bs.length c8)).ownBlock = some i → ((Value.slice D41 x39.data.length dc43)).ownBlock = some i → False := fun i hi hs => by have := (World.ownsRow.lt hD51 i hs).1; have := (World.ownsRow.lt O12 i hi).2; omega
  have oo74 : ∀ i, ((Value.slice D41 x39.data.length dc43)).ownBlock = some i → ((Value.slice A7 bs.length c8)).ownBlock = some i → False := fun i hi hs => oo73 i hs hi
  have oo75 : ∀ i, ((Value.slice A7 ((bs ++ [byte 167]).length) c8)).ownBlock = some i → ((Value.slice D41 x39.data.length dc43)).ownBlock = some i → False := fun i hi hs => by have := (World.ownsRow.lt hD51 i hs).1; have := (World.ownsRow.lt O16 i hi).2; omega
  have oo76 : ∀ i, ((Value.slice D41 x39.data.length dc43)).ownBlock = some i → ((Value.slice A7 ((bs ++ [byte 167]).length) c8)).ownBlock = some i → False := fun i hi hs => oo75 i hs hi
  have oo77 : ∀ i, (v17).ownBlock = some i → ((Value.slice D41 x39.data.length dc43)).ownBlock = some i → False := fun i hi hs => by have := (World.ownsRow.lt hD51 i hs).1; have := (World.ownsRow.lt O21 i hi).2; omega
  have oo78 : ∀ i, ((Value.slice D41 x39.data.length dc43)).ownBlock = some i → (v17).ownBlock = some i → False := fun i hi hs => oo77 i hs hi
  have oo79 : ∀ i, (v27).ownBlock = some i → ((Value.slice D41 x39.data.length dc43)).ownBlock = some i → False := fun i hi hs => by have := (World.ownsRow.lt hD51 i hs).1; have := (World.ownsRow.lt O31 i hi).2; omega
  have oo80 : ∀ i, ((Value.slice D41 x39.data.length dc43)).ownBlock = some i → (v27).ownBlock = some i → False := fun i hi hs => oo79 i hs hi
  have hsh := msg_short hq48
  have hwB := K0.size
  have hbb1 : b1 < w28.heap.size := H4.lt
  refine ⟨_, _, rfl, rfl, ?_⟩
  replace K0 := K0.trans K46 (U := none_) (fun i h1 h2 => h2) (fun i h1 h2 => by exact h2)
  replace H4 := H4.keep K46 (fun h => h)
  replace O12 := own_keep0 O12 K46
  replace O16 := own_keep0 O16 K46
  replace O21 := own_keep0 O21 K46
  replace O31 := own_keep0 O31 K46
  clear K46
  refine Ops.regs 3 [(0, (Value.slice B bs.length bc)), (2, (ptr b1)), (3, (Value.slice A7 bs.length c8)), (4, v17), (5, (i64 ((unframeB bs).2))), (6, v27), (7, (i64 ((unframeB bs).2))), (31, (agg [(i64 x39.kind), (i64 x39.group), (i64 x39.frm), (i64 x39.to), (i64 x39.term), (i64 x39.index), (i64 x39.logTerm), (i64 x39.commit), (Value.bool x39.ok), (Value.slice E40 x39.entries.length ec42), (Value.slice D41 x39.data.length dc43)])), (32, (i64 er44))] (j := 5) (by kernel_rfl) (by kernel_rfl) ?_
  refine Ops.new (o := rowL [(i64 0), (i64 0), (i64 0), (i64 0), (i64 0), (i64 0), (i64 0), (i64 0), (Value.bool false), (Value.slice none 0 0), (Value.slice none 0 0)] 49) (V := fun b => (ptr b)) (by kernel_rfl) (d := (some 8)) (by kernel_rfl) (fun b => rfl) (fun b81 w82 hb83 H84 K85 hs86 => ?_)
  have lb81b1 : b1 < b81 := by have := H4.lt; omega
  have nb81 : w.heap.size ≤ b81 := by have := K0.size; omega
  have ob87 : ∀ i, ((Value.slice A7 bs.length c8)).ownBlock = some i → i < b81 := fun i hi => by have := (World.ownsRow.lt O12 i hi).2; omega
  have ob88 : ∀ i, ((Value.slice A7 ((bs ++ [byte 167]).length) c8)).ownBlock = some i → i < b81 := fun i hi => by have := (World.ownsRow.lt O16 i hi).2; omega
  have ob89 : ∀ i, (v17).ownBlock = some i → i < b81 := fun i hi => by have := (World.ownsRow.lt O21 i hi).2; omega
  have ob90 : ∀ i, (v27).ownBlock = some i → i < b81 := fun i hi => by have := (World.ownsRow.lt O31 i hi).2; omega
  have ob91 : ∀ i, ((Value.slice E40 x39.entries.length ec42)).ownBlock = some i → i < b81 := fun i hi => by have := (World.ownsRow.lt hE49 i hi).2; omega
  have ob92 : ∀ i, ((Value.slice D41 x39.data.length dc43)).ownBlock = some i → i < b81 := fun i hi => by have := (World.ownsRow.lt hD51 i hi).2; omega
  have oe93 := EntsMine.new (c := b81) hM50 (by omega)
  replace K0 := K0.trans K85 (U := none_) (fun i h1 h2 => h2) (fun i h1 h2 => by exact h2)
  replace H4 := H4.keep K85 (fun h => h)
  replace O12 := own_keep0 O12 K85
  replace O16 := own_keep0 O16 K85
  replace O21 := own_keep0 O21 K85
  replace O31 := own_keep0 O31 K85
  replace hE49 := own_keep0 hE49 K85
  replace hD51 := own_keep0 hD51 K85
  replace hM50 := hM50.keep2 K85 (fun _ _ _ _ _ _ h => h)
  clear K85 hs86
  refine Ops.put (t := 49) (b := b81) (off := 0) (v := (agg [(i64 x39.kind), (i64 x39.group), (i64 x39.frm), (i64 x39.to), (i64 x39.term), (i64 x39.index), (i64 x39.logTerm), (i64 x39.commit), (Value.bool x39.ok), (Value.slice E40 x39.entries.length ec42), (Value.slice D41 x39.data.length dc43)])) (ys := [(i64 x39.kind), (i64 x39.group), (i64 x39.frm), (i64 x39.to), (i64 x39.term), (i64 x39.index), (i64 x39.logTerm), (i64 x39.commit), (Value.bool x39.ok), (Value.slice E40 x39.entries.length ec42), (Value.slice D41 x39.data.length dc43)]) (by kernel_rfl) (by kernel_rfl) H84 (by kernel_rfl) (d := none) (by kernel_rfl) rfl (fun w94 H95 K96 => ?_)
  clear H84
  replace K0 := K0.trans K96 (U := none_) (fun i h1 h2 => h2) (fun i h1 h2 => by have h2 : i = b81 := h2; exfalso; omega)
  replace H4 := H4.keep K96 (by intro h; change b1 = b81 at h; omega)
  replace O12 := own_keep O12 K96 (fun i hi hs => by have hs : i = b81 := hs; have := ob87 i hi; omega)
  replace O16 := own_keep O16 K96 (fun i hi hs => by have hs : i = b81 := hs; have := ob88 i hi; omega)
  replace O21 := own_keep O21 K96 (fun i hi hs => by have hs : i = b81 := hs; have := ob89 i hi; omega)
  replace O31 := own_keep O31 K96 (fun i hi hs => by have hs : i = b81 := hs; have := ob90 i hi; omega)
  replace hE49 := own_keep hE49 K96 (fun i hi hs => by have hs : i = b81 := hs; have := ob91 i hi; omega)
  replace hD51 := own_keep hD51 K96 (fun i hi hs => by have hs : i = b81 := hs; have := ob92 i hi; omega)
  replace hM50 := EntsMine.keep2 hM50 K96 (fun x hx i o s hA hs => by have hs : i = b81 := hs; exact oe93 x hx i o s hA hs)
  clear K96
  refine Ops.regs 1 [(0, (Value.slice B bs.length bc)), (2, (ptr b1)), (3, (Value.slice A7 bs.length c8)), (4, v17), (5, (i64 ((unframeB bs).2))), (6, v27), (7, (i64 ((unframeB bs).2))), (8, (ptr b81)), (9, (i64 er44))] (j := 8) (by kernel_rfl) (by kernel_rfl) ?_
  refine Ops.done (by kernel_rfl) ?_
  refine qr_seq (by kernel_rfl) ?_
  refine qr_region Open.wide (by kernel_rfl) (by kernel_rfl) ?_
  refine Ops.regs 1 [(0, (Value.slice B bs.length bc)), (2, (ptr b1)), (3, (Value.slice A7 bs.length c8)), (4, v17), (5, (i64 ((unframeB bs).2))), (6, v27), (7, (i64 ((unframeB bs).2))), (8, (ptr b81)), (9, (i64 er44)), (34, (Value.slice B bs.length bc))] (j := 1) (by kernel_rfl) (by kernel_rfl) ?_
  refine Ops.call (by kernel_rfl) (d := (some 35)) (by kernel_rfl) (RUnmsg_calls _ B bc bs (hB.keep0 (by omega) K0) (by omega)) ?_
  rintro _ w103 ⟨y97, E98, D99, ec100, dc101, er102, rfl, K104, hok105, hq106, hE107, hC108, hD109⟩
  have ky110 : Keeps none_ w103 w103 := Keeps.refl _
  have her : er44 = er102 := (congrArg Prod.snd hq48).trans (congrArg Prod.snd hq106).symm
  have hco : x39.core = y97.core := (congrArg Prod.fst hq48).trans (congrArg Prod.fst hq106).symm
  refine ⟨_, _, rfl, rfl, ?_⟩
  replace K0 := K0.trans K104 (U := none_) (fun i h1 h2 => h2) (fun i h1 h2 => by exact h2)
  replace H4 := H4.keep K104 (fun h => h)
  replace H95 := H95.keep K104 (fun h => h)
  replace O12 := own_keep0 O12 K104
  replace O16 := own_keep0 O16 K104
  replace O21 := own_keep0 O21 K104
  replace O31 := own_keep0 O31 K104
  replace hE49 := own_keep0 hE49 K104
  replace hD51 := own_keep0 hD51 K104
  replace hM50 := hM50.keep2 K104 (fun _ _ _ _ _ _ h => h)
  clear K104
  refine Ops.regs 3 [(0, (Value.slice B bs.length bc)), (2, (ptr b1)), (3, (Value.slice A7 bs.length c8)), (4, v17), (5, (i64 ((unframeB bs).2))), (6, v27), (7, (i64 ((unframeB bs).2))), (8, (ptr b81)), (9, (i64 er44)), (36, (agg [(i64 y97.kind), (i64 y97.group), (i64 y97.frm), (i64 y97.to), (i64 y97.term), (i64 y97.index), (i64 y97.logTerm), (i64 y97.commit), (Value.bool y97.ok), (Value.slice E98 y97.entries.length ec100), (Value.slice D99 y97.data.length dc101)])), (37, (i64 er102))] (j := 5) (by kernel_rfl) (by kernel_rfl) ?_
  refine Ops.new (o := rowL [(i64 0), (i64 0), (i64 0), (i64 0), (i64 0), (i64 0), (i64 0), (i64 0), (Value.bool false), (Value.slice none 0 0), (Value.slice none 0 0)] 49) (V := fun b => (ptr b)) (by kernel_rfl) (d := (some 10)) (by kernel_rfl) (fun b => rfl) (fun b111 w112 hb113 H114 K115 hs116 => ?_)
  have lb111b1 : b1 < b111 := by have := H4.lt; omega
  have lb111b81 : b81 < b111 := by have := H95.lt; omega
  have nb111 : w.heap.size ≤ b111 := by have := K0.size; omega
  have ob117 : ∀ i, ((Value.slice A7 bs.length c8)).ownBlock = some i → i < b111 := fun i hi => by have := (World.ownsRow.lt O12 i hi).2; omega
  have ob118 : ∀ i, ((Value.slice A7 ((bs ++ [byte 167]).length) c8)).ownBlock = some i → i < b111 := fun i hi => by have := (World.ownsRow.lt O16 i hi).2; omega
  have ob119 : ∀ i, (v17).ownBlock = some i → i < b111 := fun i hi => by have := (World.ownsRow.lt O21 i hi).2; omega
  have ob120 : ∀ i, (v27).ownBlock = some i → i < b111 := fun i hi => by have := (World.ownsRow.lt O31 i hi).2; omega
  have ob121 : ∀ i, ((Value.slice E40 x39.entries.length ec42)).ownBlock = some i → i < b111 := fun i hi => by have := (World.ownsRow.lt hE49 i hi).2; omega
  have ob122 : ∀ i, ((Value.slice D41 x39.data.length dc43)).ownBlock = some i → i < b111 := fun i hi => by have := (World.ownsRow.lt hD51 i hi).2; omega
  have oe123 := EntsMine.new (c := b111) hM50 (by omega)
  have ox124 : w103.heap.size ≤ b111 := by have := ky110.size; omega
  replace K0 := K0.trans K115 (U := none_) (fun i h1 h2 => h2) (fun i h1 h2 => by exact h2)
  replace H4 := H4.keep K115 (fun h => h)
  replace H95 := H95.keep K115 (fun h => h)
  replace O12 := own_keep0 O12 K115
  replace O16 := own_keep0 O16 K115
  replace O21 := own_keep0 O21 K115
  replace O31 := own_keep0 O31 K115
  replace hE49 := own_keep0 hE49 K115
  replace hD51 := own_keep0 hD51 K115
  replace hM50 := hM50.keep2 K115 (fun _ _ _ _ _ _ h => h)
  replace ky110 := Keeps.trans ky110 K115 (U := none_) (fun _ _ h => h) (fun _ _ h => h)
  clear K115 hs116
  refine Ops.put (t := 49) (b := b111) (off := 0) (v := (agg [(i64 y97.kind), (i64 y97.group), (i64 y97.frm), (i64 y97.to), (i64 y97.term), (i64 y97.index), (i64 y97.logTerm), (i64 y97.commit), (Value.bool y97.ok), (Value.slice E98 y97.entries.length ec100), (Value.slice D99 y97.data.length dc101)])) (ys := [(i64 y97.kind), (i64 y97.group), (i64 y97.frm), (i64 y97.to), (i64 y97.term), (i64 y97.index), (i64 y97.logTerm), (i64 y97.commit), (Value.bool y97.ok), (Value.slice E98 y97.entries.length ec100), (Value.slice D99 y97.data.length dc101)]) (by kernel_rfl) (by kernel_rfl) H114 (by kernel_rfl) (d := none) (by kernel_rfl) rfl (fun w125 H126 K127 => ?_)
  clear H114
  replace K0 := K0.trans K127 (U := none_) (fun i h1 h2 => h2) (fun i h1 h2 => by have h2 : i = b111 := h2; exfalso; omega)
  replace H4 := H4.keep K127 (by intro h; change b1 = b111 at h; omega)
  replace H95 := H95.keep K127 (by intro h; change b81 = b111 at h; omega)
  replace O12 := own_keep O12 K127 (fun i hi hs => by have hs : i = b111 := hs; have := ob117 i hi; omega)
  replace O16 := own_keep O16 K127 (fun i hi hs => by have hs : i = b111 := hs; have := ob118 i hi; omega)
  replace O21 := own_keep O21 K127 (fun i hi hs => by have hs : i = b111 := hs; have := ob119 i hi; omega)
  replace O31 := own_keep O31 K127 (fun i hi hs => by have hs : i = b111 := hs; have := ob120 i hi; omega)
  replace hE49 := own_keep hE49 K127 (fun i hi hs => by have hs : i = b111 := hs; have := ob121 i hi; omega)
  replace hD51 := own_keep hD51 K127 (fun i hi hs => by have hs : i = b111 := hs; have := ob122 i hi; omega)
  replace hM50 := EntsMine.keep2 hM50 K127 (fun x hx i o s hA hs => by have hs : i = b111 := hs; exact oe123 x hx i o s hA hs)
  replace ky110 := Keeps.trans ky110 K127 (U := none_) (fun _ _ h => h) (fun i hi hs => by have hs : i = b111 := hs; exfalso; have := ox124; omega)
  clear K127
  refine Ops.regs 1 [(0, (Value.slice B bs.length bc)), (2, (ptr b1)), (3, (Value.slice A7 bs.length c8)), (4, v17), (5, (i64 ((unframeB bs).2))), (6, v27), (7, (i64 ((unframeB bs).2))), (8, (ptr b81)), (9, (i64 er44)), (10, (ptr b111)), (11, (i64 er102))] (j := 8) (by kernel_rfl) (by kernel_rfl) ?_
  refine Ops.done (by kernel_rfl) ?_
  refine qr_seq (by kernel_rfl) ?_
  refine qr_seq (by kernel_rfl) ?_
  refine qr_region Open.wide (by kernel_rfl) (by kernel_rfl) ?_
  refine Ops.regs 1 [(0, (Value.slice B bs.length bc)), (2, (ptr b1)), (3, (Value.slice A7 bs.length c8)), (4, v17), (5, (i64 ((unframeB bs).2))), (6, v27), (7, (i64 ((unframeB bs).2))), (8, (ptr b81)), (9, (i64 er44)), (10, (ptr b111)), (11, (i64 er102)), (38, v17)] (j := 1) (by kernel_rfl) (by kernel_rfl) ?_
  refine Ops.go (v := (Value.string (str ((unframeB bs).1)))) (by kernel_rfl) (Runs.b2s (s := 23) (d := 9) (e := 5) (by kernel_rfl) (by kernel_rfl) (by kernel_rfl) (OwnB.rd O21)) (d := (some 39)) (by kernel_rfl) rfl ?_
  refine Ops.regs 1 [(0, (Value.slice B bs.length bc)), (2, (ptr b1)), (3, (Value.slice A7 bs.length c8)), (4, v17), (5, (i64 ((unframeB bs).2))), (7, (i64 ((unframeB bs).2))), (8, (ptr b81)), (9, (i64 er44)), (10, (ptr b111)), (11, (i64 er102)), (39, (Value.string (str ((unframeB bs).1)))), (40, v27)] (j := 3) (by kernel_rfl) (by kernel_rfl) ?_
  refine Ops.go (v := (Value.string (str ((unframeB bs).1)))) (by kernel_rfl) (Runs.b2s (s := 23) (d := 9) (e := 5) (by kernel_rfl) (by kernel_rfl) (by kernel_rfl) (OwnB.rd O31)) (d := (some 41)) (by kernel_rfl) rfl ?_
  refine Ops.go (v := (Value.bool (!(((unframeB bs).1) == ((unframeB bs).1))))) (by kernel_rfl) (Runs.strne (t := 9) (by kernel_rfl)) (d := (some 42)) (by kernel_rfl) rfl ?_
  refine Ops.regs 1 [(0, (Value.slice B bs.length bc)), (2, (ptr b1)), (3, (Value.slice A7 bs.length c8)), (4, v17), (5, (i64 ((unframeB bs).2))), (7, (i64 ((unframeB bs).2))), (8, (ptr b81)), (9, (i64 er44)), (10, (ptr b111)), (11, (i64 er102)), (43, (Value.bool (!(((unframeB bs).1) == ((unframeB bs).1)))))] (j := 6) (by kernel_rfl) (by kernel_rfl) ?_
  have h128 : (!(((unframeB bs).1) == ((unframeB bs).1))) = false := by simp
  rw [h128]
  refine Ops.regs 5 [(0, (Value.slice B bs.length bc)), (2, (ptr b1)), (3, (Value.slice A7 bs.length c8)), (4, v17), (8, (ptr b81)), (9, (i64 er44)), (10, (ptr b111)), (11, (i64 er102)), (48, (Value.bool (((unframeB bs).2) != ((unframeB bs).2))))] (j := 11) (by kernel_rfl) (by kernel_rfl) ?_
  have h129 : (((unframeB bs).2) != ((unframeB bs).2)) = false := by simp
  rw [h129]
  refine Ops.go (v := (agg [(i64 x39.kind), (i64 x39.group), (i64 x39.frm), (i64 x39.to), (i64 x39.term), (i64 x39.index), (i64 x39.logTerm), (i64 x39.commit), (Value.bool x39.ok), (Value.slice E40 x39.entries.length ec42), (Value.slice D41 x39.data.length dc43)])) (by kernel_rfl) (Runs.load (t := 49) (a := ⟨b81, 0, none⟩) (by kernel_rfl) (H95.loads (by kernel_rfl))) (d := (some 49)) (by kernel_rfl) rfl ?_
  refine Ops.go (v := (agg [(i64 y97.kind), (i64 y97.group), (i64 y97.frm), (i64 y97.to), (i64 y97.term), (i64 y97.index), (i64 y97.logTerm), (i64 y97.commit), (Value.bool y97.ok), (Value.slice E98 y97.entries.length ec100), (Value.slice D99 y97.data.length dc101)])) (by kernel_rfl) (Runs.load (t := 49) (a := ⟨b111, 0, none⟩) (by kernel_rfl) (H126.loads (by kernel_rfl))) (d := (some 50)) (by kernel_rfl) rfl ?_
  refine Ops.call (by kernel_rfl) (d := (some 51)) (by kernel_rfl) (SameMsg_calls _ x39 E40 ec42 D41 dc43 y97 E98 ec100 D99 dc101 (OwnT.rd hE49) (EntsMine.ins hM50) (OwnB.rd hD51) (hE107.keep0 (by omega) ky110) (hC108.keep ky110) (hD109.keep0 (by omega) ky110)) ?_
  rintro _ w133 ⟨t130, rfl, ht131, K132⟩
  have htt : t130 = true := ht131.2 (MsgP.same_core.2 hco)
  refine ⟨_, _, rfl, rfl, ?_⟩
  replace K0 := K0.trans K132 (U := none_) (fun i h1 h2 => h2) (fun i h1 h2 => by exact h2)
  replace H4 := H4.keep K132 (fun h => h)
  replace H95 := H95.keep K132 (fun h => h)
  replace H126 := H126.keep K132 (fun h => h)
  replace O12 := own_keep0 O12 K132
  replace O16 := own_keep0 O16 K132
  replace O21 := own_keep0 O21 K132
  replace O31 := own_keep0 O31 K132
  replace hE49 := own_keep0 hE49 K132
  replace hD51 := own_keep0 hD51 K132
  replace hM50 := hM50.keep2 K132 (fun _ _ _ _ _ _ h => h)
  replace ky110 := Keeps.trans ky110 K132 (U := none_) (fun _ _ h => h) (fun _ _ h => h)
  clear K132
  refine Ops.regs 3 [(0, (Value.slice B bs.length bc)), (2, (ptr b1)), (3, (Value.slice A7 bs.length c8)), (4, v17), (8, (ptr b81)), (9, (i64 er44)), (11, (i64 er102)), (54, (Value.bool (!t130)))] (j := 17) (by kernel_rfl) (by kernel_rfl) ?_
  have h134 : (!t130) = false := by rw [htt]; rfl
  rw [h134]
  refine Ops.regs 4 [(0, (Value.slice B bs.length bc)), (2, (ptr b1)), (3, (Value.slice A7 bs.length c8)), (4, v17), (8, (ptr b81)), (58, (Value.bool (er44 != er102)))] (j := 21) (by kernel_rfl) (by kernel_rfl) ?_
  refine Ops.done (by kernel_rfl) ?_
  have h135 : (er44 != er102) = false := bne_f her
  rw [h135]
  refine qr_else (o := .tmp 58) (by kernel_rfl) rfl ?_
  refine qr_skip (by kernel_rfl) ?_
  refine qr_seq (by kernel_rfl) ?_
  clear H126 ob117 ob118 ob119 ob120 ob121 ob122 oe123 ox124 O31 ob32 oo33 oo34 oo35 oo36 oo37 oo38 oo61 oo70 oo71 oo79 oo80 ob90
  refine qr_region Open.wide (by kernel_rfl) (by kernel_rfl) ?_
  refine Ops.regs 1 [(0, (Value.slice B bs.length bc)), (2, (ptr b1)), (3, (Value.slice A7 bs.length c8)), (8, (ptr b81)), (59, v17)] (j := 1) (by kernel_rfl) (by kernel_rfl) ?_
  refine Ops.call (by kernel_rfl) (d := (some 60)) (by kernel_rfl) (Spoil_calls _ v17 ((unframeB bs).1) _ O21 (by (try simp only [List.length_append]); omega)) ?_
  rintro _ w137 ⟨rfl, K136⟩
  refine ⟨_, _, rfl, rfl, ?_⟩
  replace K0 := K0.trans K136 (U := none_) (fun i h1 h2 => h2) (fun i h1 h2 => by have h2 : (v17).ownBlock = some i := h2; exfalso; have := (World.ownsRow.lt O21 i h2).1; omega)
  replace H4 := H4.keep K136 (by intro h; change (v17).ownBlock = some b1 at h; have := ob22 b1 h; omega)
  replace H95 := H95.keep K136 (by intro h; change (v17).ownBlock = some b81 at h; have := ob89 b81 h; omega)
  replace O12 := own_keep O12 K136 (fun i hi hs => by have hs : (v17).ownBlock = some i := hs; exact oo23 i hi hs)
  replace O16 := own_keep O16 K136 (fun i hi hs => by have hs : (v17).ownBlock = some i := hs; exact oo25 i hi hs)
  clear O21
  replace hE49 := own_keep hE49 K136 (fun i hi hs => by have hs : (v17).ownBlock = some i := hs; exact oo69 i hi hs)
  replace hD51 := own_keep hD51 K136 (fun i hi hs => by have hs : (v17).ownBlock = some i := hs; exact oo78 i hi hs)
  replace hM50 := EntsMine.keep2 hM50 K136 (fun x hx i o s hA hs => by have hs : (v17).ownBlock = some i := hs; exact oo59 x hx i o s hA hs)
  clear ky110
  clear K136
  refine Ops.done (by kernel_rfl) ?_
  refine qr_seq (by kernel_rfl) ?_
  refine qr_region Open.wide (by kernel_rfl) (by kernel_rfl) ?_
  refine Ops.go (v := (agg [(i64 x39.kind), (i64 x39.group), (i64 x39.frm), (i64 x39.to), (i64 x39.term), (i64 x39.index), (i64 x39.logTerm), (i64 x39.commit), (Value.bool x39.ok), (Value.slice E40 x39.entries.length ec42), (Value.slice D41 x39.data.length dc43)])) (by kernel_rfl) (Runs.load (t := 49) (a := ⟨b81, 0, none⟩) (by kernel_rfl) (H95.loads (by kernel_rfl))) (d := (some 61)) (by kernel_rfl) rfl ?_
  refine Ops.call (by kernel_rfl) (d := (some 62)) (by kernel_rfl) (SpoilMsg_calls _ x39 E40 D41 ec42 dc43 w28.heap.size hE49 hM50 hD51 hpw52 hn53 hn54 hsh.1 hsh.2) ?_
  rintro _ w138 ⟨rfl, K139⟩
  refine ⟨_, _, rfl, rfl, ?_⟩
  replace K0 := K0.trans K139 (U := none_) (fun _ _ h => h) (fun i hi h => by have h : w28.heap.size ≤ i := h; exfalso; omega)
  replace H4 := H4.keep K139 (by intro h; have h : w28.heap.size ≤ b1 := h; omega)
  replace O12 := own_keep O12 K139 (fun i hi hs => by have := olt56 i hi; have hs : w28.heap.size ≤ i := hs; omega)
  replace O16 := own_keep O16 K139 (fun i hi hs => by have := olt58 i hi; have hs : w28.heap.size ≤ i := hs; omega)
  clear H95 hE49 hD51 hM50 K139
  refine Ops.done (by kernel_rfl) ?_
  refine qr_seq (by kernel_rfl) ?_
  refine qr_region Open.wide (by kernel_rfl) (by kernel_rfl) ?_
  refine Ops.regs 1 [(0, (Value.slice B bs.length bc)), (2, (ptr b1)), (3, (Value.slice A7 bs.length c8)), (63, (Value.slice B bs.length bc))] (j := 1) (by kernel_rfl) (by kernel_rfl) ?_
  refine Ops.call (by kernel_rfl) (d := (some 64)) (by kernel_rfl) (RFrames_calls _ B bc bs (hB.keep0 (by omega) K0) (by omega)) ?_
  rintro _ w143 ⟨l140, V141, c142, rfl, K144, hO145, hP146, hE147⟩
  have ob149 : ∀ i, ((Value.slice V141 l140.length c142)).ownBlock = some i → i ≠ b1 := fun i hi => by have := (World.ownsRow.lt hO145 i hi).1; have := H4.lt; omega
  have oo150 : ∀ i, ((Value.slice A7 bs.length c8)).ownBlock = some i → ((Value.slice V141 l140.length c142)).ownBlock = some i → False := fun i hi hs => by have := (World.ownsRow.lt hO145 i hs).1; have := (World.ownsRow.lt O12 i hi).2; omega
  have oo151 : ∀ i, ((Value.slice V141 l140.length c142)).ownBlock = some i → ((Value.slice A7 bs.length c8)).ownBlock = some i → False := fun i hi hs => oo150 i hs hi
  have oo152 : ∀ i, ((Value.slice A7 ((bs ++ [byte 167]).length) c8)).ownBlock = some i → ((Value.slice V141 l140.length c142)).ownBlock = some i → False := fun i hi hs => by have := (World.ownsRow.lt hO145 i hs).1; have := (World.ownsRow.lt O16 i hi).2; omega
  have oo153 : ∀ i, ((Value.slice V141 l140.length c142)).ownBlock = some i → ((Value.slice A7 ((bs ++ [byte 167]).length) c8)).ownBlock = some i → False := fun i hi hs => oo152 i hs hi
  have O148 := own_base hO145 K0.size
  have hEl : l140.length = (framesB bs).length := by rw [← hE147, List.length_map]
  have hfle := frames_le bs
  refine ⟨_, _, rfl, rfl, ?_⟩
  replace K0 := K0.trans K144 (U := none_) (fun i h1 h2 => h2) (fun i h1 h2 => by exact h2)
  replace H4 := H4.keep K144 (fun h => h)
  replace O12 := own_keep0 O12 K144
  replace O16 := own_keep0 O16 K144
  clear K144
  refine Ops.new (o := rowL [(Value.slice none 0 0)] 33) (V := fun b => (ptr b)) (by kernel_rfl) (d := (some 12)) (by kernel_rfl) (fun b => rfl) (fun b154 w155 hb156 H157 K158 hs159 => ?_)
  have lb154b1 : b1 < b154 := by have := H4.lt; omega
  have nb154 : w.heap.size ≤ b154 := by have := K0.size; omega
  have ob160 : ∀ i, ((Value.slice A7 bs.length c8)).ownBlock = some i → i < b154 := fun i hi => by have := (World.ownsRow.lt O12 i hi).2; omega
  have ob161 : ∀ i, ((Value.slice A7 ((bs ++ [byte 167]).length) c8)).ownBlock = some i → i < b154 := fun i hi => by have := (World.ownsRow.lt O16 i hi).2; omega
  have ob162 : ∀ i, ((Value.slice V141 l140.length c142)).ownBlock = some i → i < b154 := fun i hi => by have := (World.ownsRow.lt O148 i hi).2; omega
  have op163 : ∀ x ∈ (l140), ∀ i, (Value.slice x.A x.data.length x.c).ownBlock = some i → i < b154 := fun x hx i hi => by have := (World.ownsRow.lt (hP146 x hx) i hi).2; omega
  replace K0 := K0.trans K158 (U := none_) (fun i h1 h2 => h2) (fun i h1 h2 => by exact h2)
  replace H4 := H4.keep K158 (fun h => h)
  replace O12 := own_keep0 O12 K158
  replace O16 := own_keep0 O16 K158
  replace O148 := own_keep0 O148 K158
  replace hP146 := hP146.keep K158
  clear K158 hs159
  refine Ops.put (t := 33) (b := b154) (off := 0) (v := (Value.slice V141 l140.length c142)) (ys := [(Value.slice V141 l140.length c142)]) (by kernel_rfl) (by kernel_rfl) H157 (by kernel_rfl) (d := none) (by kernel_rfl) rfl (fun w164 H165 K166 => ?_)
  clear H157
  replace K0 := K0.trans K166 (U := none_) (fun i h1 h2 => h2) (fun i h1 h2 => by have h2 : i = b154 := h2; exfalso; omega)
  replace H4 := H4.keep K166 (by intro h; change b1 = b154 at h; omega)
  replace O12 := own_keep O12 K166 (fun i hi hs => by have hs : i = b154 := hs; have := ob160 i hi; omega)
  replace O16 := own_keep O16 K166 (fun i hi hs => by have hs : i = b154 := hs; have := ob161 i hi; omega)
  replace O148 := own_keep O148 K166 (fun i hi hs => by have hs : i = b154 := hs; have := ob162 i hi; omega)
  replace hP146 := PartsOwn.keep2 hP146 K166 (fun x hx i hi hs => by have hs : i = b154 := hs; have := op163 x hx i hi; omega)
  clear K166
  refine Ops.done (by kernel_rfl) ?_
  refine qr_seq (by kernel_rfl) ?_
  refine qr_region Open.wide (by kernel_rfl) (by kernel_rfl) ?_
  refine Ops.regs 1 [(0, (Value.slice B bs.length bc)), (2, (ptr b1)), (3, (Value.slice A7 bs.length c8)), (12, (ptr b154)), (65, (Value.slice A7 bs.length c8))] (j := 1) (by kernel_rfl) (by kernel_rfl) ?_
  refine Ops.call (by kernel_rfl) (d := (some 66)) (by kernel_rfl) (Frames_calls _ (Value.slice A7 bs.length c8) bs (OwnB.rd O12) (by omega)) ?_
  rintro _ w170 ⟨b167, A168, c169, rfl, K171, H172, hO173, nb175⟩
  have ob176 : ∀ i, ((Value.slice A168 ((bs).length) c169)).ownBlock = some i → i ≠ b1 := fun i hi => by have := (World.ownsRow.lt hO173 i hi).1; have := H4.lt; omega
  have ob177 : ∀ i, ((Value.slice A168 ((bs).length) c169)).ownBlock = some i → i ≠ b154 := fun i hi => by have := (World.ownsRow.lt hO173 i hi).1; have := H165.lt; omega
  have oo178 : ∀ i, ((Value.slice A7 bs.length c8)).ownBlock = some i → ((Value.slice A168 ((bs).length) c169)).ownBlock = some i → False := fun i hi hs => by have := (World.ownsRow.lt hO173 i hs).1; have := (World.ownsRow.lt O12 i hi).2; omega
  have oo179 : ∀ i, ((Value.slice A168 ((bs).length) c169)).ownBlock = some i → ((Value.slice A7 bs.length c8)).ownBlock = some i → False := fun i hi hs => oo178 i hs hi
  have oo180 : ∀ i, ((Value.slice A7 ((bs ++ [byte 167]).length) c8)).ownBlock = some i → ((Value.slice A168 ((bs).length) c169)).ownBlock = some i → False := fun i hi hs => by have := (World.ownsRow.lt hO173 i hs).1; have := (World.ownsRow.lt O16 i hi).2; omega
  have oo181 : ∀ i, ((Value.slice A168 ((bs).length) c169)).ownBlock = some i → ((Value.slice A7 ((bs ++ [byte 167]).length) c8)).ownBlock = some i → False := fun i hi hs => oo180 i hs hi
  have oo182 : ∀ i, ((Value.slice V141 l140.length c142)).ownBlock = some i → ((Value.slice A168 ((bs).length) c169)).ownBlock = some i → False := fun i hi hs => by have := (World.ownsRow.lt hO173 i hs).1; have := (World.ownsRow.lt O148 i hi).2; omega
  have oo183 : ∀ i, ((Value.slice A168 ((bs).length) c169)).ownBlock = some i → ((Value.slice V141 l140.length c142)).ownBlock = some i → False := fun i hi hs => oo182 i hs hi
  have O174 := own_base hO173 K0.size
  have lb167b1 : b1 < b167 := by have := H4.lt; omega
  have lb167b154 : b154 < b167 := by have := H165.lt; omega
  have nb167 : w.heap.size ≤ b167 := by have := K0.size; omega
  refine ⟨_, _, rfl, rfl, ?_⟩
  replace K0 := K0.trans K171 (U := none_) (fun i h1 h2 => h2) (fun i h1 h2 => by exact h2)
  replace H4 := H4.keep K171 (fun h => h)
  replace H165 := H165.keep K171 (fun h => h)
  replace O12 := own_keep0 O12 K171
  replace O16 := own_keep0 O16 K171
  replace O148 := own_keep0 O148 K171
  replace hP146 := hP146.keep K171
  clear K171
  refine Ops.regs 1 [(0, (Value.slice B bs.length bc)), (2, (ptr b1)), (3, (Value.slice A7 bs.length c8)), (12, (ptr b154)), (13, (Value.func (Fn.func 62) ⟨[]⟩ ⟨[(ptr b167)]⟩))] (j := 3) (by kernel_rfl) (by kernel_rfl) ?_
  refine Ops.done (by kernel_rfl) ?_
  refine qr_seq (by kernel_rfl) ?_
  refine qr_seq (by kernel_rfl) ?_
  refine qr_region Open.wide (by kernel_rfl) (by kernel_rfl) ?_
  refine Ops.regs 2 [(0, (Value.slice B bs.length bc)), (2, (ptr b1)), (3, (Value.slice A7 bs.length c8)), (12, (ptr b154)), (13, (Value.func (Fn.func 62) ⟨[]⟩ ⟨[(ptr b167)]⟩)), (68, (Value.bool false))] (j := 2) (by kernel_rfl) (by kernel_rfl) ?_
  refine Ops.done (by kernel_rfl) ?_
  refine qr_else (o := .tmp 68) (by kernel_rfl) rfl ?_
  refine qr_skip (by kernel_rfl) ?_
  refine qr_seq (by kernel_rfl) ?_
  refine qr_region Open.wide (by kernel_rfl) (by kernel_rfl) ?_
  refine Ops.new (o := rowL [(i64 0)] 3) (V := fun b => (ptr b)) (by kernel_rfl) (d := (some 14)) (by kernel_rfl) (fun b => rfl) (fun b184 w185 hb186 H187 K188 hs189 => ?_)
  have lb184b1 : b1 < b184 := by have := H4.lt; omega
  have lb184b154 : b154 < b184 := by have := H165.lt; omega
  have lb184b167 : b167 < b184 := by have := H172.lt; omega
  have nb184 : w.heap.size ≤ b184 := by have := K0.size; omega
  have ob190 : ∀ i, ((Value.slice A7 bs.length c8)).ownBlock = some i → i < b184 := fun i hi => by have := (World.ownsRow.lt O12 i hi).2; omega
  have ob191 : ∀ i, ((Value.slice A7 ((bs ++ [byte 167]).length) c8)).ownBlock = some i → i < b184 := fun i hi => by have := (World.ownsRow.lt O16 i hi).2; omega
  have ob192 : ∀ i, ((Value.slice V141 l140.length c142)).ownBlock = some i → i < b184 := fun i hi => by have := (World.ownsRow.lt O148 i hi).2; omega
  have op193 : ∀ x ∈ (l140), ∀ i, (Value.slice x.A x.data.length x.c).ownBlock = some i → i < b184 := fun x hx i hi => by have := (World.ownsRow.lt (hP146 x hx) i hi).2; omega
  have ob194 : ∀ i, ((Value.slice A168 ((bs).length) c169)).ownBlock = some i → i < b184 := fun i hi => by have := (World.ownsRow.lt O174 i hi).2; omega
  replace K0 := K0.trans K188 (U := none_) (fun i h1 h2 => h2) (fun i h1 h2 => by exact h2)
  replace H4 := H4.keep K188 (fun h => h)
  replace H165 := H165.keep K188 (fun h => h)
  replace H172 := H172.keep K188 (fun h => h)
  replace O12 := own_keep0 O12 K188
  replace O16 := own_keep0 O16 K188
  replace O148 := own_keep0 O148 K188
  replace hP146 := hP146.keep K188
  replace O174 := own_keep0 O174 K188
  clear K188 hs189
  refine Ops.put (t := 3) (b := b184) (off := 0) (v := (i64 0)) (ys := [(i64 0)]) (by kernel_rfl) (by kernel_rfl) H187 (by kernel_rfl) (d := none) (by kernel_rfl) rfl (fun w195 H196 K197 => ?_)
  clear H187
  replace K0 := K0.trans K197 (U := none_) (fun i h1 h2 => h2) (fun i h1 h2 => by have h2 : i = b184 := h2; exfalso; omega)
  replace H4 := H4.keep K197 (by intro h; change b1 = b184 at h; omega)
  replace H165 := H165.keep K197 (by intro h; change b154 = b184 at h; omega)
  replace H172 := H172.keep K197 (by intro h; change b167 = b184 at h; omega)
  replace O12 := own_keep O12 K197 (fun i hi hs => by have hs : i = b184 := hs; have := ob190 i hi; omega)
  replace O16 := own_keep O16 K197 (fun i hi hs => by have hs : i = b184 := hs; have := ob191 i hi; omega)
  replace O148 := own_keep O148 K197 (fun i hi hs => by have hs : i = b184 := hs; have := ob192 i hi; omega)
  replace hP146 := PartsOwn.keep2 hP146 K197 (fun x hx i hi hs => by have hs : i = b184 := hs; have := op193 x hx i hi; omega)
  replace O174 := own_keep O174 K197 (fun i hi hs => by have hs : i = b184 := hs; have := ob194 i hi; omega)
  clear K197
  refine Ops.done (by kernel_rfl) ?_
  refine qr_seq (by kernel_rfl) ?_
  refine qr_seq (by kernel_rfl) ?_
  refine qr_region Open.wide (by kernel_rfl) (by kernel_rfl) ?_
  refine Ops.regs 1 [(0, (Value.slice B bs.length bc)), (2, (ptr b1)), (3, (Value.slice A7 bs.length c8)), (12, (ptr b154)), (14, (ptr b184)), (69, (Value.func (Fn.func 62) ⟨[]⟩ ⟨[(ptr b167)]⟩))] (j := 1) (by kernel_rfl) (by kernel_rfl) ?_
  refine Ops.done (by kernel_rfl) ?_
  refine qr_block (id := 0) (by kernel_rfl) ?_
  have zb184 := H196.lt
  have zb1 := H4.lt
  have zb154 := H165.lt
  have zb167 := H172.lt
  obtain ⟨NN, hNN⟩ : ∃ NN, NN = (framesB bs).length := ⟨_, rfl⟩
  refine qr_keep (R := [(0, (Value.slice B bs.length bc)), (2, (ptr b1)), (3, (Value.slice A7 bs.length c8)), (12, (ptr b154)), (14, (ptr b184)), (69, (Value.func (Fn.func 62) ⟨[]⟩ ⟨[(ptr b167)]⟩))]) (by kernel_rfl) ?_
  refine qr_each (g := .tmp 69) (t := 70) (m := 11) (A := fun k x W => OwnB W w195.heap.size 5 x ((framesB bs).getD k [])) (N := NN) (w0 := w195) (T := fun i => i = b184 ∨ w195.heap.size ≤ i) (by kernel_rfl) (by decide) (gf := 62) (lb := [ptr b167]) rfl (enters Try.func62 (by kernel_rfl) (by kernel_rfl))
    (by rw [hNN]; exact Frames1_tells w195 9 b167 A168 c169 bs (fun i => i = b184 ∨ w195.heap.size ≤ i) H172 (by intro h; change b167 = b184 ∨ w195.heap.size ≤ b167 at h; omega) (OwnB.rd O174) (fun b hb h => by have q1 := ob194 b hb; have q2 := (World.ownsRow.lt O174 b hb).2; have h : b = b184 ∨ w195.heap.size ≤ b := h; omega) (by omega))
    (fun i h => .inr h) ((Keeps.refl _).mono (fun _ _ h => h.elim)) (fun j W => Has W b184 (rowL [i64 ((j : Nat) : Int)] 3) ∧ Keeps (fun i => i = b184 ∨ w195.heap.size ≤ i) w195 W)
    (fun k W W' h lo => ⟨lo.has h.1, h.2.trans lo.keeps (fun _ _ h => h) (fun _ _ h => .inr h)⟩) (fun k v W W' h lo => lo.own h) ⟨H196, (Keeps.refl _).mono (fun _ _ h => h.elim)⟩ (fun v => ((70, v) :: [(0, (Value.slice B bs.length bc)), (2, (ptr b1)), (3, (Value.slice A7 bs.length c8)), (12, (ptr b154)), (14, (ptr b184)), (69, (Value.func (Fn.func 62) ⟨[]⟩ ⟨[(ptr b167)]⟩))])) (fun v => [(0, (Value.slice B bs.length bc)), (2, (ptr b1)), (3, (Value.slice A7 bs.length c8)), (12, (ptr b154)), (14, (ptr b184)), (15, v)]) (fun v => rfl) ?_ ?_ ?_
  · intro ln v W
    refine qr_region (Open.round ln) (by kernel_rfl) (by kernel_rfl) ?_
    refine Ops.regs 1 [(0, (Value.slice B bs.length bc)), (2, (ptr b1)), (3, (Value.slice A7 bs.length c8)), (12, (ptr b154)), (14, (ptr b184)), (15, v)] (j := 1) (by kernel_rfl) (by kernel_rfl) ?_
    refine Ops.done (by kernel_rfl) ?_
    exact ⟨rfl, rfl, rfl, rfl⟩
  · rintro ln j v W ⟨hj14, hk⟩ hjN hO
    have hat : ∀ x, l140[j]? = some x → (framesB bs).getD j [] = x.data := fun x hx => by rw [← hE147, List.getD_eq_getElem?_getD, List.getElem?_map, hx]; rfl
    refine qr_keep (R := [(12, (ptr b154)), (14, (ptr b184)), (15, v)]) (by kernel_rfl) ?_
    refine qr_mono (Frames_body W ln V141 c142 l140 j b154 b184 w195.heap.size v ((framesB bs).getD j []) (H165.keep hk (by intro h; change b154 = b184 ∨ w195.heap.size ≤ b154 at h; omega)) hj14 (by omega) (Rd.keep (by omega) (OwnT.rd O148) hk (fun b hb h => by have q1 := ob192 b hb; have q2 := (World.ownsRow.lt O148 b hb).2; have h : b = b184 ∨ w195.heap.size ≤ b := h; omega)) (PartsOwn.ins (PartsOwn.keep2 hP146 hk (fun x hx b hb h => by have q1 := op193 x hx b hb; have q2 := (World.ownsRow.lt (hP146 x hx) b hb).2; have h : b = b184 ∨ w195.heap.size ≤ b := h; omega))) hO hat (by omega) (by omega) (part_le bs j)) ?_
    rintro ds e L W2 ⟨rfl, k2, h2⟩
    have hkT : Keeps (fun i => i = b184 ∨ w195.heap.size ≤ i) W W2 := k2.mono (fun i _ h => by rcases h with h | h; (exact .inl h); (exact .inr (World.ownsRow.lt hO i h).1))
    exact ⟨rfl, keepsFrom_of k2 (fun i hi hB => by rcases hi with hi | hi; (exfalso; omega); (exact own_is_cells hO hi)), hkT, h2, hk.trans hkT (fun _ _ h => h) (fun _ _ h => h)⟩
  · rintro D W hDw ⟨hj14, hk⟩ hD
    have K198 : Keeps none_ w W := K0.trans hk (U := none_) (fun _ _ h => h) (fun i hi h => by rcases h with h | h; (omega); (have := K0.size; omega))
    have H199 := (H4.keep hk (by intro h; change b1 = b184 ∨ w195.heap.size ≤ b1 at h; omega))
    have H200 := (H165.keep hk (by intro h; change b154 = b184 ∨ w195.heap.size ≤ b154 at h; omega))
    have H201 := (H172.keep hk (by intro h; change b167 = b184 ∨ w195.heap.size ≤ b167 at h; omega))
    have F202 := own_keep O12 hk (fun b hb h => by have q1 := ob190 b hb; have q2 := (World.ownsRow.lt O12 b hb).2; have h : b = b184 ∨ w195.heap.size ≤ b := h; omega)
    have F203 := own_keep O16 hk (fun b hb h => by have q1 := ob191 b hb; have q2 := (World.ownsRow.lt O16 b hb).2; have h : b = b184 ∨ w195.heap.size ≤ b := h; omega)
    clear H4 H165 H172 H196 O12 O16 O148 hP146 O174 K0
    have hbD : b1 < D ∧ b154 < D ∧ b167 < D ∧ b184 < D := by omega
    have hwD : w.heap.size ≤ D := by have := K198.size; omega
    have hD1 : Has W D (.deferred (some [])) := hD
    clear hD
    refine qr_seq (by kernel_rfl) ?_
    refine qr_region Open.wide (by kernel_rfl) (by kernel_rfl) ?_
    refine Ops.go (v := (i64 ((NN : Nat) : Int))) (by kernel_rfl) (Runs.load (t := 3) (a := ⟨b184, 0, none⟩) (by kernel_rfl) (hj14.loads (by kernel_rfl))) (d := (some 89)) (by kernel_rfl) rfl ?_
    refine Ops.go (v := (Value.slice V141 l140.length c142)) (by kernel_rfl) (Runs.load (t := 33) (a := ⟨b154, 0, none⟩) (by kernel_rfl) (H200.loads (by kernel_rfl))) (d := (some 90)) (by kernel_rfl) rfl ?_
    refine Ops.regs 3 [(0, (Value.slice B bs.length bc)), (2, (ptr b1)), (3, (Value.slice A7 bs.length c8)), (93, (Value.bool (((NN : Nat) : Int) == ((l140.length : Nat) : Int))))] (j := 5) (by kernel_rfl) (by kernel_rfl) ?_
    have h204 : (((NN : Nat) : Int) == ((l140.length : Nat) : Int)) = true := beq_t (by omega)
    rw [h204]
    refine Ops.regs 2 [(2, (ptr b1)), (93, (Value.bool true)), (94, (Value.slice A7 bs.length c8)), (95, (Value.slice B bs.length bc))] (j := 7) (by kernel_rfl) (by kernel_rfl) ?_
    refine Ops.call (by kernel_rfl) (d := (some 96)) (by kernel_rfl) (Kept_calls _ A7 c8 bs _ B bc F203 (hB.keep0 (by omega) K198) (by omega)) ?_
    rintro _ w205 ⟨rfl, K206⟩
    refine ⟨_, _, rfl, rfl, ?_⟩
    replace K198 := K198.trans K206 (U := none_) (fun i h1 h2 => h2) (fun i h1 h2 => by exact h2)
    replace H199 := H199.keep K206 (fun h => h)
    replace H200 := H200.keep K206 (fun h => h)
    replace H201 := H201.keep K206 (fun h => h)
    replace hj14 := hj14.keep K206 (fun h => h)
    replace hD1 := hD1.keep K206 (fun h => h)
    replace F202 := own_keep0 F202 K206
    replace F203 := own_keep0 F203 K206
    clear K206
    refine Ops.regs 2 [(2, (ptr b1)), (98, (Value.bool true))] (j := 10) (by kernel_rfl) (by kernel_rfl) ?_
    refine Ops.call (by kernel_rfl) (d := (some 99)) (by kernel_rfl) (known_calls _) ?_
    rintro _ w207 ⟨rfl, K208⟩
    refine ⟨_, _, rfl, rfl, ?_⟩
    replace K198 := K198.trans K208 (U := none_) (fun i h1 h2 => h2) (fun i h1 h2 => by exact h2)
    replace H199 := H199.keep K208 (fun h => h)
    replace H200 := H200.keep K208 (fun h => h)
    replace H201 := H201.keep K208 (fun h => h)
    replace hj14 := hj14.keep K208 (fun h => h)
    replace hD1 := hD1.keep K208 (fun h => h)
    replace F202 := own_keep0 F202 K208
    replace F203 := own_keep0 F203 K208
    clear K208
    refine Ops.regs 1 [(2, (ptr b1)), (100, (Value.bool true))] (j := 12) (by kernel_rfl) (by kernel_rfl) ?_
    refine Ops.put (t := 4) (b := b1) (off := 0) (v := (Value.bool true)) (ys := [(Value.bool true)]) (by kernel_rfl) (by kernel_rfl) H199 (by kernel_rfl) (d := none) (by kernel_rfl) rfl (fun w209 H210 K211 => ?_)
    clear H199
    replace K198 := K198.trans K211 (U := none_) (fun i h1 h2 => h2) (fun i h1 h2 => by have h2 : i = b1 := h2; exfalso; omega)
    replace H200 := H200.keep K211 (by intro h; change b154 = b1 at h; omega)
    replace H201 := H201.keep K211 (by intro h; change b167 = b1 at h; omega)
    replace hj14 := hj14.keep K211 (by intro h; change b184 = b1 at h; omega)
    replace hD1 := hD1.keep K211 (by intro h; change D = b1 at h; omega)
    clear F202
    clear F203
    clear K211
    refine Ops.done (by kernel_rfl) ?_
    refine qr_ret (by kernel_rfl) ?_
    refine retR_one (D := D) hD1 (v := (Value.bool true)) (retv_cell rfl rfl (((Loose.put (B := D) (.deferred none) (Nat.le_refl _) hD1 rfl).has H210).loads (by kernel_rfl))) ?_
    exact ⟨rfl, (K198.trans (Loose.put (B := D) (.deferred none) (Nat.le_refl _) hD1 rfl).keeps (fun _ _ h => h) (fun i hi h => by have h : D ≤ i := h; omega))⟩
end Go.Proofs.Ytnepjfnkaigakaa
