/- codec: frames -/
import Derived.Test.YtnepjfnkaigakaaProg
import Derived.Test.YtnepjfnkaigakaaK9
import Derived.Test.YtnepjfnkaigakaaK10
import Derived.Test.YtnepjfnkaigakaaK5
set_option linter.unusedVariables false
namespace Go.Proofs.Ytnepjfnkaigakaa
open Go.Q Go.RowKit

theorem At_calls (w : World) (b : Nat) (A : Option Addr) (c : Nat) (r : Rdr) (hok : r.Ok) (H0 : Has w b (rowL (rdrL A c r) 88)) (hR : RdO w A c r.bs) (hne : ∀ g o s, A = some ⟨g, o, s⟩ → g ≠ b) : Calls Try.prog 16 ⟨[(Value.pointer (some ⟨b, 0, none⟩))]⟩ w (fun e w' => e = .returned (i64 ((r.pos : Nat) : Int)) ∧ Keeps none_ w w') := by
  have hpos := hok.pos
  have hlen := hok.len
  have hsc := r.scan_le
  have hdl : (r.bs.drop r.pos).length = r.bs.length - r.pos := List.length_drop
  have hcap := hR.1.slice
  have Hb := H0.lt
  have K0 : Keeps none_ w w := Keeps.refl w
  refine q_calls Try.func16 (by kernel_rfl) (by kernel_rfl) ?_
  refine q_seq (by kernel_rfl) ?_
  refine q_region (by kernel_rfl) ?_
  refine Ops.regs 1 [(0, (Value.pointer (some ⟨b, 0, none⟩))), (2, (i64 0))] (j := 1) (by kernel_rfl) (by kernel_rfl) ?_
  refine Ops.done (by kernel_rfl) ?_
  refine q_seq (by kernel_rfl) ?_
  refine q_seq (by kernel_rfl) ?_
  refine q_region (by kernel_rfl) ?_
  refine Ops.regs 2 [(0, (Value.pointer (some ⟨b, 0, none⟩))), (2, (i64 0)), (4, (Value.bool false))] (j := 2) (by kernel_rfl) (by kernel_rfl) ?_
  refine Ops.done (by kernel_rfl) ?_
  refine q_else (o := .tmp 4) (by kernel_rfl) rfl ?_
  refine q_skip (by kernel_rfl) ?_
  refine q_seq (by kernel_rfl) ?_
  refine q_region (by kernel_rfl) ?_
  refine Ops.regs 3 [(2, (i64 0)), (7, (Value.pointer (some ⟨b, 1, none⟩)))] (j := 3) (by kernel_rfl) (by kernel_rfl) ?_
  refine Ops.go (v := (i64 ((r.pos : Nat) : Int))) (by kernel_rfl) (Runs.load (t := 3) (a := ⟨b, 1, none⟩) (by kernel_rfl) (H0.loads (by kernel_rfl))) (d := (some 8)) (by kernel_rfl) rfl ?_
  refine Ops.regs 1 [(2, (i64 ((r.pos : Nat) : Int)))] (j := 5) (by kernel_rfl) (by kernel_rfl) ?_
  refine Ops.done (by kernel_rfl) ?_
  refine q_ret (by kernel_rfl) ?_
  refine ⟨(i64 ((r.pos : Nat) : Int)), retv_tmp rfl rfl, ?_⟩
  exact ⟨rfl, K0⟩

theorem Frame_long (w : World) (A : Option Addr) (c : Nat) (bs : List UInt8) (hv : RdB w (.slice A bs.length c) bs) (hl : 65536 < bs.length) : Calls Try.prog 18 ⟨[(Value.slice A bs.length c)]⟩ w (fun e w' => e = .returned (.tuple #[.slice none 0 0, i64 3]) ∧ Keeps none_ w w') := by
  have K0 : Keeps none_ w w := Keeps.refl w
  refine q_calls Try.func18 (by kernel_rfl) (by kernel_rfl) ?_
  refine q_seq (by kernel_rfl) ?_
  refine q_region (by kernel_rfl) ?_
  refine Ops.regs 2 [(0, (Value.slice A bs.length c)), (2, (Value.slice none 0 0)), (3, (i64 0))] (j := 2) (by kernel_rfl) (by kernel_rfl) ?_
  refine Ops.done (by kernel_rfl) ?_
  refine q_seq (by kernel_rfl) ?_
  refine q_seq (by kernel_rfl) ?_
  refine q_region (by kernel_rfl) ?_
  refine Ops.regs 3 [(0, (Value.slice A bs.length c)), (2, (Value.slice none 0 0)), (3, (i64 0)), (8, (Value.bool (decide (((bs.length : Nat) : Int) > 65536))))] (j := 3) (by kernel_rfl) (by kernel_rfl) ?_
  refine Ops.done (by kernel_rfl) ?_
  have h1 : (decide (((bs.length : Nat) : Int) > 65536)) = true := decide_eq_true (by omega)
  rw [h1]
  refine q_then (o := .tmp 8) (by kernel_rfl) rfl ?_
  refine q_seq (by kernel_rfl) ?_
  refine q_region (by kernel_rfl) ?_
  refine Ops.regs 2 [(0, (Value.slice A bs.length c)), (2, (Value.slice none 0 0)), (3, (i64 3))] (j := 2) (by kernel_rfl) (by kernel_rfl) ?_
  refine Ops.done (by kernel_rfl) ?_
  refine q_ret (by kernel_rfl) ?_
  refine ⟨(Value.tuple #[(Value.slice none 0 0), (i64 3)]), retv_tmp2 rfl rfl rfl, ?_⟩
  exact ⟨rfl, K0⟩

theorem Frame_calls (w : World) (A : Option Addr) (c : Nat) (bs : List UInt8) (hv : RdB w (.slice A bs.length c) bs) (hl : bs.length ≤ 65536) : Calls Try.prog 18 ⟨[(Value.slice A bs.length c)]⟩ w (fun e w' => ∃ v', e = .returned (.tuple #[v', i64 0]) ∧ Keeps none_ w w' ∧ OwnB w' w.heap.size 5 v' (frameB bs)) := by
  have K0 : Keeps none_ w w := Keeps.refl w
  refine q_calls Try.func18 (by kernel_rfl) (by kernel_rfl) ?_
  refine q_seq (by kernel_rfl) ?_
  refine q_region (by kernel_rfl) ?_
  refine Ops.regs 2 [(0, (Value.slice A bs.length c)), (2, (Value.slice none 0 0)), (3, (i64 0))] (j := 2) (by kernel_rfl) (by kernel_rfl) ?_
  refine Ops.done (by kernel_rfl) ?_
  refine q_seq (by kernel_rfl) ?_
  refine q_seq (by kernel_rfl) ?_
  refine q_region (by kernel_rfl) ?_
  refine Ops.regs 3 [(0, (Value.slice A bs.length c)), (2, (Value.slice none 0 0)), (3, (i64 0)), (8, (Value.bool (decide (((bs.length : Nat) : Int) > 65536))))] (j := 3) (by kernel_rfl) (by kernel_rfl) ?_
  refine Ops.done (by kernel_rfl) ?_
  have h1 : (decide (((bs.length : Nat) : Int) > 65536)) = false := decide_eq_false (by omega)
  rw [h1]
  refine q_else (o := .tmp 8) (by kernel_rfl) rfl ?_
  refine q_skip (by kernel_rfl) ?_
  refine q_seq (by kernel_rfl) ?_
  refine q_region (by kernel_rfl) ?_
  refine Ops.regs 3 [(0, (Value.slice A bs.length c)), (2, (Value.slice none 0 0)), (3, (i64 0)), (11, (Value.int IntKind.u64 (IntKind.u64.wrap (((bs.length : Nat) : Int)))))] (j := 3) (by kernel_rfl) (by kernel_rfl) ?_
  have e2 : IntKind.u64.wrap (((bs.length : Nat) : Int)) = ((bs.length : Nat) : Int) := wrap_u64 (by omega) (by omega)
  rw [e2]
  refine Ops.call (by kernel_rfl) (d := (some 12)) (by kernel_rfl) (Uint_calls _ (Value.slice none 0 0) [] bs.length (Rd.nil _ _) (by omega) (by (try simp only at *); (try simp only [List.length_append] at *); (try simp only [List.length_cons] at *); (try simp only [List.length_nil] at *); omega)) ?_
  rintro _ w5 ⟨v4, rfl, K6, hO7⟩
  have O8 := own_base hO7 K0.size
  clear hO7
  have hL3 := uv_length_10 (n := bs.length) (by omega)
  refine ⟨_, _, rfl, rfl, ?_⟩
  have K9 := K0.trans K6 (U := none_) (fun i h1 h2 => h2) (fun i h1 h2 => by exact h2)
  clear K0
  clear K6
  refine Ops.regs 1 [(0, (Value.slice A bs.length c)), (2, (Value.slice none 0 0)), (3, (i64 0)), (4, v4)] (j := 5) (by kernel_rfl) (by kernel_rfl) ?_
  refine Ops.done (by kernel_rfl) ?_
  refine q_seq (by kernel_rfl) ?_
  refine q_region (by kernel_rfl) ?_
  refine Ops.regs 1 [(0, (Value.slice A bs.length c)), (2, (Value.slice none 0 0)), (3, (i64 0)), (4, v4), (13, (Value.slice A bs.length c))] (j := 1) (by kernel_rfl) (by kernel_rfl) ?_
  refine Ops.call (by kernel_rfl) (d := (some 14)) (by kernel_rfl) (Sum_calls _ (Value.slice A bs.length c) bs (hv.keep0 (by omega) K9) (by omega)) ?_
  rintro _ w10 ⟨rfl, K11⟩
  have hb12 := crcMore_lt bs (s := 0) (by omega)
  refine ⟨_, _, rfl, rfl, ?_⟩
  have K13 := K9.trans K11 (U := none_) (fun i h1 h2 => h2) (fun i h1 h2 => by exact h2)
  clear K9
  have F14 := own_keep0 O8 K11
  clear O8
  clear K11
  refine Ops.regs 1 [(0, (Value.slice A bs.length c)), (2, (Value.slice none 0 0)), (3, (i64 0)), (4, v4), (5, (Value.int IntKind.u32 ((crcMore 0 bs : Nat) : Int)))] (j := 3) (by kernel_rfl) (by kernel_rfl) ?_
  refine Ops.done (by kernel_rfl) ?_
  refine q_seq (by kernel_rfl) ?_
  refine q_seq (by kernel_rfl) ?_
  refine q_region (by kernel_rfl) ?_
  refine Ops.regs 1 [(0, (Value.slice A bs.length c)), (2, (Value.slice none 0 0)), (3, (i64 0)), (4, v4), (5, (Value.int IntKind.u32 ((crcMore 0 bs : Nat) : Int))), (15, (i64 0))] (j := 1) (by kernel_rfl) (by kernel_rfl) ?_
  refine Ops.done (by kernel_rfl) ?_
  refine q_block (id := 0) (by kernel_rfl) ?_
  refine q_roll 5 (by kernel_rfl) ?_
  refine roll_step ?_
  refine q_seq (by kernel_rfl) ?_
  refine q_region (by kernel_rfl) ?_
  refine Ops.regs 1 [(0, (Value.slice A bs.length c)), (2, (Value.slice none 0 0)), (3, (i64 0)), (4, v4), (5, (Value.int IntKind.u32 ((crcMore 0 bs : Nat) : Int))), (15, (i64 0)), (16, (Value.bool true))] (j := 1) (by kernel_rfl) (by kernel_rfl) ?_
  refine Ops.done (by kernel_rfl) ?_
  refine q_seq (by kernel_rfl) ?_
  refine q_then (o := .tmp 16) (by kernel_rfl) rfl ?_
  refine q_skip (by kernel_rfl) ?_
  refine q_seq (by kernel_rfl) ?_
  refine q_block (id := 1) (by kernel_rfl) ?_
  refine q_seq (by kernel_rfl) ?_
  refine q_region (by kernel_rfl) ?_
  refine Ops.regs 3 [(0, (Value.slice A bs.length c)), (2, (Value.slice none 0 0)), (3, (i64 0)), (4, v4), (5, (Value.int IntKind.u32 ((crcMore 0 bs : Nat) : Int))), (15, (i64 0)), (16, (Value.bool true)), (17, v4), (19, (Value.int IntKind.u8 (IntKind.u8.wrap ((crcMore 0 bs : Nat) : Int))))] (j := 3) (by kernel_rfl) (by kernel_rfl) ?_
  have e15 : IntKind.u8.wrap ((crcMore 0 bs : Nat) : Int) = (((crcMore 0 bs) % 256 : Nat) : Int) := u8_wrap (crcMore 0 bs)
  rw [e15]
  clear e15
  refine Ops.new (o := rowL [(Value.int IntKind.u8 (((crcMore 0 bs) % 256 : Nat) : Int))] 5) (V := fun b => (Value.slice (some ⟨b, 0, none⟩) 1 1)) (by kernel_rfl) (d := (some 20)) (by kernel_rfl) (fun b => rfl) (fun b16 w17 hb18 H19 K20 hs21 => ?_)
  have nb16 : w.heap.size ≤ b16 := by have := K13.size; omega
  have ob22 : ∀ i, (v4).ownBlock = some i → i < b16 := fun i hi => by have := (World.ownsRow.lt F14 i hi).2; omega
  have K23 := K13.trans K20 (U := none_) (fun i h1 h2 => h2) (fun i h1 h2 => by exact h2)
  clear K13
  have F24 := own_keep0 F14 K20
  clear F14
  clear K20 hs21
  obtain ⟨v25, w26, hr27, hO28, K29⟩ := OwnB.app (ty := 23) tyB F24 (lit1 (by omega) H19) (by (try simp only at *); (try simp only [List.length_append] at *); (try simp only [List.length_cons] at *); (try simp only [List.length_nil] at *); omega) K23.size
  refine Ops.go (v := v25) (by kernel_rfl) (Runs.append (ts := #[23, 23]) (ty := 23) (vs := [v4, (Value.slice (some ⟨b16, 0, none⟩) 1 1)]) (by kernel_rfl) hr27) (d := (some 21)) (by kernel_rfl) rfl ?_
  have K30 := Keeps.own2 K23 K29
  clear H19 F24 K23 hr27 K29
  refine Ops.regs 1 [(0, (Value.slice A bs.length c)), (2, (Value.slice none 0 0)), (3, (i64 0)), (4, v25), (5, (Value.int IntKind.u32 ((crcMore 0 bs : Nat) : Int))), (15, (i64 0)), (16, (Value.bool true))] (j := 6) (by kernel_rfl) (by kernel_rfl) ?_
  refine Ops.done (by kernel_rfl) ?_
  refine q_region (by kernel_rfl) ?_
  refine Ops.regs 2 [(0, (Value.slice A bs.length c)), (2, (Value.slice none 0 0)), (3, (i64 0)), (4, v25), (5, (Value.int IntKind.u32 ((crcMore 0 bs : Nat) : Int))), (15, (i64 0)), (16, (Value.bool true)), (23, (Value.int IntKind.u32 ((((crcMore 0 bs : Nat) : Int)).fdiv 256)))] (j := 2) (by kernel_rfl) (by kernel_rfl) ?_
  have e31 : (((crcMore 0 bs : Nat) : Int)).fdiv 256 = (((crcMore 0 bs) / 256 : Nat) : Int) := fdiv_nat (crcMore 0 bs) 256
  rw [e31]
  clear e31
  refine Ops.regs 1 [(0, (Value.slice A bs.length c)), (2, (Value.slice none 0 0)), (3, (i64 0)), (4, v25), (5, (Value.int IntKind.u32 (((crcMore 0 bs) / 256 : Nat) : Int))), (15, (i64 0)), (16, (Value.bool true))] (j := 3) (by kernel_rfl) (by kernel_rfl) ?_
  refine Ops.done (by kernel_rfl) ?_
  refine q_region (by kernel_rfl) ?_
  refine Ops.regs 2 [(0, (Value.slice A bs.length c)), (2, (Value.slice none 0 0)), (3, (i64 0)), (4, v25), (5, (Value.int IntKind.u32 (((crcMore 0 bs) / 256 : Nat) : Int))), (15, (i64 1)), (16, (Value.bool true))] (j := 2) (by kernel_rfl) (by kernel_rfl) ?_
  refine Ops.done (by kernel_rfl) ?_
  refine roll_step ?_
  refine q_seq (by kernel_rfl) ?_
  refine q_region (by kernel_rfl) ?_
  refine Ops.regs 1 [(0, (Value.slice A bs.length c)), (2, (Value.slice none 0 0)), (3, (i64 0)), (4, v25), (5, (Value.int IntKind.u32 (((crcMore 0 bs) / 256 : Nat) : Int))), (15, (i64 1)), (16, (Value.bool true))] (j := 1) (by kernel_rfl) (by kernel_rfl) ?_
  refine Ops.done (by kernel_rfl) ?_
  refine q_seq (by kernel_rfl) ?_
  refine q_then (o := .tmp 16) (by kernel_rfl) rfl ?_
  refine q_skip (by kernel_rfl) ?_
  refine q_seq (by kernel_rfl) ?_
  refine q_block (id := 1) (by kernel_rfl) ?_
  refine q_seq (by kernel_rfl) ?_
  refine q_region (by kernel_rfl) ?_
  refine Ops.regs 3 [(0, (Value.slice A bs.length c)), (2, (Value.slice none 0 0)), (3, (i64 0)), (4, v25), (5, (Value.int IntKind.u32 (((crcMore 0 bs) / 256 : Nat) : Int))), (15, (i64 1)), (16, (Value.bool true)), (17, v25), (19, (Value.int IntKind.u8 (IntKind.u8.wrap (((crcMore 0 bs) / 256 : Nat) : Int))))] (j := 3) (by kernel_rfl) (by kernel_rfl) ?_
  have e32 : IntKind.u8.wrap (((crcMore 0 bs) / 256 : Nat) : Int) = ((((crcMore 0 bs) / 256) % 256 : Nat) : Int) := u8_wrap ((crcMore 0 bs) / 256)
  rw [e32]
  clear e32
  refine Ops.new (o := rowL [(Value.int IntKind.u8 ((((crcMore 0 bs) / 256) % 256 : Nat) : Int))] 5) (V := fun b => (Value.slice (some ⟨b, 0, none⟩) 1 1)) (by kernel_rfl) (d := (some 20)) (by kernel_rfl) (fun b => rfl) (fun b33 w34 hb35 H36 K37 hs38 => ?_)
  have nb33 : w.heap.size ≤ b33 := by have := K30.size; omega
  have ob39 : ∀ i, (v25).ownBlock = some i → i < b33 := fun i hi => by have := (World.ownsRow.lt hO28 i hi).2; omega
  have K40 := K30.trans K37 (U := none_) (fun i h1 h2 => h2) (fun i h1 h2 => by exact h2)
  clear K30
  have F41 := own_keep0 hO28 K37
  clear hO28
  clear K37 hs38
  obtain ⟨v42, w43, hr44, hO45, K46⟩ := OwnB.app (ty := 23) tyB F41 (lit1 (by omega) H36) (by (try simp only at *); (try simp only [List.length_append] at *); (try simp only [List.length_cons] at *); (try simp only [List.length_nil] at *); omega) K40.size
  refine Ops.go (v := v42) (by kernel_rfl) (Runs.append (ts := #[23, 23]) (ty := 23) (vs := [v25, (Value.slice (some ⟨b33, 0, none⟩) 1 1)]) (by kernel_rfl) hr44) (d := (some 21)) (by kernel_rfl) rfl ?_
  have K47 := Keeps.own2 K40 K46
  clear H36 F41 K40 hr44 K46
  refine Ops.regs 1 [(0, (Value.slice A bs.length c)), (2, (Value.slice none 0 0)), (3, (i64 0)), (4, v42), (5, (Value.int IntKind.u32 (((crcMore 0 bs) / 256 : Nat) : Int))), (15, (i64 1)), (16, (Value.bool true))] (j := 6) (by kernel_rfl) (by kernel_rfl) ?_
  refine Ops.done (by kernel_rfl) ?_
  refine q_region (by kernel_rfl) ?_
  refine Ops.regs 2 [(0, (Value.slice A bs.length c)), (2, (Value.slice none 0 0)), (3, (i64 0)), (4, v42), (5, (Value.int IntKind.u32 (((crcMore 0 bs) / 256 : Nat) : Int))), (15, (i64 1)), (16, (Value.bool true)), (23, (Value.int IntKind.u32 (((((crcMore 0 bs) / 256 : Nat) : Int)).fdiv 256)))] (j := 2) (by kernel_rfl) (by kernel_rfl) ?_
  have e48 : ((((crcMore 0 bs) / 256 : Nat) : Int)).fdiv 256 = ((((crcMore 0 bs) / 256) / 256 : Nat) : Int) := fdiv_nat ((crcMore 0 bs) / 256) 256
  rw [e48]
  clear e48
  refine Ops.regs 1 [(0, (Value.slice A bs.length c)), (2, (Value.slice none 0 0)), (3, (i64 0)), (4, v42), (5, (Value.int IntKind.u32 ((((crcMore 0 bs) / 256) / 256 : Nat) : Int))), (15, (i64 1)), (16, (Value.bool true))] (j := 3) (by kernel_rfl) (by kernel_rfl) ?_
  refine Ops.done (by kernel_rfl) ?_
  refine q_region (by kernel_rfl) ?_
  refine Ops.regs 2 [(0, (Value.slice A bs.length c)), (2, (Value.slice none 0 0)), (3, (i64 0)), (4, v42), (5, (Value.int IntKind.u32 ((((crcMore 0 bs) / 256) / 256 : Nat) : Int))), (15, (i64 2)), (16, (Value.bool true))] (j := 2) (by kernel_rfl) (by kernel_rfl) ?_
  refine Ops.done (by kernel_rfl) ?_
  refine roll_step ?_
  refine q_seq (by kernel_rfl) ?_
  refine q_region (by kernel_rfl) ?_
  refine Ops.regs 1 [(0, (Value.slice A bs.length c)), (2, (Value.slice none 0 0)), (3, (i64 0)), (4, v42), (5, (Value.int IntKind.u32 ((((crcMore 0 bs) / 256) / 256 : Nat) : Int))), (15, (i64 2)), (16, (Value.bool true))] (j := 1) (by kernel_rfl) (by kernel_rfl) ?_
  refine Ops.done (by kernel_rfl) ?_
  refine q_seq (by kernel_rfl) ?_
  refine q_then (o := .tmp 16) (by kernel_rfl) rfl ?_
  refine q_skip (by kernel_rfl) ?_
  refine q_seq (by kernel_rfl) ?_
  refine q_block (id := 1) (by kernel_rfl) ?_
  refine q_seq (by kernel_rfl) ?_
  refine q_region (by kernel_rfl) ?_
  refine Ops.regs 3 [(0, (Value.slice A bs.length c)), (2, (Value.slice none 0 0)), (3, (i64 0)), (4, v42), (5, (Value.int IntKind.u32 ((((crcMore 0 bs) / 256) / 256 : Nat) : Int))), (15, (i64 2)), (16, (Value.bool true)), (17, v42), (19, (Value.int IntKind.u8 (IntKind.u8.wrap ((((crcMore 0 bs) / 256) / 256 : Nat) : Int))))] (j := 3) (by kernel_rfl) (by kernel_rfl) ?_
  have e49 : IntKind.u8.wrap ((((crcMore 0 bs) / 256) / 256 : Nat) : Int) = (((((crcMore 0 bs) / 256) / 256) % 256 : Nat) : Int) := u8_wrap (((crcMore 0 bs) / 256) / 256)
  rw [e49]
  clear e49
  refine Ops.new (o := rowL [(Value.int IntKind.u8 (((((crcMore 0 bs) / 256) / 256) % 256 : Nat) : Int))] 5) (V := fun b => (Value.slice (some ⟨b, 0, none⟩) 1 1)) (by kernel_rfl) (d := (some 20)) (by kernel_rfl) (fun b => rfl) (fun b50 w51 hb52 H53 K54 hs55 => ?_)
  have nb50 : w.heap.size ≤ b50 := by have := K47.size; omega
  have ob56 : ∀ i, (v42).ownBlock = some i → i < b50 := fun i hi => by have := (World.ownsRow.lt hO45 i hi).2; omega
  have K57 := K47.trans K54 (U := none_) (fun i h1 h2 => h2) (fun i h1 h2 => by exact h2)
  clear K47
  have F58 := own_keep0 hO45 K54
  clear hO45
  clear K54 hs55
  obtain ⟨v59, w60, hr61, hO62, K63⟩ := OwnB.app (ty := 23) tyB F58 (lit1 (by omega) H53) (by (try simp only at *); (try simp only [List.length_append] at *); (try simp only [List.length_cons] at *); (try simp only [List.length_nil] at *); omega) K57.size
  refine Ops.go (v := v59) (by kernel_rfl) (Runs.append (ts := #[23, 23]) (ty := 23) (vs := [v42, (Value.slice (some ⟨b50, 0, none⟩) 1 1)]) (by kernel_rfl) hr61) (d := (some 21)) (by kernel_rfl) rfl ?_
  have K64 := Keeps.own2 K57 K63
  clear H53 F58 K57 hr61 K63
  refine Ops.regs 1 [(0, (Value.slice A bs.length c)), (2, (Value.slice none 0 0)), (3, (i64 0)), (4, v59), (5, (Value.int IntKind.u32 ((((crcMore 0 bs) / 256) / 256 : Nat) : Int))), (15, (i64 2)), (16, (Value.bool true))] (j := 6) (by kernel_rfl) (by kernel_rfl) ?_
  refine Ops.done (by kernel_rfl) ?_
  refine q_region (by kernel_rfl) ?_
  refine Ops.regs 2 [(0, (Value.slice A bs.length c)), (2, (Value.slice none 0 0)), (3, (i64 0)), (4, v59), (5, (Value.int IntKind.u32 ((((crcMore 0 bs) / 256) / 256 : Nat) : Int))), (15, (i64 2)), (16, (Value.bool true)), (23, (Value.int IntKind.u32 ((((((crcMore 0 bs) / 256) / 256 : Nat) : Int)).fdiv 256)))] (j := 2) (by kernel_rfl) (by kernel_rfl) ?_
  have e65 : (((((crcMore 0 bs) / 256) / 256 : Nat) : Int)).fdiv 256 = (((((crcMore 0 bs) / 256) / 256) / 256 : Nat) : Int) := fdiv_nat (((crcMore 0 bs) / 256) / 256) 256
  rw [e65]
  clear e65
  refine Ops.regs 1 [(0, (Value.slice A bs.length c)), (2, (Value.slice none 0 0)), (3, (i64 0)), (4, v59), (5, (Value.int IntKind.u32 (((((crcMore 0 bs) / 256) / 256) / 256 : Nat) : Int))), (15, (i64 2)), (16, (Value.bool true))] (j := 3) (by kernel_rfl) (by kernel_rfl) ?_
  refine Ops.done (by kernel_rfl) ?_
  refine q_region (by kernel_rfl) ?_
  refine Ops.regs 2 [(0, (Value.slice A bs.length c)), (2, (Value.slice none 0 0)), (3, (i64 0)), (4, v59), (5, (Value.int IntKind.u32 (((((crcMore 0 bs) / 256) / 256) / 256 : Nat) : Int))), (15, (i64 3)), (16, (Value.bool true))] (j := 2) (by kernel_rfl) (by kernel_rfl) ?_
  refine Ops.done (by kernel_rfl) ?_
  refine roll_step ?_
  refine q_seq (by kernel_rfl) ?_
  refine q_region (by kernel_rfl) ?_
  refine Ops.regs 1 [(0, (Value.slice A bs.length c)), (2, (Value.slice none 0 0)), (3, (i64 0)), (4, v59), (5, (Value.int IntKind.u32 (((((crcMore 0 bs) / 256) / 256) / 256 : Nat) : Int))), (15, (i64 3)), (16, (Value.bool true))] (j := 1) (by kernel_rfl) (by kernel_rfl) ?_
  refine Ops.done (by kernel_rfl) ?_
  refine q_seq (by kernel_rfl) ?_
  refine q_then (o := .tmp 16) (by kernel_rfl) rfl ?_
  refine q_skip (by kernel_rfl) ?_
  refine q_seq (by kernel_rfl) ?_
  refine q_block (id := 1) (by kernel_rfl) ?_
  refine q_seq (by kernel_rfl) ?_
  refine q_region (by kernel_rfl) ?_
  refine Ops.regs 3 [(0, (Value.slice A bs.length c)), (2, (Value.slice none 0 0)), (3, (i64 0)), (4, v59), (5, (Value.int IntKind.u32 (((((crcMore 0 bs) / 256) / 256) / 256 : Nat) : Int))), (15, (i64 3)), (16, (Value.bool true)), (17, v59), (19, (Value.int IntKind.u8 (IntKind.u8.wrap (((((crcMore 0 bs) / 256) / 256) / 256 : Nat) : Int))))] (j := 3) (by kernel_rfl) (by kernel_rfl) ?_
  have e66 : IntKind.u8.wrap (((((crcMore 0 bs) / 256) / 256) / 256 : Nat) : Int) = ((((((crcMore 0 bs) / 256) / 256) / 256) % 256 : Nat) : Int) := u8_wrap ((((crcMore 0 bs) / 256) / 256) / 256)
  rw [e66]
  clear e66
  refine Ops.new (o := rowL [(Value.int IntKind.u8 ((((((crcMore 0 bs) / 256) / 256) / 256) % 256 : Nat) : Int))] 5) (V := fun b => (Value.slice (some ⟨b, 0, none⟩) 1 1)) (by kernel_rfl) (d := (some 20)) (by kernel_rfl) (fun b => rfl) (fun b67 w68 hb69 H70 K71 hs72 => ?_)
  have nb67 : w.heap.size ≤ b67 := by have := K64.size; omega
  have ob73 : ∀ i, (v59).ownBlock = some i → i < b67 := fun i hi => by have := (World.ownsRow.lt hO62 i hi).2; omega
  have K74 := K64.trans K71 (U := none_) (fun i h1 h2 => h2) (fun i h1 h2 => by exact h2)
  clear K64
  have F75 := own_keep0 hO62 K71
  clear hO62
  clear K71 hs72
  obtain ⟨v76, w77, hr78, hO79, K80⟩ := OwnB.app (ty := 23) tyB F75 (lit1 (by omega) H70) (by (try simp only at *); (try simp only [List.length_append] at *); (try simp only [List.length_cons] at *); (try simp only [List.length_nil] at *); omega) K74.size
  refine Ops.go (v := v76) (by kernel_rfl) (Runs.append (ts := #[23, 23]) (ty := 23) (vs := [v59, (Value.slice (some ⟨b67, 0, none⟩) 1 1)]) (by kernel_rfl) hr78) (d := (some 21)) (by kernel_rfl) rfl ?_
  have K81 := Keeps.own2 K74 K80
  clear H70 F75 K74 hr78 K80
  refine Ops.regs 1 [(0, (Value.slice A bs.length c)), (2, (Value.slice none 0 0)), (3, (i64 0)), (4, v76), (5, (Value.int IntKind.u32 (((((crcMore 0 bs) / 256) / 256) / 256 : Nat) : Int))), (15, (i64 3)), (16, (Value.bool true))] (j := 6) (by kernel_rfl) (by kernel_rfl) ?_
  refine Ops.done (by kernel_rfl) ?_
  refine q_region (by kernel_rfl) ?_
  refine Ops.regs 2 [(0, (Value.slice A bs.length c)), (2, (Value.slice none 0 0)), (3, (i64 0)), (4, v76), (5, (Value.int IntKind.u32 (((((crcMore 0 bs) / 256) / 256) / 256 : Nat) : Int))), (15, (i64 3)), (16, (Value.bool true)), (23, (Value.int IntKind.u32 (((((((crcMore 0 bs) / 256) / 256) / 256 : Nat) : Int)).fdiv 256)))] (j := 2) (by kernel_rfl) (by kernel_rfl) ?_
  have e82 : ((((((crcMore 0 bs) / 256) / 256) / 256 : Nat) : Int)).fdiv 256 = ((((((crcMore 0 bs) / 256) / 256) / 256) / 256 : Nat) : Int) := fdiv_nat ((((crcMore 0 bs) / 256) / 256) / 256) 256
  rw [e82]
  clear e82
  refine Ops.regs 1 [(0, (Value.slice A bs.length c)), (2, (Value.slice none 0 0)), (3, (i64 0)), (4, v76), (5, (Value.int IntKind.u32 ((((((crcMore 0 bs) / 256) / 256) / 256) / 256 : Nat) : Int))), (15, (i64 3)), (16, (Value.bool true))] (j := 3) (by kernel_rfl) (by kernel_rfl) ?_
  refine Ops.done (by kernel_rfl) ?_
  refine q_region (by kernel_rfl) ?_
  refine Ops.regs 2 [(0, (Value.slice A bs.length c)), (2, (Value.slice none 0 0)), (3, (i64 0)), (4, v76), (5, (Value.int IntKind.u32 ((((((crcMore 0 bs) / 256) / 256) / 256) / 256 : Nat) : Int))), (15, (i64 4)), (16, (Value.bool true))] (j := 2) (by kernel_rfl) (by kernel_rfl) ?_
  refine Ops.done (by kernel_rfl) ?_
  refine roll_step ?_
  refine q_seq (by kernel_rfl) ?_
  refine q_region (by kernel_rfl) ?_
  refine Ops.regs 1 [(0, (Value.slice A bs.length c)), (2, (Value.slice none 0 0)), (3, (i64 0)), (4, v76), (5, (Value.int IntKind.u32 ((((((crcMore 0 bs) / 256) / 256) / 256) / 256 : Nat) : Int))), (15, (i64 4)), (16, (Value.bool false))] (j := 1) (by kernel_rfl) (by kernel_rfl) ?_
  refine Ops.done (by kernel_rfl) ?_
  refine q_seq (by kernel_rfl) ?_
  refine q_else (o := .tmp 16) (by kernel_rfl) rfl ?_
  refine q_exit (id := 0) (by kernel_rfl) ?_
  refine q_seq (by kernel_rfl) ?_
  refine q_region (by kernel_rfl) ?_
  refine Ops.regs 2 [(2, (Value.slice none 0 0)), (3, (i64 0)), (25, v76), (26, (Value.slice A bs.length c))] (j := 2) (by kernel_rfl) (by kernel_rfl) ?_
  obtain ⟨v83, w84, hr85, hO86, K87⟩ := OwnB.app (ty := 23) tyB hO79 (hv.keep0 (by omega) K81) (by (try simp only at *); (try simp only [List.length_append] at *); (try simp only [List.length_cons] at *); (try simp only [List.length_nil] at *); omega) K81.size
  refine Ops.go (v := v83) (by kernel_rfl) (Runs.append (ts := #[23, 23]) (ty := 23) (vs := [v76, (Value.slice A bs.length c)]) (by kernel_rfl) hr85) (d := (some 27)) (by kernel_rfl) rfl ?_
  have K88 := Keeps.own2 K81 K87
  clear hO79 K81 hr85 K87
  refine Ops.regs 2 [(2, v83), (3, (i64 0))] (j := 5) (by kernel_rfl) (by kernel_rfl) ?_
  refine Ops.done (by kernel_rfl) ?_
  refine q_ret (by kernel_rfl) ?_
  refine ⟨(Value.tuple #[v83, (i64 0)]), retv_tmp2 rfl rfl rfl, ?_⟩
  have hfin : [] ++ uv bs.length ++ [byte ((crcMore 0 bs) % 256)] ++ [byte (((crcMore 0 bs) / 256) % 256)] ++ [byte ((((crcMore 0 bs) / 256) / 256) % 256)] ++ [byte (((((crcMore 0 bs) / 256) / 256) / 256) % 256)] ++ bs = frameB bs := by simp [frameB, fourB]
  rw [hfin] at hO86
  exact ⟨_, rfl, K88, hO86⟩
end Go.Proofs.Ytnepjfnkaigakaa
