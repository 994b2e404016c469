/- codec: the fixed calls -/
import Derived.Test.YtnepjfnkaigakaaProg
import Derived.Test.YtnepjfnkaigakaaK11
import Derived.Test.YtnepjfnkaigakaaK8
import Derived.Test.YtnepjfnkaigakaaLibText
set_option linter.unusedVariables false
namespace Go.Proofs.Ytnepjfnkaigakaa
open Go.Q Go.RowKit

theorem scan0 : scanB [byte 0] = (0, 1, 0) := by kernel_rfl

theorem cut0_calls (w : World) (A : Option Addr) (c : Nat) (hv : RdB w (.slice A 1 c) [byte 0]) : Calls Try.prog 63 ⟨[(Value.slice A 1 c)]⟩ w (fun e w' => e = .returned (.tuple #[.slice none 0 0, i64 0, i64 10]) ∧ Keeps none_ w w') := by
  have K0 : Keeps none_ w w := Keeps.refl w
  refine q_calls Try.func63 (by kernel_rfl) (by kernel_rfl) ?_
  refine q_seq (by kernel_rfl) ?_
  refine q_region (by kernel_rfl) ?_
  refine Ops.regs 3 [(0, (Value.slice A 1 c)), (2, (Value.slice none 0 0)), (3, (i64 0)), (4, (i64 0))] (j := 3) (by kernel_rfl) (by kernel_rfl) ?_
  refine Ops.done (by kernel_rfl) ?_
  refine q_seq (by kernel_rfl) ?_
  refine q_region (by kernel_rfl) ?_
  refine Ops.regs 1 [(0, (Value.slice A 1 c)), (2, (Value.slice none 0 0)), (3, (i64 0)), (4, (i64 0)), (13, (Value.slice A 1 c))] (j := 1) (by kernel_rfl) (by kernel_rfl) ?_
  refine Ops.call (by kernel_rfl) (d := (some 14)) (by kernel_rfl) ((scan0 ▸ scan_calls _ A c [byte 0] (hv.keep0 (by omega) K0) (by decide))) ?_
  rintro _ w1 ⟨rfl, K2⟩
  refine ⟨_, _, rfl, rfl, ?_⟩
  have K3 := K0.trans K2 (U := none_) (fun i h1 h2 => h2) (fun i h1 h2 => by exact h2)
  clear K0
  clear K2
  refine Ops.regs 7 [(0, (Value.slice A 1 c)), (2, (Value.slice none 0 0)), (3, (i64 0)), (4, (i64 0)), (5, (Value.int IntKind.u64 0)), (6, (i64 1)), (7, (i64 0))] (j := 9) (by kernel_rfl) (by kernel_rfl) ?_
  refine Ops.done (by kernel_rfl) ?_
  refine q_seq (by kernel_rfl) ?_
  refine q_block (id := 0) (by kernel_rfl) ?_
  refine q_seq (by kernel_rfl) ?_
  refine q_region (by kernel_rfl) ?_
  refine Ops.regs 3 [(0, (Value.slice A 1 c)), (2, (Value.slice none 0 0)), (3, (i64 0)), (4, (i64 0)), (5, (Value.int IntKind.u64 0)), (6, (i64 1)), (7, (i64 0)), (18, (Value.bool false))] (j := 3) (by kernel_rfl) (by kernel_rfl) ?_
  refine Ops.done (by kernel_rfl) ?_
  refine q_else (o := .tmp 18) (by kernel_rfl) rfl ?_
  refine q_seq (by kernel_rfl) ?_
  refine q_region (by kernel_rfl) ?_
  refine Ops.regs 3 [(0, (Value.slice A 1 c)), (2, (Value.slice none 0 0)), (3, (i64 0)), (4, (i64 0)), (5, (Value.int IntKind.u64 0)), (6, (i64 1)), (22, (Value.bool false))] (j := 3) (by kernel_rfl) (by kernel_rfl) ?_
  refine Ops.done (by kernel_rfl) ?_
  refine q_else (o := .tmp 22) (by kernel_rfl) rfl ?_
  refine q_seq (by kernel_rfl) ?_
  refine q_region (by kernel_rfl) ?_
  refine Ops.regs 9 [(0, (Value.slice A 1 c)), (2, (Value.slice none 0 0)), (3, (i64 0)), (4, (i64 0)), (5, (Value.int IntKind.u64 0)), (6, (i64 1)), (25, (Value.bool true))] (j := 9) (by kernel_rfl) (by kernel_rfl) ?_
  refine Ops.done (by kernel_rfl) ?_
  refine q_then (o := .tmp 25) (by kernel_rfl) rfl ?_
  refine q_seq (by kernel_rfl) ?_
  refine q_region (by kernel_rfl) ?_
  refine Ops.regs 3 [(0, (Value.slice A 1 c)), (2, (Value.slice none 0 0)), (3, (i64 0)), (4, (i64 10)), (5, (Value.int IntKind.u64 0)), (6, (i64 1))] (j := 3) (by kernel_rfl) (by kernel_rfl) ?_
  refine Ops.done (by kernel_rfl) ?_
  refine q_ret (by kernel_rfl) ?_
  refine ⟨(Value.tuple #[(Value.slice none 0 0), (i64 0), (i64 10)]), retv_tmp3 rfl rfl rfl rfl, ?_⟩
  exact ⟨rfl, K3⟩

theorem Unframe0_calls (w : World) (A : Option Addr) (c : Nat) (hv : RdB w (.slice A 1 c) [byte 0]) : Calls Try.prog 49 ⟨[(Value.slice A 1 c)]⟩ w (fun e w' => e = .returned (.tuple #[.slice none 0 0, i64 10]) ∧ Keeps none_ w w') := by
  have K0 : Keeps none_ w w := Keeps.refl w
  refine q_calls Try.func49 (by kernel_rfl) (by kernel_rfl) ?_
  refine q_seq (by kernel_rfl) ?_
  refine q_region (by kernel_rfl) ?_
  refine Ops.regs 2 [(0, (Value.slice A 1 c)), (2, (Value.slice none 0 0)), (3, (i64 0))] (j := 2) (by kernel_rfl) (by kernel_rfl) ?_
  refine Ops.done (by kernel_rfl) ?_
  refine q_seq (by kernel_rfl) ?_
  refine q_region (by kernel_rfl) ?_
  refine Ops.regs 1 [(0, (Value.slice A 1 c)), (2, (Value.slice none 0 0)), (3, (i64 0)), (8, (Value.slice A 1 c))] (j := 1) (by kernel_rfl) (by kernel_rfl) ?_
  refine Ops.call (by kernel_rfl) (d := (some 9)) (by kernel_rfl) (cut0_calls _ A c (hv.keep0 (by omega) K0)) ?_
  rintro _ w1 ⟨rfl, K2⟩
  refine ⟨_, _, rfl, rfl, ?_⟩
  have K3 := K0.trans K2 (U := none_) (fun i h1 h2 => h2) (fun i h1 h2 => by exact h2)
  clear K0
  clear K2
  refine Ops.regs 7 [(0, (Value.slice A 1 c)), (2, (Value.slice none 0 0)), (3, (i64 0)), (4, (Value.slice none 0 0)), (5, (i64 0)), (6, (i64 10))] (j := 9) (by kernel_rfl) (by kernel_rfl) ?_
  refine Ops.done (by kernel_rfl) ?_
  refine q_seq (by kernel_rfl) ?_
  refine q_block (id := 0) (by kernel_rfl) ?_
  refine q_seq (by kernel_rfl) ?_
  refine q_region (by kernel_rfl) ?_
  refine Ops.regs 9 [(2, (Value.slice none 0 0)), (3, (i64 0)), (4, (Value.slice none 0 0)), (6, (i64 10)), (13, (Value.bool false))] (j := 9) (by kernel_rfl) (by kernel_rfl) ?_
  refine Ops.done (by kernel_rfl) ?_
  refine q_else (o := .tmp 13) (by kernel_rfl) rfl ?_
  refine q_seq (by kernel_rfl) ?_
  refine q_region (by kernel_rfl) ?_
  refine Ops.regs 3 [(2, (Value.slice none 0 0)), (3, (i64 0)), (4, (Value.slice none 0 0)), (6, (i64 10)), (22, (Value.bool true))] (j := 3) (by kernel_rfl) (by kernel_rfl) ?_
  refine Ops.done (by kernel_rfl) ?_
  refine q_then (o := .tmp 22) (by kernel_rfl) rfl ?_
  refine q_seq (by kernel_rfl) ?_
  refine q_region (by kernel_rfl) ?_
  refine Ops.regs 3 [(2, (Value.slice none 0 0)), (3, (i64 10)), (4, (Value.slice none 0 0))] (j := 3) (by kernel_rfl) (by kernel_rfl) ?_
  refine Ops.done (by kernel_rfl) ?_
  refine q_ret (by kernel_rfl) ?_
  refine ⟨(Value.tuple #[(Value.slice none 0 0), (i64 10)]), retv_tmp2 rfl rfl rfl, ?_⟩
  exact ⟨rfl, K3⟩

theorem known_calls (w : World)   : Calls Try.prog 17 ⟨[]⟩ w (fun e w' => e = .returned (.bool true) ∧ Keeps none_ w w') := by
  have K0 : Keeps none_ w w := Keeps.refl w
  refine q_calls Try.func17 (by kernel_rfl) (by kernel_rfl) ?_
  refine q_seq (by kernel_rfl) ?_
  refine q_region (by kernel_rfl) ?_
  refine Ops.regs 1 [(0, (Value.bool false))] (j := 1) (by kernel_rfl) (by kernel_rfl) ?_
  refine Ops.done (by kernel_rfl) ?_
  refine q_seq (by kernel_rfl) ?_
  refine q_region (by kernel_rfl) ?_
  refine Ops.new (o := rowL [(Value.int IntKind.u8 128), (Value.int IntKind.u8 0)] 5) (V := fun b => (Value.slice (some ⟨b, 0, none⟩) 2 2)) (by kernel_rfl) (d := (some 6)) (by kernel_rfl) (fun b => rfl) (fun b1 w2 hb3 H4 K5 hs6 => ?_)
  have nb1 : w.heap.size ≤ b1 := by have := K0.size; omega
  have K7 := K0.trans K5 (U := none_) (fun i h1 h2 => h2) (fun i h1 h2 => by exact h2)
  clear K0
  clear K5 hs6
  refine Ops.call (by kernel_rfl) (d := (some 7)) (by kernel_rfl) (NewReader_calls _ (Value.slice (some ⟨b1, 0, none⟩) 2 2) [byte 128, byte 0] (RdB.lit (xs := [byte 128, byte 0]) (show Has _ b1 (rowL (bv [byte 128, byte 0]) 5) from H4) (by decide)) (by first | omega | decide)) ?_
  rintro _ w12 ⟨b8, A9, c10, rfl, q11, K13, H14, hr15, hne16, hge17⟩
  have nb8 : w.heap.size ≤ b8 := by have := K7.size; omega
  have lb8b1 : b1 < b8 := by have := H4.lt; omega
  have ob19 : ∀ i o s, A9 = some ⟨i, o, s⟩ → i ≠ b1 := fun i o s hi => by have := hge17 i o s hi; have := H4.lt; omega
  have hok18 : Rdr.Ok (⟨[byte 128, byte 0], 0, 0⟩ : Rdr) := ⟨Nat.zero_le _, by show [byte 128, byte 0].length ≤ _; first | omega | decide⟩
  clear q11 hge17
  refine ⟨_, _, rfl, rfl, ?_⟩
  have K20 := K7.trans K13 (U := none_) (fun i h1 h2 => h2) (fun i h1 h2 => by exact h2)
  clear K7
  have H21 := H4.keep K13 (fun h => h)
  clear H4
  clear K13
  refine Ops.regs 1 [(0, (Value.bool false)), (1, (Value.pointer (some ⟨b8, 0, none⟩)))] (j := 3) (by kernel_rfl) (by kernel_rfl) ?_
  refine Ops.done (by kernel_rfl) ?_
  refine q_seq (by kernel_rfl) ?_
  refine q_region (by kernel_rfl) ?_
  refine Ops.regs 1 [(0, (Value.bool false)), (1, (Value.pointer (some ⟨b8, 0, none⟩))), (8, (Value.pointer (some ⟨b8, 0, none⟩)))] (j := 1) (by kernel_rfl) (by kernel_rfl) ?_
  refine Ops.call (by kernel_rfl) (d := (some 9)) (by kernel_rfl) (RdUint_calls _ b8 A9 c10 (⟨[byte 128, byte 0], 0, 0⟩ : Rdr) hok18 H14 hr15 hne16) ?_
  rintro _ w22 ⟨rfl, K23, H24⟩
  have hok25 := Rdr.Ok.uint hok18
  have hu26 := Rdr.uint_lt (⟨[byte 128, byte 0], 0, 0⟩ : Rdr)
  refine ⟨_, _, rfl, rfl, ?_⟩
  have K27 := K20.trans K23 (U := none_) (fun i h1 h2 => h2) (fun i h1 h2 => by have h2 : i = b8 := h2; exfalso; omega)
  clear K20
  have H28 := H21.keep K23 (by intro h; change b1 = b8 at h; omega)
  clear H21
  have F29 := RdO.keep hr15 K23 (fun i _ _ hi hs => by have hs : i = b8 := hs; have := hne16 i _ _ hi; omega)
  clear hr15
  clear K23
  have F30 : RdO w22 A9 c10 ((⟨[byte 128, byte 0], 0, 0⟩ : Rdr).uint.2).bs := by rw [Rdr.uint_bs]; exact F29
  clear F29
  refine Ops.done (by kernel_rfl) ?_
  refine q_seq (by kernel_rfl) ?_
  refine q_region (by kernel_rfl) ?_
  refine Ops.new (o := rowL [(Value.int IntKind.u8 0)] 5) (V := fun b => (Value.slice (some ⟨b, 0, none⟩) 1 1)) (by kernel_rfl) (d := (some 11)) (by kernel_rfl) (fun b => rfl) (fun b31 w32 hb33 H34 K35 hs36 => ?_)
  have lb31 : b8 < b31 := by have := H24.lt; omega
  have nb31 : w.heap.size ≤ b31 := by have := K27.size; omega
  have ob37 : ∀ i o s, A9 = some ⟨i, o, s⟩ → i ≠ b31 := fun i o s hi => by have := F30.2 i o s hi; omega
  have K38 := K27.trans K35 (U := none_) (fun i h1 h2 => h2) (fun i h1 h2 => by exact h2)
  clear K27
  have H39 := H28.keep K35 (fun h => h)
  clear H28
  have H40 := H24.keep K35 (fun h => h)
  clear H24
  have F41 := RdO.keep0 F30 K35
  clear F30
  clear K35 hs36
  refine Ops.call (by kernel_rfl) (d := (some 12)) (by kernel_rfl) (Unframe0_calls _ (some ⟨b31, 0, none⟩) 1 (RdB.lit (xs := [byte 0]) (show Has _ b31 (rowL (bv [byte 0]) 5) from H34) (by decide))) ?_
  rintro _ w42 ⟨rfl, K43⟩
  refine ⟨_, _, rfl, rfl, ?_⟩
  have K44 := K38.trans K43 (U := none_) (fun i h1 h2 => h2) (fun i h1 h2 => by exact h2)
  clear K38
  have H45 := H39.keep K43 (fun h => h)
  clear H39
  have H46 := H40.keep K43 (fun h => h)
  clear H40
  have H47 := H34.keep K43 (fun h => h)
  clear H34
  have F48 := RdO.keep0 F41 K43
  clear F41
  clear K43
  refine Ops.regs 5 [(0, (Value.bool false)), (1, (Value.pointer (some ⟨b8, 0, none⟩))), (2, (Value.slice none 0 0)), (3, (i64 10))] (j := 7) (by kernel_rfl) (by kernel_rfl) ?_
  refine Ops.done (by kernel_rfl) ?_
  refine q_seq (by kernel_rfl) ?_
  refine q_region (by kernel_rfl) ?_
  refine Ops.new (o := rowL [(Value.int IntKind.u8 97)] 5) (V := fun b => (Value.slice (some ⟨b, 0, none⟩) 1 1)) (by kernel_rfl) (d := (some 16)) (by kernel_rfl) (fun b => rfl) (fun b49 w50 hb51 H52 K53 hs54 => ?_)
  have lb49 : b31 < b49 := by have := H47.lt; omega
  have nb49 : w.heap.size ≤ b49 := by have := K44.size; omega
  have ob55 : ∀ i o s, A9 = some ⟨i, o, s⟩ → i ≠ b49 := fun i o s hi => by have := F48.2 i o s hi; omega
  have K56 := K44.trans K53 (U := none_) (fun i h1 h2 => h2) (fun i h1 h2 => by exact h2)
  clear K44
  have H57 := H45.keep K53 (fun h => h)
  clear H45
  have H58 := H46.keep K53 (fun h => h)
  clear H46
  have H59 := H47.keep K53 (fun h => h)
  clear H47
  have F60 := RdO.keep0 F48 K53
  clear F48
  clear K53 hs54
  obtain ⟨w61, hr62, K63, F64⟩ := run_markB (t := 23) (e := 5) (bs := [byte 97]) (by kernel_rfl) (show Has _ b49 (rowL (bv [byte 97]) 5) from H52) (by decide)
  refine Ops.go (v := (Value.slice (some ⟨b49, 0, none⟩) 1 1)) (by kernel_rfl) (Runs.conv (by kernel_rfl) hr62) (d := (some 17)) (by kernel_rfl) rfl ?_
  clear H52
  have K65 := K56.trans K63 (U := none_) (fun i h1 h2 => h2) (fun i h1 h2 => by have h2 : i = b49 := h2; exfalso; omega)
  clear K56
  have H66 := H57.keep K63 (by intro h; change b1 = b49 at h; omega)
  clear H57
  have H67 := H58.keep K63 (by intro h; change b8 = b49 at h; omega)
  clear H58
  have H68 := H59.keep K63 (by intro h; change b31 = b49 at h; omega)
  clear H59
  have F69 := RdO.keep F60 K63 (fun i _ _ hi hs => by have hs : i = b49 := hs; have := ob55 i _ _ hi; omega)
  clear F60
  clear K63 hr62
  refine Ops.call (by kernel_rfl) (d := (some 18)) (by kernel_rfl) (Frame_calls _ (some ⟨b49, 0, none⟩) 1 [byte 97] F64 (by decide)) ?_
  rintro _ w71 ⟨v70, rfl, K72, hO73⟩
  have O74 := own_base hO73 K65.size
  obtain ⟨A75, c76, hf77⟩ := RdB.form (OwnB.rd O74)
  subst hf77
  clear hO73
  refine ⟨_, _, rfl, rfl, ?_⟩
  have K78 := K65.trans K72 (U := none_) (fun i h1 h2 => h2) (fun i h1 h2 => by exact h2)
  clear K65
  have H79 := H66.keep K72 (fun h => h)
  clear H66
  have H80 := H67.keep K72 (fun h => h)
  clear H67
  have H81 := H68.keep K72 (fun h => h)
  clear H68
  have F82 := RdO.keep0 F69 K72
  clear F69
  have F83 := (Rd.keep0 (by omega) F64 K72)
  clear F64
  clear K72
  refine Ops.regs 5 [(0, (Value.bool false)), (1, (Value.pointer (some ⟨b8, 0, none⟩))), (2, (Value.slice none 0 0)), (3, (i64 10)), (4, (Value.slice A75 ((frameB [byte 97]).length) c76)), (5, (i64 0))] (j := 8) (by kernel_rfl) (by kernel_rfl) ?_
  refine Ops.done (by kernel_rfl) ?_
  refine q_seq (by kernel_rfl) ?_
  refine q_region (by kernel_rfl) ?_
  refine Ops.call (by kernel_rfl) (d := (some 21)) (by kernel_rfl) (Uint_calls _ (Value.slice none 0 0) [] 300 (Rd.nil _ _) (by omega) (by (try simp only at *); (try simp only [List.length_append] at *); (try simp only [List.length_cons] at *); (try simp only [List.length_nil] at *); omega)) ?_
  rintro _ w86 ⟨v85, rfl, K87, hO88⟩
  have O89 := own_base hO88 K78.size
  clear hO88
  have hL84 := uv_length_10 (n := 300) (by omega)
  refine ⟨_, _, rfl, rfl, ?_⟩
  have K90 := K78.trans K87 (U := none_) (fun i h1 h2 => h2) (fun i h1 h2 => by exact h2)
  clear K78
  have H91 := H79.keep K87 (fun h => h)
  clear H79
  have H92 := H80.keep K87 (fun h => h)
  clear H80
  have H93 := H81.keep K87 (fun h => h)
  clear H81
  have F94 := RdO.keep0 F82 K87
  clear F82
  have F95 := (Rd.keep0 (by omega) F83 K87)
  clear F83
  have F96 := own_keep0 O74 K87
  clear O74
  clear K87
  refine Ops.go (v := (Value.string (str ([] ++ uv 300)))) (by kernel_rfl) (Runs.b2s (s := 23) (d := 9) (e := 5) (by kernel_rfl) (by kernel_rfl) (by kernel_rfl) (OwnB.rd O89)) (d := (some 22)) (by kernel_rfl) rfl ?_
  refine Ops.go (v := (Value.bool (([] ++ uv 300) == [172, 2]))) (by kernel_rfl) (Runs.streq (t := 9) (by kernel_rfl)) (d := (some 23)) (by kernel_rfl) rfl ?_
  refine Ops.regs 1 [(0, (Value.bool false)), (1, (Value.pointer (some ⟨b8, 0, none⟩))), (2, (Value.slice none 0 0)), (3, (i64 10)), (4, (Value.slice A75 ((frameB [byte 97]).length) c76)), (5, (i64 0)), (24, (Value.bool (([] ++ uv 300) == [172, 2])))] (j := 4) (by kernel_rfl) (by kernel_rfl) ?_
  have h97 : (([] ++ uv 300) == [172, 2]) = true := by first | kernel_rfl | (simp [uv, tv, iv, zz, byte, frameB, fourB]; done) | decide +kernel
  rw [h97]
  refine Ops.call (by kernel_rfl) (d := (some 25)) (by kernel_rfl) (Int_calls _ (Value.slice none 0 0) [] (-1) (Rd.nil _ _) (by omega) (by (try simp only at *); (try simp only [List.length_append] at *); (try simp only [List.length_cons] at *); (try simp only [List.length_nil] at *); omega)) ?_
  rintro _ w100 ⟨v99, rfl, K101, hO102⟩
  have O103 := own_base hO102 K90.size
  clear hO102
  have hL98 := iv_length_10 (n := (-1)) (by omega)
  refine ⟨_, _, rfl, rfl, ?_⟩
  have K104 := K90.trans K101 (U := none_) (fun i h1 h2 => h2) (fun i h1 h2 => by exact h2)
  clear K90
  have H105 := H91.keep K101 (fun h => h)
  clear H91
  have H106 := H92.keep K101 (fun h => h)
  clear H92
  have H107 := H93.keep K101 (fun h => h)
  clear H93
  have F108 := RdO.keep0 F94 K101
  clear F94
  have F109 := (Rd.keep0 (by omega) F95 K101)
  clear F95
  have F110 := own_keep0 F96 K101
  clear F96
  have F111 := own_keep0 O89 K101
  clear O89
  clear K101
  refine Ops.go (v := (Value.string (str ([] ++ iv (-1))))) (by kernel_rfl) (Runs.b2s (s := 23) (d := 9) (e := 5) (by kernel_rfl) (by kernel_rfl) (by kernel_rfl) (OwnB.rd O103)) (d := (some 26)) (by kernel_rfl) rfl ?_
  refine Ops.go (v := (Value.bool (([] ++ iv (-1)) == [1]))) (by kernel_rfl) (Runs.streq (t := 9) (by kernel_rfl)) (d := (some 27)) (by kernel_rfl) rfl ?_
  refine Ops.regs 2 [(0, (Value.bool false)), (1, (Value.pointer (some ⟨b8, 0, none⟩))), (2, (Value.slice none 0 0)), (3, (i64 10)), (4, (Value.slice A75 ((frameB [byte 97]).length) c76)), (5, (i64 0)), (29, (Value.bool (([] ++ iv (-1)) == [1])))] (j := 9) (by kernel_rfl) (by kernel_rfl) ?_
  have h112 : (([] ++ iv (-1)) == [1]) = true := by first | kernel_rfl | (simp [uv, tv, iv, zz, byte, frameB, fourB]; done) | decide +kernel
  rw [h112]
  refine Ops.call (by kernel_rfl) (d := (some 30)) (by kernel_rfl) (Text_calls _ (Value.slice none 0 0) [] [97, 98] (Rd.nil _ _) (by first | omega | decide) (by (try simp only at *); (try simp only [List.length_append] at *); (try simp only [List.length_cons] at *); (try simp only [List.length_nil] at *); omega)) ?_
  rintro _ w114 ⟨v113, rfl, K115, hO116⟩
  have O117 := own_base hO116 K104.size
  clear hO116
  refine ⟨_, _, rfl, rfl, ?_⟩
  have K118 := K104.trans K115 (U := none_) (fun i h1 h2 => h2) (fun i h1 h2 => by exact h2)
  clear K104
  have H119 := H105.keep K115 (fun h => h)
  clear H105
  have H120 := H106.keep K115 (fun h => h)
  clear H106
  have H121 := H107.keep K115 (fun h => h)
  clear H107
  have F122 := RdO.keep0 F108 K115
  clear F108
  have F123 := (Rd.keep0 (by omega) F109 K115)
  clear F109
  have F124 := own_keep0 F110 K115
  clear F110
  have F125 := own_keep0 F111 K115
  clear F111
  have F126 := own_keep0 O103 K115
  clear O103
  clear K115
  refine Ops.go (v := (Value.string (str ([] ++ tv [97, 98])))) (by kernel_rfl) (Runs.b2s (s := 23) (d := 9) (e := 5) (by kernel_rfl) (by kernel_rfl) (by kernel_rfl) (OwnB.rd O117)) (d := (some 31)) (by kernel_rfl) rfl ?_
  refine Ops.go (v := (Value.bool (([] ++ tv [97, 98]) == [2, 97, 98]))) (by kernel_rfl) (Runs.streq (t := 9) (by kernel_rfl)) (d := (some 32)) (by kernel_rfl) rfl ?_
  refine Ops.regs 2 [(0, (Value.bool false)), (1, (Value.pointer (some ⟨b8, 0, none⟩))), (2, (Value.slice none 0 0)), (3, (i64 10)), (4, (Value.slice A75 ((frameB [byte 97]).length) c76)), (5, (i64 0)), (34, (Value.bool (([] ++ tv [97, 98]) == [2, 97, 98])))] (j := 14) (by kernel_rfl) (by kernel_rfl) ?_
  have h127 : (([] ++ tv [97, 98]) == [2, 97, 98]) = true := by first | kernel_rfl | (simp [uv, tv, iv, zz, byte, frameB, fourB]; done) | decide +kernel
  rw [h127]
  refine Ops.regs 1 [(0, (Value.bool false)), (2, (Value.slice none 0 0)), (3, (i64 10)), (4, (Value.slice A75 ((frameB [byte 97]).length) c76)), (5, (i64 0)), (34, (Value.bool true)), (35, (Value.pointer (some ⟨b8, 0, none⟩)))] (j := 15) (by kernel_rfl) (by kernel_rfl) ?_
  refine Ops.call (by kernel_rfl) (d := (some 36)) (by kernel_rfl) (RdEnd_calls _ b8 A9 c10 ((⟨[byte 128, byte 0], 0, 0⟩ : Rdr).uint.2) hok25 H120 F122 hne16) ?_
  rintro _ w128 ⟨rfl, K129⟩
  refine ⟨_, _, rfl, rfl, ?_⟩
  have K130 := K118.trans K129 (U := none_) (fun i h1 h2 => h2) (fun i h1 h2 => by exact h2)
  clear K118
  have H131 := H119.keep K129 (fun h => h)
  clear H119
  have H132 := H120.keep K129 (fun h => h)
  clear H120
  have H133 := H121.keep K129 (fun h => h)
  clear H121
  have F134 := RdO.keep0 F122 K129
  clear F122
  have F135 := (Rd.keep0 (by omega) F123 K129)
  clear F123
  have F136 := own_keep0 F124 K129
  clear F124
  have F137 := own_keep0 F125 K129
  clear F125
  have F138 := own_keep0 F126 K129
  clear F126
  have F139 := own_keep0 O117 K129
  clear O117
  clear K129
  refine Ops.regs 3 [(0, (Value.bool false)), (2, (Value.slice none 0 0)), (3, (i64 10)), (4, (Value.slice A75 ((frameB [byte 97]).length) c76)), (5, (i64 0)), (39, (Value.bool ((((⟨[byte 128, byte 0], 0, 0⟩ : Rdr).uint.2).end_) == 11)))] (j := 19) (by kernel_rfl) (by kernel_rfl) ?_
  have h140 : ((((⟨[byte 128, byte 0], 0, 0⟩ : Rdr).uint.2).end_) == 11) = true := by first | kernel_rfl | (simp [uv, tv, iv, zz, byte, frameB, fourB]; done) | decide +kernel
  rw [h140]
  refine Ops.regs 14 [(0, (Value.bool false)), (5, (i64 0)), (53, (Value.bool ((((frameB [byte 97]).length : Nat) : Int) == 6)))] (j := 33) (by kernel_rfl) (by kernel_rfl) ?_
  have h141 : ((((frameB [byte 97]).length : Nat) : Int) == 6) = true := by first | kernel_rfl | (simp [uv, tv, iv, zz, byte, frameB, fourB]; done) | decide +kernel
  rw [h141]
  refine Ops.regs 4 [(0, (Value.bool true))] (j := 37) (by kernel_rfl) (by kernel_rfl) ?_
  refine Ops.done (by kernel_rfl) ?_
  refine q_ret (by kernel_rfl) ?_
  refine ⟨(Value.bool true), retv_tmp rfl rfl, ?_⟩
  exact ⟨rfl, K130⟩
end Go.Proofs.Ytnepjfnkaigakaa
