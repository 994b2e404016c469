/- codec: operations are read -/
import Derived.Test.YtnepjfnkaigakaaProg
import Derived.Test.YtnepjfnkaigakaaK14
set_option linter.unusedVariables false
namespace Go.Proofs.Ytnepjfnkaigakaa
open Go.Q Go.RowKit

theorem GetOp_calls (w : World) (b : Nat) (A : Option Addr) (c : Nat) (r : Rdr) (hok : r.Ok) (H0 : Has w b (rowL (rdrL A c r) 88)) (hR : RdO w A c r.bs) (hne : ∀ g o s, A = some ⟨g, o, s⟩ → g ≠ b) : Calls Try.prog 43 ⟨[(Value.pointer (some ⟨b, 0, none⟩))]⟩ w (fun e w' => e = .returned (agg r.op.1.cells) ∧ Keeps (fun i => i = b) w w' ∧ Has w' b (rowL (rdrL A c (r.op).2) 88)) := by
  have hpos := hok.pos
  have hlen := hok.len
  have hsc := r.scan_le
  have hdl : (r.bs.drop r.pos).length = r.bs.length - r.pos := List.length_drop
  have hcap := hR.1.slice
  have Hb := H0.lt
  have K0 : Keeps (fun i => i = b) w w := (Keeps.refl w).mono (fun _ _ h => h.elim)
  refine q_calls Try.func43 (by kernel_rfl) (by kernel_rfl) ?_
  refine q_seq (by kernel_rfl) ?_
  refine q_region (by kernel_rfl) ?_
  refine Ops.new (o := rowL [(i64 0), (Value.string ByteArray.empty), (Value.string ByteArray.empty), (i64 0), (Value.string ByteArray.empty), (i64 0), (i64 0)] 43) (V := fun b => (Value.pointer (some ⟨b, 0, none⟩))) (by kernel_rfl) (d := (some 2)) (by kernel_rfl) (fun b => rfl) (fun b1 w2 hb3 H4 K5 hs6 => ?_)
  have lb1 : b < b1 := by have := H0.lt; omega
  have nb1 : w.heap.size ≤ b1 := by have := K0.size; omega
  have ob7 : ∀ i o s, A = some ⟨i, o, s⟩ → i ≠ b1 := fun i o s hi => by have := hR.2 i o s hi; omega
  have K8 := K0.trans K5 (U := (fun i => i = b)) (fun i h1 h2 => h2) (fun i h1 h2 => by exact h2.elim)
  clear K0
  have H9 := H0.keep K5 (fun h => h)
  clear H0
  have F10 := RdO.keep0 hR K5
  clear hR
  clear K5 hs6
  refine Ops.done (by kernel_rfl) ?_
  refine q_seq (by kernel_rfl) ?_
  refine q_region (by kernel_rfl) ?_
  refine Ops.regs 1 [(0, (Value.pointer (some ⟨b, 0, none⟩))), (2, (Value.pointer (some ⟨b1, 0, none⟩))), (4, (Value.pointer (some ⟨b, 0, none⟩)))] (j := 1) (by kernel_rfl) (by kernel_rfl) ?_
  refine Ops.call (by kernel_rfl) (d := (some 5)) (by kernel_rfl) (RdInt_calls _ b A c r hok H9 F10 hne ) ?_
  rintro _ w11 ⟨rfl, K12, H13⟩
  have hok14 : (r.int).2.Ok := Rdr.Ok.int hok
  have hu15 := Rdr.int_range r
  refine ⟨_, _, rfl, rfl, ?_⟩
  have K16 := K8.trans K12 (U := (fun i => i = b)) (fun i h1 h2 => h2) (fun i h1 h2 => by have h2 : i = b := h2; show i = b; omega)
  clear K8
  have H17 := H4.keep K12 (by intro h; change b1 = b at h; omega)
  clear H4
  have F18 := RdO.keep F10 K12 (fun i _ _ hi hs => by have hs : i = b := hs; have := hne i _ _ hi; omega)
  clear F10
  clear K12
  have F19 : RdO w11 A c (r.int).2.bs := by rw [Rdr.int_bs]; exact F18
  clear F18
  refine Ops.regs 1 [(0, (Value.pointer (some ⟨b, 0, none⟩))), (2, (Value.pointer (some ⟨b1, 0, none⟩))), (6, (agg [(i64 ((r.int).1)), (Value.string ByteArray.empty), (Value.string ByteArray.empty), (i64 0), (Value.string ByteArray.empty), (i64 0), (i64 0)]))] (j := 3) (by kernel_rfl) (by kernel_rfl) ?_
  refine Ops.new (o := rowL [(i64 0), (Value.string ByteArray.empty), (Value.string ByteArray.empty), (i64 0), (Value.string ByteArray.empty), (i64 0), (i64 0)] 43) (V := fun b => (Value.pointer (some ⟨b, 0, none⟩))) (by kernel_rfl) (d := (some 3)) (by kernel_rfl) (fun b => rfl) (fun b20 w21 hb22 H23 K24 hs25 => ?_)
  have lb20 : b1 < b20 := by have := H17.lt; omega
  have nb20 : w.heap.size ≤ b20 := by have := K16.size; omega
  have ob26 : ∀ i o s, A = some ⟨i, o, s⟩ → i ≠ b20 := fun i o s hi => by have := F19.2 i o s hi; omega
  have K27 := K16.trans K24 (U := (fun i => i = b)) (fun i h1 h2 => h2) (fun i h1 h2 => by exact h2.elim)
  clear K16
  have H28 := H13.keep K24 (fun h => h)
  clear H13
  have H29 := H17.keep K24 (fun h => h)
  clear H17
  have F30 := RdO.keep0 F19 K24
  clear F19
  clear K24 hs25
  refine Ops.put (t := 43) (b := b20) (off := 0) (v := (agg [(i64 ((r.int).1)), (Value.string ByteArray.empty), (Value.string ByteArray.empty), (i64 0), (Value.string ByteArray.empty), (i64 0), (i64 0)])) (ys := [(i64 ((r.int).1)), (Value.string ByteArray.empty), (Value.string ByteArray.empty), (i64 0), (Value.string ByteArray.empty), (i64 0), (i64 0)]) (by kernel_rfl) (by kernel_rfl) H23 (by kernel_rfl) (d := none) (by kernel_rfl) rfl (fun w31 H32 K33 => ?_)
  clear H23
  have K34 := K27.trans K33 (U := (fun i => i = b)) (fun i h1 h2 => h2) (fun i h1 h2 => by have h2 : i = b20 := h2; show i = b; omega)
  clear K27
  have H35 := H28.keep K33 (by intro h; change b = b20 at h; omega)
  clear H28
  have H36 := H29.keep K33 (by intro h; change b1 = b20 at h; omega)
  clear H29
  have F37 := RdO.keep F30 K33 (fun i _ _ hi hs => by have hs : i = b20 := hs; have := ob26 i _ _ hi; omega)
  clear F30
  clear K33
  refine Ops.done (by kernel_rfl) ?_
  refine q_seq (by kernel_rfl) ?_
  refine q_region (by kernel_rfl) ?_
  refine Ops.regs 1 [(0, (Value.pointer (some ⟨b, 0, none⟩))), (2, (Value.pointer (some ⟨b1, 0, none⟩))), (3, (Value.pointer (some ⟨b20, 0, none⟩))), (7, (Value.pointer (some ⟨b, 0, none⟩)))] (j := 1) (by kernel_rfl) (by kernel_rfl) ?_
  refine Ops.call (by kernel_rfl) (d := (some 8)) (by kernel_rfl) (RdText_calls _ b A c ((r.int).2) hok14 H35 F37 hne ) ?_
  rintro _ w38 ⟨rfl, K39, H40⟩
  have hok41 : (((r.int).2).bytes).2.Ok := Rdr.Ok.bytes hok14
  have hu42 := Rdr.bytes_le hok14
  refine ⟨_, _, rfl, rfl, ?_⟩
  have K43 := K34.trans K39 (U := (fun i => i = b)) (fun i h1 h2 => h2) (fun i h1 h2 => by have h2 : i = b := h2; show i = b; omega)
  clear K34
  have H44 := H36.keep K39 (by intro h; change b1 = b at h; omega)
  clear H36
  have H45 := H32.keep K39 (by intro h; change b20 = b at h; omega)
  clear H32
  have F46 := RdO.keep F37 K39 (fun i _ _ hi hs => by have hs : i = b := hs; have := hne i _ _ hi; omega)
  clear F37
  clear K39
  have F47 : RdO w38 A c (((r.int).2).bytes).2.bs := by rw [Rdr.bytes_bs]; exact F46
  clear F46
  refine Ops.regs 1 [(0, (Value.pointer (some ⟨b, 0, none⟩))), (2, (Value.pointer (some ⟨b1, 0, none⟩))), (3, (Value.pointer (some ⟨b20, 0, none⟩))), (8, (Value.string (str (((r.int).2).bytes).1))), (9, (Value.pointer (some ⟨b, 0, none⟩)))] (j := 3) (by kernel_rfl) (by kernel_rfl) ?_
  refine Ops.call (by kernel_rfl) (d := (some 10)) (by kernel_rfl) (RdText_calls _ b A c ((((r.int).2).bytes).2) hok41 H40 F47 hne ) ?_
  rintro _ w48 ⟨rfl, K49, H50⟩
  have hok51 : (((((r.int).2).bytes).2).bytes).2.Ok := Rdr.Ok.bytes hok41
  have hu52 := Rdr.bytes_le hok41
  refine ⟨_, _, rfl, rfl, ?_⟩
  have K53 := K43.trans K49 (U := (fun i => i = b)) (fun i h1 h2 => h2) (fun i h1 h2 => by have h2 : i = b := h2; show i = b; omega)
  clear K43
  have H54 := H44.keep K49 (by intro h; change b1 = b at h; omega)
  clear H44
  have H55 := H45.keep K49 (by intro h; change b20 = b at h; omega)
  clear H45
  have F56 := RdO.keep F47 K49 (fun i _ _ hi hs => by have hs : i = b := hs; have := hne i _ _ hi; omega)
  clear F47
  clear K49
  have F57 : RdO w48 A c (((((r.int).2).bytes).2).bytes).2.bs := by rw [Rdr.bytes_bs]; exact F56
  clear F56
  refine Ops.regs 1 [(0, (Value.pointer (some ⟨b, 0, none⟩))), (2, (Value.pointer (some ⟨b1, 0, none⟩))), (3, (Value.pointer (some ⟨b20, 0, none⟩))), (8, (Value.string (str (((r.int).2).bytes).1))), (10, (Value.string (str (((((r.int).2).bytes).2).bytes).1))), (11, (Value.pointer (some ⟨b20, 1, none⟩)))] (j := 5) (by kernel_rfl) (by kernel_rfl) ?_
  refine Ops.put (t := 9) (b := b20) (off := 1) (v := (Value.string (str (((r.int).2).bytes).1))) (ys := [(i64 ((r.int).1)), (Value.string (str (((r.int).2).bytes).1)), (Value.string ByteArray.empty), (i64 0), (Value.string ByteArray.empty), (i64 0), (i64 0)]) (by kernel_rfl) (by kernel_rfl) H55 (by kernel_rfl) (d := none) (by kernel_rfl) rfl (fun w58 H59 K60 => ?_)
  clear H55
  have K61 := K53.trans K60 (U := (fun i => i = b)) (fun i h1 h2 => h2) (fun i h1 h2 => by have h2 : i = b20 := h2; show i = b; omega)
  clear K53
  have H62 := H50.keep K60 (by intro h; change b = b20 at h; omega)
  clear H50
  have H63 := H54.keep K60 (by intro h; change b1 = b20 at h; omega)
  clear H54
  have F64 := RdO.keep F57 K60 (fun i _ _ hi hs => by have hs : i = b20 := hs; have := ob26 i _ _ hi; omega)
  clear F57
  clear K60
  refine Ops.regs 1 [(0, (Value.pointer (some ⟨b, 0, none⟩))), (2, (Value.pointer (some ⟨b1, 0, none⟩))), (3, (Value.pointer (some ⟨b20, 0, none⟩))), (10, (Value.string (str (((((r.int).2).bytes).2).bytes).1))), (12, (Value.pointer (some ⟨b20, 2, none⟩)))] (j := 7) (by kernel_rfl) (by kernel_rfl) ?_
  refine Ops.put (t := 9) (b := b20) (off := 2) (v := (Value.string (str (((((r.int).2).bytes).2).bytes).1))) (ys := [(i64 ((r.int).1)), (Value.string (str (((r.int).2).bytes).1)), (Value.string (str (((((r.int).2).bytes).2).bytes).1)), (i64 0), (Value.string ByteArray.empty), (i64 0), (i64 0)]) (by kernel_rfl) (by kernel_rfl) H59 (by kernel_rfl) (d := none) (by kernel_rfl) rfl (fun w65 H66 K67 => ?_)
  clear H59
  have K68 := K61.trans K67 (U := (fun i => i = b)) (fun i h1 h2 => h2) (fun i h1 h2 => by have h2 : i = b20 := h2; show i = b; omega)
  clear K61
  have H69 := H62.keep K67 (by intro h; change b = b20 at h; omega)
  clear H62
  have H70 := H63.keep K67 (by intro h; change b1 = b20 at h; omega)
  clear H63
  have F71 := RdO.keep F64 K67 (fun i _ _ hi hs => by have hs : i = b20 := hs; have := ob26 i _ _ hi; omega)
  clear F64
  clear K67
  refine Ops.done (by kernel_rfl) ?_
  refine q_seq (by kernel_rfl) ?_
  refine q_region (by kernel_rfl) ?_
  refine Ops.regs 1 [(0, (Value.pointer (some ⟨b, 0, none⟩))), (2, (Value.pointer (some ⟨b1, 0, none⟩))), (3, (Value.pointer (some ⟨b20, 0, none⟩))), (13, (Value.pointer (some ⟨b, 0, none⟩)))] (j := 1) (by kernel_rfl) (by kernel_rfl) ?_
  refine Ops.call (by kernel_rfl) (d := (some 14)) (by kernel_rfl) (RdInt_calls _ b A c ((((((r.int).2).bytes).2).bytes).2) hok51 H69 F71 hne ) ?_
  rintro _ w72 ⟨rfl, K73, H74⟩
  have hok75 : (((((((r.int).2).bytes).2).bytes).2).int).2.Ok := Rdr.Ok.int hok51
  have hu76 := Rdr.int_range ((((((r.int).2).bytes).2).bytes).2)
  refine ⟨_, _, rfl, rfl, ?_⟩
  have K77 := K68.trans K73 (U := (fun i => i = b)) (fun i h1 h2 => h2) (fun i h1 h2 => by have h2 : i = b := h2; show i = b; omega)
  clear K68
  have H78 := H70.keep K73 (by intro h; change b1 = b at h; omega)
  clear H70
  have H79 := H66.keep K73 (by intro h; change b20 = b at h; omega)
  clear H66
  have F80 := RdO.keep F71 K73 (fun i _ _ hi hs => by have hs : i = b := hs; have := hne i _ _ hi; omega)
  clear F71
  clear K73
  have F81 : RdO w72 A c (((((((r.int).2).bytes).2).bytes).2).int).2.bs := by rw [Rdr.int_bs]; exact F80
  clear F80
  refine Ops.regs 1 [(0, (Value.pointer (some ⟨b, 0, none⟩))), (2, (Value.pointer (some ⟨b1, 0, none⟩))), (3, (Value.pointer (some ⟨b20, 0, none⟩))), (14, (i64 ((((((((r.int).2).bytes).2).bytes).2).int).1))), (15, (Value.pointer (some ⟨b, 0, none⟩)))] (j := 3) (by kernel_rfl) (by kernel_rfl) ?_
  refine Ops.call (by kernel_rfl) (d := (some 16)) (by kernel_rfl) (RdText_calls _ b A c ((((((((r.int).2).bytes).2).bytes).2).int).2) hok75 H74 F81 hne ) ?_
  rintro _ w82 ⟨rfl, K83, H84⟩
  have hok85 : (((((((((r.int).2).bytes).2).bytes).2).int).2).bytes).2.Ok := Rdr.Ok.bytes hok75
  have hu86 := Rdr.bytes_le hok75
  refine ⟨_, _, rfl, rfl, ?_⟩
  have K87 := K77.trans K83 (U := (fun i => i = b)) (fun i h1 h2 => h2) (fun i h1 h2 => by have h2 : i = b := h2; show i = b; omega)
  clear K77
  have H88 := H78.keep K83 (by intro h; change b1 = b at h; omega)
  clear H78
  have H89 := H79.keep K83 (by intro h; change b20 = b at h; omega)
  clear H79
  have F90 := RdO.keep F81 K83 (fun i _ _ hi hs => by have hs : i = b := hs; have := hne i _ _ hi; omega)
  clear F81
  clear K83
  have F91 : RdO w82 A c (((((((((r.int).2).bytes).2).bytes).2).int).2).bytes).2.bs := by rw [Rdr.bytes_bs]; exact F90
  clear F90
  refine Ops.regs 1 [(0, (Value.pointer (some ⟨b, 0, none⟩))), (2, (Value.pointer (some ⟨b1, 0, none⟩))), (3, (Value.pointer (some ⟨b20, 0, none⟩))), (14, (i64 ((((((((r.int).2).bytes).2).bytes).2).int).1))), (16, (Value.string (str (((((((((r.int).2).bytes).2).bytes).2).int).2).bytes).1))), (17, (Value.pointer (some ⟨b20, 3, none⟩)))] (j := 5) (by kernel_rfl) (by kernel_rfl) ?_
  refine Ops.put (t := 2) (b := b20) (off := 3) (v := (i64 ((((((((r.int).2).bytes).2).bytes).2).int).1))) (ys := [(i64 ((r.int).1)), (Value.string (str (((r.int).2).bytes).1)), (Value.string (str (((((r.int).2).bytes).2).bytes).1)), (i64 ((((((((r.int).2).bytes).2).bytes).2).int).1)), (Value.string ByteArray.empty), (i64 0), (i64 0)]) (by kernel_rfl) (by kernel_rfl) H89 (by kernel_rfl) (d := none) (by kernel_rfl) rfl (fun w92 H93 K94 => ?_)
  clear H89
  have K95 := K87.trans K94 (U := (fun i => i = b)) (fun i h1 h2 => h2) (fun i h1 h2 => by have h2 : i = b20 := h2; show i = b; omega)
  clear K87
  have H96 := H84.keep K94 (by intro h; change b = b20 at h; omega)
  clear H84
  have H97 := H88.keep K94 (by intro h; change b1 = b20 at h; omega)
  clear H88
  have F98 := RdO.keep F91 K94 (fun i _ _ hi hs => by have hs : i = b20 := hs; have := ob26 i _ _ hi; omega)
  clear F91
  clear K94
  refine Ops.regs 1 [(0, (Value.pointer (some ⟨b, 0, none⟩))), (2, (Value.pointer (some ⟨b1, 0, none⟩))), (3, (Value.pointer (some ⟨b20, 0, none⟩))), (16, (Value.string (str (((((((((r.int).2).bytes).2).bytes).2).int).2).bytes).1))), (18, (Value.pointer (some ⟨b20, 4, none⟩)))] (j := 7) (by kernel_rfl) (by kernel_rfl) ?_
  refine Ops.put (t := 9) (b := b20) (off := 4) (v := (Value.string (str (((((((((r.int).2).bytes).2).bytes).2).int).2).bytes).1))) (ys := [(i64 ((r.int).1)), (Value.string (str (((r.int).2).bytes).1)), (Value.string (str (((((r.int).2).bytes).2).bytes).1)), (i64 ((((((((r.int).2).bytes).2).bytes).2).int).1)), (Value.string (str (((((((((r.int).2).bytes).2).bytes).2).int).2).bytes).1)), (i64 0), (i64 0)]) (by kernel_rfl) (by kernel_rfl) H93 (by kernel_rfl) (d := none) (by kernel_rfl) rfl (fun w99 H100 K101 => ?_)
  clear H93
  have K102 := K95.trans K101 (U := (fun i => i = b)) (fun i h1 h2 => h2) (fun i h1 h2 => by have h2 : i = b20 := h2; show i = b; omega)
  clear K95
  have H103 := H96.keep K101 (by intro h; change b = b20 at h; omega)
  clear H96
  have H104 := H97.keep K101 (by intro h; change b1 = b20 at h; omega)
  clear H97
  have F105 := RdO.keep F98 K101 (fun i _ _ hi hs => by have hs : i = b20 := hs; have := ob26 i _ _ hi; omega)
  clear F98
  clear K101
  refine Ops.done (by kernel_rfl) ?_
  refine q_seq (by kernel_rfl) ?_
  refine q_region (by kernel_rfl) ?_
  refine Ops.regs 1 [(0, (Value.pointer (some ⟨b, 0, none⟩))), (2, (Value.pointer (some ⟨b1, 0, none⟩))), (3, (Value.pointer (some ⟨b20, 0, none⟩))), (19, (Value.pointer (some ⟨b, 0, none⟩)))] (j := 1) (by kernel_rfl) (by kernel_rfl) ?_
  refine Ops.call (by kernel_rfl) (d := (some 20)) (by kernel_rfl) (RdInt_calls _ b A c ((((((((((r.int).2).bytes).2).bytes).2).int).2).bytes).2) hok85 H103 F105 hne ) ?_
  rintro _ w106 ⟨rfl, K107, H108⟩
  have hok109 : (((((((((((r.int).2).bytes).2).bytes).2).int).2).bytes).2).int).2.Ok := Rdr.Ok.int hok85
  have hu110 := Rdr.int_range ((((((((((r.int).2).bytes).2).bytes).2).int).2).bytes).2)
  refine ⟨_, _, rfl, rfl, ?_⟩
  have K111 := K102.trans K107 (U := (fun i => i = b)) (fun i h1 h2 => h2) (fun i h1 h2 => by have h2 : i = b := h2; show i = b; omega)
  clear K102
  have H112 := H104.keep K107 (by intro h; change b1 = b at h; omega)
  clear H104
  have H113 := H100.keep K107 (by intro h; change b20 = b at h; omega)
  clear H100
  have F114 := RdO.keep F105 K107 (fun i _ _ hi hs => by have hs : i = b := hs; have := hne i _ _ hi; omega)
  clear F105
  clear K107
  have F115 : RdO w106 A c (((((((((((r.int).2).bytes).2).bytes).2).int).2).bytes).2).int).2.bs := by rw [Rdr.int_bs]; exact F114
  clear F114
  refine Ops.regs 1 [(2, (Value.pointer (some ⟨b1, 0, none⟩))), (3, (Value.pointer (some ⟨b20, 0, none⟩))), (20, (i64 ((((((((((((r.int).2).bytes).2).bytes).2).int).2).bytes).2).int).1))), (21, (Value.pointer (some ⟨b, 0, none⟩)))] (j := 3) (by kernel_rfl) (by kernel_rfl) ?_
  refine Ops.call (by kernel_rfl) (d := (some 22)) (by kernel_rfl) (RdInt_calls _ b A c ((((((((((((r.int).2).bytes).2).bytes).2).int).2).bytes).2).int).2) hok109 H108 F115 hne ) ?_
  rintro _ w116 ⟨rfl, K117, H118⟩
  have hok119 : (((((((((((((r.int).2).bytes).2).bytes).2).int).2).bytes).2).int).2).int).2.Ok := Rdr.Ok.int hok109
  have hu120 := Rdr.int_range ((((((((((((r.int).2).bytes).2).bytes).2).int).2).bytes).2).int).2)
  refine ⟨_, _, rfl, rfl, ?_⟩
  have K121 := K111.trans K117 (U := (fun i => i = b)) (fun i h1 h2 => h2) (fun i h1 h2 => by have h2 : i = b := h2; show i = b; omega)
  clear K111
  have H122 := H112.keep K117 (by intro h; change b1 = b at h; omega)
  clear H112
  have H123 := H113.keep K117 (by intro h; change b20 = b at h; omega)
  clear H113
  have F124 := RdO.keep F115 K117 (fun i _ _ hi hs => by have hs : i = b := hs; have := hne i _ _ hi; omega)
  clear F115
  clear K117
  have F125 : RdO w116 A c (((((((((((((r.int).2).bytes).2).bytes).2).int).2).bytes).2).int).2).int).2.bs := by rw [Rdr.int_bs]; exact F124
  clear F124
  refine Ops.regs 1 [(2, (Value.pointer (some ⟨b1, 0, none⟩))), (3, (Value.pointer (some ⟨b20, 0, none⟩))), (20, (i64 ((((((((((((r.int).2).bytes).2).bytes).2).int).2).bytes).2).int).1))), (22, (i64 ((((((((((((((r.int).2).bytes).2).bytes).2).int).2).bytes).2).int).2).int).1))), (23, (Value.pointer (some ⟨b20, 5, none⟩)))] (j := 5) (by kernel_rfl) (by kernel_rfl) ?_
  refine Ops.put (t := 3) (b := b20) (off := 5) (v := (i64 ((((((((((((r.int).2).bytes).2).bytes).2).int).2).bytes).2).int).1))) (ys := [(i64 ((r.int).1)), (Value.string (str (((r.int).2).bytes).1)), (Value.string (str (((((r.int).2).bytes).2).bytes).1)), (i64 ((((((((r.int).2).bytes).2).bytes).2).int).1)), (Value.string (str (((((((((r.int).2).bytes).2).bytes).2).int).2).bytes).1)), (i64 ((((((((((((r.int).2).bytes).2).bytes).2).int).2).bytes).2).int).1)), (i64 0)]) (by kernel_rfl) (by kernel_rfl) H123 (by kernel_rfl) (d := none) (by kernel_rfl) rfl (fun w126 H127 K128 => ?_)
  clear H123
  have K129 := K121.trans K128 (U := (fun i => i = b)) (fun i h1 h2 => h2) (fun i h1 h2 => by have h2 : i = b20 := h2; show i = b; omega)
  clear K121
  have H130 := H118.keep K128 (by intro h; change b = b20 at h; omega)
  clear H118
  have H131 := H122.keep K128 (by intro h; change b1 = b20 at h; omega)
  clear H122
  have F132 := RdO.keep F125 K128 (fun i _ _ hi hs => by have hs : i = b20 := hs; have := ob26 i _ _ hi; omega)
  clear F125
  clear K128
  refine Ops.regs 1 [(2, (Value.pointer (some ⟨b1, 0, none⟩))), (3, (Value.pointer (some ⟨b20, 0, none⟩))), (22, (i64 ((((((((((((((r.int).2).bytes).2).bytes).2).int).2).bytes).2).int).2).int).1))), (24, (Value.pointer (some ⟨b20, 6, none⟩)))] (j := 7) (by kernel_rfl) (by kernel_rfl) ?_
  refine Ops.put (t := 3) (b := b20) (off := 6) (v := (i64 ((((((((((((((r.int).2).bytes).2).bytes).2).int).2).bytes).2).int).2).int).1))) (ys := [(i64 ((r.int).1)), (Value.string (str (((r.int).2).bytes).1)), (Value.string (str (((((r.int).2).bytes).2).bytes).1)), (i64 ((((((((r.int).2).bytes).2).bytes).2).int).1)), (Value.string (str (((((((((r.int).2).bytes).2).bytes).2).int).2).bytes).1)), (i64 ((((((((((((r.int).2).bytes).2).bytes).2).int).2).bytes).2).int).1)), (i64 ((((((((((((((r.int).2).bytes).2).bytes).2).int).2).bytes).2).int).2).int).1))]) (by kernel_rfl) (by kernel_rfl) H127 (by kernel_rfl) (d := none) (by kernel_rfl) rfl (fun w133 H134 K135 => ?_)
  clear H127
  have K136 := K129.trans K135 (U := (fun i => i = b)) (fun i h1 h2 => h2) (fun i h1 h2 => by have h2 : i = b20 := h2; show i = b; omega)
  clear K129
  have H137 := H130.keep K135 (by intro h; change b = b20 at h; omega)
  clear H130
  have H138 := H131.keep K135 (by intro h; change b1 = b20 at h; omega)
  clear H131
  have F139 := RdO.keep F132 K135 (fun i _ _ hi hs => by have hs : i = b20 := hs; have := ob26 i _ _ hi; omega)
  clear F132
  clear K135
  refine Ops.done (by kernel_rfl) ?_
  refine q_seq (by kernel_rfl) ?_
  refine q_region (by kernel_rfl) ?_
  refine Ops.go (v := (agg [(i64 ((r.int).1)), (Value.string (str (((r.int).2).bytes).1)), (Value.string (str (((((r.int).2).bytes).2).bytes).1)), (i64 ((((((((r.int).2).bytes).2).bytes).2).int).1)), (Value.string (str (((((((((r.int).2).bytes).2).bytes).2).int).2).bytes).1)), (i64 ((((((((((((r.int).2).bytes).2).bytes).2).int).2).bytes).2).int).1)), (i64 ((((((((((((((r.int).2).bytes).2).bytes).2).int).2).bytes).2).int).2).int).1))])) (by kernel_rfl) (Runs.load (t := 43) (a := ⟨b20, 0, none⟩) (by kernel_rfl) (H134.loads (by kernel_rfl))) (d := (some 25)) (by kernel_rfl) rfl ?_
  refine Ops.put (t := 43) (b := b1) (off := 0) (v := (agg [(i64 ((r.int).1)), (Value.string (str (((r.int).2).bytes).1)), (Value.string (str (((((r.int).2).bytes).2).bytes).1)), (i64 ((((((((r.int).2).bytes).2).bytes).2).int).1)), (Value.string (str (((((((((r.int).2).bytes).2).bytes).2).int).2).bytes).1)), (i64 ((((((((((((r.int).2).bytes).2).bytes).2).int).2).bytes).2).int).1)), (i64 ((((((((((((((r.int).2).bytes).2).bytes).2).int).2).bytes).2).int).2).int).1))])) (ys := [(i64 ((r.int).1)), (Value.string (str (((r.int).2).bytes).1)), (Value.string (str (((((r.int).2).bytes).2).bytes).1)), (i64 ((((((((r.int).2).bytes).2).bytes).2).int).1)), (Value.string (str (((((((((r.int).2).bytes).2).bytes).2).int).2).bytes).1)), (i64 ((((((((((((r.int).2).bytes).2).bytes).2).int).2).bytes).2).int).1)), (i64 ((((((((((((((r.int).2).bytes).2).bytes).2).int).2).bytes).2).int).2).int).1))]) (by kernel_rfl) (by kernel_rfl) H138 (by kernel_rfl) (d := none) (by kernel_rfl) rfl (fun w140 H141 K142 => ?_)
  clear H138
  have K143 := K136.trans K142 (U := (fun i => i = b)) (fun i h1 h2 => h2) (fun i h1 h2 => by have h2 : i = b1 := h2; show i = b; omega)
  clear K136
  have H144 := H137.keep K142 (by intro h; change b = b1 at h; omega)
  clear H137
  have H145 := H134.keep K142 (by intro h; change b20 = b1 at h; omega)
  clear H134
  have F146 := RdO.keep F139 K142 (fun i _ _ hi hs => by have hs : i = b1 := hs; have := ob7 i _ _ hi; omega)
  clear F139
  clear K142
  refine Ops.done (by kernel_rfl) ?_
  refine q_ret (by kernel_rfl) ?_
  refine ⟨(agg [(i64 ((r.int).1)), (Value.string (str (((r.int).2).bytes).1)), (Value.string (str (((((r.int).2).bytes).2).bytes).1)), (i64 ((((((((r.int).2).bytes).2).bytes).2).int).1)), (Value.string (str (((((((((r.int).2).bytes).2).bytes).2).int).2).bytes).1)), (i64 ((((((((((((r.int).2).bytes).2).bytes).2).int).2).bytes).2).int).1)), (i64 ((((((((((((((r.int).2).bytes).2).bytes).2).int).2).bytes).2).int).2).int).1))]), retv_cell rfl rfl (H141.loads (by kernel_rfl)), ?_⟩
  exact ⟨rfl, K143, H144⟩

theorem RGetOp_calls (w : World) (b : Nat) (A : Option Addr) (c : Nat) (r : Rdr) (hok : r.Ok) (H0 : Has w b (rowL (rdrL A c r) 72)) (hR : RdO w A c r.bs) (hne : ∀ g o s, A = some ⟨g, o, s⟩ → g ≠ b) : Calls Try.prog 74 ⟨[(Value.pointer (some ⟨b, 0, none⟩))]⟩ w (fun e w' => e = .returned (agg r.op.1.cells) ∧ Keeps (fun i => i = b) w w' ∧ Has w' b (rowL (rdrL A c (r.op).2) 72)) := by
  have hpos := hok.pos
  have hlen := hok.len
  have hsc := r.scan_le
  have hdl : (r.bs.drop r.pos).length = r.bs.length - r.pos := List.length_drop
  have hcap := hR.1.slice
  have Hb := H0.lt
  have K0 : Keeps (fun i => i = b) w w := (Keeps.refl w).mono (fun _ _ h => h.elim)
  refine q_calls Try.func74 (by kernel_rfl) (by kernel_rfl) ?_
  refine q_seq (by kernel_rfl) ?_
  refine q_region (by kernel_rfl) ?_
  refine Ops.new (o := rowL [(i64 0), (Value.string ByteArray.empty), (Value.string ByteArray.empty), (i64 0), (Value.string ByteArray.empty), (i64 0), (i64 0)] 43) (V := fun b => (Value.pointer (some ⟨b, 0, none⟩))) (by kernel_rfl) (d := (some 2)) (by kernel_rfl) (fun b => rfl) (fun b1 w2 hb3 H4 K5 hs6 => ?_)
  have lb1 : b < b1 := by have := H0.lt; omega
  have nb1 : w.heap.size ≤ b1 := by have := K0.size; omega
  have ob7 : ∀ i o s, A = some ⟨i, o, s⟩ → i ≠ b1 := fun i o s hi => by have := hR.2 i o s hi; omega
  have K8 := K0.trans K5 (U := (fun i => i = b)) (fun i h1 h2 => h2) (fun i h1 h2 => by exact h2.elim)
  clear K0
  have H9 := H0.keep K5 (fun h => h)
  clear H0
  have F10 := RdO.keep0 hR K5
  clear hR
  clear K5 hs6
  refine Ops.done (by kernel_rfl) ?_
  refine q_seq (by kernel_rfl) ?_
  refine q_region (by kernel_rfl) ?_
  refine Ops.new (o := rowL [(i64 0), (Value.string ByteArray.empty), (Value.string ByteArray.empty), (i64 0), (Value.string ByteArray.empty), (i64 0), (i64 0)] 43) (V := fun b => (Value.pointer (some ⟨b, 0, none⟩))) (by kernel_rfl) (d := (some 3)) (by kernel_rfl) (fun b => rfl) (fun b11 w12 hb13 H14 K15 hs16 => ?_)
  have lb11 : b1 < b11 := by have := H4.lt; omega
  have nb11 : w.heap.size ≤ b11 := by have := K8.size; omega
  have ob17 : ∀ i o s, A = some ⟨i, o, s⟩ → i ≠ b11 := fun i o s hi => by have := F10.2 i o s hi; omega
  have K18 := K8.trans K15 (U := (fun i => i = b)) (fun i h1 h2 => h2) (fun i h1 h2 => by exact h2.elim)
  clear K8
  have H19 := H9.keep K15 (fun h => h)
  clear H9
  have H20 := H4.keep K15 (fun h => h)
  clear H4
  have F21 := RdO.keep0 F10 K15
  clear F10
  clear K15 hs16
  refine Ops.done (by kernel_rfl) ?_
  refine q_seq (by kernel_rfl) ?_
  refine q_region (by kernel_rfl) ?_
  refine Ops.regs 1 [(0, (Value.pointer (some ⟨b, 0, none⟩))), (2, (Value.pointer (some ⟨b1, 0, none⟩))), (3, (Value.pointer (some ⟨b11, 0, none⟩))), (4, (Value.pointer (some ⟨b, 0, none⟩)))] (j := 1) (by kernel_rfl) (by kernel_rfl) ?_
  refine Ops.call (by kernel_rfl) (d := (some 5)) (by kernel_rfl) (RRInt_calls _ b A c r hok H19 F21 hne ) ?_
  rintro _ w22 ⟨rfl, K23, H24⟩
  have hok25 : (r.int).2.Ok := Rdr.Ok.int hok
  have hu26 := Rdr.int_range r
  refine ⟨_, _, rfl, rfl, ?_⟩
  have K27 := K18.trans K23 (U := (fun i => i = b)) (fun i h1 h2 => h2) (fun i h1 h2 => by have h2 : i = b := h2; show i = b; omega)
  clear K18
  have H28 := H20.keep K23 (by intro h; change b1 = b at h; omega)
  clear H20
  have H29 := H14.keep K23 (by intro h; change b11 = b at h; omega)
  clear H14
  have F30 := RdO.keep F21 K23 (fun i _ _ hi hs => by have hs : i = b := hs; have := hne i _ _ hi; omega)
  clear F21
  clear K23
  have F31 : RdO w22 A c (r.int).2.bs := by rw [Rdr.int_bs]; exact F30
  clear F30
  refine Ops.regs 1 [(0, (Value.pointer (some ⟨b, 0, none⟩))), (2, (Value.pointer (some ⟨b1, 0, none⟩))), (3, (Value.pointer (some ⟨b11, 0, none⟩))), (5, (i64 ((r.int).1))), (6, (Value.pointer (some ⟨b11, 0, none⟩)))] (j := 3) (by kernel_rfl) (by kernel_rfl) ?_
  refine Ops.put (t := 3) (b := b11) (off := 0) (v := (i64 ((r.int).1))) (ys := [(i64 ((r.int).1)), (Value.string ByteArray.empty), (Value.string ByteArray.empty), (i64 0), (Value.string ByteArray.empty), (i64 0), (i64 0)]) (by kernel_rfl) (by kernel_rfl) H29 (by kernel_rfl) (d := none) (by kernel_rfl) rfl (fun w32 H33 K34 => ?_)
  clear H29
  have K35 := K27.trans K34 (U := (fun i => i = b)) (fun i h1 h2 => h2) (fun i h1 h2 => by have h2 : i = b11 := h2; show i = b; omega)
  clear K27
  have H36 := H24.keep K34 (by intro h; change b = b11 at h; omega)
  clear H24
  have H37 := H28.keep K34 (by intro h; change b1 = b11 at h; omega)
  clear H28
  have F38 := RdO.keep F31 K34 (fun i _ _ hi hs => by have hs : i = b11 := hs; have := ob17 i _ _ hi; omega)
  clear F31
  clear K34
  refine Ops.done (by kernel_rfl) ?_
  refine q_seq (by kernel_rfl) ?_
  refine q_region (by kernel_rfl) ?_
  refine Ops.regs 1 [(0, (Value.pointer (some ⟨b, 0, none⟩))), (2, (Value.pointer (some ⟨b1, 0, none⟩))), (3, (Value.pointer (some ⟨b11, 0, none⟩))), (7, (Value.pointer (some ⟨b, 0, none⟩)))] (j := 1) (by kernel_rfl) (by kernel_rfl) ?_
  refine Ops.call (by kernel_rfl) (d := (some 8)) (by kernel_rfl) (RRText_calls _ b A c ((r.int).2) hok25 H36 F38 hne ) ?_
  rintro _ w39 ⟨rfl, K40, H41⟩
  have hok42 : (((r.int).2).bytes).2.Ok := Rdr.Ok.bytes hok25
  have hu43 := Rdr.bytes_le hok25
  refine ⟨_, _, rfl, rfl, ?_⟩
  have K44 := K35.trans K40 (U := (fun i => i = b)) (fun i h1 h2 => h2) (fun i h1 h2 => by have h2 : i = b := h2; show i = b; omega)
  clear K35
  have H45 := H37.keep K40 (by intro h; change b1 = b at h; omega)
  clear H37
  have H46 := H33.keep K40 (by intro h; change b11 = b at h; omega)
  clear H33
  have F47 := RdO.keep F38 K40 (fun i _ _ hi hs => by have hs : i = b := hs; have := hne i _ _ hi; omega)
  clear F38
  clear K40
  have F48 : RdO w39 A c (((r.int).2).bytes).2.bs := by rw [Rdr.bytes_bs]; exact F47
  clear F47
  refine Ops.regs 1 [(0, (Value.pointer (some ⟨b, 0, none⟩))), (2, (Value.pointer (some ⟨b1, 0, none⟩))), (3, (Value.pointer (some ⟨b11, 0, none⟩))), (8, (Value.string (str (((r.int).2).bytes).1))), (9, (Value.pointer (some ⟨b11, 1, none⟩)))] (j := 3) (by kernel_rfl) (by kernel_rfl) ?_
  refine Ops.put (t := 9) (b := b11) (off := 1) (v := (Value.string (str (((r.int).2).bytes).1))) (ys := [(i64 ((r.int).1)), (Value.string (str (((r.int).2).bytes).1)), (Value.string ByteArray.empty), (i64 0), (Value.string ByteArray.empty), (i64 0), (i64 0)]) (by kernel_rfl) (by kernel_rfl) H46 (by kernel_rfl) (d := none) (by kernel_rfl) rfl (fun w49 H50 K51 => ?_)
  clear H46
  have K52 := K44.trans K51 (U := (fun i => i = b)) (fun i h1 h2 => h2) (fun i h1 h2 => by have h2 : i = b11 := h2; show i = b; omega)
  clear K44
  have H53 := H41.keep K51 (by intro h; change b = b11 at h; omega)
  clear H41
  have H54 := H45.keep K51 (by intro h; change b1 = b11 at h; omega)
  clear H45
  have F55 := RdO.keep F48 K51 (fun i _ _ hi hs => by have hs : i = b11 := hs; have := ob17 i _ _ hi; omega)
  clear F48
  clear K51
  refine Ops.done (by kernel_rfl) ?_
  refine q_seq (by kernel_rfl) ?_
  refine q_region (by kernel_rfl) ?_
  refine Ops.regs 1 [(0, (Value.pointer (some ⟨b, 0, none⟩))), (2, (Value.pointer (some ⟨b1, 0, none⟩))), (3, (Value.pointer (some ⟨b11, 0, none⟩))), (10, (Value.pointer (some ⟨b, 0, none⟩)))] (j := 1) (by kernel_rfl) (by kernel_rfl) ?_
  refine Ops.call (by kernel_rfl) (d := (some 11)) (by kernel_rfl) (RRText_calls _ b A c ((((r.int).2).bytes).2) hok42 H53 F55 hne ) ?_
  rintro _ w56 ⟨rfl, K57, H58⟩
  have hok59 : (((((r.int).2).bytes).2).bytes).2.Ok := Rdr.Ok.bytes hok42
  have hu60 := Rdr.bytes_le hok42
  refine ⟨_, _, rfl, rfl, ?_⟩
  have K61 := K52.trans K57 (U := (fun i => i = b)) (fun i h1 h2 => h2) (fun i h1 h2 => by have h2 : i = b := h2; show i = b; omega)
  clear K52
  have H62 := H54.keep K57 (by intro h; change b1 = b at h; omega)
  clear H54
  have H63 := H50.keep K57 (by intro h; change b11 = b at h; omega)
  clear H50
  have F64 := RdO.keep F55 K57 (fun i _ _ hi hs => by have hs : i = b := hs; have := hne i _ _ hi; omega)
  clear F55
  clear K57
  have F65 : RdO w56 A c (((((r.int).2).bytes).2).bytes).2.bs := by rw [Rdr.bytes_bs]; exact F64
  clear F64
  refine Ops.regs 1 [(0, (Value.pointer (some ⟨b, 0, none⟩))), (2, (Value.pointer (some ⟨b1, 0, none⟩))), (3, (Value.pointer (some ⟨b11, 0, none⟩))), (11, (Value.string (str (((((r.int).2).bytes).2).bytes).1))), (12, (Value.pointer (some ⟨b11, 2, none⟩)))] (j := 3) (by kernel_rfl) (by kernel_rfl) ?_
  refine Ops.put (t := 9) (b := b11) (off := 2) (v := (Value.string (str (((((r.int).2).bytes).2).bytes).1))) (ys := [(i64 ((r.int).1)), (Value.string (str (((r.int).2).bytes).1)), (Value.string (str (((((r.int).2).bytes).2).bytes).1)), (i64 0), (Value.string ByteArray.empty), (i64 0), (i64 0)]) (by kernel_rfl) (by kernel_rfl) H63 (by kernel_rfl) (d := none) (by kernel_rfl) rfl (fun w66 H67 K68 => ?_)
  clear H63
  have K69 := K61.trans K68 (U := (fun i => i = b)) (fun i h1 h2 => h2) (fun i h1 h2 => by have h2 : i = b11 := h2; show i = b; omega)
  clear K61
  have H70 := H58.keep K68 (by intro h; change b = b11 at h; omega)
  clear H58
  have H71 := H62.keep K68 (by intro h; change b1 = b11 at h; omega)
  clear H62
  have F72 := RdO.keep F65 K68 (fun i _ _ hi hs => by have hs : i = b11 := hs; have := ob17 i _ _ hi; omega)
  clear F65
  clear K68
  refine Ops.done (by kernel_rfl) ?_
  refine q_seq (by kernel_rfl) ?_
  refine q_region (by kernel_rfl) ?_
  refine Ops.regs 1 [(0, (Value.pointer (some ⟨b, 0, none⟩))), (2, (Value.pointer (some ⟨b1, 0, none⟩))), (3, (Value.pointer (some ⟨b11, 0, none⟩))), (13, (Value.pointer (some ⟨b, 0, none⟩)))] (j := 1) (by kernel_rfl) (by kernel_rfl) ?_
  refine Ops.call (by kernel_rfl) (d := (some 14)) (by kernel_rfl) (RRInt_calls _ b A c ((((((r.int).2).bytes).2).bytes).2) hok59 H70 F72 hne ) ?_
  rintro _ w73 ⟨rfl, K74, H75⟩
  have hok76 : (((((((r.int).2).bytes).2).bytes).2).int).2.Ok := Rdr.Ok.int hok59
  have hu77 := Rdr.int_range ((((((r.int).2).bytes).2).bytes).2)
  refine ⟨_, _, rfl, rfl, ?_⟩
  have K78 := K69.trans K74 (U := (fun i => i = b)) (fun i h1 h2 => h2) (fun i h1 h2 => by have h2 : i = b := h2; show i = b; omega)
  clear K69
  have H79 := H71.keep K74 (by intro h; change b1 = b at h; omega)
  clear H71
  have H80 := H67.keep K74 (by intro h; change b11 = b at h; omega)
  clear H67
  have F81 := RdO.keep F72 K74 (fun i _ _ hi hs => by have hs : i = b := hs; have := hne i _ _ hi; omega)
  clear F72
  clear K74
  have F82 : RdO w73 A c (((((((r.int).2).bytes).2).bytes).2).int).2.bs := by rw [Rdr.int_bs]; exact F81
  clear F81
  refine Ops.regs 1 [(0, (Value.pointer (some ⟨b, 0, none⟩))), (2, (Value.pointer (some ⟨b1, 0, none⟩))), (3, (Value.pointer (some ⟨b11, 0, none⟩))), (14, (i64 ((((((((r.int).2).bytes).2).bytes).2).int).1))), (15, (Value.pointer (some ⟨b11, 3, none⟩)))] (j := 3) (by kernel_rfl) (by kernel_rfl) ?_
  refine Ops.put (t := 2) (b := b11) (off := 3) (v := (i64 ((((((((r.int).2).bytes).2).bytes).2).int).1))) (ys := [(i64 ((r.int).1)), (Value.string (str (((r.int).2).bytes).1)), (Value.string (str (((((r.int).2).bytes).2).bytes).1)), (i64 ((((((((r.int).2).bytes).2).bytes).2).int).1)), (Value.string ByteArray.empty), (i64 0), (i64 0)]) (by kernel_rfl) (by kernel_rfl) H80 (by kernel_rfl) (d := none) (by kernel_rfl) rfl (fun w83 H84 K85 => ?_)
  clear H80
  have K86 := K78.trans K85 (U := (fun i => i = b)) (fun i h1 h2 => h2) (fun i h1 h2 => by have h2 : i = b11 := h2; show i = b; omega)
  clear K78
  have H87 := H75.keep K85 (by intro h; change b = b11 at h; omega)
  clear H75
  have H88 := H79.keep K85 (by intro h; change b1 = b11 at h; omega)
  clear H79
  have F89 := RdO.keep F82 K85 (fun i _ _ hi hs => by have hs : i = b11 := hs; have := ob17 i _ _ hi; omega)
  clear F82
  clear K85
  refine Ops.done (by kernel_rfl) ?_
  refine q_seq (by kernel_rfl) ?_
  refine q_region (by kernel_rfl) ?_
  refine Ops.regs 1 [(0, (Value.pointer (some ⟨b, 0, none⟩))), (2, (Value.pointer (some ⟨b1, 0, none⟩))), (3, (Value.pointer (some ⟨b11, 0, none⟩))), (16, (Value.pointer (some ⟨b, 0, none⟩)))] (j := 1) (by kernel_rfl) (by kernel_rfl) ?_
  refine Ops.call (by kernel_rfl) (d := (some 17)) (by kernel_rfl) (RRText_calls _ b A c ((((((((r.int).2).bytes).2).bytes).2).int).2) hok76 H87 F89 hne ) ?_
  rintro _ w90 ⟨rfl, K91, H92⟩
  have hok93 : (((((((((r.int).2).bytes).2).bytes).2).int).2).bytes).2.Ok := Rdr.Ok.bytes hok76
  have hu94 := Rdr.bytes_le hok76
  refine ⟨_, _, rfl, rfl, ?_⟩
  have K95 := K86.trans K91 (U := (fun i => i = b)) (fun i h1 h2 => h2) (fun i h1 h2 => by have h2 : i = b := h2; show i = b; omega)
  clear K86
  have H96 := H88.keep K91 (by intro h; change b1 = b at h; omega)
  clear H88
  have H97 := H84.keep K91 (by intro h; change b11 = b at h; omega)
  clear H84
  have F98 := RdO.keep F89 K91 (fun i _ _ hi hs => by have hs : i = b := hs; have := hne i _ _ hi; omega)
  clear F89
  clear K91
  have F99 : RdO w90 A c (((((((((r.int).2).bytes).2).bytes).2).int).2).bytes).2.bs := by rw [Rdr.bytes_bs]; exact F98
  clear F98
  refine Ops.regs 1 [(0, (Value.pointer (some ⟨b, 0, none⟩))), (2, (Value.pointer (some ⟨b1, 0, none⟩))), (3, (Value.pointer (some ⟨b11, 0, none⟩))), (17, (Value.string (str (((((((((r.int).2).bytes).2).bytes).2).int).2).bytes).1))), (18, (Value.pointer (some ⟨b11, 4, none⟩)))] (j := 3) (by kernel_rfl) (by kernel_rfl) ?_
  refine Ops.put (t := 9) (b := b11) (off := 4) (v := (Value.string (str (((((((((r.int).2).bytes).2).bytes).2).int).2).bytes).1))) (ys := [(i64 ((r.int).1)), (Value.string (str (((r.int).2).bytes).1)), (Value.string (str (((((r.int).2).bytes).2).bytes).1)), (i64 ((((((((r.int).2).bytes).2).bytes).2).int).1)), (Value.string (str (((((((((r.int).2).bytes).2).bytes).2).int).2).bytes).1)), (i64 0), (i64 0)]) (by kernel_rfl) (by kernel_rfl) H97 (by kernel_rfl) (d := none) (by kernel_rfl) rfl (fun w100 H101 K102 => ?_)
  clear H97
  have K103 := K95.trans K102 (U := (fun i => i = b)) (fun i h1 h2 => h2) (fun i h1 h2 => by have h2 : i = b11 := h2; show i = b; omega)
  clear K95
  have H104 := H92.keep K102 (by intro h; change b = b11 at h; omega)
  clear H92
  have H105 := H96.keep K102 (by intro h; change b1 = b11 at h; omega)
  clear H96
  have F106 := RdO.keep F99 K102 (fun i _ _ hi hs => by have hs : i = b11 := hs; have := ob17 i _ _ hi; omega)
  clear F99
  clear K102
  refine Ops.done (by kernel_rfl) ?_
  refine q_seq (by kernel_rfl) ?_
  refine q_region (by kernel_rfl) ?_
  refine Ops.regs 1 [(0, (Value.pointer (some ⟨b, 0, none⟩))), (2, (Value.pointer (some ⟨b1, 0, none⟩))), (3, (Value.pointer (some ⟨b11, 0, none⟩))), (19, (Value.pointer (some ⟨b, 0, none⟩)))] (j := 1) (by kernel_rfl) (by kernel_rfl) ?_
  refine Ops.call (by kernel_rfl) (d := (some 20)) (by kernel_rfl) (RRInt_calls _ b A c ((((((((((r.int).2).bytes).2).bytes).2).int).2).bytes).2) hok93 H104 F106 hne ) ?_
  rintro _ w107 ⟨rfl, K108, H109⟩
  have hok110 : (((((((((((r.int).2).bytes).2).bytes).2).int).2).bytes).2).int).2.Ok := Rdr.Ok.int hok93
  have hu111 := Rdr.int_range ((((((((((r.int).2).bytes).2).bytes).2).int).2).bytes).2)
  refine ⟨_, _, rfl, rfl, ?_⟩
  have K112 := K103.trans K108 (U := (fun i => i = b)) (fun i h1 h2 => h2) (fun i h1 h2 => by have h2 : i = b := h2; show i = b; omega)
  clear K103
  have H113 := H105.keep K108 (by intro h; change b1 = b at h; omega)
  clear H105
  have H114 := H101.keep K108 (by intro h; change b11 = b at h; omega)
  clear H101
  have F115 := RdO.keep F106 K108 (fun i _ _ hi hs => by have hs : i = b := hs; have := hne i _ _ hi; omega)
  clear F106
  clear K108
  have F116 : RdO w107 A c (((((((((((r.int).2).bytes).2).bytes).2).int).2).bytes).2).int).2.bs := by rw [Rdr.int_bs]; exact F115
  clear F115
  refine Ops.regs 1 [(0, (Value.pointer (some ⟨b, 0, none⟩))), (2, (Value.pointer (some ⟨b1, 0, none⟩))), (3, (Value.pointer (some ⟨b11, 0, none⟩))), (20, (i64 ((((((((((((r.int).2).bytes).2).bytes).2).int).2).bytes).2).int).1))), (21, (Value.pointer (some ⟨b11, 5, none⟩)))] (j := 3) (by kernel_rfl) (by kernel_rfl) ?_
  refine Ops.put (t := 3) (b := b11) (off := 5) (v := (i64 ((((((((((((r.int).2).bytes).2).bytes).2).int).2).bytes).2).int).1))) (ys := [(i64 ((r.int).1)), (Value.string (str (((r.int).2).bytes).1)), (Value.string (str (((((r.int).2).bytes).2).bytes).1)), (i64 ((((((((r.int).2).bytes).2).bytes).2).int).1)), (Value.string (str (((((((((r.int).2).bytes).2).bytes).2).int).2).bytes).1)), (i64 ((((((((((((r.int).2).bytes).2).bytes).2).int).2).bytes).2).int).1)), (i64 0)]) (by kernel_rfl) (by kernel_rfl) H114 (by kernel_rfl) (d := none) (by kernel_rfl) rfl (fun w117 H118 K119 => ?_)
  clear H114
  have K120 := K112.trans K119 (U := (fun i => i = b)) (fun i h1 h2 => h2) (fun i h1 h2 => by have h2 : i = b11 := h2; show i = b; omega)
  clear K112
  have H121 := H109.keep K119 (by intro h; change b = b11 at h; omega)
  clear H109
  have H122 := H113.keep K119 (by intro h; change b1 = b11 at h; omega)
  clear H113
  have F123 := RdO.keep F116 K119 (fun i _ _ hi hs => by have hs : i = b11 := hs; have := ob17 i _ _ hi; omega)
  clear F116
  clear K119
  refine Ops.done (by kernel_rfl) ?_
  refine q_seq (by kernel_rfl) ?_
  refine q_region (by kernel_rfl) ?_
  refine Ops.regs 1 [(2, (Value.pointer (some ⟨b1, 0, none⟩))), (3, (Value.pointer (some ⟨b11, 0, none⟩))), (22, (Value.pointer (some ⟨b, 0, none⟩)))] (j := 1) (by kernel_rfl) (by kernel_rfl) ?_
  refine Ops.call (by kernel_rfl) (d := (some 23)) (by kernel_rfl) (RRInt_calls _ b A c ((((((((((((r.int).2).bytes).2).bytes).2).int).2).bytes).2).int).2) hok110 H121 F123 hne ) ?_
  rintro _ w124 ⟨rfl, K125, H126⟩
  have hok127 : (((((((((((((r.int).2).bytes).2).bytes).2).int).2).bytes).2).int).2).int).2.Ok := Rdr.Ok.int hok110
  have hu128 := Rdr.int_range ((((((((((((r.int).2).bytes).2).bytes).2).int).2).bytes).2).int).2)
  refine ⟨_, _, rfl, rfl, ?_⟩
  have K129 := K120.trans K125 (U := (fun i => i = b)) (fun i h1 h2 => h2) (fun i h1 h2 => by have h2 : i = b := h2; show i = b; omega)
  clear K120
  have H130 := H122.keep K125 (by intro h; change b1 = b at h; omega)
  clear H122
  have H131 := H118.keep K125 (by intro h; change b11 = b at h; omega)
  clear H118
  have F132 := RdO.keep F123 K125 (fun i _ _ hi hs => by have hs : i = b := hs; have := hne i _ _ hi; omega)
  clear F123
  clear K125
  have F133 : RdO w124 A c (((((((((((((r.int).2).bytes).2).bytes).2).int).2).bytes).2).int).2).int).2.bs := by rw [Rdr.int_bs]; exact F132
  clear F132
  refine Ops.regs 1 [(2, (Value.pointer (some ⟨b1, 0, none⟩))), (3, (Value.pointer (some ⟨b11, 0, none⟩))), (23, (i64 ((((((((((((((r.int).2).bytes).2).bytes).2).int).2).bytes).2).int).2).int).1))), (24, (Value.pointer (some ⟨b11, 6, none⟩)))] (j := 3) (by kernel_rfl) (by kernel_rfl) ?_
  refine Ops.put (t := 3) (b := b11) (off := 6) (v := (i64 ((((((((((((((r.int).2).bytes).2).bytes).2).int).2).bytes).2).int).2).int).1))) (ys := [(i64 ((r.int).1)), (Value.string (str (((r.int).2).bytes).1)), (Value.string (str (((((r.int).2).bytes).2).bytes).1)), (i64 ((((((((r.int).2).bytes).2).bytes).2).int).1)), (Value.string (str (((((((((r.int).2).bytes).2).bytes).2).int).2).bytes).1)), (i64 ((((((((((((r.int).2).bytes).2).bytes).2).int).2).bytes).2).int).1)), (i64 ((((((((((((((r.int).2).bytes).2).bytes).2).int).2).bytes).2).int).2).int).1))]) (by kernel_rfl) (by kernel_rfl) H131 (by kernel_rfl) (d := none) (by kernel_rfl) rfl (fun w134 H135 K136 => ?_)
  clear H131
  have K137 := K129.trans K136 (U := (fun i => i = b)) (fun i h1 h2 => h2) (fun i h1 h2 => by have h2 : i = b11 := h2; show i = b; omega)
  clear K129
  have H138 := H126.keep K136 (by intro h; change b = b11 at h; omega)
  clear H126
  have H139 := H130.keep K136 (by intro h; change b1 = b11 at h; omega)
  clear H130
  have F140 := RdO.keep F133 K136 (fun i _ _ hi hs => by have hs : i = b11 := hs; have := ob17 i _ _ hi; omega)
  clear F133
  clear K136
  refine Ops.done (by kernel_rfl) ?_
  refine q_seq (by kernel_rfl) ?_
  refine q_region (by kernel_rfl) ?_
  refine Ops.go (v := (agg [(i64 ((r.int).1)), (Value.string (str (((r.int).2).bytes).1)), (Value.string (str (((((r.int).2).bytes).2).bytes).1)), (i64 ((((((((r.int).2).bytes).2).bytes).2).int).1)), (Value.string (str (((((((((r.int).2).bytes).2).bytes).2).int).2).bytes).1)), (i64 ((((((((((((r.int).2).bytes).2).bytes).2).int).2).bytes).2).int).1)), (i64 ((((((((((((((r.int).2).bytes).2).bytes).2).int).2).bytes).2).int).2).int).1))])) (by kernel_rfl) (Runs.load (t := 43) (a := ⟨b11, 0, none⟩) (by kernel_rfl) (H135.loads (by kernel_rfl))) (d := (some 25)) (by kernel_rfl) rfl ?_
  refine Ops.put (t := 43) (b := b1) (off := 0) (v := (agg [(i64 ((r.int).1)), (Value.string (str (((r.int).2).bytes).1)), (Value.string (str (((((r.int).2).bytes).2).bytes).1)), (i64 ((((((((r.int).2).bytes).2).bytes).2).int).1)), (Value.string (str (((((((((r.int).2).bytes).2).bytes).2).int).2).bytes).1)), (i64 ((((((((((((r.int).2).bytes).2).bytes).2).int).2).bytes).2).int).1)), (i64 ((((((((((((((r.int).2).bytes).2).bytes).2).int).2).bytes).2).int).2).int).1))])) (ys := [(i64 ((r.int).1)), (Value.string (str (((r.int).2).bytes).1)), (Value.string (str (((((r.int).2).bytes).2).bytes).1)), (i64 ((((((((r.int).2).bytes).2).bytes).2).int).1)), (Value.string (str (((((((((r.int).2).bytes).2).bytes).2).int).2).bytes).1)), (i64 ((((((((((((r.int).2).bytes).2).bytes).2).int).2).bytes).2).int).1)), (i64 ((((((((((((((r.int).2).bytes).2).bytes).2).int).2).bytes).2).int).2).int).1))]) (by kernel_rfl) (by kernel_rfl) H139 (by kernel_rfl) (d := none) (by kernel_rfl) rfl (fun w141 H142 K143 => ?_)
  clear H139
  have K144 := K137.trans K143 (U := (fun i => i = b)) (fun i h1 h2 => h2) (fun i h1 h2 => by have h2 : i = b1 := h2; show i = b; omega)
  clear K137
  have H145 := H138.keep K143 (by intro h; change b = b1 at h; omega)
  clear H138
  have H146 := H135.keep K143 (by intro h; change b11 = b1 at h; omega)
  clear H135
  have F147 := RdO.keep F140 K143 (fun i _ _ hi hs => by have hs : i = b1 := hs; have := ob7 i _ _ hi; omega)
  clear F140
  clear K143
  refine Ops.done (by kernel_rfl) ?_
  refine q_ret (by kernel_rfl) ?_
  refine ⟨(agg [(i64 ((r.int).1)), (Value.string (str (((r.int).2).bytes).1)), (Value.string (str (((((r.int).2).bytes).2).bytes).1)), (i64 ((((((((r.int).2).bytes).2).bytes).2).int).1)), (Value.string (str (((((((((r.int).2).bytes).2).bytes).2).int).2).bytes).1)), (i64 ((((((((((((r.int).2).bytes).2).bytes).2).int).2).bytes).2).int).1)), (i64 ((((((((((((((r.int).2).bytes).2).bytes).2).int).2).bytes).2).int).2).int).1))]), retv_cell rfl rfl (H142.loads (by kernel_rfl)), ?_⟩
  exact ⟨rfl, K144, H145⟩
end Go.Proofs.Ytnepjfnkaigakaa
