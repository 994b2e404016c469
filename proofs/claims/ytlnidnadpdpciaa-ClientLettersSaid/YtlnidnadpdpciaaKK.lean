/- operations are read -/
import Derived.Test.YtlnidnadpdpciaaProg
import Derived.Test.YtlnidnadpdpciaaKJ
import Derived.Test.YtlnidnadpdpciaaLX
set_option linter.unusedVariables false
namespace Go.Proofs.Ytlnidnadpdpciaa
open Go.Q Go.RowKit

theorem GetOp_calls (w : World) (b : Nat) (A : Option Addr) (c : Nat) (r : Rdr) (hok : r.Ok) (H0 : Has w b (rowL (rdrL A c r) 115)) (hR : RdO w A c r.bs) (hne : ∀ g o s, A = some ⟨g, o, s⟩ → g ≠ b) : Calls Try.prog 51 ⟨[(ptr b)]⟩ w (fun e w' => e = .returned (agg r.op.1.cells) ∧ Keeps (fun i => i = b) w w' ∧ Has w' b (rowL (rdrL A c (r.op).2) 115)) := by
 have hpos := hok.pos
 have hlen := hok.len
 have hsc := r.scan_le
 have hdl : (r.bs.drop r.pos).length = r.bs.length - r.pos := List.length_drop
 have hcap := hR.1.slice
 have Hb := H0.lt
 have K0 : Keeps (fun i => i = b) w w := (Keeps.refl w).mono (fun _ _ h => h.elim)
 refine q_calls Try.func51 (by kernel_rfl) (by kernel_rfl) ?_
 refine qs ?_
 refine qg ?_
 refine Ops.new (o := rowL [(i64 0), (Value.string ByteArray.empty), (Value.string ByteArray.empty), (i64 0), (Value.string ByteArray.empty), (i64 0), (i64 0)] 23) (V := fun b => (ptr b)) (by kernel_rfl) (d := (some 2)) (by kernel_rfl) (fun b => rfl) (fun b1 w2 hb3 H4 K5 hs6 => ?_)
 have lb1 : b < b1 := by have := H0.lt; omega
 have nb1 : w.heap.size ≤ b1 := by have := K0.size; omega
 have ob7 : ∀ i o s, A = some ⟨i, o, s⟩ → i ≠ b1 := fun i o s hi => by have := hR.2 i o s hi; omega
 replace K0 := K0.trans K5 (U := (fun i => i = b)) (fun i h1 h2 => h2) (fun i h1 h2 => by exact h2.elim)
 replace H0 := H0.keep K5 (fun h => h)
 replace hR := RdO.keep0 hR K5
 clear K5 hs6
 refine od ?_
 refine qs ?_
 refine qg ?_
 refine og 1 [(0, (ptr b)), (2, (ptr b1)), (4, (ptr b))] 1 ?_
 refine Ops.call (by kernel_rfl) (d := (some 5)) (by kernel_rfl) (RdInt_calls _ b A c r hok H0 hR hne ) ?_
 rintro _ w8 ⟨rfl, K9, H10⟩
 have hok11 : (r.int).2.Ok := Rdr.Ok.int hok
 have hu12 := Rdr.int_range r
 refine ⟨_, _, rfl, rfl, ?_⟩
 replace K0 := K0.trans K9 (U := (fun i => i = b)) (fun i h1 h2 => h2) (fun i h1 h2 => by have h2 : i = b := h2; show i = b; omega)
 replace H4 := H4.keep K9 (by intro h; change b1 = b at h; omega)
 replace hR := RdO.keep hR K9 (fun i _ _ hi hs => by have hs : i = b := hs; have := hne i _ _ hi; omega)
 clear K9
 have F13 : RdO w8 A c (r.int).2.bs := by rw [Rdr.int_bs]; exact hR
 clear hR
 refine og 1 [(0, (ptr b)), (2, (ptr b1)), (6, (agg [(i64 ((r.int).1)), (Value.string ByteArray.empty), (Value.string ByteArray.empty), (i64 0), (Value.string ByteArray.empty), (i64 0), (i64 0)]))] 3 ?_
 refine Ops.new (o := rowL [(i64 0), (Value.string ByteArray.empty), (Value.string ByteArray.empty), (i64 0), (Value.string ByteArray.empty), (i64 0), (i64 0)] 23) (V := fun b => (ptr b)) (by kernel_rfl) (d := (some 3)) (by kernel_rfl) (fun b => rfl) (fun b14 w15 hb16 H17 K18 hs19 => ?_)
 have lb14 : b1 < b14 := by have := H4.lt; omega
 have nb14 : w.heap.size ≤ b14 := by have := K0.size; omega
 have ob20 : ∀ i o s, A = some ⟨i, o, s⟩ → i ≠ b14 := fun i o s hi => by have := F13.2 i o s hi; omega
 replace K0 := K0.trans K18 (U := (fun i => i = b)) (fun i h1 h2 => h2) (fun i h1 h2 => by exact h2.elim)
 replace H10 := H10.keep K18 (fun h => h)
 replace H4 := H4.keep K18 (fun h => h)
 replace F13 := RdO.keep0 F13 K18
 clear K18 hs19
 refine Ops.put (t := 23) (b := b14) (off := 0) (v := (agg [(i64 ((r.int).1)), (Value.string ByteArray.empty), (Value.string ByteArray.empty), (i64 0), (Value.string ByteArray.empty), (i64 0), (i64 0)])) (ys := [(i64 ((r.int).1)), (Value.string ByteArray.empty), (Value.string ByteArray.empty), (i64 0), (Value.string ByteArray.empty), (i64 0), (i64 0)]) (by kernel_rfl) (by kernel_rfl) H17 (by kernel_rfl) (d := none) (by kernel_rfl) rfl (fun w21 H22 K23 => ?_)
 clear H17
 replace K0 := K0.trans K23 (U := (fun i => i = b)) (fun i h1 h2 => h2) (fun i h1 h2 => by have h2 : i = b14 := h2; show i = b; omega)
 replace H10 := H10.keep K23 (by intro h; change b = b14 at h; omega)
 replace H4 := H4.keep K23 (by intro h; change b1 = b14 at h; omega)
 replace F13 := RdO.keep F13 K23 (fun i _ _ hi hs => by have hs : i = b14 := hs; have := ob20 i _ _ hi; omega)
 clear K23
 refine od ?_
 refine qs ?_
 refine qg ?_
 refine og 1 [(0, (ptr b)), (2, (ptr b1)), (3, (ptr b14)), (7, (ptr b))] 1 ?_
 refine Ops.call (by kernel_rfl) (d := (some 8)) (by kernel_rfl) (RdText_calls _ b A c ((r.int).2) hok11 H10 F13 hne ) ?_
 rintro _ w24 ⟨rfl, K25, H26⟩
 have hok27 : (((r.int).2).bytes).2.Ok := Rdr.Ok.bytes hok11
 have hu28 := Rdr.bytes_le hok11
 refine ⟨_, _, rfl, rfl, ?_⟩
 replace K0 := K0.trans K25 (U := (fun i => i = b)) (fun i h1 h2 => h2) (fun i h1 h2 => by have h2 : i = b := h2; show i = b; omega)
 replace H4 := H4.keep K25 (by intro h; change b1 = b at h; omega)
 replace H22 := H22.keep K25 (by intro h; change b14 = b at h; omega)
 replace F13 := RdO.keep F13 K25 (fun i _ _ hi hs => by have hs : i = b := hs; have := hne i _ _ hi; omega)
 clear K25
 have F29 : RdO w24 A c (((r.int).2).bytes).2.bs := by rw [Rdr.bytes_bs]; exact F13
 clear F13
 refine og 1 [(0, (ptr b)), (2, (ptr b1)), (3, (ptr b14)), (8, (Value.string (str (((r.int).2).bytes).1))), (9, (ptr b))] 3 ?_
 refine Ops.call (by kernel_rfl) (d := (some 10)) (by kernel_rfl) (RdText_calls _ b A c ((((r.int).2).bytes).2) hok27 H26 F29 hne ) ?_
 rintro _ w30 ⟨rfl, K31, H32⟩
 have hok33 : (((((r.int).2).bytes).2).bytes).2.Ok := Rdr.Ok.bytes hok27
 have hu34 := Rdr.bytes_le hok27
 refine ⟨_, _, rfl, rfl, ?_⟩
 replace K0 := K0.trans K31 (U := (fun i => i = b)) (fun i h1 h2 => h2) (fun i h1 h2 => by have h2 : i = b := h2; show i = b; omega)
 replace H4 := H4.keep K31 (by intro h; change b1 = b at h; omega)
 replace H22 := H22.keep K31 (by intro h; change b14 = b at h; omega)
 replace F29 := RdO.keep F29 K31 (fun i _ _ hi hs => by have hs : i = b := hs; have := hne i _ _ hi; omega)
 clear K31
 have F35 : RdO w30 A c (((((r.int).2).bytes).2).bytes).2.bs := by rw [Rdr.bytes_bs]; exact F29
 clear F29
 refine og 1 [(0, (ptr b)), (2, (ptr b1)), (3, (ptr b14)), (8, (Value.string (str (((r.int).2).bytes).1))), (10, (Value.string (str (((((r.int).2).bytes).2).bytes).1))), (11, (Value.pointer (some ⟨b14, 1, none⟩)))] 5 ?_
 refine Ops.put (t := 9) (b := b14) (off := 1) (v := (Value.string (str (((r.int).2).bytes).1))) (ys := [(i64 ((r.int).1)), (Value.string (str (((r.int).2).bytes).1)), (Value.string ByteArray.empty), (i64 0), (Value.string ByteArray.empty), (i64 0), (i64 0)]) (by kernel_rfl) (by kernel_rfl) H22 (by kernel_rfl) (d := none) (by kernel_rfl) rfl (fun w36 H37 K38 => ?_)
 clear H22
 replace K0 := K0.trans K38 (U := (fun i => i = b)) (fun i h1 h2 => h2) (fun i h1 h2 => by have h2 : i = b14 := h2; show i = b; omega)
 replace H32 := H32.keep K38 (by intro h; change b = b14 at h; omega)
 replace H4 := H4.keep K38 (by intro h; change b1 = b14 at h; omega)
 replace F35 := RdO.keep F35 K38 (fun i _ _ hi hs => by have hs : i = b14 := hs; have := ob20 i _ _ hi; omega)
 clear K38
 refine og 1 [(0, (ptr b)), (2, (ptr b1)), (3, (ptr b14)), (10, (Value.string (str (((((r.int).2).bytes).2).bytes).1))), (12, (Value.pointer (some ⟨b14, 2, none⟩)))] 7 ?_
 refine Ops.put (t := 9) (b := b14) (off := 2) (v := (Value.string (str (((((r.int).2).bytes).2).bytes).1))) (ys := [(i64 ((r.int).1)), (Value.string (str (((r.int).2).bytes).1)), (Value.string (str (((((r.int).2).bytes).2).bytes).1)), (i64 0), (Value.string ByteArray.empty), (i64 0), (i64 0)]) (by kernel_rfl) (by kernel_rfl) H37 (by kernel_rfl) (d := none) (by kernel_rfl) rfl (fun w39 H40 K41 => ?_)
 clear H37
 replace K0 := K0.trans K41 (U := (fun i => i = b)) (fun i h1 h2 => h2) (fun i h1 h2 => by have h2 : i = b14 := h2; show i = b; omega)
 replace H32 := H32.keep K41 (by intro h; change b = b14 at h; omega)
 replace H4 := H4.keep K41 (by intro h; change b1 = b14 at h; omega)
 replace F35 := RdO.keep F35 K41 (fun i _ _ hi hs => by have hs : i = b14 := hs; have := ob20 i _ _ hi; omega)
 clear K41
 refine od ?_
 refine qs ?_
 refine qg ?_
 refine og 1 [(0, (ptr b)), (2, (ptr b1)), (3, (ptr b14)), (13, (ptr b))] 1 ?_
 refine Ops.call (by kernel_rfl) (d := (some 14)) (by kernel_rfl) (RdInt_calls _ b A c ((((((r.int).2).bytes).2).bytes).2) hok33 H32 F35 hne ) ?_
 rintro _ w42 ⟨rfl, K43, H44⟩
 have hok45 : (((((((r.int).2).bytes).2).bytes).2).int).2.Ok := Rdr.Ok.int hok33
 have hu46 := Rdr.int_range ((((((r.int).2).bytes).2).bytes).2)
 refine ⟨_, _, rfl, rfl, ?_⟩
 replace K0 := K0.trans K43 (U := (fun i => i = b)) (fun i h1 h2 => h2) (fun i h1 h2 => by have h2 : i = b := h2; show i = b; omega)
 replace H4 := H4.keep K43 (by intro h; change b1 = b at h; omega)
 replace H40 := H40.keep K43 (by intro h; change b14 = b at h; omega)
 replace F35 := RdO.keep F35 K43 (fun i _ _ hi hs => by have hs : i = b := hs; have := hne i _ _ hi; omega)
 clear K43
 have F47 : RdO w42 A c (((((((r.int).2).bytes).2).bytes).2).int).2.bs := by rw [Rdr.int_bs]; exact F35
 clear F35
 refine og 1 [(0, (ptr b)), (2, (ptr b1)), (3, (ptr b14)), (14, (i64 ((((((((r.int).2).bytes).2).bytes).2).int).1))), (15, (ptr b))] 3 ?_
 refine Ops.call (by kernel_rfl) (d := (some 16)) (by kernel_rfl) (RdText_calls _ b A c ((((((((r.int).2).bytes).2).bytes).2).int).2) hok45 H44 F47 hne ) ?_
 rintro _ w48 ⟨rfl, K49, H50⟩
 have hok51 : (((((((((r.int).2).bytes).2).bytes).2).int).2).bytes).2.Ok := Rdr.Ok.bytes hok45
 have hu52 := Rdr.bytes_le hok45
 refine ⟨_, _, rfl, rfl, ?_⟩
 replace K0 := K0.trans K49 (U := (fun i => i = b)) (fun i h1 h2 => h2) (fun i h1 h2 => by have h2 : i = b := h2; show i = b; omega)
 replace H4 := H4.keep K49 (by intro h; change b1 = b at h; omega)
 replace H40 := H40.keep K49 (by intro h; change b14 = b at h; omega)
 replace F47 := RdO.keep F47 K49 (fun i _ _ hi hs => by have hs : i = b := hs; have := hne i _ _ hi; omega)
 clear K49
 have F53 : RdO w48 A c (((((((((r.int).2).bytes).2).bytes).2).int).2).bytes).2.bs := by rw [Rdr.bytes_bs]; exact F47
 clear F47
 refine og 1 [(0, (ptr b)), (2, (ptr b1)), (3, (ptr b14)), (14, (i64 ((((((((r.int).2).bytes).2).bytes).2).int).1))), (16, (Value.string (str (((((((((r.int).2).bytes).2).bytes).2).int).2).bytes).1))), (17, (Value.pointer (some ⟨b14, 3, none⟩)))] 5 ?_
 refine Ops.put (t := 2) (b := b14) (off := 3) (v := (i64 ((((((((r.int).2).bytes).2).bytes).2).int).1))) (ys := [(i64 ((r.int).1)), (Value.string (str (((r.int).2).bytes).1)), (Value.string (str (((((r.int).2).bytes).2).bytes).1)), (i64 ((((((((r.int).2).bytes).2).bytes).2).int).1)), (Value.string ByteArray.empty), (i64 0), (i64 0)]) (by kernel_rfl) (by kernel_rfl) H40 (by kernel_rfl) (d := none) (by kernel_rfl) rfl (fun w54 H55 K56 => ?_)
 clear H40
 replace K0 := K0.trans K56 (U := (fun i => i = b)) (fun i h1 h2 => h2) (fun i h1 h2 => by have h2 : i = b14 := h2; show i = b; omega)
 replace H50 := H50.keep K56 (by intro h; change b = b14 at h; omega)
 replace H4 := H4.keep K56 (by intro h; change b1 = b14 at h; omega)
 replace F53 := RdO.keep F53 K56 (fun i _ _ hi hs => by have hs : i = b14 := hs; have := ob20 i _ _ hi; omega)
 clear K56
 refine og 1 [(0, (ptr b)), (2, (ptr b1)), (3, (ptr b14)), (16, (Value.string (str (((((((((r.int).2).bytes).2).bytes).2).int).2).bytes).1))), (18, (Value.pointer (some ⟨b14, 4, none⟩)))] 7 ?_
 refine Ops.put (t := 9) (b := b14) (off := 4) (v := (Value.string (str (((((((((r.int).2).bytes).2).bytes).2).int).2).bytes).1))) (ys := [(i64 ((r.int).1)), (Value.string (str (((r.int).2).bytes).1)), (Value.string (str (((((r.int).2).bytes).2).bytes).1)), (i64 ((((((((r.int).2).bytes).2).bytes).2).int).1)), (Value.string (str (((((((((r.int).2).bytes).2).bytes).2).int).2).bytes).1)), (i64 0), (i64 0)]) (by kernel_rfl) (by kernel_rfl) H55 (by kernel_rfl) (d := none) (by kernel_rfl) rfl (fun w57 H58 K59 => ?_)
 clear H55
 replace K0 := K0.trans K59 (U := (fun i => i = b)) (fun i h1 h2 => h2) (fun i h1 h2 => by have h2 : i = b14 := h2; show i = b; omega)
 replace H50 := H50.keep K59 (by intro h; change b = b14 at h; omega)
 replace H4 := H4.keep K59 (by intro h; change b1 = b14 at h; omega)
 replace F53 := RdO.keep F53 K59 (fun i _ _ hi hs => by have hs : i = b14 := hs; have := ob20 i _ _ hi; omega)
 clear K59
 refine od ?_
 refine qs ?_
 refine qg ?_
 refine og 1 [(0, (ptr b)), (2, (ptr b1)), (3, (ptr b14)), (19, (ptr b))] 1 ?_
 refine Ops.call (by kernel_rfl) (d := (some 20)) (by kernel_rfl) (RdInt_calls _ b A c ((((((((((r.int).2).bytes).2).bytes).2).int).2).bytes).2) hok51 H50 F53 hne ) ?_
 rintro _ w60 ⟨rfl, K61, H62⟩
 have hok63 : (((((((((((r.int).2).bytes).2).bytes).2).int).2).bytes).2).int).2.Ok := Rdr.Ok.int hok51
 have hu64 := Rdr.int_range ((((((((((r.int).2).bytes).2).bytes).2).int).2).bytes).2)
 refine ⟨_, _, rfl, rfl, ?_⟩
 replace K0 := K0.trans K61 (U := (fun i => i = b)) (fun i h1 h2 => h2) (fun i h1 h2 => by have h2 : i = b := h2; show i = b; omega)
 replace H4 := H4.keep K61 (by intro h; change b1 = b at h; omega)
 replace H58 := H58.keep K61 (by intro h; change b14 = b at h; omega)
 replace F53 := RdO.keep F53 K61 (fun i _ _ hi hs => by have hs : i = b := hs; have := hne i _ _ hi; omega)
 clear K61
 have F65 : RdO w60 A c (((((((((((r.int).2).bytes).2).bytes).2).int).2).bytes).2).int).2.bs := by rw [Rdr.int_bs]; exact F53
 clear F53
 refine og 1 [(2, (ptr b1)), (3, (ptr b14)), (20, (i64 ((((((((((((r.int).2).bytes).2).bytes).2).int).2).bytes).2).int).1))), (21, (ptr b))] 3 ?_
 refine Ops.call (by kernel_rfl) (d := (some 22)) (by kernel_rfl) (RdInt_calls _ b A c ((((((((((((r.int).2).bytes).2).bytes).2).int).2).bytes).2).int).2) hok63 H62 F65 hne ) ?_
 rintro _ w66 ⟨rfl, K67, H68⟩
 have hok69 : (((((((((((((r.int).2).bytes).2).bytes).2).int).2).bytes).2).int).2).int).2.Ok := Rdr.Ok.int hok63
 have hu70 := Rdr.int_range ((((((((((((r.int).2).bytes).2).bytes).2).int).2).bytes).2).int).2)
 refine ⟨_, _, rfl, rfl, ?_⟩
 replace K0 := K0.trans K67 (U := (fun i => i = b)) (fun i h1 h2 => h2) (fun i h1 h2 => by have h2 : i = b := h2; show i = b; omega)
 replace H4 := H4.keep K67 (by intro h; change b1 = b at h; omega)
 replace H58 := H58.keep K67 (by intro h; change b14 = b at h; omega)
 replace F65 := RdO.keep F65 K67 (fun i _ _ hi hs => by have hs : i = b := hs; have := hne i _ _ hi; omega)
 clear K67
 have F71 : RdO w66 A c (((((((((((((r.int).2).bytes).2).bytes).2).int).2).bytes).2).int).2).int).2.bs := by rw [Rdr.int_bs]; exact F65
 clear F65
 refine og 1 [(2, (ptr b1)), (3, (ptr b14)), (20, (i64 ((((((((((((r.int).2).bytes).2).bytes).2).int).2).bytes).2).int).1))), (22, (i64 ((((((((((((((r.int).2).bytes).2).bytes).2).int).2).bytes).2).int).2).int).1))), (23, (Value.pointer (some ⟨b14, 5, none⟩)))] 5 ?_
 refine Ops.put (t := 3) (b := b14) (off := 5) (v := (i64 ((((((((((((r.int).2).bytes).2).bytes).2).int).2).bytes).2).int).1))) (ys := [(i64 ((r.int).1)), (Value.string (str (((r.int).2).bytes).1)), (Value.string (str (((((r.int).2).bytes).2).bytes).1)), (i64 ((((((((r.int).2).bytes).2).bytes).2).int).1)), (Value.string (str (((((((((r.int).2).bytes).2).bytes).2).int).2).bytes).1)), (i64 ((((((((((((r.int).2).bytes).2).bytes).2).int).2).bytes).2).int).1)), (i64 0)]) (by kernel_rfl) (by kernel_rfl) H58 (by kernel_rfl) (d := none) (by kernel_rfl) rfl (fun w72 H73 K74 => ?_)
 clear H58
 replace K0 := K0.trans K74 (U := (fun i => i = b)) (fun i h1 h2 => h2) (fun i h1 h2 => by have h2 : i = b14 := h2; show i = b; omega)
 replace H68 := H68.keep K74 (by intro h; change b = b14 at h; omega)
 replace H4 := H4.keep K74 (by intro h; change b1 = b14 at h; omega)
 replace F71 := RdO.keep F71 K74 (fun i _ _ hi hs => by have hs : i = b14 := hs; have := ob20 i _ _ hi; omega)
 clear K74
 refine og 1 [(2, (ptr b1)), (3, (ptr b14)), (22, (i64 ((((((((((((((r.int).2).bytes).2).bytes).2).int).2).bytes).2).int).2).int).1))), (24, (Value.pointer (some ⟨b14, 6, none⟩)))] 7 ?_
 refine Ops.put (t := 3) (b := b14) (off := 6) (v := (i64 ((((((((((((((r.int).2).bytes).2).bytes).2).int).2).bytes).2).int).2).int).1))) (ys := [(i64 ((r.int).1)), (Value.string (str (((r.int).2).bytes).1)), (Value.string (str (((((r.int).2).bytes).2).bytes).1)), (i64 ((((((((r.int).2).bytes).2).bytes).2).int).1)), (Value.string (str (((((((((r.int).2).bytes).2).bytes).2).int).2).bytes).1)), (i64 ((((((((((((r.int).2).bytes).2).bytes).2).int).2).bytes).2).int).1)), (i64 ((((((((((((((r.int).2).bytes).2).bytes).2).int).2).bytes).2).int).2).int).1))]) (by kernel_rfl) (by kernel_rfl) H73 (by kernel_rfl) (d := none) (by kernel_rfl) rfl (fun w75 H76 K77 => ?_)
 clear H73
 replace K0 := K0.trans K77 (U := (fun i => i = b)) (fun i h1 h2 => h2) (fun i h1 h2 => by have h2 : i = b14 := h2; show i = b; omega)
 replace H68 := H68.keep K77 (by intro h; change b = b14 at h; omega)
 replace H4 := H4.keep K77 (by intro h; change b1 = b14 at h; omega)
 replace F71 := RdO.keep F71 K77 (fun i _ _ hi hs => by have hs : i = b14 := hs; have := ob20 i _ _ hi; omega)
 clear K77
 refine od ?_
 refine qs ?_
 refine qg ?_
 refine Ops.go (v := (agg [(i64 ((r.int).1)), (Value.string (str (((r.int).2).bytes).1)), (Value.string (str (((((r.int).2).bytes).2).bytes).1)), (i64 ((((((((r.int).2).bytes).2).bytes).2).int).1)), (Value.string (str (((((((((r.int).2).bytes).2).bytes).2).int).2).bytes).1)), (i64 ((((((((((((r.int).2).bytes).2).bytes).2).int).2).bytes).2).int).1)), (i64 ((((((((((((((r.int).2).bytes).2).bytes).2).int).2).bytes).2).int).2).int).1))])) (by kernel_rfl) (Runs.load (t := 23) (a := ⟨b14, 0, none⟩) (by kernel_rfl) (H76.loads (by kernel_rfl))) (d := (some 25)) (by kernel_rfl) rfl ?_
 refine Ops.put (t := 23) (b := b1) (off := 0) (v := (agg [(i64 ((r.int).1)), (Value.string (str (((r.int).2).bytes).1)), (Value.string (str (((((r.int).2).bytes).2).bytes).1)), (i64 ((((((((r.int).2).bytes).2).bytes).2).int).1)), (Value.string (str (((((((((r.int).2).bytes).2).bytes).2).int).2).bytes).1)), (i64 ((((((((((((r.int).2).bytes).2).bytes).2).int).2).bytes).2).int).1)), (i64 ((((((((((((((r.int).2).bytes).2).bytes).2).int).2).bytes).2).int).2).int).1))])) (ys := [(i64 ((r.int).1)), (Value.string (str (((r.int).2).bytes).1)), (Value.string (str (((((r.int).2).bytes).2).bytes).1)), (i64 ((((((((r.int).2).bytes).2).bytes).2).int).1)), (Value.string (str (((((((((r.int).2).bytes).2).bytes).2).int).2).bytes).1)), (i64 ((((((((((((r.int).2).bytes).2).bytes).2).int).2).bytes).2).int).1)), (i64 ((((((((((((((r.int).2).bytes).2).bytes).2).int).2).bytes).2).int).2).int).1))]) (by kernel_rfl) (by kernel_rfl) H4 (by kernel_rfl) (d := none) (by kernel_rfl) rfl (fun w78 H79 K80 => ?_)
 clear H4
 replace K0 := K0.trans K80 (U := (fun i => i = b)) (fun i h1 h2 => h2) (fun i h1 h2 => by have h2 : i = b1 := h2; show i = b; omega)
 replace H68 := H68.keep K80 (by intro h; change b = b1 at h; omega)
 replace H76 := H76.keep K80 (by intro h; change b14 = b1 at h; omega)
 replace F71 := RdO.keep F71 K80 (fun i _ _ hi hs => by have hs : i = b1 := hs; have := ob7 i _ _ hi; omega)
 clear K80
 refine od ?_
 refine q_ret (by kernel_rfl) ?_
 refine ⟨(agg [(i64 ((r.int).1)), (Value.string (str (((r.int).2).bytes).1)), (Value.string (str (((((r.int).2).bytes).2).bytes).1)), (i64 ((((((((r.int).2).bytes).2).bytes).2).int).1)), (Value.string (str (((((((((r.int).2).bytes).2).bytes).2).int).2).bytes).1)), (i64 ((((((((((((r.int).2).bytes).2).bytes).2).int).2).bytes).2).int).1)), (i64 ((((((((((((((r.int).2).bytes).2).bytes).2).int).2).bytes).2).int).2).int).1))]), retv_cell rfl rfl (H79.loads (by kernel_rfl)), ?_⟩
 exact ⟨rfl, K0, H68⟩

theorem RGetOp_calls (w : World) (b : Nat) (A : Option Addr) (c : Nat) (r : Rdr) (hok : r.Ok) (H0 : Has w b (rowL (rdrL A c r) 100)) (hR : RdO w A c r.bs) (hne : ∀ g o s, A = some ⟨g, o, s⟩ → g ≠ b) : Calls Try.prog 57 ⟨[(ptr b)]⟩ w (fun e w' => e = .returned (agg r.op.1.cells) ∧ Keeps (fun i => i = b) w w' ∧ Has w' b (rowL (rdrL A c (r.op).2) 100)) := by
 have hpos := hok.pos
 have hlen := hok.len
 have hsc := r.scan_le
 have hdl : (r.bs.drop r.pos).length = r.bs.length - r.pos := List.length_drop
 have hcap := hR.1.slice
 have Hb := H0.lt
 have K0 : Keeps (fun i => i = b) w w := (Keeps.refl w).mono (fun _ _ h => h.elim)
 refine q_calls Try.func57 (by kernel_rfl) (by kernel_rfl) ?_
 refine qs ?_
 refine qg ?_
 refine Ops.new (o := rowL [(i64 0), (Value.string ByteArray.empty), (Value.string ByteArray.empty), (i64 0), (Value.string ByteArray.empty), (i64 0), (i64 0)] 23) (V := fun b => (ptr b)) (by kernel_rfl) (d := (some 2)) (by kernel_rfl) (fun b => rfl) (fun b1 w2 hb3 H4 K5 hs6 => ?_)
 have lb1 : b < b1 := by have := H0.lt; omega
 have nb1 : w.heap.size ≤ b1 := by have := K0.size; omega
 have ob7 : ∀ i o s, A = some ⟨i, o, s⟩ → i ≠ b1 := fun i o s hi => by have := hR.2 i o s hi; omega
 replace K0 := K0.trans K5 (U := (fun i => i = b)) (fun i h1 h2 => h2) (fun i h1 h2 => by exact h2.elim)
 replace H0 := H0.keep K5 (fun h => h)
 replace hR := RdO.keep0 hR K5
 clear K5 hs6
 refine od ?_
 refine qs ?_
 refine qg ?_
 refine Ops.new (o := rowL [(i64 0), (Value.string ByteArray.empty), (Value.string ByteArray.empty), (i64 0), (Value.string ByteArray.empty), (i64 0), (i64 0)] 23) (V := fun b => (ptr b)) (by kernel_rfl) (d := (some 3)) (by kernel_rfl) (fun b => rfl) (fun b8 w9 hb10 H11 K12 hs13 => ?_)
 have lb8 : b1 < b8 := by have := H4.lt; omega
 have nb8 : w.heap.size ≤ b8 := by have := K0.size; omega
 have ob14 : ∀ i o s, A = some ⟨i, o, s⟩ → i ≠ b8 := fun i o s hi => by have := hR.2 i o s hi; omega
 replace K0 := K0.trans K12 (U := (fun i => i = b)) (fun i h1 h2 => h2) (fun i h1 h2 => by exact h2.elim)
 replace H0 := H0.keep K12 (fun h => h)
 replace H4 := H4.keep K12 (fun h => h)
 replace hR := RdO.keep0 hR K12
 clear K12 hs13
 refine od ?_
 refine qs ?_
 refine qg ?_
 refine og 1 [(0, (ptr b)), (2, (ptr b1)), (3, (ptr b8)), (4, (ptr b))] 1 ?_
 refine Ops.call (by kernel_rfl) (d := (some 5)) (by kernel_rfl) (RRInt_calls _ b A c r hok H0 hR hne ) ?_
 rintro _ w15 ⟨rfl, K16, H17⟩
 have hok18 : (r.int).2.Ok := Rdr.Ok.int hok
 have hu19 := Rdr.int_range r
 refine ⟨_, _, rfl, rfl, ?_⟩
 replace K0 := K0.trans K16 (U := (fun i => i = b)) (fun i h1 h2 => h2) (fun i h1 h2 => by have h2 : i = b := h2; show i = b; omega)
 replace H4 := H4.keep K16 (by intro h; change b1 = b at h; omega)
 replace H11 := H11.keep K16 (by intro h; change b8 = b at h; omega)
 replace hR := RdO.keep hR K16 (fun i _ _ hi hs => by have hs : i = b := hs; have := hne i _ _ hi; omega)
 clear K16
 have F20 : RdO w15 A c (r.int).2.bs := by rw [Rdr.int_bs]; exact hR
 clear hR
 refine og 1 [(0, (ptr b)), (2, (ptr b1)), (3, (ptr b8)), (5, (i64 ((r.int).1))), (6, (ptr b8))] 3 ?_
 refine Ops.put (t := 3) (b := b8) (off := 0) (v := (i64 ((r.int).1))) (ys := [(i64 ((r.int).1)), (Value.string ByteArray.empty), (Value.string ByteArray.empty), (i64 0), (Value.string ByteArray.empty), (i64 0), (i64 0)]) (by kernel_rfl) (by kernel_rfl) H11 (by kernel_rfl) (d := none) (by kernel_rfl) rfl (fun w21 H22 K23 => ?_)
 clear H11
 replace K0 := K0.trans K23 (U := (fun i => i = b)) (fun i h1 h2 => h2) (fun i h1 h2 => by have h2 : i = b8 := h2; show i = b; omega)
 replace H17 := H17.keep K23 (by intro h; change b = b8 at h; omega)
 replace H4 := H4.keep K23 (by intro h; change b1 = b8 at h; omega)
 replace F20 := RdO.keep F20 K23 (fun i _ _ hi hs => by have hs : i = b8 := hs; have := ob14 i _ _ hi; omega)
 clear K23
 refine od ?_
 refine qs ?_
 refine qg ?_
 refine og 1 [(0, (ptr b)), (2, (ptr b1)), (3, (ptr b8)), (7, (ptr b))] 1 ?_
 refine Ops.call (by kernel_rfl) (d := (some 8)) (by kernel_rfl) (RRText_calls _ b A c ((r.int).2) hok18 H17 F20 hne ) ?_
 rintro _ w24 ⟨rfl, K25, H26⟩
 have hok27 : (((r.int).2).bytes).2.Ok := Rdr.Ok.bytes hok18
 have hu28 := Rdr.bytes_le hok18
 refine ⟨_, _, rfl, rfl, ?_⟩
 replace K0 := K0.trans K25 (U := (fun i => i = b)) (fun i h1 h2 => h2) (fun i h1 h2 => by have h2 : i = b := h2; show i = b; omega)
 replace H4 := H4.keep K25 (by intro h; change b1 = b at h; omega)
 replace H22 := H22.keep K25 (by intro h; change b8 = b at h; omega)
 replace F20 := RdO.keep F20 K25 (fun i _ _ hi hs => by have hs : i = b := hs; have := hne i _ _ hi; omega)
 clear K25
 have F29 : RdO w24 A c (((r.int).2).bytes).2.bs := by rw [Rdr.bytes_bs]; exact F20
 clear F20
 refine og 1 [(0, (ptr b)), (2, (ptr b1)), (3, (ptr b8)), (8, (Value.string (str (((r.int).2).bytes).1))), (9, (Value.pointer (some ⟨b8, 1, none⟩)))] 3 ?_
 refine Ops.put (t := 9) (b := b8) (off := 1) (v := (Value.string (str (((r.int).2).bytes).1))) (ys := [(i64 ((r.int).1)), (Value.string (str (((r.int).2).bytes).1)), (Value.string ByteArray.empty), (i64 0), (Value.string ByteArray.empty), (i64 0), (i64 0)]) (by kernel_rfl) (by kernel_rfl) H22 (by kernel_rfl) (d := none) (by kernel_rfl) rfl (fun w30 H31 K32 => ?_)
 clear H22
 replace K0 := K0.trans K32 (U := (fun i => i = b)) (fun i h1 h2 => h2) (fun i h1 h2 => by have h2 : i = b8 := h2; show i = b; omega)
 replace H26 := H26.keep K32 (by intro h; change b = b8 at h; omega)
 replace H4 := H4.keep K32 (by intro h; change b1 = b8 at h; omega)
 replace F29 := RdO.keep F29 K32 (fun i _ _ hi hs => by have hs : i = b8 := hs; have := ob14 i _ _ hi; omega)
 clear K32
 refine od ?_
 refine qs ?_
 refine qg ?_
 refine og 1 [(0, (ptr b)), (2, (ptr b1)), (3, (ptr b8)), (10, (ptr b))] 1 ?_
 refine Ops.call (by kernel_rfl) (d := (some 11)) (by kernel_rfl) (RRText_calls _ b A c ((((r.int).2).bytes).2) hok27 H26 F29 hne ) ?_
 rintro _ w33 ⟨rfl, K34, H35⟩
 have hok36 : (((((r.int).2).bytes).2).bytes).2.Ok := Rdr.Ok.bytes hok27
 have hu37 := Rdr.bytes_le hok27
 refine ⟨_, _, rfl, rfl, ?_⟩
 replace K0 := K0.trans K34 (U := (fun i => i = b)) (fun i h1 h2 => h2) (fun i h1 h2 => by have h2 : i = b := h2; show i = b; omega)
 replace H4 := H4.keep K34 (by intro h; change b1 = b at h; omega)
 replace H31 := H31.keep K34 (by intro h; change b8 = b at h; omega)
 replace F29 := RdO.keep F29 K34 (fun i _ _ hi hs => by have hs : i = b := hs; have := hne i _ _ hi; omega)
 clear K34
 have F38 : RdO w33 A c (((((r.int).2).bytes).2).bytes).2.bs := by rw [Rdr.bytes_bs]; exact F29
 clear F29
 refine og 1 [(0, (ptr b)), (2, (ptr b1)), (3, (ptr b8)), (11, (Value.string (str (((((r.int).2).bytes).2).bytes).1))), (12, (Value.pointer (some ⟨b8, 2, none⟩)))] 3 ?_
 refine Ops.put (t := 9) (b := b8) (off := 2) (v := (Value.string (str (((((r.int).2).bytes).2).bytes).1))) (ys := [(i64 ((r.int).1)), (Value.string (str (((r.int).2).bytes).1)), (Value.string (str (((((r.int).2).bytes).2).bytes).1)), (i64 0), (Value.string ByteArray.empty), (i64 0), (i64 0)]) (by kernel_rfl) (by kernel_rfl) H31 (by kernel_rfl) (d := none) (by kernel_rfl) rfl (fun w39 H40 K41 => ?_)
 clear H31
 replace K0 := K0.trans K41 (U := (fun i => i = b)) (fun i h1 h2 => h2) (fun i h1 h2 => by have h2 : i = b8 := h2; show i = b; omega)
 replace H35 := H35.keep K41 (by intro h; change b = b8 at h; omega)
 replace H4 := H4.keep K41 (by intro h; change b1 = b8 at h; omega)
 replace F38 := RdO.keep F38 K41 (fun i _ _ hi hs => by have hs : i = b8 := hs; have := ob14 i _ _ hi; omega)
 clear K41
 refine od ?_
 refine qs ?_
 refine qg ?_
 refine og 1 [(0, (ptr b)), (2, (ptr b1)), (3, (ptr b8)), (13, (ptr b))] 1 ?_
 refine Ops.call (by kernel_rfl) (d := (some 14)) (by kernel_rfl) (RRInt_calls _ b A c ((((((r.int).2).bytes).2).bytes).2) hok36 H35 F38 hne ) ?_
 rintro _ w42 ⟨rfl, K43, H44⟩
 have hok45 : (((((((r.int).2).bytes).2).bytes).2).int).2.Ok := Rdr.Ok.int hok36
 have hu46 := Rdr.int_range ((((((r.int).2).bytes).2).bytes).2)
 refine ⟨_, _, rfl, rfl, ?_⟩
 replace K0 := K0.trans K43 (U := (fun i => i = b)) (fun i h1 h2 => h2) (fun i h1 h2 => by have h2 : i = b := h2; show i = b; omega)
 replace H4 := H4.keep K43 (by intro h; change b1 = b at h; omega)
 replace H40 := H40.keep K43 (by intro h; change b8 = b at h; omega)
 replace F38 := RdO.keep F38 K43 (fun i _ _ hi hs => by have hs : i = b := hs; have := hne i _ _ hi; omega)
 clear K43
 have F47 : RdO w42 A c (((((((r.int).2).bytes).2).bytes).2).int).2.bs := by rw [Rdr.int_bs]; exact F38
 clear F38
 refine og 1 [(0, (ptr b)), (2, (ptr b1)), (3, (ptr b8)), (14, (i64 ((((((((r.int).2).bytes).2).bytes).2).int).1))), (15, (Value.pointer (some ⟨b8, 3, none⟩)))] 3 ?_
 refine Ops.put (t := 2) (b := b8) (off := 3) (v := (i64 ((((((((r.int).2).bytes).2).bytes).2).int).1))) (ys := [(i64 ((r.int).1)), (Value.string (str (((r.int).2).bytes).1)), (Value.string (str (((((r.int).2).bytes).2).bytes).1)), (i64 ((((((((r.int).2).bytes).2).bytes).2).int).1)), (Value.string ByteArray.empty), (i64 0), (i64 0)]) (by kernel_rfl) (by kernel_rfl) H40 (by kernel_rfl) (d := none) (by kernel_rfl) rfl (fun w48 H49 K50 => ?_)
 clear H40
 replace K0 := K0.trans K50 (U := (fun i => i = b)) (fun i h1 h2 => h2) (fun i h1 h2 => by have h2 : i = b8 := h2; show i = b; omega)
 replace H44 := H44.keep K50 (by intro h; change b = b8 at h; omega)
 replace H4 := H4.keep K50 (by intro h; change b1 = b8 at h; omega)
 replace F47 := RdO.keep F47 K50 (fun i _ _ hi hs => by have hs : i = b8 := hs; have := ob14 i _ _ hi; omega)
 clear K50
 refine od ?_
 refine qs ?_
 refine qg ?_
 refine og 1 [(0, (ptr b)), (2, (ptr b1)), (3, (ptr b8)), (16, (ptr b))] 1 ?_
 refine Ops.call (by kernel_rfl) (d := (some 17)) (by kernel_rfl) (RRText_calls _ b A c ((((((((r.int).2).bytes).2).bytes).2).int).2) hok45 H44 F47 hne ) ?_
 rintro _ w51 ⟨rfl, K52, H53⟩
 have hok54 : (((((((((r.int).2).bytes).2).bytes).2).int).2).bytes).2.Ok := Rdr.Ok.bytes hok45
 have hu55 := Rdr.bytes_le hok45
 refine ⟨_, _, rfl, rfl, ?_⟩
 replace K0 := K0.trans K52 (U := (fun i => i = b)) (fun i h1 h2 => h2) (fun i h1 h2 => by have h2 : i = b := h2; show i = b; omega)
 replace H4 := H4.keep K52 (by intro h; change b1 = b at h; omega)
 replace H49 := H49.keep K52 (by intro h; change b8 = b at h; omega)
 replace F47 := RdO.keep F47 K52 (fun i _ _ hi hs => by have hs : i = b := hs; have := hne i _ _ hi; omega)
 clear K52
 have F56 : RdO w51 A c (((((((((r.int).2).bytes).2).bytes).2).int).2).bytes).2.bs := by rw [Rdr.bytes_bs]; exact F47
 clear F47
 refine og 1 [(0, (ptr b)), (2, (ptr b1)), (3, (ptr b8)), (17, (Value.string (str (((((((((r.int).2).bytes).2).bytes).2).int).2).bytes).1))), (18, (Value.pointer (some ⟨b8, 4, none⟩)))] 3 ?_
 refine Ops.put (t := 9) (b := b8) (off := 4) (v := (Value.string (str (((((((((r.int).2).bytes).2).bytes).2).int).2).bytes).1))) (ys := [(i64 ((r.int).1)), (Value.string (str (((r.int).2).bytes).1)), (Value.string (str (((((r.int).2).bytes).2).bytes).1)), (i64 ((((((((r.int).2).bytes).2).bytes).2).int).1)), (Value.string (str (((((((((r.int).2).bytes).2).bytes).2).int).2).bytes).1)), (i64 0), (i64 0)]) (by kernel_rfl) (by kernel_rfl) H49 (by kernel_rfl) (d := none) (by kernel_rfl) rfl (fun w57 H58 K59 => ?_)
 clear H49
 replace K0 := K0.trans K59 (U := (fun i => i = b)) (fun i h1 h2 => h2) (fun i h1 h2 => by have h2 : i = b8 := h2; show i = b; omega)
 replace H53 := H53.keep K59 (by intro h; change b = b8 at h; omega)
 replace H4 := H4.keep K59 (by intro h; change b1 = b8 at h; omega)
 replace F56 := RdO.keep F56 K59 (fun i _ _ hi hs => by have hs : i = b8 := hs; have := ob14 i _ _ hi; omega)
 clear K59
 refine od ?_
 refine qs ?_
 refine qg ?_
 refine og 1 [(0, (ptr b)), (2, (ptr b1)), (3, (ptr b8)), (19, (ptr b))] 1 ?_
 refine Ops.call (by kernel_rfl) (d := (some 20)) (by kernel_rfl) (RRInt_calls _ b A c ((((((((((r.int).2).bytes).2).bytes).2).int).2).bytes).2) hok54 H53 F56 hne ) ?_
 rintro _ w60 ⟨rfl, K61, H62⟩
 have hok63 : (((((((((((r.int).2).bytes).2).bytes).2).int).2).bytes).2).int).2.Ok := Rdr.Ok.int hok54
 have hu64 := Rdr.int_range ((((((((((r.int).2).bytes).2).bytes).2).int).2).bytes).2)
 refine ⟨_, _, rfl, rfl, ?_⟩
 replace K0 := K0.trans K61 (U := (fun i => i = b)) (fun i h1 h2 => h2) (fun i h1 h2 => by have h2 : i = b := h2; show i = b; omega)
 replace H4 := H4.keep K61 (by intro h; change b1 = b at h; omega)
 replace H58 := H58.keep K61 (by intro h; change b8 = b at h; omega)
 replace F56 := RdO.keep F56 K61 (fun i _ _ hi hs => by have hs : i = b := hs; have := hne i _ _ hi; omega)
 clear K61
 have F65 : RdO w60 A c (((((((((((r.int).2).bytes).2).bytes).2).int).2).bytes).2).int).2.bs := by rw [Rdr.int_bs]; exact F56
 clear F56
 refine og 1 [(0, (ptr b)), (2, (ptr b1)), (3, (ptr b8)), (20, (i64 ((((((((((((r.int).2).bytes).2).bytes).2).int).2).bytes).2).int).1))), (21, (Value.pointer (some ⟨b8, 5, none⟩)))] 3 ?_
 refine Ops.put (t := 3) (b := b8) (off := 5) (v := (i64 ((((((((((((r.int).2).bytes).2).bytes).2).int).2).bytes).2).int).1))) (ys := [(i64 ((r.int).1)), (Value.string (str (((r.int).2).bytes).1)), (Value.string (str (((((r.int).2).bytes).2).bytes).1)), (i64 ((((((((r.int).2).bytes).2).bytes).2).int).1)), (Value.string (str (((((((((r.int).2).bytes).2).bytes).2).int).2).bytes).1)), (i64 ((((((((((((r.int).2).bytes).2).bytes).2).int).2).bytes).2).int).1)), (i64 0)]) (by kernel_rfl) (by kernel_rfl) H58 (by kernel_rfl) (d := none) (by kernel_rfl) rfl (fun w66 H67 K68 => ?_)
 clear H58
 replace K0 := K0.trans K68 (U := (fun i => i = b)) (fun i h1 h2 => h2) (fun i h1 h2 => by have h2 : i = b8 := h2; show i = b; omega)
 replace H62 := H62.keep K68 (by intro h; change b = b8 at h; omega)
 replace H4 := H4.keep K68 (by intro h; change b1 = b8 at h; omega)
 replace F65 := RdO.keep F65 K68 (fun i _ _ hi hs => by have hs : i = b8 := hs; have := ob14 i _ _ hi; omega)
 clear K68
 refine od ?_
 refine qs ?_
 refine qg ?_
 refine og 1 [(2, (ptr b1)), (3, (ptr b8)), (22, (ptr b))] 1 ?_
 refine Ops.call (by kernel_rfl) (d := (some 23)) (by kernel_rfl) (RRInt_calls _ b A c ((((((((((((r.int).2).bytes).2).bytes).2).int).2).bytes).2).int).2) hok63 H62 F65 hne ) ?_
 rintro _ w69 ⟨rfl, K70, H71⟩
 have hok72 : (((((((((((((r.int).2).bytes).2).bytes).2).int).2).bytes).2).int).2).int).2.Ok := Rdr.Ok.int hok63
 have hu73 := Rdr.int_range ((((((((((((r.int).2).bytes).2).bytes).2).int).2).bytes).2).int).2)
 refine ⟨_, _, rfl, rfl, ?_⟩
 replace K0 := K0.trans K70 (U := (fun i => i = b)) (fun i h1 h2 => h2) (fun i h1 h2 => by have h2 : i = b := h2; show i = b; omega)
 replace H4 := H4.keep K70 (by intro h; change b1 = b at h; omega)
 replace H67 := H67.keep K70 (by intro h; change b8 = b at h; omega)
 replace F65 := RdO.keep F65 K70 (fun i _ _ hi hs => by have hs : i = b := hs; have := hne i _ _ hi; omega)
 clear K70
 have F74 : RdO w69 A c (((((((((((((r.int).2).bytes).2).bytes).2).int).2).bytes).2).int).2).int).2.bs := by rw [Rdr.int_bs]; exact F65
 clear F65
 refine og 1 [(2, (ptr b1)), (3, (ptr b8)), (23, (i64 ((((((((((((((r.int).2).bytes).2).bytes).2).int).2).bytes).2).int).2).int).1))), (24, (Value.pointer (some ⟨b8, 6, none⟩)))] 3 ?_
 refine Ops.put (t := 3) (b := b8) (off := 6) (v := (i64 ((((((((((((((r.int).2).bytes).2).bytes).2).int).2).bytes).2).int).2).int).1))) (ys := [(i64 ((r.int).1)), (Value.string (str (((r.int).2).bytes).1)), (Value.string (str (((((r.int).2).bytes).2).bytes).1)), (i64 ((((((((r.int).2).bytes).2).bytes).2).int).1)), (Value.string (str (((((((((r.int).2).bytes).2).bytes).2).int).2).bytes).1)), (i64 ((((((((((((r.int).2).bytes).2).bytes).2).int).2).bytes).2).int).1)), (i64 ((((((((((((((r.int).2).bytes).2).bytes).2).int).2).bytes).2).int).2).int).1))]) (by kernel_rfl) (by kernel_rfl) H67 (by kernel_rfl) (d := none) (by kernel_rfl) rfl (fun w75 H76 K77 => ?_)
 clear H67
 replace K0 := K0.trans K77 (U := (fun i => i = b)) (fun i h1 h2 => h2) (fun i h1 h2 => by have h2 : i = b8 := h2; show i = b; omega)
 replace H71 := H71.keep K77 (by intro h; change b = b8 at h; omega)
 replace H4 := H4.keep K77 (by intro h; change b1 = b8 at h; omega)
 replace F74 := RdO.keep F74 K77 (fun i _ _ hi hs => by have hs : i = b8 := hs; have := ob14 i _ _ hi; omega)
 clear K77
 refine od ?_
 refine qs ?_
 refine qg ?_
 refine Ops.go (v := (agg [(i64 ((r.int).1)), (Value.string (str (((r.int).2).bytes).1)), (Value.string (str (((((r.int).2).bytes).2).bytes).1)), (i64 ((((((((r.int).2).bytes).2).bytes).2).int).1)), (Value.string (str (((((((((r.int).2).bytes).2).bytes).2).int).2).bytes).1)), (i64 ((((((((((((r.int).2).bytes).2).bytes).2).int).2).bytes).2).int).1)), (i64 ((((((((((((((r.int).2).bytes).2).bytes).2).int).2).bytes).2).int).2).int).1))])) (by kernel_rfl) (Runs.load (t := 23) (a := ⟨b8, 0, none⟩) (by kernel_rfl) (H76.loads (by kernel_rfl))) (d := (some 25)) (by kernel_rfl) rfl ?_
 refine Ops.put (t := 23) (b := b1) (off := 0) (v := (agg [(i64 ((r.int).1)), (Value.string (str (((r.int).2).bytes).1)), (Value.string (str (((((r.int).2).bytes).2).bytes).1)), (i64 ((((((((r.int).2).bytes).2).bytes).2).int).1)), (Value.string (str (((((((((r.int).2).bytes).2).bytes).2).int).2).bytes).1)), (i64 ((((((((((((r.int).2).bytes).2).bytes).2).int).2).bytes).2).int).1)), (i64 ((((((((((((((r.int).2).bytes).2).bytes).2).int).2).bytes).2).int).2).int).1))])) (ys := [(i64 ((r.int).1)), (Value.string (str (((r.int).2).bytes).1)), (Value.string (str (((((r.int).2).bytes).2).bytes).1)), (i64 ((((((((r.int).2).bytes).2).bytes).2).int).1)), (Value.string (str (((((((((r.int).2).bytes).2).bytes).2).int).2).bytes).1)), (i64 ((((((((((((r.int).2).bytes).2).bytes).2).int).2).bytes).2).int).1)), (i64 ((((((((((((((r.int).2).bytes).2).bytes).2).int).2).bytes).2).int).2).int).1))]) (by kernel_rfl) (by kernel_rfl) H4 (by kernel_rfl) (d := none) (by kernel_rfl) rfl (fun w78 H79 K80 => ?_)
 clear H4
 replace K0 := K0.trans K80 (U := (fun i => i = b)) (fun i h1 h2 => h2) (fun i h1 h2 => by have h2 : i = b1 := h2; show i = b; omega)
 replace H71 := H71.keep K80 (by intro h; change b = b1 at h; omega)
 replace H76 := H76.keep K80 (by intro h; change b8 = b1 at h; omega)
 replace F74 := RdO.keep F74 K80 (fun i _ _ hi hs => by have hs : i = b1 := hs; have := ob7 i _ _ hi; omega)
 clear K80
 refine od ?_
 refine q_ret (by kernel_rfl) ?_
 refine ⟨(agg [(i64 ((r.int).1)), (Value.string (str (((r.int).2).bytes).1)), (Value.string (str (((((r.int).2).bytes).2).bytes).1)), (i64 ((((((((r.int).2).bytes).2).bytes).2).int).1)), (Value.string (str (((((((((r.int).2).bytes).2).bytes).2).int).2).bytes).1)), (i64 ((((((((((((r.int).2).bytes).2).bytes).2).int).2).bytes).2).int).1)), (i64 ((((((((((((((r.int).2).bytes).2).bytes).2).int).2).bytes).2).int).2).int).1))]), retv_cell rfl rfl (H79.loads (by kernel_rfl)), ?_⟩
 exact ⟨rfl, K0, H71⟩
end Go.Proofs.Ytlnidnadpdpciaa
