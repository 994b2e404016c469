/- chart: ChartCommands returns true -/
import Derived.Test.YtoljbckhoigibaaProg
import Derived.Test.YtoljbckhoigibaaO
set_option linter.unusedVariables false
namespace Go.Proofs.Ytoljbckhoigibaa
open Go.Q Go.RowKit

theorem Commands_calls (w : World) (x : Cmd) (v : Value) (bs : List UInt8) (hg : x.Good) (hv : RdB w v bs) : Calls Try.prog 8 ⟨[(agg [(i64 x.kind), (i64 x.slot), (i64 x.shard), (i64 x.n), (i64 x.phase)]), v]⟩ w (fun e w' => e = .returned (.bool true) ∧ Keeps none_ w w') := by
  have K0 : Keeps none_ w w := Keeps.refl w
  refine q_calls Try.func8 (by kernel_rfl) (by kernel_rfl) ?_
  refine q_seq (by kernel_rfl) ?_
  refine q_region (by kernel_rfl) ?_
  refine Ops.new (o := rowL [(i64 x.kind), (i64 x.slot), (i64 x.shard), (i64 x.n), (i64 x.phase)] 40) (V := fun b => (Value.pointer (some ⟨b, 0, none⟩))) (by kernel_rfl) (d := (some 2)) (by kernel_rfl) (fun b => rfl) (fun b1 w2 hb3 H4 K5 hs6 => ?_)
  have nb1 : w.heap.size ≤ b1 := by have := K0.size; omega
  have K7 := K0.trans K5 (U := none_) (fun i h1 h2 => h2) (fun i h1 h2 => by exact h2)
  clear K0
  clear K5 hs6
  refine Ops.regs 1 [(1, v), (2, (Value.pointer (some ⟨b1, 0, none⟩))), (4, (Value.bool false))] (j := 2) (by kernel_rfl) (by kernel_rfl) ?_
  refine Ops.done (by kernel_rfl) ?_
  refine q_seq (by kernel_rfl) ?_
  refine q_region (by kernel_rfl) ?_
  refine Ops.go (v := (agg [(i64 x.kind), (i64 x.slot), (i64 x.shard), (i64 x.n), (i64 x.phase)])) (by kernel_rfl) (Runs.load (t := 40) (a := ⟨b1, 0, none⟩) (by kernel_rfl) (H4.loads (by kernel_rfl))) (d := (some 12)) (by kernel_rfl) rfl ?_
  refine Ops.call (by kernel_rfl) (d := (some 13)) (by kernel_rfl) (given_calls _ ⟨x.kind, x.slot, x.shard, x.n, x.phase⟩) ?_
  rintro _ w8 ⟨rfl, K9⟩
  refine ⟨_, _, rfl, rfl, ?_⟩
  have H10 := H4.keep K9 (fun h => h)
  clear H4
  have K11 := K7.trans K9 (U := none_) (fun i h1 h2 => h2) (fun i h1 h2 => by exact h2)
  clear K7
  clear K9
  refine Ops.call (by kernel_rfl) (d := (some 14)) (by kernel_rfl) (Bytes_calls _ x hg) ?_
  rintro _ w13 ⟨v12, rfl, K14, hO15⟩
  have O16 := own_base hO15 K11.size
  clear hO15
  refine ⟨_, _, rfl, rfl, ?_⟩
  have H17 := H10.keep K14 (fun h => h)
  clear H10
  have K18 := K11.trans K14 (U := none_) (fun i h1 h2 => h2) (fun i h1 h2 => by exact h2)
  clear K11
  clear K14
  refine Ops.regs 1 [(1, v), (2, (Value.pointer (some ⟨b1, 0, none⟩))), (4, (Value.bool false)), (5, v12)] (j := 4) (by kernel_rfl) (by kernel_rfl) ?_
  refine Ops.done (by kernel_rfl) ?_
  refine q_seq (by kernel_rfl) ?_
  refine q_region (by kernel_rfl) ?_
  refine Ops.regs 1 [(1, v), (2, (Value.pointer (some ⟨b1, 0, none⟩))), (4, (Value.bool false)), (5, v12), (16, v)] (j := 1) (by kernel_rfl) (by kernel_rfl) ?_
  refine Ops.call (by kernel_rfl) (d := (some 17)) (by kernel_rfl) (Parse_calls_any _ v bs (hv.keep0 (by omega) K18)) ?_
  rintro _ w19 ⟨rfl, K20⟩
  refine ⟨_, _, rfl, rfl, ?_⟩
  have H21 := H17.keep K20 (fun h => h)
  clear H17
  have F22 := own_keep0 O16 K20
  clear O16
  have K23 := K18.trans K20 (U := none_) (fun i h1 h2 => h2) (fun i h1 h2 => by exact h2)
  clear K18
  clear K20
  refine Ops.regs 3 [(1, v), (2, (Value.pointer (some ⟨b1, 0, none⟩))), (4, (Value.bool false)), (5, v12), (18, (agg [(i64 ((parseB bs).1.kind)), (i64 ((parseB bs).1.slot)), (i64 ((parseB bs).1.shard)), (i64 ((parseB bs).1.n)), (i64 ((parseB bs).1.phase))])), (19, (i64 ((parseB bs).2)))] (j := 5) (by kernel_rfl) (by kernel_rfl) ?_
  refine Ops.new (o := rowL [(i64 0), (i64 0), (i64 0), (i64 0), (i64 0)] 32) (V := fun b => (Value.pointer (some ⟨b, 0, none⟩))) (by kernel_rfl) (d := (some 6)) (by kernel_rfl) (fun b => rfl) (fun b24 w25 hb26 H27 K28 hs29 => ?_)
  have lb24 : b1 < b24 := by have := H21.lt; omega
  have nb24 : w.heap.size ≤ b24 := by have := K23.size; omega
  have ob30 : ∀ i, (v12).ownBlock = some i → i < b24 := fun i hi => by have := (World.ownsRow.lt F22 i hi).2; omega
  have H31 := H21.keep K28 (fun h => h)
  clear H21
  have F32 := own_keep0 F22 K28
  clear F22
  have K33 := K23.trans K28 (U := none_) (fun i h1 h2 => h2) (fun i h1 h2 => by exact h2)
  clear K23
  clear K28 hs29
  refine Ops.put (t := 32) (b := b24) (off := 0) (v := (agg [(i64 ((parseB bs).1.kind)), (i64 ((parseB bs).1.slot)), (i64 ((parseB bs).1.shard)), (i64 ((parseB bs).1.n)), (i64 ((parseB bs).1.phase))])) (ys := [(i64 ((parseB bs).1.kind)), (i64 ((parseB bs).1.slot)), (i64 ((parseB bs).1.shard)), (i64 ((parseB bs).1.n)), (i64 ((parseB bs).1.phase))]) (by kernel_rfl) (by kernel_rfl) H27 (by kernel_rfl) (d := none) (by kernel_rfl) rfl (fun w34 H35 K36 => ?_)
  clear H27
  have H37 := H31.keep K36 (by intro h; change b1 = b24 at h; omega)
  clear H31
  have F38 := own_keep F32 K36 (fun i hi hs => by have hs : i = b24 := hs; have := ob30 i hi; omega)
  clear F32
  have K39 := K33.trans K36 (U := none_) (fun i h1 h2 => h2) (fun i h1 h2 => by have h2 : i = b24 := h2; exfalso; omega)
  clear K33
  clear K36
  refine Ops.regs 1 [(1, v), (2, (Value.pointer (some ⟨b1, 0, none⟩))), (4, (Value.bool false)), (5, v12), (6, (Value.pointer (some ⟨b24, 0, none⟩))), (7, (i64 ((parseB bs).2)))] (j := 8) (by kernel_rfl) (by kernel_rfl) ?_
  refine Ops.done (by kernel_rfl) ?_
  refine q_seq (by kernel_rfl) ?_
  refine q_region (by kernel_rfl) ?_
  refine Ops.regs 1 [(2, (Value.pointer (some ⟨b1, 0, none⟩))), (4, (Value.bool false)), (5, v12), (6, (Value.pointer (some ⟨b24, 0, none⟩))), (7, (i64 ((parseB bs).2))), (21, v)] (j := 1) (by kernel_rfl) (by kernel_rfl) ?_
  refine Ops.call (by kernel_rfl) (d := (some 22)) (by kernel_rfl) (RParse_calls_any _ v bs (hv.keep0 (by omega) K39)) ?_
  rintro _ w40 ⟨rfl, K41⟩
  refine ⟨_, _, rfl, rfl, ?_⟩
  have H42 := H37.keep K41 (fun h => h)
  clear H37
  have H43 := H35.keep K41 (fun h => h)
  clear H35
  have F44 := own_keep0 F38 K41
  clear F38
  have K45 := K39.trans K41 (U := none_) (fun i h1 h2 => h2) (fun i h1 h2 => by exact h2)
  clear K39
  clear K41
  refine Ops.regs 3 [(2, (Value.pointer (some ⟨b1, 0, none⟩))), (4, (Value.bool false)), (5, v12), (6, (Value.pointer (some ⟨b24, 0, none⟩))), (7, (i64 ((parseB bs).2))), (23, (agg [(i64 ((parseB bs).1.kind)), (i64 ((parseB bs).1.slot)), (i64 ((parseB bs).1.shard)), (i64 ((parseB bs).1.n)), (i64 ((parseB bs).1.phase))])), (24, (i64 ((parseB bs).2)))] (j := 5) (by kernel_rfl) (by kernel_rfl) ?_
  refine Ops.new (o := rowL [(i64 0), (i64 0), (i64 0), (i64 0), (i64 0)] 40) (V := fun b => (Value.pointer (some ⟨b, 0, none⟩))) (by kernel_rfl) (d := (some 8)) (by kernel_rfl) (fun b => rfl) (fun b46 w47 hb48 H49 K50 hs51 => ?_)
  have lb46 : b24 < b46 := by have := H43.lt; omega
  have nb46 : w.heap.size ≤ b46 := by have := K45.size; omega
  have ob52 : ∀ i, (v12).ownBlock = some i → i < b46 := fun i hi => by have := (World.ownsRow.lt F44 i hi).2; omega
  have H53 := H42.keep K50 (fun h => h)
  clear H42
  have H54 := H43.keep K50 (fun h => h)
  clear H43
  have F55 := own_keep0 F44 K50
  clear F44
  have K56 := K45.trans K50 (U := none_) (fun i h1 h2 => h2) (fun i h1 h2 => by exact h2)
  clear K45
  clear K50 hs51
  refine Ops.put (t := 40) (b := b46) (off := 0) (v := (agg [(i64 ((parseB bs).1.kind)), (i64 ((parseB bs).1.slot)), (i64 ((parseB bs).1.shard)), (i64 ((parseB bs).1.n)), (i64 ((parseB bs).1.phase))])) (ys := [(i64 ((parseB bs).1.kind)), (i64 ((parseB bs).1.slot)), (i64 ((parseB bs).1.shard)), (i64 ((parseB bs).1.n)), (i64 ((parseB bs).1.phase))]) (by kernel_rfl) (by kernel_rfl) H49 (by kernel_rfl) (d := none) (by kernel_rfl) rfl (fun w57 H58 K59 => ?_)
  clear H49
  have H60 := H53.keep K59 (by intro h; change b1 = b46 at h; omega)
  clear H53
  have H61 := H54.keep K59 (by intro h; change b24 = b46 at h; omega)
  clear H54
  have F62 := own_keep F55 K59 (fun i hi hs => by have hs : i = b46 := hs; have := ob52 i hi; omega)
  clear F55
  have K63 := K56.trans K59 (U := none_) (fun i h1 h2 => h2) (fun i h1 h2 => by have h2 : i = b46 := h2; exfalso; omega)
  clear K56
  clear K59
  refine Ops.regs 1 [(2, (Value.pointer (some ⟨b1, 0, none⟩))), (4, (Value.bool false)), (5, v12), (6, (Value.pointer (some ⟨b24, 0, none⟩))), (7, (i64 ((parseB bs).2))), (8, (Value.pointer (some ⟨b46, 0, none⟩))), (9, (i64 ((parseB bs).2)))] (j := 8) (by kernel_rfl) (by kernel_rfl) ?_
  refine Ops.done (by kernel_rfl) ?_
  refine q_seq (by kernel_rfl) ?_
  refine q_region (by kernel_rfl) ?_
  refine Ops.regs 1 [(2, (Value.pointer (some ⟨b1, 0, none⟩))), (4, (Value.bool false)), (5, v12), (6, (Value.pointer (some ⟨b24, 0, none⟩))), (7, (i64 ((parseB bs).2))), (8, (Value.pointer (some ⟨b46, 0, none⟩))), (9, (i64 ((parseB bs).2))), (26, v12)] (j := 1) (by kernel_rfl) (by kernel_rfl) ?_
  refine Ops.call (by kernel_rfl) (d := (some 27)) (by kernel_rfl) ((parse_back hg ▸ Parse_calls_any _ v12 (ivs [x.kind, x.slot, x.shard, x.n, x.phase]) (OwnB.rd F62))) ?_
  rintro _ w64 ⟨rfl, K65⟩
  refine ⟨_, _, rfl, rfl, ?_⟩
  have H66 := H60.keep K65 (fun h => h)
  clear H60
  have H67 := H61.keep K65 (fun h => h)
  clear H61
  have H68 := H58.keep K65 (fun h => h)
  clear H58
  have F69 := own_keep0 F62 K65
  clear F62
  have K70 := K63.trans K65 (U := none_) (fun i h1 h2 => h2) (fun i h1 h2 => by exact h2)
  clear K63
  clear K65
  refine Ops.regs 3 [(2, (Value.pointer (some ⟨b1, 0, none⟩))), (4, (Value.bool false)), (5, v12), (6, (Value.pointer (some ⟨b24, 0, none⟩))), (7, (i64 ((parseB bs).2))), (8, (Value.pointer (some ⟨b46, 0, none⟩))), (9, (i64 ((parseB bs).2))), (28, (agg [(i64 x.kind), (i64 x.slot), (i64 x.shard), (i64 x.n), (i64 x.phase)])), (29, (i64 0))] (j := 5) (by kernel_rfl) (by kernel_rfl) ?_
  refine Ops.new (o := rowL [(i64 0), (i64 0), (i64 0), (i64 0), (i64 0)] 32) (V := fun b => (Value.pointer (some ⟨b, 0, none⟩))) (by kernel_rfl) (d := (some 10)) (by kernel_rfl) (fun b => rfl) (fun b71 w72 hb73 H74 K75 hs76 => ?_)
  have lb71 : b46 < b71 := by have := H68.lt; omega
  have nb71 : w.heap.size ≤ b71 := by have := K70.size; omega
  have ob77 : ∀ i, (v12).ownBlock = some i → i < b71 := fun i hi => by have := (World.ownsRow.lt F69 i hi).2; omega
  have H78 := H66.keep K75 (fun h => h)
  clear H66
  have H79 := H67.keep K75 (fun h => h)
  clear H67
  have H80 := H68.keep K75 (fun h => h)
  clear H68
  have F81 := own_keep0 F69 K75
  clear F69
  have K82 := K70.trans K75 (U := none_) (fun i h1 h2 => h2) (fun i h1 h2 => by exact h2)
  clear K70
  clear K75 hs76
  refine Ops.put (t := 32) (b := b71) (off := 0) (v := (agg [(i64 x.kind), (i64 x.slot), (i64 x.shard), (i64 x.n), (i64 x.phase)])) (ys := [(i64 x.kind), (i64 x.slot), (i64 x.shard), (i64 x.n), (i64 x.phase)]) (by kernel_rfl) (by kernel_rfl) H74 (by kernel_rfl) (d := none) (by kernel_rfl) rfl (fun w83 H84 K85 => ?_)
  clear H74
  have H86 := H78.keep K85 (by intro h; change b1 = b71 at h; omega)
  clear H78
  have H87 := H79.keep K85 (by intro h; change b24 = b71 at h; omega)
  clear H79
  have H88 := H80.keep K85 (by intro h; change b46 = b71 at h; omega)
  clear H80
  have F89 := own_keep F81 K85 (fun i hi hs => by have hs : i = b71 := hs; have := ob77 i hi; omega)
  clear F81
  have K90 := K82.trans K85 (U := none_) (fun i h1 h2 => h2) (fun i h1 h2 => by have h2 : i = b71 := h2; exfalso; omega)
  clear K82
  clear K85
  refine Ops.regs 1 [(2, (Value.pointer (some ⟨b1, 0, none⟩))), (4, (Value.bool false)), (5, v12), (6, (Value.pointer (some ⟨b24, 0, none⟩))), (7, (i64 ((parseB bs).2))), (8, (Value.pointer (some ⟨b46, 0, none⟩))), (9, (i64 ((parseB bs).2))), (10, (Value.pointer (some ⟨b71, 0, none⟩))), (11, (i64 0))] (j := 8) (by kernel_rfl) (by kernel_rfl) ?_
  refine Ops.done (by kernel_rfl) ?_
  refine q_seq (by kernel_rfl) ?_
  refine q_draw (fun wz => Keeps none_ w83 wz) 31 (by kernel_rfl) (by kernel_rfl) (by kernel_rfl) (fun w91 K92 _ _ => ⟨K92, ?_⟩)
  have H93 := H86.keep K92 (fun h => h)
  clear H86
  have H94 := H87.keep K92 (fun h => h)
  clear H87
  have H95 := H88.keep K92 (fun h => h)
  clear H88
  have H96 := H84.keep K92 (fun h => h)
  clear H84
  have F97 := own_keep0 F89 K92
  clear F89
  have K98 := K90.trans K92 (U := none_) (fun i h1 h2 => h2) (fun i h1 h2 => by exact h2)
  clear K90
  refine Dr.strong (S' := (fun wz => Keeps none_ w91 wz)) (Keeps.refl w91) (fun wz hx => K92.trans hx (fun _ _ h => h) (fun _ _ h => h)) ?_
  clear K92
  refine Dr.takes (fuel' := 30) (is' := [0]) [0] [(2, (Value.pointer (some ⟨b1, 0, none⟩))), (4, (Value.bool false)), (6, (Value.pointer (some ⟨b24, 0, none⟩))), (7, (i64 ((parseB bs).2))), (8, (Value.pointer (some ⟨b46, 0, none⟩))), (9, (i64 ((parseB bs).2))), (10, (Value.pointer (some ⟨b71, 0, none⟩))), (11, (i64 0)), (30, v12)] (by kernel_rfl) rfl (by kernel_rfl) ?_
  refine Dr.take (i := 1) (v := (Value.string (str (ivs [x.kind, x.slot, x.shard, x.n, x.phase])))) (by kernel_rfl) (by kernel_rfl) (fun wz hS => Runs.b2s (s := 59) (d := 9) (e := 5) (by kernel_rfl) (by kernel_rfl) (by kernel_rfl) (Rd.keep0 (by omega) (OwnB.rd F97) hS)) (d := (some 31)) (by kernel_rfl) rfl ?_
  refine Dr.take (i := 2) (v := (agg [(i64 x.kind), (i64 x.slot), (i64 x.shard), (i64 x.n), (i64 x.phase)])) (by kernel_rfl) (by kernel_rfl) (fun wz hS => Runs.load (t := 40) (a := ⟨b1, 0, none⟩) (by kernel_rfl) ((H93.keep hS (fun h => h)).loads (by kernel_rfl))) (d := (some 32)) (by kernel_rfl) rfl ?_
  refine Dr.call (i := 3) (by kernel_rfl) (by kernel_rfl) (d := (some 33)) (by kernel_rfl) (fun _ => RBytes_calls _ x hg) ?_
  rintro _ w100 ⟨v99, rfl, K101, hO102⟩
  have O103 := own_base hO102 K98.size
  clear hO102
  have H104 := H93.keep K101 (fun h => h)
  clear H93
  have H105 := H94.keep K101 (fun h => h)
  clear H94
  have H106 := H95.keep K101 (fun h => h)
  clear H95
  have H107 := H96.keep K101 (fun h => h)
  clear H96
  have F108 := own_keep0 F97 K101
  clear F97
  have K109 := K98.trans K101 (U := none_) (fun i h1 h2 => h2) (fun i h1 h2 => by exact h2)
  clear K98
  refine ⟨_, _, rfl, rfl, K101, ?_⟩
  refine Dr.strong (S' := (fun wz => Keeps none_ w100 wz)) (Keeps.refl w100) (fun wz hx => K101.trans hx (fun _ _ h => h) (fun _ _ h => h)) ?_
  clear K101
  refine Dr.take (i := 4) (v := (Value.string (str (ivs [x.kind, x.slot, x.shard, x.n, x.phase])))) (by kernel_rfl) (by kernel_rfl) (fun wz hS => Runs.b2s (s := 59) (d := 9) (e := 5) (by kernel_rfl) (by kernel_rfl) (by kernel_rfl) (Rd.keep0 (by omega) (OwnB.rd O103) hS)) (d := (some 34)) (by kernel_rfl) rfl ?_
  refine Dr.take (i := 5) (v := (Value.bool ((ivs [x.kind, x.slot, x.shard, x.n, x.phase]) == (ivs [x.kind, x.slot, x.shard, x.n, x.phase])))) (by kernel_rfl) (by kernel_rfl) (fun wz hS => Runs.streq (t := 9) (by kernel_rfl)) (d := (some 35)) (by kernel_rfl) rfl ?_
  refine Dr.takes (fuel' := 24) (is' := [6, 5, 4, 3, 2, 1, 0]) [6] [(2, (Value.pointer (some ⟨b1, 0, none⟩))), (4, (Value.bool false)), (6, (Value.pointer (some ⟨b24, 0, none⟩))), (7, (i64 ((parseB bs).2))), (8, (Value.pointer (some ⟨b46, 0, none⟩))), (9, (i64 ((parseB bs).2))), (10, (Value.pointer (some ⟨b71, 0, none⟩))), (11, (i64 0)), (36, (Value.bool ((ivs [x.kind, x.slot, x.shard, x.n, x.phase]) == (ivs [x.kind, x.slot, x.shard, x.n, x.phase]))))] (by kernel_rfl) rfl (by kernel_rfl) ?_
  have h110 : ((ivs [x.kind, x.slot, x.shard, x.n, x.phase]) == (ivs [x.kind, x.slot, x.shard, x.n, x.phase])) = true := by simp
  rw [h110]
  refine Dr.take (i := 7) (v := (agg [(i64 ((parseB bs).1.kind)), (i64 ((parseB bs).1.slot)), (i64 ((parseB bs).1.shard)), (i64 ((parseB bs).1.n)), (i64 ((parseB bs).1.phase))])) (by kernel_rfl) (by kernel_rfl) (fun wz hS => Runs.load (t := 32) (a := ⟨b24, 0, none⟩) (by kernel_rfl) ((H105.keep hS (fun h => h)).loads (by kernel_rfl))) (d := (some 37)) (by kernel_rfl) rfl ?_
  refine Dr.take (i := 8) (v := (agg [(i64 ((parseB bs).1.kind)), (i64 ((parseB bs).1.slot)), (i64 ((parseB bs).1.shard)), (i64 ((parseB bs).1.n)), (i64 ((parseB bs).1.phase))])) (by kernel_rfl) (by kernel_rfl) (fun wz hS => Runs.load (t := 40) (a := ⟨b46, 0, none⟩) (by kernel_rfl) ((H106.keep hS (fun h => h)).loads (by kernel_rfl))) (d := (some 38)) (by kernel_rfl) rfl ?_
  refine Dr.call (i := 9) (by kernel_rfl) (by kernel_rfl) (d := (some 39)) (by kernel_rfl) (fun _ => given_calls _ ⟨(parseB bs).1.kind, (parseB bs).1.slot, (parseB bs).1.shard, (parseB bs).1.n, (parseB bs).1.phase⟩) ?_
  rintro _ w111 ⟨rfl, K112⟩
  have H113 := H104.keep K112 (fun h => h)
  clear H104
  have H114 := H105.keep K112 (fun h => h)
  clear H105
  have H115 := H106.keep K112 (fun h => h)
  clear H106
  have H116 := H107.keep K112 (fun h => h)
  clear H107
  have F117 := own_keep0 F108 K112
  clear F108
  have F118 := own_keep0 O103 K112
  clear O103
  have K119 := K109.trans K112 (U := none_) (fun i h1 h2 => h2) (fun i h1 h2 => by exact h2)
  clear K109
  refine ⟨_, _, rfl, rfl, K112, ?_⟩
  refine Dr.strong (S' := (fun wz => Keeps none_ w111 wz)) (Keeps.refl w111) (fun wz hx => K112.trans hx (fun _ _ h => h) (fun _ _ h => h)) ?_
  clear K112
  refine Dr.take (i := 10) (v := (Value.bool (aggB [(i64 ((parseB bs).1.kind)), (i64 ((parseB bs).1.slot)), (i64 ((parseB bs).1.shard)), (i64 ((parseB bs).1.n)), (i64 ((parseB bs).1.phase))] [(i64 ((parseB bs).1.kind)), (i64 ((parseB bs).1.slot)), (i64 ((parseB bs).1.shard)), (i64 ((parseB bs).1.n)), (i64 ((parseB bs).1.phase))]))) (by kernel_rfl) (by kernel_rfl) (fun wz hS => Runs.aggeq (t := 32) (by kernel_rfl) (by kernel_rfl)) (d := (some 40)) (by kernel_rfl) rfl ?_
  refine Dr.takes (fuel' := 18) (is' := [12, 11, 10, 9, 8, 7, 6, 5, 4, 3, 2, 1, 0]) [11, 12] [(2, (Value.pointer (some ⟨b1, 0, none⟩))), (4, (Value.bool false)), (7, (i64 ((parseB bs).2))), (9, (i64 ((parseB bs).2))), (10, (Value.pointer (some ⟨b71, 0, none⟩))), (11, (i64 0)), (42, (Value.bool (aggB [(i64 ((parseB bs).1.kind)), (i64 ((parseB bs).1.slot)), (i64 ((parseB bs).1.shard)), (i64 ((parseB bs).1.n)), (i64 ((parseB bs).1.phase))] [(i64 ((parseB bs).1.kind)), (i64 ((parseB bs).1.slot)), (i64 ((parseB bs).1.shard)), (i64 ((parseB bs).1.n)), (i64 ((parseB bs).1.phase))])))] (by kernel_rfl) rfl (by kernel_rfl) ?_
  have h120 : (aggB [(i64 ((parseB bs).1.kind)), (i64 ((parseB bs).1.slot)), (i64 ((parseB bs).1.shard)), (i64 ((parseB bs).1.n)), (i64 ((parseB bs).1.phase))] [(i64 ((parseB bs).1.kind)), (i64 ((parseB bs).1.slot)), (i64 ((parseB bs).1.shard)), (i64 ((parseB bs).1.n)), (i64 ((parseB bs).1.phase))]) = true := by simp [aggB, cellB]
  rw [h120]
  refine Dr.takes (fuel' := 13) (is' := [17, 16, 15, 14, 13, 12, 11, 10, 9, 8, 7, 6, 5, 4, 3, 2, 1, 0]) [13, 14, 15, 16, 17] [(2, (Value.pointer (some ⟨b1, 0, none⟩))), (4, (Value.bool false)), (10, (Value.pointer (some ⟨b71, 0, none⟩))), (11, (i64 0)), (47, (Value.bool (((parseB bs).2) == ((parseB bs).2))))] (by kernel_rfl) rfl (by kernel_rfl) ?_
  have h121 : (((parseB bs).2) == ((parseB bs).2)) = true := by simp
  rw [h121]
  refine Dr.take (i := 18) (v := (agg [(i64 x.kind), (i64 x.slot), (i64 x.shard), (i64 x.n), (i64 x.phase)])) (by kernel_rfl) (by kernel_rfl) (fun wz hS => Runs.load (t := 32) (a := ⟨b71, 0, none⟩) (by kernel_rfl) ((H116.keep hS (fun h => h)).loads (by kernel_rfl))) (d := (some 48)) (by kernel_rfl) rfl ?_
  refine Dr.take (i := 19) (v := (agg [(i64 x.kind), (i64 x.slot), (i64 x.shard), (i64 x.n), (i64 x.phase)])) (by kernel_rfl) (by kernel_rfl) (fun wz hS => Runs.load (t := 40) (a := ⟨b1, 0, none⟩) (by kernel_rfl) ((H113.keep hS (fun h => h)).loads (by kernel_rfl))) (d := (some 49)) (by kernel_rfl) rfl ?_
  refine Dr.call (i := 20) (by kernel_rfl) (by kernel_rfl) (d := (some 50)) (by kernel_rfl) (fun _ => given_calls _ ⟨x.kind, x.slot, x.shard, x.n, x.phase⟩) ?_
  rintro _ w122 ⟨rfl, K123⟩
  have H124 := H113.keep K123 (fun h => h)
  clear H113
  have H125 := H114.keep K123 (fun h => h)
  clear H114
  have H126 := H115.keep K123 (fun h => h)
  clear H115
  have H127 := H116.keep K123 (fun h => h)
  clear H116
  have F128 := own_keep0 F117 K123
  clear F117
  have F129 := own_keep0 F118 K123
  clear F118
  have K130 := K119.trans K123 (U := none_) (fun i h1 h2 => h2) (fun i h1 h2 => by exact h2)
  clear K119
  refine ⟨_, _, rfl, rfl, K123, ?_⟩
  refine Dr.strong (S' := (fun wz => Keeps none_ w122 wz)) (Keeps.refl w122) (fun wz hx => K123.trans hx (fun _ _ h => h) (fun _ _ h => h)) ?_
  clear K123
  refine Dr.take (i := 21) (v := (Value.bool (aggB [(i64 x.kind), (i64 x.slot), (i64 x.shard), (i64 x.n), (i64 x.phase)] [(i64 x.kind), (i64 x.slot), (i64 x.shard), (i64 x.n), (i64 x.phase)]))) (by kernel_rfl) (by kernel_rfl) (fun wz hS => Runs.aggeq (t := 32) (by kernel_rfl) (by kernel_rfl)) (d := (some 51)) (by kernel_rfl) rfl ?_
  refine Dr.takes (fuel' := 7) (is' := [23, 22, 21, 20, 19, 18, 17, 16, 15, 14, 13, 12, 11, 10, 9, 8, 7, 6, 5, 4, 3, 2, 1, 0]) [22, 23] [(4, (Value.bool false)), (11, (i64 0)), (53, (Value.bool (aggB [(i64 x.kind), (i64 x.slot), (i64 x.shard), (i64 x.n), (i64 x.phase)] [(i64 x.kind), (i64 x.slot), (i64 x.shard), (i64 x.n), (i64 x.phase)])))] (by kernel_rfl) rfl (by kernel_rfl) ?_
  have h131 : (aggB [(i64 x.kind), (i64 x.slot), (i64 x.shard), (i64 x.n), (i64 x.phase)] [(i64 x.kind), (i64 x.slot), (i64 x.shard), (i64 x.n), (i64 x.phase)]) = true := by simp [aggB, cellB]
  rw [h131]
  refine Dr.takes (fuel' := 3) (is' := [27, 26, 25, 24, 23, 22, 21, 20, 19, 18, 17, 16, 15, 14, 13, 12, 11, 10, 9, 8, 7, 6, 5, 4, 3, 2, 1, 0]) [24, 25, 26, 27] [(4, (Value.bool false)), (57, (Value.bool true))] (by kernel_rfl) rfl (by kernel_rfl) ?_
  refine Dr.call (i := 28) (by kernel_rfl) (by kernel_rfl) (d := (some 58)) (by kernel_rfl) (fun _ => known_calls _) ?_
  rintro _ w132 ⟨rfl, K133⟩
  have H134 := H124.keep K133 (fun h => h)
  clear H124
  have H135 := H125.keep K133 (fun h => h)
  clear H125
  have H136 := H126.keep K133 (fun h => h)
  clear H126
  have H137 := H127.keep K133 (fun h => h)
  clear H127
  have F138 := own_keep0 F128 K133
  clear F128
  have F139 := own_keep0 F129 K133
  clear F129
  have K140 := K130.trans K133 (U := none_) (fun i h1 h2 => h2) (fun i h1 h2 => by exact h2)
  clear K130
  refine ⟨_, _, rfl, rfl, K133, ?_⟩
  refine Dr.strong (S' := (fun wz => Keeps none_ w132 wz)) (Keeps.refl w132) (fun wz hx => K133.trans hx (fun _ _ h => h) (fun _ _ h => h)) ?_
  clear K133
  refine Dr.takes (fuel' := 0) (is' := [30, 29, 28, 27, 26, 25, 24, 23, 22, 21, 20, 19, 18, 17, 16, 15, 14, 13, 12, 11, 10, 9, 8, 7, 6, 5, 4, 3, 2, 1, 0]) [29, 30] [(4, (Value.bool true))] (by kernel_rfl) rfl (by kernel_rfl) ?_
  refine Dr.done (by kernel_rfl) ?_
  refine q_ret (by kernel_rfl) ?_
  refine ⟨(Value.bool true), retv_tmp rfl rfl, ?_⟩
  exact ⟨rfl, K140⟩
end Go.Proofs.Ytoljbckhoigibaa
