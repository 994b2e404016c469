/- chapter 02: CodecApart returns true -/
import Derived.Test.YtnepjfnkaigakaaProg
import Derived.Test.YtnepjfnkaigakaaKH
set_option linter.unusedVariables false
namespace Go.Proofs.Ytnepjfnkaigakaa
open Go.Q Go.RowKit

set_option maxHeartbeats 4000000 in
theorem Apart_calls (w : World) (om on : Opm) (p : ReplyM) (A : Option Addr) (c : Nat) (q : ReplyM) (B : Option Addr) (d : Nat) (m : MsgP) (E : Option Addr) (ec : Nat) (D : Option Addr) (dc : Nat) (n : MsgP) (G : Option Addr) (gc : Nat) (F : Option Addr) (fc : Nat) (hom : om.Ok) (hon : on.Ok) (hpo : p.Ok) (hqo : q.Ok) (hp : RdR w (.slice A p.rows.length c) p.rows) (hq : RdR w (.slice B q.rows.length d) q.rows) (hm : m.Ok) (hE : RdE w (.slice E m.entries.length ec) m.entries) (hC : EntsIn w m.entries) (hD : RdB w (.slice D m.data.length dc) m.data) (hn : n.Ok) (hG : RdE w (.slice G n.entries.length gc) n.entries) (hCn : EntsIn w n.entries) (hF : RdB w (.slice F n.data.length fc) n.data) (hom0 : om.frm.length ≤ 1048576) (hom1 : om.to.length ≤ 1048576) (hom2 : om.key.length ≤ 1048576) (hon0 : on.frm.length ≤ 1048576) (hon1 : on.to.length ≤ 1048576) (hon2 : on.key.length ≤ 1048576) (hpr : p.rows.length ≤ 1048576) (hqr : q.rows.length ≤ 1048576) (hpn : ∀ x ∈ p.rows, x.name.length ≤ 1048576) (hqn : ∀ x ∈ q.rows, x.name.length ≤ 1048576) : Calls Try.prog 6 ⟨[(agg [(i64 om.kind), (Value.string (str om.frm)), (Value.string (str om.to)), (i64 om.amount), (Value.string (str om.key)), (i64 om.slot), (i64 om.shard)]), (agg [(i64 on.kind), (Value.string (str on.frm)), (Value.string (str on.to)), (i64 on.amount), (Value.string (str on.key)), (i64 on.slot), (i64 on.shard)]), (agg [(i64 p.why), (i64 p.amount), (Value.slice A p.rows.length c)]), (agg [(i64 q.why), (i64 q.amount), (Value.slice B q.rows.length d)]), (agg [(i64 m.kind), (i64 m.group), (i64 m.frm), (i64 m.to), (i64 m.term), (i64 m.index), (i64 m.logTerm), (i64 m.commit), (Value.bool m.ok), (Value.slice E m.entries.length ec), (Value.slice D m.data.length dc)]), (agg [(i64 n.kind), (i64 n.group), (i64 n.frm), (i64 n.to), (i64 n.term), (i64 n.index), (i64 n.logTerm), (i64 n.commit), (Value.bool n.ok), (Value.slice G n.entries.length gc), (Value.slice F n.data.length fc)])]⟩ w (fun e w' => e = .returned (.bool true) ∧ Keeps none_ w w') := by
  have hlom := opv_len om
  have ta1 := tv_le (s := om.frm) (by omega)
  have ta2 := tv_le (s := om.to) (by omega)
  have ta3 := tv_le (s := om.key) (by omega)
  have ia0 := iv_length_10 hom.kind
  have ia1 := iv_length_10 hom.amount
  have ia2 := iv_length_10 hom.slot
  have ia3 := iv_length_10 hom.shard
  have hlon := opv_len on
  have tb1 := tv_le (s := on.frm) (by omega)
  have tb2 := tv_le (s := on.to) (by omega)
  have tb3 := tv_le (s := on.key) (by omega)
  have ib0 := iv_length_10 hon.kind
  have ib1 := iv_length_10 hon.amount
  have ib2 := iv_length_10 hon.slot
  have ib3 := iv_length_10 hon.shard
  have hlp := rpv_len p
  have ua0 := uv_length_10 (n := p.rows.length) (by omega)
  have ua1 := iv_length_10 hpo.why
  have ua2 := iv_length_10 hpo.amount
  have ua3 := rowsv_len_le (B := 1048576) p.rows hpn hpo.rows (by decide)
  have ua4 : p.rows.length * (1048576 + 20) ≤ 1048576 * 1048596 := Nat.mul_le_mul hpr (by decide)
  have hlq := rpv_len q
  have ub0 := uv_length_10 (n := q.rows.length) (by omega)
  have ub1 := iv_length_10 hqo.why
  have ub2 := iv_length_10 hqo.amount
  have ub3 := rowsv_len_le (B := 1048576) q.rows hqn hqo.rows (by decide)
  have ub4 : q.rows.length * (1048576 + 20) ≤ 1048576 * 1048596 := Nat.mul_le_mul hqr (by decide)
  have K0 : Keeps none_ w w := Keeps.refl w
  refine q_calls Try.func6 (by kernel_rfl) (by kernel_rfl) ?_
  refine q_seq (by kernel_rfl) ?_
  refine q_region (by kernel_rfl) ?_
  refine Ops.new (o := rowL [(i64 om.kind), (Value.string (str om.frm)), (Value.string (str om.to)), (i64 om.amount), (Value.string (str om.key)), (i64 om.slot), (i64 om.shard)] 43) (V := fun b => (Value.pointer (some ⟨b, 0, none⟩))) (by kernel_rfl) (d := (some 6)) (by kernel_rfl) (fun b => rfl) (fun b1 w2 hb3 H4 K5 hs6 => ?_)
  have nb1 : w.heap.size ≤ b1 := by have := K0.size; omega
  have K7 := K0.trans K5 (U := none_) (fun i h1 h2 => h2) (fun i h1 h2 => by exact h2)
  clear K0
  clear K5 hs6
  refine Ops.new (o := rowL [(i64 on.kind), (Value.string (str on.frm)), (Value.string (str on.to)), (i64 on.amount), (Value.string (str on.key)), (i64 on.slot), (i64 on.shard)] 43) (V := fun b => (Value.pointer (some ⟨b, 0, none⟩))) (by kernel_rfl) (d := (some 7)) (by kernel_rfl) (fun b => rfl) (fun b8 w9 hb10 H11 K12 hs13 => ?_)
  have lb8b1 : b1 < b8 := by have := H4.lt; omega
  have nb8 : w.heap.size ≤ b8 := by have := K7.size; omega
  have K14 := K7.trans K12 (U := none_) (fun i h1 h2 => h2) (fun i h1 h2 => by exact h2)
  clear K7
  have H15 := H4.keep K12 (fun h => h)
  clear H4
  clear K12 hs13
  refine Ops.new (o := rowL [(i64 p.why), (i64 p.amount), (Value.slice A p.rows.length c)] 46) (V := fun b => (Value.pointer (some ⟨b, 0, none⟩))) (by kernel_rfl) (d := (some 8)) (by kernel_rfl) (fun b => rfl) (fun b16 w17 hb18 H19 K20 hs21 => ?_)
  have lb16b1 : b1 < b16 := by have := H15.lt; omega
  have lb16b8 : b8 < b16 := by have := H11.lt; omega
  have nb16 : w.heap.size ≤ b16 := by have := K14.size; omega
  have K22 := K14.trans K20 (U := none_) (fun i h1 h2 => h2) (fun i h1 h2 => by exact h2)
  clear K14
  have H23 := H15.keep K20 (fun h => h)
  clear H15
  have H24 := H11.keep K20 (fun h => h)
  clear H11
  clear K20 hs21
  refine Ops.new (o := rowL [(i64 q.why), (i64 q.amount), (Value.slice B q.rows.length d)] 46) (V := fun b => (Value.pointer (some ⟨b, 0, none⟩))) (by kernel_rfl) (d := (some 9)) (by kernel_rfl) (fun b => rfl) (fun b25 w26 hb27 H28 K29 hs30 => ?_)
  have lb25b1 : b1 < b25 := by have := H23.lt; omega
  have lb25b8 : b8 < b25 := by have := H24.lt; omega
  have lb25b16 : b16 < b25 := by have := H19.lt; omega
  have nb25 : w.heap.size ≤ b25 := by have := K22.size; omega
  have K31 := K22.trans K29 (U := none_) (fun i h1 h2 => h2) (fun i h1 h2 => by exact h2)
  clear K22
  have H32 := H23.keep K29 (fun h => h)
  clear H23
  have H33 := H24.keep K29 (fun h => h)
  clear H24
  have H34 := H19.keep K29 (fun h => h)
  clear H19
  clear K29 hs30
  refine Ops.new (o := rowL [(i64 m.kind), (i64 m.group), (i64 m.frm), (i64 m.to), (i64 m.term), (i64 m.index), (i64 m.logTerm), (i64 m.commit), (Value.bool m.ok), (Value.slice E m.entries.length ec), (Value.slice D m.data.length dc)] 49) (V := fun b => (Value.pointer (some ⟨b, 0, none⟩))) (by kernel_rfl) (d := (some 10)) (by kernel_rfl) (fun b => rfl) (fun b35 w36 hb37 H38 K39 hs40 => ?_)
  have lb35b1 : b1 < b35 := by have := H32.lt; omega
  have lb35b8 : b8 < b35 := by have := H33.lt; omega
  have lb35b16 : b16 < b35 := by have := H34.lt; omega
  have lb35b25 : b25 < b35 := by have := H28.lt; omega
  have nb35 : w.heap.size ≤ b35 := by have := K31.size; omega
  have K41 := K31.trans K39 (U := none_) (fun i h1 h2 => h2) (fun i h1 h2 => by exact h2)
  clear K31
  have H42 := H32.keep K39 (fun h => h)
  clear H32
  have H43 := H33.keep K39 (fun h => h)
  clear H33
  have H44 := H34.keep K39 (fun h => h)
  clear H34
  have H45 := H28.keep K39 (fun h => h)
  clear H28
  clear K39 hs40
  refine Ops.new (o := rowL [(i64 n.kind), (i64 n.group), (i64 n.frm), (i64 n.to), (i64 n.term), (i64 n.index), (i64 n.logTerm), (i64 n.commit), (Value.bool n.ok), (Value.slice G n.entries.length gc), (Value.slice F n.data.length fc)] 49) (V := fun b => (Value.pointer (some ⟨b, 0, none⟩))) (by kernel_rfl) (d := (some 11)) (by kernel_rfl) (fun b => rfl) (fun b46 w47 hb48 H49 K50 hs51 => ?_)
  have lb46b1 : b1 < b46 := by have := H42.lt; omega
  have lb46b8 : b8 < b46 := by have := H43.lt; omega
  have lb46b16 : b16 < b46 := by have := H44.lt; omega
  have lb46b25 : b25 < b46 := by have := H45.lt; omega
  have lb46b35 : b35 < b46 := by have := H38.lt; omega
  have nb46 : w.heap.size ≤ b46 := by have := K41.size; omega
  have K52 := K41.trans K50 (U := none_) (fun i h1 h2 => h2) (fun i h1 h2 => by exact h2)
  clear K41
  have H53 := H42.keep K50 (fun h => h)
  clear H42
  have H54 := H43.keep K50 (fun h => h)
  clear H43
  have H55 := H44.keep K50 (fun h => h)
  clear H44
  have H56 := H45.keep K50 (fun h => h)
  clear H45
  have H57 := H38.keep K50 (fun h => h)
  clear H38
  clear K50 hs51
  refine Ops.regs 1 [(6, (Value.pointer (some ⟨b1, 0, none⟩))), (7, (Value.pointer (some ⟨b8, 0, none⟩))), (8, (Value.pointer (some ⟨b16, 0, none⟩))), (9, (Value.pointer (some ⟨b25, 0, none⟩))), (10, (Value.pointer (some ⟨b35, 0, none⟩))), (11, (Value.pointer (some ⟨b46, 0, none⟩))), (12, (Value.bool false))] (j := 7) (by kernel_rfl) (by kernel_rfl) ?_
  refine Ops.done (by kernel_rfl) ?_
  refine q_seq (by kernel_rfl) ?_
  refine q_region (by kernel_rfl) ?_
  refine Ops.go (v := (agg [(i64 m.kind), (i64 m.group), (i64 m.frm), (i64 m.to), (i64 m.term), (i64 m.index), (i64 m.logTerm), (i64 m.commit), (Value.bool m.ok), (Value.slice E m.entries.length ec), (Value.slice D m.data.length dc)])) (by kernel_rfl) (Runs.load (t := 49) (a := ⟨b35, 0, none⟩) (by kernel_rfl) (H57.loads (by kernel_rfl))) (d := (some 18)) (by kernel_rfl) rfl ?_
  refine Ops.call (by kernel_rfl) (d := (some 19)) (by kernel_rfl) (Msg_calls _ m E ec D dc hm (hE.keep0 (by omega) K52) (hC.keep K52) (hD.keep0 (by omega) K52) ) ?_
  rintro _ w61 ⟨v58, er59, out60, rfl, K62, hO63, hc65⟩
  have O64 := own_base hO63 K52.size
  clear hO63
  refine ⟨_, _, rfl, rfl, ?_⟩
  have K66 := K52.trans K62 (U := none_) (fun i h1 h2 => h2) (fun i h1 h2 => by exact h2)
  clear K52
  have H67 := H53.keep K62 (fun h => h)
  clear H53
  have H68 := H54.keep K62 (fun h => h)
  clear H54
  have H69 := H55.keep K62 (fun h => h)
  clear H55
  have H70 := H56.keep K62 (fun h => h)
  clear H56
  have H71 := H57.keep K62 (fun h => h)
  clear H57
  have H72 := H49.keep K62 (fun h => h)
  clear H49
  clear K62
  refine Ops.regs 5 [(6, (Value.pointer (some ⟨b1, 0, none⟩))), (7, (Value.pointer (some ⟨b8, 0, none⟩))), (8, (Value.pointer (some ⟨b16, 0, none⟩))), (9, (Value.pointer (some ⟨b25, 0, none⟩))), (10, (Value.pointer (some ⟨b35, 0, none⟩))), (11, (Value.pointer (some ⟨b46, 0, none⟩))), (12, (Value.bool false)), (13, v58), (14, (i64 er59))] (j := 7) (by kernel_rfl) (by kernel_rfl) ?_
  refine Ops.done (by kernel_rfl) ?_
  refine q_seq (by kernel_rfl) ?_
  refine q_region (by kernel_rfl) ?_
  refine Ops.go (v := (agg [(i64 n.kind), (i64 n.group), (i64 n.frm), (i64 n.to), (i64 n.term), (i64 n.index), (i64 n.logTerm), (i64 n.commit), (Value.bool n.ok), (Value.slice G n.entries.length gc), (Value.slice F n.data.length fc)])) (by kernel_rfl) (Runs.load (t := 49) (a := ⟨b46, 0, none⟩) (by kernel_rfl) (H72.loads (by kernel_rfl))) (d := (some 23)) (by kernel_rfl) rfl ?_
  refine Ops.call (by kernel_rfl) (d := (some 24)) (by kernel_rfl) (Msg_calls _ n G gc F fc hn (hG.keep0 (by omega) K66) (hCn.keep K66) (hF.keep0 (by omega) K66) ) ?_
  rintro _ w76 ⟨v73, er74, out75, rfl, K77, hO78, hc80⟩
  have O79 := own_base hO78 K66.size
  clear hO78
  refine ⟨_, _, rfl, rfl, ?_⟩
  have K81 := K66.trans K77 (U := none_) (fun i h1 h2 => h2) (fun i h1 h2 => by exact h2)
  clear K66
  have H82 := H67.keep K77 (fun h => h)
  clear H67
  have H83 := H68.keep K77 (fun h => h)
  clear H68
  have H84 := H69.keep K77 (fun h => h)
  clear H69
  have H85 := H70.keep K77 (fun h => h)
  clear H70
  have H86 := H71.keep K77 (fun h => h)
  clear H71
  have H87 := H72.keep K77 (fun h => h)
  clear H72
  have F88 := own_keep0 O64 K77
  clear O64
  clear K77
  refine Ops.regs 5 [(6, (Value.pointer (some ⟨b1, 0, none⟩))), (7, (Value.pointer (some ⟨b8, 0, none⟩))), (8, (Value.pointer (some ⟨b16, 0, none⟩))), (9, (Value.pointer (some ⟨b25, 0, none⟩))), (10, (Value.pointer (some ⟨b35, 0, none⟩))), (11, (Value.pointer (some ⟨b46, 0, none⟩))), (12, (Value.bool false)), (13, v58), (14, (i64 er59)), (15, v73), (16, (i64 er74))] (j := 7) (by kernel_rfl) (by kernel_rfl) ?_
  refine Ops.done (by kernel_rfl) ?_
  refine q_seq (by kernel_rfl) ?_
  refine q_seq (by kernel_rfl) ?_
  refine q_draw (fun wz => Keeps none_ w76 wz) 17 (by kernel_rfl) (by kernel_rfl) (by kernel_rfl) (fun w89 K90 _ _ => ⟨K90, ?_⟩)
  have K91 := K81.trans K90 (U := none_) (fun i h1 h2 => h2) (fun i h1 h2 => by exact h2)
  clear K81
  have H92 := H82.keep K90 (fun h => h)
  clear H82
  have H93 := H83.keep K90 (fun h => h)
  clear H83
  have H94 := H84.keep K90 (fun h => h)
  clear H84
  have H95 := H85.keep K90 (fun h => h)
  clear H85
  have H96 := H86.keep K90 (fun h => h)
  clear H86
  have H97 := H87.keep K90 (fun h => h)
  clear H87
  have F98 := own_keep0 F88 K90
  clear F88
  have F99 := own_keep0 O79 K90
  clear O79
  refine Dr.strong (S' := (fun wz => Keeps none_ w89 wz)) (Keeps.refl w89) (fun wz hx => K90.trans hx (fun i _ h => h) (fun _ _ h => h)) ?_
  clear K90
  refine Dr.takes (fuel' := 14) (is' := [2, 1, 0]) [0, 1, 2] [(6, (Value.pointer (some ⟨b1, 0, none⟩))), (7, (Value.pointer (some ⟨b8, 0, none⟩))), (8, (Value.pointer (some ⟨b16, 0, none⟩))), (9, (Value.pointer (some ⟨b25, 0, none⟩))), (10, (Value.pointer (some ⟨b35, 0, none⟩))), (11, (Value.pointer (some ⟨b46, 0, none⟩))), (12, (Value.bool false)), (13, v58), (15, v73), (16, (i64 er74)), (29, (Value.bool (er59 == 0)))] (by kernel_rfl) rfl (by kernel_rfl) ?_
  refine Dr.split (er59 == 0) (fun h100 => ?_) (fun h100 => ?_)
  · rw [h100]
    have p101 : er59 = 0 := of_beq_t h100
    refine Dr.takes (fuel' := 10) (is' := [6, 5, 4, 3, 2, 1, 0]) [3, 4, 5, 6] [(6, (Value.pointer (some ⟨b1, 0, none⟩))), (7, (Value.pointer (some ⟨b8, 0, none⟩))), (8, (Value.pointer (some ⟨b16, 0, none⟩))), (9, (Value.pointer (some ⟨b25, 0, none⟩))), (10, (Value.pointer (some ⟨b35, 0, none⟩))), (11, (Value.pointer (some ⟨b46, 0, none⟩))), (12, (Value.bool false)), (13, v58), (15, v73), (33, (Value.bool (er74 == 0)))] (by kernel_rfl) rfl (by kernel_rfl) ?_
    refine Dr.split (er74 == 0) (fun h102 => ?_) (fun h102 => ?_)
    · rw [h102]
      have p103 : er74 = 0 := of_beq_t h102
      refine Dr.takes (fuel' := 9) (is' := [7, 6, 5, 4, 3, 2, 1, 0]) [7] [(6, (Value.pointer (some ⟨b1, 0, none⟩))), (7, (Value.pointer (some ⟨b8, 0, none⟩))), (8, (Value.pointer (some ⟨b16, 0, none⟩))), (9, (Value.pointer (some ⟨b25, 0, none⟩))), (10, (Value.pointer (some ⟨b35, 0, none⟩))), (11, (Value.pointer (some ⟨b46, 0, none⟩))), (12, (Value.bool false)), (15, v73), (33, (Value.bool true)), (34, v58)] (by kernel_rfl) rfl (by kernel_rfl) ?_
      refine Dr.take (i := 8) (v := (Value.string (str out60))) (by kernel_rfl) (by kernel_rfl) (fun wz hS => Runs.b2s (s := 23) (d := 9) (e := 5) (by kernel_rfl) (by kernel_rfl) (by kernel_rfl) (Rd.keep0 (by omega) (OwnB.rd F98) hS)) (d := (some 35)) (by kernel_rfl) rfl ?_
      refine Dr.takes (fuel' := 7) (is' := [9, 8, 7, 6, 5, 4, 3, 2, 1, 0]) [9] [(6, (Value.pointer (some ⟨b1, 0, none⟩))), (7, (Value.pointer (some ⟨b8, 0, none⟩))), (8, (Value.pointer (some ⟨b16, 0, none⟩))), (9, (Value.pointer (some ⟨b25, 0, none⟩))), (10, (Value.pointer (some ⟨b35, 0, none⟩))), (11, (Value.pointer (some ⟨b46, 0, none⟩))), (12, (Value.bool false)), (33, (Value.bool true)), (35, (Value.string (str out60))), (36, v73)] (by kernel_rfl) rfl (by kernel_rfl) ?_
      refine Dr.take (i := 10) (v := (Value.string (str out75))) (by kernel_rfl) (by kernel_rfl) (fun wz hS => Runs.b2s (s := 23) (d := 9) (e := 5) (by kernel_rfl) (by kernel_rfl) (by kernel_rfl) (Rd.keep0 (by omega) (OwnB.rd F99) hS)) (d := (some 37)) (by kernel_rfl) rfl ?_
      refine Dr.take (i := 11) (v := (Value.bool (out60 == out75))) (by kernel_rfl) (by kernel_rfl) (fun wz hS => Runs.streq (t := 9) (by kernel_rfl)) (d := (some 38)) (by kernel_rfl) rfl ?_
      refine Dr.take (i := 12) (v := (agg [(i64 m.kind), (i64 m.group), (i64 m.frm), (i64 m.to), (i64 m.term), (i64 m.index), (i64 m.logTerm), (i64 m.commit), (Value.bool m.ok), (Value.slice E m.entries.length ec), (Value.slice D m.data.length dc)])) (by kernel_rfl) (by kernel_rfl) (fun wz hS => Runs.load (t := 49) (a := ⟨b35, 0, none⟩) (by kernel_rfl) ((H96.keep hS (fun h => h)).loads (by kernel_rfl))) (d := (some 39)) (by kernel_rfl) rfl ?_
      refine Dr.take (i := 13) (v := (agg [(i64 n.kind), (i64 n.group), (i64 n.frm), (i64 n.to), (i64 n.term), (i64 n.index), (i64 n.logTerm), (i64 n.commit), (Value.bool n.ok), (Value.slice G n.entries.length gc), (Value.slice F n.data.length fc)])) (by kernel_rfl) (by kernel_rfl) (fun wz hS => Runs.load (t := 49) (a := ⟨b46, 0, none⟩) (by kernel_rfl) ((H97.keep hS (fun h => h)).loads (by kernel_rfl))) (d := (some 40)) (by kernel_rfl) rfl ?_
      refine Dr.call (i := 14) (by kernel_rfl) (by kernel_rfl) (d := (some 41)) (by kernel_rfl) (fun _ => SameMsg_calls _ m E ec D dc n G gc F fc (hE.keep0 (by omega) K91) (hC.keep K91) (hD.keep0 (by omega) K91) (hG.keep0 (by omega) K91) (hCn.keep K91) (hF.keep0 (by omega) K91)) ?_
      rintro _ w107 ⟨t104, rfl, ht105, K106⟩
      have K108 := K91.trans K106 (U := none_) (fun i h1 h2 => h2) (fun i h1 h2 => by exact h2)
      clear K91
      have H109 := H92.keep K106 (fun h => h)
      clear H92
      have H110 := H93.keep K106 (fun h => h)
      clear H93
      have H111 := H94.keep K106 (fun h => h)
      clear H94
      have H112 := H95.keep K106 (fun h => h)
      clear H95
      have H113 := H96.keep K106 (fun h => h)
      clear H96
      have H114 := H97.keep K106 (fun h => h)
      clear H97
      have F115 := own_keep0 F98 K106
      clear F98
      have F116 := own_keep0 F99 K106
      clear F99
      refine ⟨_, _, rfl, rfl, K106, ?_⟩
      refine Dr.strong (S' := (fun wz => Keeps none_ w107 wz)) (Keeps.refl w107) (fun wz hx => K106.trans hx (fun i _ h => h) (fun _ _ h => h)) ?_
      clear K106
      refine Dr.split (out60 == out75) (fun h117 => ?_) (fun h117 => ?_)
      · rw [h117]
        have p118 : (out60 == out75) = true := h117
        have hx1 : m.Fits ∧ out60 = msgv m := by rcases hc65 with ⟨a, b, c⟩ | ⟨a, b, c⟩; (exact ⟨a, c⟩); (exfalso; omega)
        have hx2 : n.Fits ∧ out75 = msgv n := by rcases hc80 with ⟨a, b, c⟩ | ⟨a, b, c⟩; (exact ⟨a, c⟩); (exfalso; omega)
        have hsm : m.Same n := msgv_inj hm hn hx1.1 hx2.1 (by rw [← hx1.2, ← hx2.2]; exact eq_of_beq h117)
        have h119 : t104 = true := ht105.2 hsm
        rw [h119]
        refine Dr.takes (fuel' := 0) (is' := [16, 15, 14, 13, 12, 11, 10, 9, 8, 7, 6, 5, 4, 3, 2, 1, 0]) [15, 16] [(6, (Value.pointer (some ⟨b1, 0, none⟩))), (7, (Value.pointer (some ⟨b8, 0, none⟩))), (8, (Value.pointer (some ⟨b16, 0, none⟩))), (9, (Value.pointer (some ⟨b25, 0, none⟩))), (12, (Value.bool false)), (43, (Value.bool false))] (by kernel_rfl) rfl (by kernel_rfl) ?_
        refine Dr.done (by kernel_rfl) ?_
        refine q_else (o := .tmp 43) (by kernel_rfl) rfl ?_
        refine q_skip (by kernel_rfl) ?_
        refine q_seq (by kernel_rfl) ?_
        refine q_draw (fun wz => Keeps none_ w107 wz) 28 (by kernel_rfl) (by kernel_rfl) (by kernel_rfl) (fun w120 K121 _ _ => ⟨K121, ?_⟩)
        have K122 := K108.trans K121 (U := none_) (fun i h1 h2 => h2) (fun i h1 h2 => by exact h2)
        clear K108
        have H123 := H109.keep K121 (fun h => h)
        clear H109
        have H124 := H110.keep K121 (fun h => h)
        clear H110
        have H125 := H111.keep K121 (fun h => h)
        clear H111
        have H126 := H112.keep K121 (fun h => h)
        clear H112
        have H127 := H113.keep K121 (fun h => h)
        clear H113
        have H128 := H114.keep K121 (fun h => h)
        clear H114
        have F129 := own_keep0 F115 K121
        clear F115
        have F130 := own_keep0 F116 K121
        clear F116
        refine Dr.strong (S' := (fun wz => Keeps none_ w120 wz)) (Keeps.refl w120) (fun wz hx => K121.trans hx (fun i _ h => h) (fun _ _ h => h)) ?_
        clear K121
        refine Dr.take (i := 0) (v := (agg [(i64 om.kind), (Value.string (str om.frm)), (Value.string (str om.to)), (i64 om.amount), (Value.string (str om.key)), (i64 om.slot), (i64 om.shard)])) (by kernel_rfl) (by kernel_rfl) (fun wz hS => Runs.load (t := 43) (a := ⟨b1, 0, none⟩) (by kernel_rfl) ((H123.keep hS (fun h => h)).loads (by kernel_rfl))) (d := (some 44)) (by kernel_rfl) rfl ?_
        refine Dr.take (i := 3) (v := (agg [(i64 on.kind), (Value.string (str on.frm)), (Value.string (str on.to)), (i64 on.amount), (Value.string (str on.key)), (i64 on.slot), (i64 on.shard)])) (by kernel_rfl) (by kernel_rfl) (fun wz hS => Runs.load (t := 43) (a := ⟨b8, 0, none⟩) (by kernel_rfl) ((H124.keep hS (fun h => h)).loads (by kernel_rfl))) (d := (some 47)) (by kernel_rfl) rfl ?_
        refine Dr.take (i := 7) (v := (agg [(i64 om.kind), (Value.string (str om.frm)), (Value.string (str om.to)), (i64 om.amount), (Value.string (str om.key)), (i64 om.slot), (i64 om.shard)])) (by kernel_rfl) (by kernel_rfl) (fun wz hS => Runs.load (t := 43) (a := ⟨b1, 0, none⟩) (by kernel_rfl) ((H123.keep hS (fun h => h)).loads (by kernel_rfl))) (d := (some 51)) (by kernel_rfl) rfl ?_
        refine Dr.take (i := 8) (v := (agg [(i64 on.kind), (Value.string (str on.frm)), (Value.string (str on.to)), (i64 on.amount), (Value.string (str on.key)), (i64 on.slot), (i64 on.shard)])) (by kernel_rfl) (by kernel_rfl) (fun wz hS => Runs.load (t := 43) (a := ⟨b8, 0, none⟩) (by kernel_rfl) ((H124.keep hS (fun h => h)).loads (by kernel_rfl))) (d := (some 52)) (by kernel_rfl) rfl ?_
        refine Dr.take (i := 9) (v := (Value.bool (aggB [(i64 om.kind), (Value.string (str om.frm)), (Value.string (str om.to)), (i64 om.amount), (Value.string (str om.key)), (i64 om.slot), (i64 om.shard)] [(i64 on.kind), (Value.string (str on.frm)), (Value.string (str on.to)), (i64 on.amount), (Value.string (str on.key)), (i64 on.slot), (i64 on.shard)]))) (by kernel_rfl) (by kernel_rfl) (fun wz hS => Runs.aggeq (t := 43) (by kernel_rfl) (by kernel_rfl)) (d := (some 53)) (by kernel_rfl) rfl ?_
        refine Dr.call (i := 1) (by kernel_rfl) (by kernel_rfl) (d := (some 45)) (by kernel_rfl) (fun _ => PutOp_calls _ (Value.slice none 0 0) [] om (Rd.nil _ _) hom (by (try simp only at *); (try simp only [List.length_append] at *); (try simp only [List.length_cons] at *); (try simp only [List.length_nil] at *); omega)) ?_
        rintro _ w132 ⟨v131, rfl, K133, hO134⟩
        have ob136 : ∀ i, (v131).ownBlock = some i → i ≠ b1 := fun i hi => by have := (World.ownsRow.lt hO134 i hi).1; have := H123.lt; omega
        have ob137 : ∀ i, (v131).ownBlock = some i → i ≠ b8 := fun i hi => by have := (World.ownsRow.lt hO134 i hi).1; have := H124.lt; omega
        have ob138 : ∀ i, (v131).ownBlock = some i → i ≠ b16 := fun i hi => by have := (World.ownsRow.lt hO134 i hi).1; have := H125.lt; omega
        have ob139 : ∀ i, (v131).ownBlock = some i → i ≠ b25 := fun i hi => by have := (World.ownsRow.lt hO134 i hi).1; have := H126.lt; omega
        have ob140 : ∀ i, (v131).ownBlock = some i → i ≠ b35 := fun i hi => by have := (World.ownsRow.lt hO134 i hi).1; have := H127.lt; omega
        have ob141 : ∀ i, (v131).ownBlock = some i → i ≠ b46 := fun i hi => by have := (World.ownsRow.lt hO134 i hi).1; have := H128.lt; omega
        have oo142 : ∀ i, (v58).ownBlock = some i → (v131).ownBlock = some i → False := fun i hi hs => by have := (World.ownsRow.lt hO134 i hs).1; have := (World.ownsRow.lt F129 i hi).2; omega
        have oo143 : ∀ i, (v131).ownBlock = some i → (v58).ownBlock = some i → False := fun i hi hs => oo142 i hs hi
        have oo144 : ∀ i, (v73).ownBlock = some i → (v131).ownBlock = some i → False := fun i hi hs => by have := (World.ownsRow.lt hO134 i hs).1; have := (World.ownsRow.lt F130 i hi).2; omega
        have oo145 : ∀ i, (v131).ownBlock = some i → (v73).ownBlock = some i → False := fun i hi hs => oo144 i hs hi
        have O135 : OwnB w132 w.heap.size _ v131 (opv om) := own_base hO134 K122.size
        clear hO134
        have K146 := K122.trans K133 (U := none_) (fun i h1 h2 => h2) (fun i h1 h2 => by exact h2)
        clear K122
        have H147 := H123.keep K133 (fun h => h)
        clear H123
        have H148 := H124.keep K133 (fun h => h)
        clear H124
        have H149 := H125.keep K133 (fun h => h)
        clear H125
        have H150 := H126.keep K133 (fun h => h)
        clear H126
        have H151 := H127.keep K133 (fun h => h)
        clear H127
        have H152 := H128.keep K133 (fun h => h)
        clear H128
        have F153 := own_keep0 F129 K133
        clear F129
        have F154 := own_keep0 F130 K133
        clear F130
        refine ⟨_, _, rfl, rfl, K133, ?_⟩
        refine Dr.strong (S' := (fun wz => Keeps none_ w132 wz)) (Keeps.refl w132) (fun wz hx => K133.trans hx (fun i _ h => h) (fun _ _ h => h)) ?_
        clear K133
        refine Dr.take (i := 2) (v := (Value.string (str (opv om)))) (by kernel_rfl) (by kernel_rfl) (fun wz hS => Runs.b2s (s := 23) (d := 9) (e := 5) (by kernel_rfl) (by kernel_rfl) (by kernel_rfl) (Rd.keep0 (by omega) (OwnB.rd O135) hS)) (d := (some 46)) (by kernel_rfl) rfl ?_
        refine Dr.call (i := 4) (by kernel_rfl) (by kernel_rfl) (d := (some 48)) (by kernel_rfl) (fun _ => PutOp_calls _ (Value.slice none 0 0) [] on (Rd.nil _ _) hon (by (try simp only at *); (try simp only [List.length_append] at *); (try simp only [List.length_cons] at *); (try simp only [List.length_nil] at *); omega)) ?_
        rintro _ w156 ⟨v155, rfl, K157, hO158⟩
        have ob160 : ∀ i, (v155).ownBlock = some i → i ≠ b1 := fun i hi => by have := (World.ownsRow.lt hO158 i hi).1; have := H147.lt; omega
        have ob161 : ∀ i, (v155).ownBlock = some i → i ≠ b8 := fun i hi => by have := (World.ownsRow.lt hO158 i hi).1; have := H148.lt; omega
        have ob162 : ∀ i, (v155).ownBlock = some i → i ≠ b16 := fun i hi => by have := (World.ownsRow.lt hO158 i hi).1; have := H149.lt; omega
        have ob163 : ∀ i, (v155).ownBlock = some i → i ≠ b25 := fun i hi => by have := (World.ownsRow.lt hO158 i hi).1; have := H150.lt; omega
        have ob164 : ∀ i, (v155).ownBlock = some i → i ≠ b35 := fun i hi => by have := (World.ownsRow.lt hO158 i hi).1; have := H151.lt; omega
        have ob165 : ∀ i, (v155).ownBlock = some i → i ≠ b46 := fun i hi => by have := (World.ownsRow.lt hO158 i hi).1; have := H152.lt; omega
        have oo166 : ∀ i, (v58).ownBlock = some i → (v155).ownBlock = some i → False := fun i hi hs => by have := (World.ownsRow.lt hO158 i hs).1; have := (World.ownsRow.lt F153 i hi).2; omega
        have oo167 : ∀ i, (v155).ownBlock = some i → (v58).ownBlock = some i → False := fun i hi hs => oo166 i hs hi
        have oo168 : ∀ i, (v73).ownBlock = some i → (v155).ownBlock = some i → False := fun i hi hs => by have := (World.ownsRow.lt hO158 i hs).1; have := (World.ownsRow.lt F154 i hi).2; omega
        have oo169 : ∀ i, (v155).ownBlock = some i → (v73).ownBlock = some i → False := fun i hi hs => oo168 i hs hi
        have oo170 : ∀ i, (v131).ownBlock = some i → (v155).ownBlock = some i → False := fun i hi hs => by have := (World.ownsRow.lt hO158 i hs).1; have := (World.ownsRow.lt O135 i hi).2; omega
        have oo171 : ∀ i, (v155).ownBlock = some i → (v131).ownBlock = some i → False := fun i hi hs => oo170 i hs hi
        have O159 : OwnB w156 w.heap.size _ v155 (opv on) := own_base hO158 K146.size
        clear hO158
        have K172 := K146.trans K157 (U := none_) (fun i h1 h2 => h2) (fun i h1 h2 => by exact h2)
        clear K146
        have H173 := H147.keep K157 (fun h => h)
        clear H147
        have H174 := H148.keep K157 (fun h => h)
        clear H148
        have H175 := H149.keep K157 (fun h => h)
        clear H149
        have H176 := H150.keep K157 (fun h => h)
        clear H150
        have H177 := H151.keep K157 (fun h => h)
        clear H151
        have H178 := H152.keep K157 (fun h => h)
        clear H152
        have F179 := own_keep0 F153 K157
        clear F153
        have F180 := own_keep0 F154 K157
        clear F154
        have F181 := own_keep0 O135 K157
        clear O135
        refine ⟨_, _, rfl, rfl, K157, ?_⟩
        refine Dr.strong (S' := (fun wz => Keeps none_ w156 wz)) (Keeps.refl w156) (fun wz hx => K157.trans hx (fun i _ h => h) (fun _ _ h => h)) ?_
        clear K157
        refine Dr.take (i := 5) (v := (Value.string (str (opv on)))) (by kernel_rfl) (by kernel_rfl) (fun wz hS => Runs.b2s (s := 23) (d := 9) (e := 5) (by kernel_rfl) (by kernel_rfl) (by kernel_rfl) (Rd.keep0 (by omega) (OwnB.rd O159) hS)) (d := (some 49)) (by kernel_rfl) rfl ?_
        refine Dr.take (i := 6) (v := (Value.bool ((opv om) == (opv on)))) (by kernel_rfl) (by kernel_rfl) (fun wz hS => Runs.streq (t := 9) (by kernel_rfl)) (d := (some 50)) (by kernel_rfl) rfl ?_
        refine Dr.split ((opv om) == (opv on)) (fun h182 => ?_) (fun h182 => ?_)
        · rw [h182]
          have p183 : ((opv om) == (opv on)) = true := h182
          have hso : om = on := opv_inj hom hon (by omega) (by omega) (by omega) (by omega) (by omega) (by omega) (eq_of_beq h182)
          have h184 : (aggB [(i64 om.kind), (Value.string (str om.frm)), (Value.string (str om.to)), (i64 om.amount), (Value.string (str om.key)), (i64 om.slot), (i64 om.shard)] [(i64 on.kind), (Value.string (str on.frm)), (Value.string (str on.to)), (i64 on.amount), (Value.string (str on.key)), (i64 on.slot), (i64 on.shard)]) = true := (aggB_op om on).2 hso
          rw [h184]
          refine Dr.takes (fuel' := 16) (is' := [11, 10, 6, 5, 4, 2, 1, 9, 8, 7, 3, 0]) [10, 11] [(8, (Value.pointer (some ⟨b16, 0, none⟩))), (9, (Value.pointer (some ⟨b25, 0, none⟩))), (12, (Value.bool false)), (55, (Value.bool true))] (by kernel_rfl) rfl (by kernel_rfl) ?_
          refine Dr.take (i := 12) (v := (agg [(i64 p.why), (i64 p.amount), (Value.slice A p.rows.length c)])) (by kernel_rfl) (by kernel_rfl) (fun wz hS => Runs.load (t := 46) (a := ⟨b16, 0, none⟩) (by kernel_rfl) ((H175.keep hS (fun h => h)).loads (by kernel_rfl))) (d := (some 56)) (by kernel_rfl) rfl ?_
          refine Dr.take (i := 15) (v := (agg [(i64 q.why), (i64 q.amount), (Value.slice B q.rows.length d)])) (by kernel_rfl) (by kernel_rfl) (fun wz hS => Runs.load (t := 46) (a := ⟨b25, 0, none⟩) (by kernel_rfl) ((H176.keep hS (fun h => h)).loads (by kernel_rfl))) (d := (some 59)) (by kernel_rfl) rfl ?_
          refine Dr.take (i := 19) (v := (agg [(i64 p.why), (i64 p.amount), (Value.slice A p.rows.length c)])) (by kernel_rfl) (by kernel_rfl) (fun wz hS => Runs.load (t := 46) (a := ⟨b16, 0, none⟩) (by kernel_rfl) ((H175.keep hS (fun h => h)).loads (by kernel_rfl))) (d := (some 63)) (by kernel_rfl) rfl ?_
          refine Dr.take (i := 20) (v := (agg [(i64 q.why), (i64 q.amount), (Value.slice B q.rows.length d)])) (by kernel_rfl) (by kernel_rfl) (fun wz hS => Runs.load (t := 46) (a := ⟨b25, 0, none⟩) (by kernel_rfl) ((H176.keep hS (fun h => h)).loads (by kernel_rfl))) (d := (some 64)) (by kernel_rfl) rfl ?_
          refine Dr.call (i := 13) (by kernel_rfl) (by kernel_rfl) (d := (some 57)) (by kernel_rfl) (fun _ => PutReply_calls _ (Value.slice none 0 0) [] p A c (Rd.nil _ _) hpo (Rd.keep0 (by omega) hp K172) (by (try simp only at *); (try simp only [List.length_append] at *); (try simp only [List.length_cons] at *); (try simp only [List.length_nil] at *); omega)) ?_
          rintro _ w186 ⟨v185, rfl, K187, hO188⟩
          have ob190 : ∀ i, (v185).ownBlock = some i → i ≠ b1 := fun i hi => by have := (World.ownsRow.lt hO188 i hi).1; have := H173.lt; omega
          have ob191 : ∀ i, (v185).ownBlock = some i → i ≠ b8 := fun i hi => by have := (World.ownsRow.lt hO188 i hi).1; have := H174.lt; omega
          have ob192 : ∀ i, (v185).ownBlock = some i → i ≠ b16 := fun i hi => by have := (World.ownsRow.lt hO188 i hi).1; have := H175.lt; omega
          have ob193 : ∀ i, (v185).ownBlock = some i → i ≠ b25 := fun i hi => by have := (World.ownsRow.lt hO188 i hi).1; have := H176.lt; omega
          have ob194 : ∀ i, (v185).ownBlock = some i → i ≠ b35 := fun i hi => by have := (World.ownsRow.lt hO188 i hi).1; have := H177.lt; omega
          have ob195 : ∀ i, (v185).ownBlock = some i → i ≠ b46 := fun i hi => by have := (World.ownsRow.lt hO188 i hi).1; have := H178.lt; omega
          have oo196 : ∀ i, (v58).ownBlock = some i → (v185).ownBlock = some i → False := fun i hi hs => by have := (World.ownsRow.lt hO188 i hs).1; have := (World.ownsRow.lt F179 i hi).2; omega
          have oo197 : ∀ i, (v185).ownBlock = some i → (v58).ownBlock = some i → False := fun i hi hs => oo196 i hs hi
          have oo198 : ∀ i, (v73).ownBlock = some i → (v185).ownBlock = some i → False := fun i hi hs => by have := (World.ownsRow.lt hO188 i hs).1; have := (World.ownsRow.lt F180 i hi).2; omega
          have oo199 : ∀ i, (v185).ownBlock = some i → (v73).ownBlock = some i → False := fun i hi hs => oo198 i hs hi
          have oo200 : ∀ i, (v131).ownBlock = some i → (v185).ownBlock = some i → False := fun i hi hs => by have := (World.ownsRow.lt hO188 i hs).1; have := (World.ownsRow.lt F181 i hi).2; omega
          have oo201 : ∀ i, (v185).ownBlock = some i → (v131).ownBlock = some i → False := fun i hi hs => oo200 i hs hi
          have oo202 : ∀ i, (v155).ownBlock = some i → (v185).ownBlock = some i → False := fun i hi hs => by have := (World.ownsRow.lt hO188 i hs).1; have := (World.ownsRow.lt O159 i hi).2; omega
          have oo203 : ∀ i, (v185).ownBlock = some i → (v155).ownBlock = some i → False := fun i hi hs => oo202 i hs hi
          have O189 : OwnB w186 w.heap.size _ v185 (rpv p) := own_base hO188 K172.size
          clear hO188
          have K204 := K172.trans K187 (U := none_) (fun i h1 h2 => h2) (fun i h1 h2 => by exact h2)
          clear K172
          have H205 := H173.keep K187 (fun h => h)
          clear H173
          have H206 := H174.keep K187 (fun h => h)
          clear H174
          have H207 := H175.keep K187 (fun h => h)
          clear H175
          have H208 := H176.keep K187 (fun h => h)
          clear H176
          have H209 := H177.keep K187 (fun h => h)
          clear H177
          have H210 := H178.keep K187 (fun h => h)
          clear H178
          have F211 := own_keep0 F179 K187
          clear F179
          have F212 := own_keep0 F180 K187
          clear F180
          have F213 := own_keep0 F181 K187
          clear F181
          have F214 := own_keep0 O159 K187
          clear O159
          refine ⟨_, _, rfl, rfl, K187, ?_⟩
          refine Dr.strong (S' := (fun wz => Keeps none_ w186 wz)) (Keeps.refl w186) (fun wz hx => K187.trans hx (fun i _ h => h) (fun _ _ h => h)) ?_
          clear K187
          refine Dr.take (i := 14) (v := (Value.string (str (rpv p)))) (by kernel_rfl) (by kernel_rfl) (fun wz hS => Runs.b2s (s := 23) (d := 9) (e := 5) (by kernel_rfl) (by kernel_rfl) (by kernel_rfl) (Rd.keep0 (by omega) (OwnB.rd O189) hS)) (d := (some 58)) (by kernel_rfl) rfl ?_
          refine Dr.call (i := 16) (by kernel_rfl) (by kernel_rfl) (d := (some 60)) (by kernel_rfl) (fun _ => PutReply_calls _ (Value.slice none 0 0) [] q B d (Rd.nil _ _) hqo (Rd.keep0 (by omega) hq K204) (by (try simp only at *); (try simp only [List.length_append] at *); (try simp only [List.length_cons] at *); (try simp only [List.length_nil] at *); omega)) ?_
          rintro _ w216 ⟨v215, rfl, K217, hO218⟩
          have ob220 : ∀ i, (v215).ownBlock = some i → i ≠ b1 := fun i hi => by have := (World.ownsRow.lt hO218 i hi).1; have := H205.lt; omega
          have ob221 : ∀ i, (v215).ownBlock = some i → i ≠ b8 := fun i hi => by have := (World.ownsRow.lt hO218 i hi).1; have := H206.lt; omega
          have ob222 : ∀ i, (v215).ownBlock = some i → i ≠ b16 := fun i hi => by have := (World.ownsRow.lt hO218 i hi).1; have := H207.lt; omega
          have ob223 : ∀ i, (v215).ownBlock = some i → i ≠ b25 := fun i hi => by have := (World.ownsRow.lt hO218 i hi).1; have := H208.lt; omega
          have ob224 : ∀ i, (v215).ownBlock = some i → i ≠ b35 := fun i hi => by have := (World.ownsRow.lt hO218 i hi).1; have := H209.lt; omega
          have ob225 : ∀ i, (v215).ownBlock = some i → i ≠ b46 := fun i hi => by have := (World.ownsRow.lt hO218 i hi).1; have := H210.lt; omega
          have oo226 : ∀ i, (v58).ownBlock = some i → (v215).ownBlock = some i → False := fun i hi hs => by have := (World.ownsRow.lt hO218 i hs).1; have := (World.ownsRow.lt F211 i hi).2; omega
          have oo227 : ∀ i, (v215).ownBlock = some i → (v58).ownBlock = some i → False := fun i hi hs => oo226 i hs hi
          have oo228 : ∀ i, (v73).ownBlock = some i → (v215).ownBlock = some i → False := fun i hi hs => by have := (World.ownsRow.lt hO218 i hs).1; have := (World.ownsRow.lt F212 i hi).2; omega
          have oo229 : ∀ i, (v215).ownBlock = some i → (v73).ownBlock = some i → False := fun i hi hs => oo228 i hs hi
          have oo230 : ∀ i, (v131).ownBlock = some i → (v215).ownBlock = some i → False := fun i hi hs => by have := (World.ownsRow.lt hO218 i hs).1; have := (World.ownsRow.lt F213 i hi).2; omega
          have oo231 : ∀ i, (v215).ownBlock = some i → (v131).ownBlock = some i → False := fun i hi hs => oo230 i hs hi
          have oo232 : ∀ i, (v155).ownBlock = some i → (v215).ownBlock = some i → False := fun i hi hs => by have := (World.ownsRow.lt hO218 i hs).1; have := (World.ownsRow.lt F214 i hi).2; omega
          have oo233 : ∀ i, (v215).ownBlock = some i → (v155).ownBlock = some i → False := fun i hi hs => oo232 i hs hi
          have oo234 : ∀ i, (v185).ownBlock = some i → (v215).ownBlock = some i → False := fun i hi hs => by have := (World.ownsRow.lt hO218 i hs).1; have := (World.ownsRow.lt O189 i hi).2; omega
          have oo235 : ∀ i, (v215).ownBlock = some i → (v185).ownBlock = some i → False := fun i hi hs => oo234 i hs hi
          have O219 : OwnB w216 w.heap.size _ v215 (rpv q) := own_base hO218 K204.size
          clear hO218
          have K236 := K204.trans K217 (U := none_) (fun i h1 h2 => h2) (fun i h1 h2 => by exact h2)
          clear K204
          have H237 := H205.keep K217 (fun h => h)
          clear H205
          have H238 := H206.keep K217 (fun h => h)
          clear H206
          have H239 := H207.keep K217 (fun h => h)
          clear H207
          have H240 := H208.keep K217 (fun h => h)
          clear H208
          have H241 := H209.keep K217 (fun h => h)
          clear H209
          have H242 := H210.keep K217 (fun h => h)
          clear H210
          have F243 := own_keep0 F211 K217
          clear F211
          have F244 := own_keep0 F212 K217
          clear F212
          have F245 := own_keep0 F213 K217
          clear F213
          have F246 := own_keep0 F214 K217
          clear F214
          have F247 := own_keep0 O189 K217
          clear O189
          refine ⟨_, _, rfl, rfl, K217, ?_⟩
          refine Dr.strong (S' := (fun wz => Keeps none_ w216 wz)) (Keeps.refl w216) (fun wz hx => K217.trans hx (fun i _ h => h) (fun _ _ h => h)) ?_
          clear K217
          refine Dr.take (i := 17) (v := (Value.string (str (rpv q)))) (by kernel_rfl) (by kernel_rfl) (fun wz hS => Runs.b2s (s := 23) (d := 9) (e := 5) (by kernel_rfl) (by kernel_rfl) (by kernel_rfl) (Rd.keep0 (by omega) (OwnB.rd O219) hS)) (d := (some 61)) (by kernel_rfl) rfl ?_
          refine Dr.take (i := 18) (v := (Value.bool ((rpv p) == (rpv q)))) (by kernel_rfl) (by kernel_rfl) (fun wz hS => Runs.streq (t := 9) (by kernel_rfl)) (d := (some 62)) (by kernel_rfl) rfl ?_
          refine Dr.call (i := 21) (by kernel_rfl) (by kernel_rfl) (d := (some 65)) (by kernel_rfl) (fun _ => SameReply_calls _ A c p B d q (Rd.keep0 (by omega) hp K236) (Rd.keep0 (by omega) hq K236)) ?_
          rintro _ w251 ⟨t248, rfl, ht249, K250⟩
          have K252 := K236.trans K250 (U := none_) (fun i h1 h2 => h2) (fun i h1 h2 => by exact h2)
          clear K236
          have H253 := H237.keep K250 (fun h => h)
          clear H237
          have H254 := H238.keep K250 (fun h => h)
          clear H238
          have H255 := H239.keep K250 (fun h => h)
          clear H239
          have H256 := H240.keep K250 (fun h => h)
          clear H240
          have H257 := H241.keep K250 (fun h => h)
          clear H241
          have H258 := H242.keep K250 (fun h => h)
          clear H242
          have F259 := own_keep0 F243 K250
          clear F243
          have F260 := own_keep0 F244 K250
          clear F244
          have F261 := own_keep0 F245 K250
          clear F245
          have F262 := own_keep0 F246 K250
          clear F246
          have F263 := own_keep0 F247 K250
          clear F247
          have F264 := own_keep0 O219 K250
          clear O219
          refine ⟨_, _, rfl, rfl, K250, ?_⟩
          refine Dr.strong (S' := (fun wz => Keeps none_ w251 wz)) (Keeps.refl w251) (fun wz hx => K250.trans hx (fun i _ h => h) (fun _ _ h => h)) ?_
          clear K250
          refine Dr.split ((rpv p) == (rpv q)) (fun h265 => ?_) (fun h265 => ?_)
          · rw [h265]
            have p266 : ((rpv p) == (rpv q)) = true := h265
            have hsr : p = q := rpv_inj hpo hqo hpr hqr hpn hqn (eq_of_beq h265)
            have h267 : t248 = true := ht249.2 hsr
            rw [h267]
            refine Dr.takes (fuel' := 3) (is' := [24, 23, 22, 21, 18, 17, 16, 14, 13, 20, 19, 15, 12, 11, 10, 6, 5, 4, 2, 1, 9, 8, 7, 3, 0]) [22, 23, 24] [(12, (Value.bool false)), (68, (Value.bool true))] (by kernel_rfl) rfl (by kernel_rfl) ?_
            refine Dr.call (i := 25) (by kernel_rfl) (by kernel_rfl) (d := (some 69)) (by kernel_rfl) (fun _ => known_calls _) ?_
            rintro _ w268 ⟨rfl, K269⟩
            have K270 := K252.trans K269 (U := none_) (fun i h1 h2 => h2) (fun i h1 h2 => by exact h2)
            clear K252
            have H271 := H253.keep K269 (fun h => h)
            clear H253
            have H272 := H254.keep K269 (fun h => h)
            clear H254
            have H273 := H255.keep K269 (fun h => h)
            clear H255
            have H274 := H256.keep K269 (fun h => h)
            clear H256
            have H275 := H257.keep K269 (fun h => h)
            clear H257
            have H276 := H258.keep K269 (fun h => h)
            clear H258
            have F277 := own_keep0 F259 K269
            clear F259
            have F278 := own_keep0 F260 K269
            clear F260
            have F279 := own_keep0 F261 K269
            clear F261
            have F280 := own_keep0 F262 K269
            clear F262
            have F281 := own_keep0 F263 K269
            clear F263
            have F282 := own_keep0 F264 K269
            clear F264
            refine ⟨_, _, rfl, rfl, K269, ?_⟩
            refine Dr.strong (S' := (fun wz => Keeps none_ w268 wz)) (Keeps.refl w268) (fun wz hx => K269.trans hx (fun i _ h => h) (fun _ _ h => h)) ?_
            clear K269
            refine Dr.takes (fuel' := 0) (is' := [27, 26, 25, 24, 23, 22, 21, 18, 17, 16, 14, 13, 20, 19, 15, 12, 11, 10, 6, 5, 4, 2, 1, 9, 8, 7, 3, 0]) [26, 27] [(12, (Value.bool true))] (by kernel_rfl) rfl (by kernel_rfl) ?_
            refine Dr.done (by kernel_rfl) ?_
            refine q_ret (by kernel_rfl) ?_
            refine ⟨(Value.bool true), retv_tmp rfl rfl, ?_⟩
            exact ⟨rfl, K270⟩
          · rw [h265]
            have p283 : ((rpv p) == (rpv q)) = false := h265
            have hsr : p ≠ q := fun z => by rw [z] at h265; simp at h265
            have h284 : t248 = false := Bool.eq_false_iff.2 (fun h => hsr (ht249.1 h))
            rw [h284]
            refine Dr.takes (fuel' := 3) (is' := [24, 23, 22, 21, 18, 17, 16, 14, 13, 20, 19, 15, 12, 11, 10, 6, 5, 4, 2, 1, 9, 8, 7, 3, 0]) [22, 23, 24] [(12, (Value.bool false)), (68, (Value.bool true))] (by kernel_rfl) rfl (by kernel_rfl) ?_
            refine Dr.call (i := 25) (by kernel_rfl) (by kernel_rfl) (d := (some 69)) (by kernel_rfl) (fun _ => known_calls _) ?_
            rintro _ w285 ⟨rfl, K286⟩
            have K287 := K252.trans K286 (U := none_) (fun i h1 h2 => h2) (fun i h1 h2 => by exact h2)
            clear K252
            have H288 := H253.keep K286 (fun h => h)
            clear H253
            have H289 := H254.keep K286 (fun h => h)
            clear H254
            have H290 := H255.keep K286 (fun h => h)
            clear H255
            have H291 := H256.keep K286 (fun h => h)
            clear H256
            have H292 := H257.keep K286 (fun h => h)
            clear H257
            have H293 := H258.keep K286 (fun h => h)
            clear H258
            have F294 := own_keep0 F259 K286
            clear F259
            have F295 := own_keep0 F260 K286
            clear F260
            have F296 := own_keep0 F261 K286
            clear F261
            have F297 := own_keep0 F262 K286
            clear F262
            have F298 := own_keep0 F263 K286
            clear F263
            have F299 := own_keep0 F264 K286
            clear F264
            refine ⟨_, _, rfl, rfl, K286, ?_⟩
            refine Dr.strong (S' := (fun wz => Keeps none_ w285 wz)) (Keeps.refl w285) (fun wz hx => K286.trans hx (fun i _ h => h) (fun _ _ h => h)) ?_
            clear K286
            refine Dr.takes (fuel' := 0) (is' := [27, 26, 25, 24, 23, 22, 21, 18, 17, 16, 14, 13, 20, 19, 15, 12, 11, 10, 6, 5, 4, 2, 1, 9, 8, 7, 3, 0]) [26, 27] [(12, (Value.bool true))] (by kernel_rfl) rfl (by kernel_rfl) ?_
            refine Dr.done (by kernel_rfl) ?_
            refine q_ret (by kernel_rfl) ?_
            refine ⟨(Value.bool true), retv_tmp rfl rfl, ?_⟩
            exact ⟨rfl, K287⟩
        · rw [h182]
          have p300 : ((opv om) == (opv on)) = false := h182
          have hso : om ≠ on := fun q => by rw [q] at h182; simp at h182
          have h301 : (aggB [(i64 om.kind), (Value.string (str om.frm)), (Value.string (str om.to)), (i64 om.amount), (Value.string (str om.key)), (i64 om.slot), (i64 om.shard)] [(i64 on.kind), (Value.string (str on.frm)), (Value.string (str on.to)), (i64 on.amount), (Value.string (str on.key)), (i64 on.slot), (i64 on.shard)]) = false := Bool.eq_false_iff.2 (fun h => hso ((aggB_op om on).1 h))
          rw [h301]
          refine Dr.takes (fuel' := 16) (is' := [11, 10, 6, 5, 4, 2, 1, 9, 8, 7, 3, 0]) [10, 11] [(8, (Value.pointer (some ⟨b16, 0, none⟩))), (9, (Value.pointer (some ⟨b25, 0, none⟩))), (12, (Value.bool false)), (55, (Value.bool true))] (by kernel_rfl) rfl (by kernel_rfl) ?_
          refine Dr.take (i := 12) (v := (agg [(i64 p.why), (i64 p.amount), (Value.slice A p.rows.length c)])) (by kernel_rfl) (by kernel_rfl) (fun wz hS => Runs.load (t := 46) (a := ⟨b16, 0, none⟩) (by kernel_rfl) ((H175.keep hS (fun h => h)).loads (by kernel_rfl))) (d := (some 56)) (by kernel_rfl) rfl ?_
          refine Dr.take (i := 15) (v := (agg [(i64 q.why), (i64 q.amount), (Value.slice B q.rows.length d)])) (by kernel_rfl) (by kernel_rfl) (fun wz hS => Runs.load (t := 46) (a := ⟨b25, 0, none⟩) (by kernel_rfl) ((H176.keep hS (fun h => h)).loads (by kernel_rfl))) (d := (some 59)) (by kernel_rfl) rfl ?_
          refine Dr.take (i := 19) (v := (agg [(i64 p.why), (i64 p.amount), (Value.slice A p.rows.length c)])) (by kernel_rfl) (by kernel_rfl) (fun wz hS => Runs.load (t := 46) (a := ⟨b16, 0, none⟩) (by kernel_rfl) ((H175.keep hS (fun h => h)).loads (by kernel_rfl))) (d := (some 63)) (by kernel_rfl) rfl ?_
          refine Dr.take (i := 20) (v := (agg [(i64 q.why), (i64 q.amount), (Value.slice B q.rows.length d)])) (by kernel_rfl) (by kernel_rfl) (fun wz hS => Runs.load (t := 46) (a := ⟨b25, 0, none⟩) (by kernel_rfl) ((H176.keep hS (fun h => h)).loads (by kernel_rfl))) (d := (some 64)) (by kernel_rfl) rfl ?_
          refine Dr.call (i := 13) (by kernel_rfl) (by kernel_rfl) (d := (some 57)) (by kernel_rfl) (fun _ => PutReply_calls _ (Value.slice none 0 0) [] p A c (Rd.nil _ _) hpo (Rd.keep0 (by omega) hp K172) (by (try simp only at *); (try simp only [List.length_append] at *); (try simp only [List.length_cons] at *); (try simp only [List.length_nil] at *); omega)) ?_
          rintro _ w303 ⟨v302, rfl, K304, hO305⟩
          have ob307 : ∀ i, (v302).ownBlock = some i → i ≠ b1 := fun i hi => by have := (World.ownsRow.lt hO305 i hi).1; have := H173.lt; omega
          have ob308 : ∀ i, (v302).ownBlock = some i → i ≠ b8 := fun i hi => by have := (World.ownsRow.lt hO305 i hi).1; have := H174.lt; omega
          have ob309 : ∀ i, (v302).ownBlock = some i → i ≠ b16 := fun i hi => by have := (World.ownsRow.lt hO305 i hi).1; have := H175.lt; omega
          have ob310 : ∀ i, (v302).ownBlock = some i → i ≠ b25 := fun i hi => by have := (World.ownsRow.lt hO305 i hi).1; have := H176.lt; omega
          have ob311 : ∀ i, (v302).ownBlock = some i → i ≠ b35 := fun i hi => by have := (World.ownsRow.lt hO305 i hi).1; have := H177.lt; omega
          have ob312 : ∀ i, (v302).ownBlock = some i → i ≠ b46 := fun i hi => by have := (World.ownsRow.lt hO305 i hi).1; have := H178.lt; omega
          have oo313 : ∀ i, (v58).ownBlock = some i → (v302).ownBlock = some i → False := fun i hi hs => by have := (World.ownsRow.lt hO305 i hs).1; have := (World.ownsRow.lt F179 i hi).2; omega
          have oo314 : ∀ i, (v302).ownBlock = some i → (v58).ownBlock = some i → False := fun i hi hs => oo313 i hs hi
          have oo315 : ∀ i, (v73).ownBlock = some i → (v302).ownBlock = some i → False := fun i hi hs => by have := (World.ownsRow.lt hO305 i hs).1; have := (World.ownsRow.lt F180 i hi).2; omega
          have oo316 : ∀ i, (v302).ownBlock = some i → (v73).ownBlock = some i → False := fun i hi hs => oo315 i hs hi
          have oo317 : ∀ i, (v131).ownBlock = some i → (v302).ownBlock = some i → False := fun i hi hs => by have := (World.ownsRow.lt hO305 i hs).1; have := (World.ownsRow.lt F181 i hi).2; omega
          have oo318 : ∀ i, (v302).ownBlock = some i → (v131).ownBlock = some i → False := fun i hi hs => oo317 i hs hi
          have oo319 : ∀ i, (v155).ownBlock = some i → (v302).ownBlock = some i → False := fun i hi hs => by have := (World.ownsRow.lt hO305 i hs).1; have := (World.ownsRow.lt O159 i hi).2; omega
          have oo320 : ∀ i, (v302).ownBlock = some i → (v155).ownBlock = some i → False := fun i hi hs => oo319 i hs hi
          have O306 : OwnB w303 w.heap.size _ v302 (rpv p) := own_base hO305 K172.size
          clear hO305
          have K321 := K172.trans K304 (U := none_) (fun i h1 h2 => h2) (fun i h1 h2 => by exact h2)
          clear K172
          have H322 := H173.keep K304 (fun h => h)
          clear H173
          have H323 := H174.keep K304 (fun h => h)
          clear H174
          have H324 := H175.keep K304 (fun h => h)
          clear H175
          have H325 := H176.keep K304 (fun h => h)
          clear H176
          have H326 := H177.keep K304 (fun h => h)
          clear H177
          have H327 := H178.keep K304 (fun h => h)
          clear H178
          have F328 := own_keep0 F179 K304
          clear F179
          have F329 := own_keep0 F180 K304
          clear F180
          have F330 := own_keep0 F181 K304
          clear F181
          have F331 := own_keep0 O159 K304
          clear O159
          refine ⟨_, _, rfl, rfl, K304, ?_⟩
          refine Dr.strong (S' := (fun wz => Keeps none_ w303 wz)) (Keeps.refl w303) (fun wz hx => K304.trans hx (fun i _ h => h) (fun _ _ h => h)) ?_
          clear K304
          refine Dr.take (i := 14) (v := (Value.string (str (rpv p)))) (by kernel_rfl) (by kernel_rfl) (fun wz hS => Runs.b2s (s := 23) (d := 9) (e := 5) (by kernel_rfl) (by kernel_rfl) (by kernel_rfl) (Rd.keep0 (by omega) (OwnB.rd O306) hS)) (d := (some 58)) (by kernel_rfl) rfl ?_
          refine Dr.call (i := 16) (by kernel_rfl) (by kernel_rfl) (d := (some 60)) (by kernel_rfl) (fun _ => PutReply_calls _ (Value.slice none 0 0) [] q B d (Rd.nil _ _) hqo (Rd.keep0 (by omega) hq K321) (by (try simp only at *); (try simp only [List.length_append] at *); (try simp only [List.length_cons] at *); (try simp only [List.length_nil] at *); omega)) ?_
          rintro _ w333 ⟨v332, rfl, K334, hO335⟩
          have ob337 : ∀ i, (v332).ownBlock = some i → i ≠ b1 := fun i hi => by have := (World.ownsRow.lt hO335 i hi).1; have := H322.lt; omega
          have ob338 : ∀ i, (v332).ownBlock = some i → i ≠ b8 := fun i hi => by have := (World.ownsRow.lt hO335 i hi).1; have := H323.lt; omega
          have ob339 : ∀ i, (v332).ownBlock = some i → i ≠ b16 := fun i hi => by have := (World.ownsRow.lt hO335 i hi).1; have := H324.lt; omega
          have ob340 : ∀ i, (v332).ownBlock = some i → i ≠ b25 := fun i hi => by have := (World.ownsRow.lt hO335 i hi).1; have := H325.lt; omega
          have ob341 : ∀ i, (v332).ownBlock = some i → i ≠ b35 := fun i hi => by have := (World.ownsRow.lt hO335 i hi).1; have := H326.lt; omega
          have ob342 : ∀ i, (v332).ownBlock = some i → i ≠ b46 := fun i hi => by have := (World.ownsRow.lt hO335 i hi).1; have := H327.lt; omega
          have oo343 : ∀ i, (v58).ownBlock = some i → (v332).ownBlock = some i → False := fun i hi hs => by have := (World.ownsRow.lt hO335 i hs).1; have := (World.ownsRow.lt F328 i hi).2; omega
          have oo344 : ∀ i, (v332).ownBlock = some i → (v58).ownBlock = some i → False := fun i hi hs => oo343 i hs hi
          have oo345 : ∀ i, (v73).ownBlock = some i → (v332).ownBlock = some i → False := fun i hi hs => by have := (World.ownsRow.lt hO335 i hs).1; have := (World.ownsRow.lt F329 i hi).2; omega
          have oo346 : ∀ i, (v332).ownBlock = some i → (v73).ownBlock = some i → False := fun i hi hs => oo345 i hs hi
          have oo347 : ∀ i, (v131).ownBlock = some i → (v332).ownBlock = some i → False := fun i hi hs => by have := (World.ownsRow.lt hO335 i hs).1; have := (World.ownsRow.lt F330 i hi).2; omega
          have oo348 : ∀ i, (v332).ownBlock = some i → (v131).ownBlock = some i → False := fun i hi hs => oo347 i hs hi
          have oo349 : ∀ i, (v155).ownBlock = some i → (v332).ownBlock = some i → False := fun i hi hs => by have := (World.ownsRow.lt hO335 i hs).1; have := (World.ownsRow.lt F331 i hi).2; omega
          have oo350 : ∀ i, (v332).ownBlock = some i → (v155).ownBlock = some i → False := fun i hi hs => oo349 i hs hi
          have oo351 : ∀ i, (v302).ownBlock = some i → (v332).ownBlock = some i → False := fun i hi hs => by have := (World.ownsRow.lt hO335 i hs).1; have := (World.ownsRow.lt O306 i hi).2; omega
          have oo352 : ∀ i, (v332).ownBlock = some i → (v302).ownBlock = some i → False := fun i hi hs => oo351 i hs hi
          have O336 : OwnB w333 w.heap.size _ v332 (rpv q) := own_base hO335 K321.size
          clear hO335
          have K353 := K321.trans K334 (U := none_) (fun i h1 h2 => h2) (fun i h1 h2 => by exact h2)
          clear K321
          have H354 := H322.keep K334 (fun h => h)
          clear H322
          have H355 := H323.keep K334 (fun h => h)
          clear H323
          have H356 := H324.keep K334 (fun h => h)
          clear H324
          have H357 := H325.keep K334 (fun h => h)
          clear H325
          have H358 := H326.keep K334 (fun h => h)
          clear H326
          have H359 := H327.keep K334 (fun h => h)
          clear H327
          have F360 := own_keep0 F328 K334
          clear F328
          have F361 := own_keep0 F329 K334
          clear F329
          have F362 := own_keep0 F330 K334
          clear F330
          have F363 := own_keep0 F331 K334
          clear F331
          have F364 := own_keep0 O306 K334
          clear O306
          refine ⟨_, _, rfl, rfl, K334, ?_⟩
          refine Dr.strong (S' := (fun wz => Keeps none_ w333 wz)) (Keeps.refl w333) (fun wz hx => K334.trans hx (fun i _ h => h) (fun _ _ h => h)) ?_
          clear K334
          refine Dr.take (i := 17) (v := (Value.string (str (rpv q)))) (by kernel_rfl) (by kernel_rfl) (fun wz hS => Runs.b2s (s := 23) (d := 9) (e := 5) (by kernel_rfl) (by kernel_rfl) (by kernel_rfl) (Rd.keep0 (by omega) (OwnB.rd O336) hS)) (d := (some 61)) (by kernel_rfl) rfl ?_
          refine Dr.take (i := 18) (v := (Value.bool ((rpv p) == (rpv q)))) (by kernel_rfl) (by kernel_rfl) (fun wz hS => Runs.streq (t := 9) (by kernel_rfl)) (d := (some 62)) (by kernel_rfl) rfl ?_
          refine Dr.call (i := 21) (by kernel_rfl) (by kernel_rfl) (d := (some 65)) (by kernel_rfl) (fun _ => SameReply_calls _ A c p B d q (Rd.keep0 (by omega) hp K353) (Rd.keep0 (by omega) hq K353)) ?_
          rintro _ w368 ⟨t365, rfl, ht366, K367⟩
          have K369 := K353.trans K367 (U := none_) (fun i h1 h2 => h2) (fun i h1 h2 => by exact h2)
          clear K353
          have H370 := H354.keep K367 (fun h => h)
          clear H354
          have H371 := H355.keep K367 (fun h => h)
          clear H355
          have H372 := H356.keep K367 (fun h => h)
          clear H356
          have H373 := H357.keep K367 (fun h => h)
          clear H357
          have H374 := H358.keep K367 (fun h => h)
          clear H358
          have H375 := H359.keep K367 (fun h => h)
          clear H359
          have F376 := own_keep0 F360 K367
          clear F360
          have F377 := own_keep0 F361 K367
          clear F361
          have F378 := own_keep0 F362 K367
          clear F362
          have F379 := own_keep0 F363 K367
          clear F363
          have F380 := own_keep0 F364 K367
          clear F364
          have F381 := own_keep0 O336 K367
          clear O336
          refine ⟨_, _, rfl, rfl, K367, ?_⟩
          refine Dr.strong (S' := (fun wz => Keeps none_ w368 wz)) (Keeps.refl w368) (fun wz hx => K367.trans hx (fun i _ h => h) (fun _ _ h => h)) ?_
          clear K367
          refine Dr.split ((rpv p) == (rpv q)) (fun h382 => ?_) (fun h382 => ?_)
          · rw [h382]
            have p383 : ((rpv p) == (rpv q)) = true := h382
            have hsr : p = q := rpv_inj hpo hqo hpr hqr hpn hqn (eq_of_beq h382)
            have h384 : t365 = true := ht366.2 hsr
            rw [h384]
            refine Dr.takes (fuel' := 3) (is' := [24, 23, 22, 21, 18, 17, 16, 14, 13, 20, 19, 15, 12, 11, 10, 6, 5, 4, 2, 1, 9, 8, 7, 3, 0]) [22, 23, 24] [(12, (Value.bool false)), (68, (Value.bool true))] (by kernel_rfl) rfl (by kernel_rfl) ?_
            refine Dr.call (i := 25) (by kernel_rfl) (by kernel_rfl) (d := (some 69)) (by kernel_rfl) (fun _ => known_calls _) ?_
            rintro _ w385 ⟨rfl, K386⟩
            have K387 := K369.trans K386 (U := none_) (fun i h1 h2 => h2) (fun i h1 h2 => by exact h2)
            clear K369
            have H388 := H370.keep K386 (fun h => h)
            clear H370
            have H389 := H371.keep K386 (fun h => h)
            clear H371
            have H390 := H372.keep K386 (fun h => h)
            clear H372
            have H391 := H373.keep K386 (fun h => h)
            clear H373
            have H392 := H374.keep K386 (fun h => h)
            clear H374
            have H393 := H375.keep K386 (fun h => h)
            clear H375
            have F394 := own_keep0 F376 K386
            clear F376
            have F395 := own_keep0 F377 K386
            clear F377
            have F396 := own_keep0 F378 K386
            clear F378
            have F397 := own_keep0 F379 K386
            clear F379
            have F398 := own_keep0 F380 K386
            clear F380
            have F399 := own_keep0 F381 K386
            clear F381
            refine ⟨_, _, rfl, rfl, K386, ?_⟩
            refine Dr.strong (S' := (fun wz => Keeps none_ w385 wz)) (Keeps.refl w385) (fun wz hx => K386.trans hx (fun i _ h => h) (fun _ _ h => h)) ?_
            clear K386
            refine Dr.takes (fuel' := 0) (is' := [27, 26, 25, 24, 23, 22, 21, 18, 17, 16, 14, 13, 20, 19, 15, 12, 11, 10, 6, 5, 4, 2, 1, 9, 8, 7, 3, 0]) [26, 27] [(12, (Value.bool true))] (by kernel_rfl) rfl (by kernel_rfl) ?_
            refine Dr.done (by kernel_rfl) ?_
            refine q_ret (by kernel_rfl) ?_
            refine ⟨(Value.bool true), retv_tmp rfl rfl, ?_⟩
            exact ⟨rfl, K387⟩
          · rw [h382]
            have p400 : ((rpv p) == (rpv q)) = false := h382
            have hsr : p ≠ q := fun z => by rw [z] at h382; simp at h382
            have h401 : t365 = false := Bool.eq_false_iff.2 (fun h => hsr (ht366.1 h))
            rw [h401]
            refine Dr.takes (fuel' := 3) (is' := [24, 23, 22, 21, 18, 17, 16, 14, 13, 20, 19, 15, 12, 11, 10, 6, 5, 4, 2, 1, 9, 8, 7, 3, 0]) [22, 23, 24] [(12, (Value.bool false)), (68, (Value.bool true))] (by kernel_rfl) rfl (by kernel_rfl) ?_
            refine Dr.call (i := 25) (by kernel_rfl) (by kernel_rfl) (d := (some 69)) (by kernel_rfl) (fun _ => known_calls _) ?_
            rintro _ w402 ⟨rfl, K403⟩
            have K404 := K369.trans K403 (U := none_) (fun i h1 h2 => h2) (fun i h1 h2 => by exact h2)
            clear K369
            have H405 := H370.keep K403 (fun h => h)
            clear H370
            have H406 := H371.keep K403 (fun h => h)
            clear H371
            have H407 := H372.keep K403 (fun h => h)
            clear H372
            have H408 := H373.keep K403 (fun h => h)
            clear H373
            have H409 := H374.keep K403 (fun h => h)
            clear H374
            have H410 := H375.keep K403 (fun h => h)
            clear H375
            have F411 := own_keep0 F376 K403
            clear F376
            have F412 := own_keep0 F377 K403
            clear F377
            have F413 := own_keep0 F378 K403
            clear F378
            have F414 := own_keep0 F379 K403
            clear F379
            have F415 := own_keep0 F380 K403
            clear F380
            have F416 := own_keep0 F381 K403
            clear F381
            refine ⟨_, _, rfl, rfl, K403, ?_⟩
            refine Dr.strong (S' := (fun wz => Keeps none_ w402 wz)) (Keeps.refl w402) (fun wz hx => K403.trans hx (fun i _ h => h) (fun _ _ h => h)) ?_
            clear K403
            refine Dr.takes (fuel' := 0) (is' := [27, 26, 25, 24, 23, 22, 21, 18, 17, 16, 14, 13, 20, 19, 15, 12, 11, 10, 6, 5, 4, 2, 1, 9, 8, 7, 3, 0]) [26, 27] [(12, (Value.bool true))] (by kernel_rfl) rfl (by kernel_rfl) ?_
            refine Dr.done (by kernel_rfl) ?_
            refine q_ret (by kernel_rfl) ?_
            refine ⟨(Value.bool true), retv_tmp rfl rfl, ?_⟩
            exact ⟨rfl, K404⟩
      · rw [h117]
        have p417 : (out60 == out75) = false := h117
        have hx1 : m.Fits ∧ out60 = msgv m := by rcases hc65 with ⟨a, b, c⟩ | ⟨a, b, c⟩; (exact ⟨a, c⟩); (exfalso; omega)
        have hx2 : n.Fits ∧ out75 = msgv n := by rcases hc80 with ⟨a, b, c⟩ | ⟨a, b, c⟩; (exact ⟨a, c⟩); (exfalso; omega)
        have hsm : ¬ m.Same n := fun q => by have := msgv_same q; rw [← hx1.2, ← hx2.2] at this; rw [this] at h117; simp at h117
        have h418 : t104 = false := Bool.eq_false_iff.2 (fun h => hsm (ht105.1 h))
        rw [h418]
        refine Dr.takes (fuel' := 0) (is' := [16, 15, 14, 13, 12, 11, 10, 9, 8, 7, 6, 5, 4, 3, 2, 1, 0]) [15, 16] [(6, (Value.pointer (some ⟨b1, 0, none⟩))), (7, (Value.pointer (some ⟨b8, 0, none⟩))), (8, (Value.pointer (some ⟨b16, 0, none⟩))), (9, (Value.pointer (some ⟨b25, 0, none⟩))), (12, (Value.bool false)), (43, (Value.bool false))] (by kernel_rfl) rfl (by kernel_rfl) ?_
        refine Dr.done (by kernel_rfl) ?_
        refine q_else (o := .tmp 43) (by kernel_rfl) rfl ?_
        refine q_skip (by kernel_rfl) ?_
        refine q_seq (by kernel_rfl) ?_
        refine q_draw (fun wz => Keeps none_ w107 wz) 28 (by kernel_rfl) (by kernel_rfl) (by kernel_rfl) (fun w419 K420 _ _ => ⟨K420, ?_⟩)
        have K421 := K108.trans K420 (U := none_) (fun i h1 h2 => h2) (fun i h1 h2 => by exact h2)
        clear K108
        have H422 := H109.keep K420 (fun h => h)
        clear H109
        have H423 := H110.keep K420 (fun h => h)
        clear H110
        have H424 := H111.keep K420 (fun h => h)
        clear H111
        have H425 := H112.keep K420 (fun h => h)
        clear H112
        have H426 := H113.keep K420 (fun h => h)
        clear H113
        have H427 := H114.keep K420 (fun h => h)
        clear H114
        have F428 := own_keep0 F115 K420
        clear F115
        have F429 := own_keep0 F116 K420
        clear F116
        refine Dr.strong (S' := (fun wz => Keeps none_ w419 wz)) (Keeps.refl w419) (fun wz hx => K420.trans hx (fun i _ h => h) (fun _ _ h => h)) ?_
        clear K420
        refine Dr.take (i := 0) (v := (agg [(i64 om.kind), (Value.string (str om.frm)), (Value.string (str om.to)), (i64 om.amount), (Value.string (str om.key)), (i64 om.slot), (i64 om.shard)])) (by kernel_rfl) (by kernel_rfl) (fun wz hS => Runs.load (t := 43) (a := ⟨b1, 0, none⟩) (by kernel_rfl) ((H422.keep hS (fun h => h)).loads (by kernel_rfl))) (d := (some 44)) (by kernel_rfl) rfl ?_
        refine Dr.take (i := 3) (v := (agg [(i64 on.kind), (Value.string (str on.frm)), (Value.string (str on.to)), (i64 on.amount), (Value.string (str on.key)), (i64 on.slot), (i64 on.shard)])) (by kernel_rfl) (by kernel_rfl) (fun wz hS => Runs.load (t := 43) (a := ⟨b8, 0, none⟩) (by kernel_rfl) ((H423.keep hS (fun h => h)).loads (by kernel_rfl))) (d := (some 47)) (by kernel_rfl) rfl ?_
        refine Dr.take (i := 7) (v := (agg [(i64 om.kind), (Value.string (str om.frm)), (Value.string (str om.to)), (i64 om.amount), (Value.string (str om.key)), (i64 om.slot), (i64 om.shard)])) (by kernel_rfl) (by kernel_rfl) (fun wz hS => Runs.load (t := 43) (a := ⟨b1, 0, none⟩) (by kernel_rfl) ((H422.keep hS (fun h => h)).loads (by kernel_rfl))) (d := (some 51)) (by kernel_rfl) rfl ?_
        refine Dr.take (i := 8) (v := (agg [(i64 on.kind), (Value.string (str on.frm)), (Value.string (str on.to)), (i64 on.amount), (Value.string (str on.key)), (i64 on.slot), (i64 on.shard)])) (by kernel_rfl) (by kernel_rfl) (fun wz hS => Runs.load (t := 43) (a := ⟨b8, 0, none⟩) (by kernel_rfl) ((H423.keep hS (fun h => h)).loads (by kernel_rfl))) (d := (some 52)) (by kernel_rfl) rfl ?_
        refine Dr.take (i := 9) (v := (Value.bool (aggB [(i64 om.kind), (Value.string (str om.frm)), (Value.string (str om.to)), (i64 om.amount), (Value.string (str om.key)), (i64 om.slot), (i64 om.shard)] [(i64 on.kind), (Value.string (str on.frm)), (Value.string (str on.to)), (i64 on.amount), (Value.string (str on.key)), (i64 on.slot), (i64 on.shard)]))) (by kernel_rfl) (by kernel_rfl) (fun wz hS => Runs.aggeq (t := 43) (by kernel_rfl) (by kernel_rfl)) (d := (some 53)) (by kernel_rfl) rfl ?_
        refine Dr.call (i := 1) (by kernel_rfl) (by kernel_rfl) (d := (some 45)) (by kernel_rfl) (fun _ => PutOp_calls _ (Value.slice none 0 0) [] om (Rd.nil _ _) hom (by (try simp only at *); (try simp only [List.length_append] at *); (try simp only [List.length_cons] at *); (try simp only [List.length_nil] at *); omega)) ?_
        rintro _ w431 ⟨v430, rfl, K432, hO433⟩
        have ob435 : ∀ i, (v430).ownBlock = some i → i ≠ b1 := fun i hi => by have := (World.ownsRow.lt hO433 i hi).1; have := H422.lt; omega
        have ob436 : ∀ i, (v430).ownBlock = some i → i ≠ b8 := fun i hi => by have := (World.ownsRow.lt hO433 i hi).1; have := H423.lt; omega
        have ob437 : ∀ i, (v430).ownBlock = some i → i ≠ b16 := fun i hi => by have := (World.ownsRow.lt hO433 i hi).1; have := H424.lt; omega
        have ob438 : ∀ i, (v430).ownBlock = some i → i ≠ b25 := fun i hi => by have := (World.ownsRow.lt hO433 i hi).1; have := H425.lt; omega
        have ob439 : ∀ i, (v430).ownBlock = some i → i ≠ b35 := fun i hi => by have := (World.ownsRow.lt hO433 i hi).1; have := H426.lt; omega
        have ob440 : ∀ i, (v430).ownBlock = some i → i ≠ b46 := fun i hi => by have := (World.ownsRow.lt hO433 i hi).1; have := H427.lt; omega
        have oo441 : ∀ i, (v58).ownBlock = some i → (v430).ownBlock = some i → False := fun i hi hs => by have := (World.ownsRow.lt hO433 i hs).1; have := (World.ownsRow.lt F428 i hi).2; omega
        have oo442 : ∀ i, (v430).ownBlock = some i → (v58).ownBlock = some i → False := fun i hi hs => oo441 i hs hi
        have oo443 : ∀ i, (v73).ownBlock = some i → (v430).ownBlock = some i → False := fun i hi hs => by have := (World.ownsRow.lt hO433 i hs).1; have := (World.ownsRow.lt F429 i hi).2; omega
        have oo444 : ∀ i, (v430).ownBlock = some i → (v73).ownBlock = some i → False := fun i hi hs => oo443 i hs hi
        have O434 : OwnB w431 w.heap.size _ v430 (opv om) := own_base hO433 K421.size
        clear hO433
        have K445 := K421.trans K432 (U := none_) (fun i h1 h2 => h2) (fun i h1 h2 => by exact h2)
        clear K421
        have H446 := H422.keep K432 (fun h => h)
        clear H422
        have H447 := H423.keep K432 (fun h => h)
        clear H423
        have H448 := H424.keep K432 (fun h => h)
        clear H424
        have H449 := H425.keep K432 (fun h => h)
        clear H425
        have H450 := H426.keep K432 (fun h => h)
        clear H426
        have H451 := H427.keep K432 (fun h => h)
        clear H427
        have F452 := own_keep0 F428 K432
        clear F428
        have F453 := own_keep0 F429 K432
        clear F429
        refine ⟨_, _, rfl, rfl, K432, ?_⟩
        refine Dr.strong (S' := (fun wz => Keeps none_ w431 wz)) (Keeps.refl w431) (fun wz hx => K432.trans hx (fun i _ h => h) (fun _ _ h => h)) ?_
        clear K432
        refine Dr.take (i := 2) (v := (Value.string (str (opv om)))) (by kernel_rfl) (by kernel_rfl) (fun wz hS => Runs.b2s (s := 23) (d := 9) (e := 5) (by kernel_rfl) (by kernel_rfl) (by kernel_rfl) (Rd.keep0 (by omega) (OwnB.rd O434) hS)) (d := (some 46)) (by kernel_rfl) rfl ?_
        refine Dr.call (i := 4) (by kernel_rfl) (by kernel_rfl) (d := (some 48)) (by kernel_rfl) (fun _ => PutOp_calls _ (Value.slice none 0 0) [] on (Rd.nil _ _) hon (by (try simp only at *); (try simp only [List.length_append] at *); (try simp only [List.length_cons] at *); (try simp only [List.length_nil] at *); omega)) ?_
        rintro _ w455 ⟨v454, rfl, K456, hO457⟩
        have ob459 : ∀ i, (v454).ownBlock = some i → i ≠ b1 := fun i hi => by have := (World.ownsRow.lt hO457 i hi).1; have := H446.lt; omega
        have ob460 : ∀ i, (v454).ownBlock = some i → i ≠ b8 := fun i hi => by have := (World.ownsRow.lt hO457 i hi).1; have := H447.lt; omega
        have ob461 : ∀ i, (v454).ownBlock = some i → i ≠ b16 := fun i hi => by have := (World.ownsRow.lt hO457 i hi).1; have := H448.lt; omega
        have ob462 : ∀ i, (v454).ownBlock = some i → i ≠ b25 := fun i hi => by have := (World.ownsRow.lt hO457 i hi).1; have := H449.lt; omega
        have ob463 : ∀ i, (v454).ownBlock = some i → i ≠ b35 := fun i hi => by have := (World.ownsRow.lt hO457 i hi).1; have := H450.lt; omega
        have ob464 : ∀ i, (v454).ownBlock = some i → i ≠ b46 := fun i hi => by have := (World.ownsRow.lt hO457 i hi).1; have := H451.lt; omega
        have oo465 : ∀ i, (v58).ownBlock = some i → (v454).ownBlock = some i → False := fun i hi hs => by have := (World.ownsRow.lt hO457 i hs).1; have := (World.ownsRow.lt F452 i hi).2; omega
        have oo466 : ∀ i, (v454).ownBlock = some i → (v58).ownBlock = some i → False := fun i hi hs => oo465 i hs hi
        have oo467 : ∀ i, (v73).ownBlock = some i → (v454).ownBlock = some i → False := fun i hi hs => by have := (World.ownsRow.lt hO457 i hs).1; have := (World.ownsRow.lt F453 i hi).2; omega
        have oo468 : ∀ i, (v454).ownBlock = some i → (v73).ownBlock = some i → False := fun i hi hs => oo467 i hs hi
        have oo469 : ∀ i, (v430).ownBlock = some i → (v454).ownBlock = some i → False := fun i hi hs => by have := (World.ownsRow.lt hO457 i hs).1; have := (World.ownsRow.lt O434 i hi).2; omega
        have oo470 : ∀ i, (v454).ownBlock = some i → (v430).ownBlock = some i → False := fun i hi hs => oo469 i hs hi
        have O458 : OwnB w455 w.heap.size _ v454 (opv on) := own_base hO457 K445.size
        clear hO457
        have K471 := K445.trans K456 (U := none_) (fun i h1 h2 => h2) (fun i h1 h2 => by exact h2)
        clear K445
        have H472 := H446.keep K456 (fun h => h)
        clear H446
        have H473 := H447.keep K456 (fun h => h)
        clear H447
        have H474 := H448.keep K456 (fun h => h)
        clear H448
        have H475 := H449.keep K456 (fun h => h)
        clear H449
        have H476 := H450.keep K456 (fun h => h)
        clear H450
        have H477 := H451.keep K456 (fun h => h)
        clear H451
        have F478 := own_keep0 F452 K456
        clear F452
        have F479 := own_keep0 F453 K456
        clear F453
        have F480 := own_keep0 O434 K456
        clear O434
        refine ⟨_, _, rfl, rfl, K456, ?_⟩
        refine Dr.strong (S' := (fun wz => Keeps none_ w455 wz)) (Keeps.refl w455) (fun wz hx => K456.trans hx (fun i _ h => h) (fun _ _ h => h)) ?_
        clear K456
        refine Dr.take (i := 5) (v := (Value.string (str (opv on)))) (by kernel_rfl) (by kernel_rfl) (fun wz hS => Runs.b2s (s := 23) (d := 9) (e := 5) (by kernel_rfl) (by kernel_rfl) (by kernel_rfl) (Rd.keep0 (by omega) (OwnB.rd O458) hS)) (d := (some 49)) (by kernel_rfl) rfl ?_
        refine Dr.take (i := 6) (v := (Value.bool ((opv om) == (opv on)))) (by kernel_rfl) (by kernel_rfl) (fun wz hS => Runs.streq (t := 9) (by kernel_rfl)) (d := (some 50)) (by kernel_rfl) rfl ?_
        refine Dr.split ((opv om) == (opv on)) (fun h481 => ?_) (fun h481 => ?_)
        · rw [h481]
          have p482 : ((opv om) == (opv on)) = true := h481
          have hso : om = on := opv_inj hom hon (by omega) (by omega) (by omega) (by omega) (by omega) (by omega) (eq_of_beq h481)
          have h483 : (aggB [(i64 om.kind), (Value.string (str om.frm)), (Value.string (str om.to)), (i64 om.amount), (Value.string (str om.key)), (i64 om.slot), (i64 om.shard)] [(i64 on.kind), (Value.string (str on.frm)), (Value.string (str on.to)), (i64 on.amount), (Value.string (str on.key)), (i64 on.slot), (i64 on.shard)]) = true := (aggB_op om on).2 hso
          rw [h483]
          refine Dr.takes (fuel' := 16) (is' := [11, 10, 6, 5, 4, 2, 1, 9, 8, 7, 3, 0]) [10, 11] [(8, (Value.pointer (some ⟨b16, 0, none⟩))), (9, (Value.pointer (some ⟨b25, 0, none⟩))), (12, (Value.bool false)), (55, (Value.bool true))] (by kernel_rfl) rfl (by kernel_rfl) ?_
          refine Dr.take (i := 12) (v := (agg [(i64 p.why), (i64 p.amount), (Value.slice A p.rows.length c)])) (by kernel_rfl) (by kernel_rfl) (fun wz hS => Runs.load (t := 46) (a := ⟨b16, 0, none⟩) (by kernel_rfl) ((H474.keep hS (fun h => h)).loads (by kernel_rfl))) (d := (some 56)) (by kernel_rfl) rfl ?_
          refine Dr.take (i := 15) (v := (agg [(i64 q.why), (i64 q.amount), (Value.slice B q.rows.length d)])) (by kernel_rfl) (by kernel_rfl) (fun wz hS => Runs.load (t := 46) (a := ⟨b25, 0, none⟩) (by kernel_rfl) ((H475.keep hS (fun h => h)).loads (by kernel_rfl))) (d := (some 59)) (by kernel_rfl) rfl ?_
          refine Dr.take (i := 19) (v := (agg [(i64 p.why), (i64 p.amount), (Value.slice A p.rows.length c)])) (by kernel_rfl) (by kernel_rfl) (fun wz hS => Runs.load (t := 46) (a := ⟨b16, 0, none⟩) (by kernel_rfl) ((H474.keep hS (fun h => h)).loads (by kernel_rfl))) (d := (some 63)) (by kernel_rfl) rfl ?_
          refine Dr.take (i := 20) (v := (agg [(i64 q.why), (i64 q.amount), (Value.slice B q.rows.length d)])) (by kernel_rfl) (by kernel_rfl) (fun wz hS => Runs.load (t := 46) (a := ⟨b25, 0, none⟩) (by kernel_rfl) ((H475.keep hS (fun h => h)).loads (by kernel_rfl))) (d := (some 64)) (by kernel_rfl) rfl ?_
          refine Dr.call (i := 13) (by kernel_rfl) (by kernel_rfl) (d := (some 57)) (by kernel_rfl) (fun _ => PutReply_calls _ (Value.slice none 0 0) [] p A c (Rd.nil _ _) hpo (Rd.keep0 (by omega) hp K471) (by (try simp only at *); (try simp only [List.length_append] at *); (try simp only [List.length_cons] at *); (try simp only [List.length_nil] at *); omega)) ?_
          rintro _ w485 ⟨v484, rfl, K486, hO487⟩
          have ob489 : ∀ i, (v484).ownBlock = some i → i ≠ b1 := fun i hi => by have := (World.ownsRow.lt hO487 i hi).1; have := H472.lt; omega
          have ob490 : ∀ i, (v484).ownBlock = some i → i ≠ b8 := fun i hi => by have := (World.ownsRow.lt hO487 i hi).1; have := H473.lt; omega
          have ob491 : ∀ i, (v484).ownBlock = some i → i ≠ b16 := fun i hi => by have := (World.ownsRow.lt hO487 i hi).1; have := H474.lt; omega
          have ob492 : ∀ i, (v484).ownBlock = some i → i ≠ b25 := fun i hi => by have := (World.ownsRow.lt hO487 i hi).1; have := H475.lt; omega
          have ob493 : ∀ i, (v484).ownBlock = some i → i ≠ b35 := fun i hi => by have := (World.ownsRow.lt hO487 i hi).1; have := H476.lt; omega
          have ob494 : ∀ i, (v484).ownBlock = some i → i ≠ b46 := fun i hi => by have := (World.ownsRow.lt hO487 i hi).1; have := H477.lt; omega
          have oo495 : ∀ i, (v58).ownBlock = some i → (v484).ownBlock = some i → False := fun i hi hs => by have := (World.ownsRow.lt hO487 i hs).1; have := (World.ownsRow.lt F478 i hi).2; omega
          have oo496 : ∀ i, (v484).ownBlock = some i → (v58).ownBlock = some i → False := fun i hi hs => oo495 i hs hi
          have oo497 : ∀ i, (v73).ownBlock = some i → (v484).ownBlock = some i → False := fun i hi hs => by have := (World.ownsRow.lt hO487 i hs).1; have := (World.ownsRow.lt F479 i hi).2; omega
          have oo498 : ∀ i, (v484).ownBlock = some i → (v73).ownBlock = some i → False := fun i hi hs => oo497 i hs hi
          have oo499 : ∀ i, (v430).ownBlock = some i → (v484).ownBlock = some i → False := fun i hi hs => by have := (World.ownsRow.lt hO487 i hs).1; have := (World.ownsRow.lt F480 i hi).2; omega
          have oo500 : ∀ i, (v484).ownBlock = some i → (v430).ownBlock = some i → False := fun i hi hs => oo499 i hs hi
          have oo501 : ∀ i, (v454).ownBlock = some i → (v484).ownBlock = some i → False := fun i hi hs => by have := (World.ownsRow.lt hO487 i hs).1; have := (World.ownsRow.lt O458 i hi).2; omega
          have oo502 : ∀ i, (v484).ownBlock = some i → (v454).ownBlock = some i → False := fun i hi hs => oo501 i hs hi
          have O488 : OwnB w485 w.heap.size _ v484 (rpv p) := own_base hO487 K471.size
          clear hO487
          have K503 := K471.trans K486 (U := none_) (fun i h1 h2 => h2) (fun i h1 h2 => by exact h2)
          clear K471
          have H504 := H472.keep K486 (fun h => h)
          clear H472
          have H505 := H473.keep K486 (fun h => h)
          clear H473
          have H506 := H474.keep K486 (fun h => h)
          clear H474
          have H507 := H475.keep K486 (fun h => h)
          clear H475
          have H508 := H476.keep K486 (fun h => h)
          clear H476
          have H509 := H477.keep K486 (fun h => h)
          clear H477
          have F510 := own_keep0 F478 K486
          clear F478
          have F511 := own_keep0 F479 K486
          clear F479
          have F512 := own_keep0 F480 K486
          clear F480
          have F513 := own_keep0 O458 K486
          clear O458
          refine ⟨_, _, rfl, rfl, K486, ?_⟩
          refine Dr.strong (S' := (fun wz => Keeps none_ w485 wz)) (Keeps.refl w485) (fun wz hx => K486.trans hx (fun i _ h => h) (fun _ _ h => h)) ?_
          clear K486
          refine Dr.take (i := 14) (v := (Value.string (str (rpv p)))) (by kernel_rfl) (by kernel_rfl) (fun wz hS => Runs.b2s (s := 23) (d := 9) (e := 5) (by kernel_rfl) (by kernel_rfl) (by kernel_rfl) (Rd.keep0 (by omega) (OwnB.rd O488) hS)) (d := (some 58)) (by kernel_rfl) rfl ?_
          refine Dr.call (i := 16) (by kernel_rfl) (by kernel_rfl) (d := (some 60)) (by kernel_rfl) (fun _ => PutReply_calls _ (Value.slice none 0 0) [] q B d (Rd.nil _ _) hqo (Rd.keep0 (by omega) hq K503) (by (try simp only at *); (try simp only [List.length_append] at *); (try simp only [List.length_cons] at *); (try simp only [List.length_nil] at *); omega)) ?_
          rintro _ w515 ⟨v514, rfl, K516, hO517⟩
          have ob519 : ∀ i, (v514).ownBlock = some i → i ≠ b1 := fun i hi => by have := (World.ownsRow.lt hO517 i hi).1; have := H504.lt; omega
          have ob520 : ∀ i, (v514).ownBlock = some i → i ≠ b8 := fun i hi => by have := (World.ownsRow.lt hO517 i hi).1; have := H505.lt; omega
          have ob521 : ∀ i, (v514).ownBlock = some i → i ≠ b16 := fun i hi => by have := (World.ownsRow.lt hO517 i hi).1; have := H506.lt; omega
          have ob522 : ∀ i, (v514).ownBlock = some i → i ≠ b25 := fun i hi => by have := (World.ownsRow.lt hO517 i hi).1; have := H507.lt; omega
          have ob523 : ∀ i, (v514).ownBlock = some i → i ≠ b35 := fun i hi => by have := (World.ownsRow.lt hO517 i hi).1; have := H508.lt; omega
          have ob524 : ∀ i, (v514).ownBlock = some i → i ≠ b46 := fun i hi => by have := (World.ownsRow.lt hO517 i hi).1; have := H509.lt; omega
          have oo525 : ∀ i, (v58).ownBlock = some i → (v514).ownBlock = some i → False := fun i hi hs => by have := (World.ownsRow.lt hO517 i hs).1; have := (World.ownsRow.lt F510 i hi).2; omega
          have oo526 : ∀ i, (v514).ownBlock = some i → (v58).ownBlock = some i → False := fun i hi hs => oo525 i hs hi
          have oo527 : ∀ i, (v73).ownBlock = some i → (v514).ownBlock = some i → False := fun i hi hs => by have := (World.ownsRow.lt hO517 i hs).1; have := (World.ownsRow.lt F511 i hi).2; omega
          have oo528 : ∀ i, (v514).ownBlock = some i → (v73).ownBlock = some i → False := fun i hi hs => oo527 i hs hi
          have oo529 : ∀ i, (v430).ownBlock = some i → (v514).ownBlock = some i → False := fun i hi hs => by have := (World.ownsRow.lt hO517 i hs).1; have := (World.ownsRow.lt F512 i hi).2; omega
          have oo530 : ∀ i, (v514).ownBlock = some i → (v430).ownBlock = some i → False := fun i hi hs => oo529 i hs hi
          have oo531 : ∀ i, (v454).ownBlock = some i → (v514).ownBlock = some i → False := fun i hi hs => by have := (World.ownsRow.lt hO517 i hs).1; have := (World.ownsRow.lt F513 i hi).2; omega
          have oo532 : ∀ i, (v514).ownBlock = some i → (v454).ownBlock = some i → False := fun i hi hs => oo531 i hs hi
          have oo533 : ∀ i, (v484).ownBlock = some i → (v514).ownBlock = some i → False := fun i hi hs => by have := (World.ownsRow.lt hO517 i hs).1; have := (World.ownsRow.lt O488 i hi).2; omega
          have oo534 : ∀ i, (v514).ownBlock = some i → (v484).ownBlock = some i → False := fun i hi hs => oo533 i hs hi
          have O518 : OwnB w515 w.heap.size _ v514 (rpv q) := own_base hO517 K503.size
          clear hO517
          have K535 := K503.trans K516 (U := none_) (fun i h1 h2 => h2) (fun i h1 h2 => by exact h2)
          clear K503
          have H536 := H504.keep K516 (fun h => h)
          clear H504
          have H537 := H505.keep K516 (fun h => h)
          clear H505
          have H538 := H506.keep K516 (fun h => h)
          clear H506
          have H539 := H507.keep K516 (fun h => h)
          clear H507
          have H540 := H508.keep K516 (fun h => h)
          clear H508
          have H541 := H509.keep K516 (fun h => h)
          clear H509
          have F542 := own_keep0 F510 K516
          clear F510
          have F543 := own_keep0 F511 K516
          clear F511
          have F544 := own_keep0 F512 K516
          clear F512
          have F545 := own_keep0 F513 K516
          clear F513
          have F546 := own_keep0 O488 K516
          clear O488
          refine ⟨_, _, rfl, rfl, K516, ?_⟩
          refine Dr.strong (S' := (fun wz => Keeps none_ w515 wz)) (Keeps.refl w515) (fun wz hx => K516.trans hx (fun i _ h => h) (fun _ _ h => h)) ?_
          clear K516
          refine Dr.take (i := 17) (v := (Value.string (str (rpv q)))) (by kernel_rfl) (by kernel_rfl) (fun wz hS => Runs.b2s (s := 23) (d := 9) (e := 5) (by kernel_rfl) (by kernel_rfl) (by kernel_rfl) (Rd.keep0 (by omega) (OwnB.rd O518) hS)) (d := (some 61)) (by kernel_rfl) rfl ?_
          refine Dr.take (i := 18) (v := (Value.bool ((rpv p) == (rpv q)))) (by kernel_rfl) (by kernel_rfl) (fun wz hS => Runs.streq (t := 9) (by kernel_rfl)) (d := (some 62)) (by kernel_rfl) rfl ?_
          refine Dr.call (i := 21) (by kernel_rfl) (by kernel_rfl) (d := (some 65)) (by kernel_rfl) (fun _ => SameReply_calls _ A c p B d q (Rd.keep0 (by omega) hp K535) (Rd.keep0 (by omega) hq K535)) ?_
          rintro _ w550 ⟨t547, rfl, ht548, K549⟩
          have K551 := K535.trans K549 (U := none_) (fun i h1 h2 => h2) (fun i h1 h2 => by exact h2)
          clear K535
          have H552 := H536.keep K549 (fun h => h)
          clear H536
          have H553 := H537.keep K549 (fun h => h)
          clear H537
          have H554 := H538.keep K549 (fun h => h)
          clear H538
          have H555 := H539.keep K549 (fun h => h)
          clear H539
          have H556 := H540.keep K549 (fun h => h)
          clear H540
          have H557 := H541.keep K549 (fun h => h)
          clear H541
          have F558 := own_keep0 F542 K549
          clear F542
          have F559 := own_keep0 F543 K549
          clear F543
          have F560 := own_keep0 F544 K549
          clear F544
          have F561 := own_keep0 F545 K549
          clear F545
          have F562 := own_keep0 F546 K549
          clear F546
          have F563 := own_keep0 O518 K549
          clear O518
          refine ⟨_, _, rfl, rfl, K549, ?_⟩
          refine Dr.strong (S' := (fun wz => Keeps none_ w550 wz)) (Keeps.refl w550) (fun wz hx => K549.trans hx (fun i _ h => h) (fun _ _ h => h)) ?_
          clear K549
          refine Dr.split ((rpv p) == (rpv q)) (fun h564 => ?_) (fun h564 => ?_)
          · rw [h564]
            have p565 : ((rpv p) == (rpv q)) = true := h564
            have hsr : p = q := rpv_inj hpo hqo hpr hqr hpn hqn (eq_of_beq h564)
            have h566 : t547 = true := ht548.2 hsr
            rw [h566]
            refine Dr.takes (fuel' := 3) (is' := [24, 23, 22, 21, 18, 17, 16, 14, 13, 20, 19, 15, 12, 11, 10, 6, 5, 4, 2, 1, 9, 8, 7, 3, 0]) [22, 23, 24] [(12, (Value.bool false)), (68, (Value.bool true))] (by kernel_rfl) rfl (by kernel_rfl) ?_
            refine Dr.call (i := 25) (by kernel_rfl) (by kernel_rfl) (d := (some 69)) (by kernel_rfl) (fun _ => known_calls _) ?_
            rintro _ w567 ⟨rfl, K568⟩
            have K569 := K551.trans K568 (U := none_) (fun i h1 h2 => h2) (fun i h1 h2 => by exact h2)
            clear K551
            have H570 := H552.keep K568 (fun h => h)
            clear H552
            have H571 := H553.keep K568 (fun h => h)
            clear H553
            have H572 := H554.keep K568 (fun h => h)
            clear H554
            have H573 := H555.keep K568 (fun h => h)
            clear H555
            have H574 := H556.keep K568 (fun h => h)
            clear H556
            have H575 := H557.keep K568 (fun h => h)
            clear H557
            have F576 := own_keep0 F558 K568
            clear F558
            have F577 := own_keep0 F559 K568
            clear F559
            have F578 := own_keep0 F560 K568
            clear F560
            have F579 := own_keep0 F561 K568
            clear F561
            have F580 := own_keep0 F562 K568
            clear F562
            have F581 := own_keep0 F563 K568
            clear F563
            refine ⟨_, _, rfl, rfl, K568, ?_⟩
            refine Dr.strong (S' := (fun wz => Keeps none_ w567 wz)) (Keeps.refl w567) (fun wz hx => K568.trans hx (fun i _ h => h) (fun _ _ h => h)) ?_
            clear K568
            refine Dr.takes (fuel' := 0) (is' := [27, 26, 25, 24, 23, 22, 21, 18, 17, 16, 14, 13, 20, 19, 15, 12, 11, 10, 6, 5, 4, 2, 1, 9, 8, 7, 3, 0]) [26, 27] [(12, (Value.bool true))] (by kernel_rfl) rfl (by kernel_rfl) ?_
            refine Dr.done (by kernel_rfl) ?_
            refine q_ret (by kernel_rfl) ?_
            refine ⟨(Value.bool true), retv_tmp rfl rfl, ?_⟩
            exact ⟨rfl, K569⟩
          · rw [h564]
            have p582 : ((rpv p) == (rpv q)) = false := h564
            have hsr : p ≠ q := fun z => by rw [z] at h564; simp at h564
            have h583 : t547 = false := Bool.eq_false_iff.2 (fun h => hsr (ht548.1 h))
            rw [h583]
            refine Dr.takes (fuel' := 3) (is' := [24, 23, 22, 21, 18, 17, 16, 14, 13, 20, 19, 15, 12, 11, 10, 6, 5, 4, 2, 1, 9, 8, 7, 3, 0]) [22, 23, 24] [(12, (Value.bool false)), (68, (Value.bool true))] (by kernel_rfl) rfl (by kernel_rfl) ?_
            refine Dr.call (i := 25) (by kernel_rfl) (by kernel_rfl) (d := (some 69)) (by kernel_rfl) (fun _ => known_calls _) ?_
            rintro _ w584 ⟨rfl, K585⟩
            have K586 := K551.trans K585 (U := none_) (fun i h1 h2 => h2) (fun i h1 h2 => by exact h2)
            clear K551
            have H587 := H552.keep K585 (fun h => h)
            clear H552
            have H588 := H553.keep K585 (fun h => h)
            clear H553
            have H589 := H554.keep K585 (fun h => h)
            clear H554
            have H590 := H555.keep K585 (fun h => h)
            clear H555
            have H591 := H556.keep K585 (fun h => h)
            clear H556
            have H592 := H557.keep K585 (fun h => h)
            clear H557
            have F593 := own_keep0 F558 K585
            clear F558
            have F594 := own_keep0 F559 K585
            clear F559
            have F595 := own_keep0 F560 K585
            clear F560
            have F596 := own_keep0 F561 K585
            clear F561
            have F597 := own_keep0 F562 K585
            clear F562
            have F598 := own_keep0 F563 K585
            clear F563
            refine ⟨_, _, rfl, rfl, K585, ?_⟩
            refine Dr.strong (S' := (fun wz => Keeps none_ w584 wz)) (Keeps.refl w584) (fun wz hx => K585.trans hx (fun i _ h => h) (fun _ _ h => h)) ?_
            clear K585
            refine Dr.takes (fuel' := 0) (is' := [27, 26, 25, 24, 23, 22, 21, 18, 17, 16, 14, 13, 20, 19, 15, 12, 11, 10, 6, 5, 4, 2, 1, 9, 8, 7, 3, 0]) [26, 27] [(12, (Value.bool true))] (by kernel_rfl) rfl (by kernel_rfl) ?_
            refine Dr.done (by kernel_rfl) ?_
            refine q_ret (by kernel_rfl) ?_
            refine ⟨(Value.bool true), retv_tmp rfl rfl, ?_⟩
            exact ⟨rfl, K586⟩
        · rw [h481]
          have p599 : ((opv om) == (opv on)) = false := h481
          have hso : om ≠ on := fun q => by rw [q] at h481; simp at h481
          have h600 : (aggB [(i64 om.kind), (Value.string (str om.frm)), (Value.string (str om.to)), (i64 om.amount), (Value.string (str om.key)), (i64 om.slot), (i64 om.shard)] [(i64 on.kind), (Value.string (str on.frm)), (Value.string (str on.to)), (i64 on.amount), (Value.string (str on.key)), (i64 on.slot), (i64 on.shard)]) = false := Bool.eq_false_iff.2 (fun h => hso ((aggB_op om on).1 h))
          rw [h600]
          refine Dr.takes (fuel' := 16) (is' := [11, 10, 6, 5, 4, 2, 1, 9, 8, 7, 3, 0]) [10, 11] [(8, (Value.pointer (some ⟨b16, 0, none⟩))), (9, (Value.pointer (some ⟨b25, 0, none⟩))), (12, (Value.bool false)), (55, (Value.bool true))] (by kernel_rfl) rfl (by kernel_rfl) ?_
          refine Dr.take (i := 12) (v := (agg [(i64 p.why), (i64 p.amount), (Value.slice A p.rows.length c)])) (by kernel_rfl) (by kernel_rfl) (fun wz hS => Runs.load (t := 46) (a := ⟨b16, 0, none⟩) (by kernel_rfl) ((H474.keep hS (fun h => h)).loads (by kernel_rfl))) (d := (some 56)) (by kernel_rfl) rfl ?_
          refine Dr.take (i := 15) (v := (agg [(i64 q.why), (i64 q.amount), (Value.slice B q.rows.length d)])) (by kernel_rfl) (by kernel_rfl) (fun wz hS => Runs.load (t := 46) (a := ⟨b25, 0, none⟩) (by kernel_rfl) ((H475.keep hS (fun h => h)).loads (by kernel_rfl))) (d := (some 59)) (by kernel_rfl) rfl ?_
          refine Dr.take (i := 19) (v := (agg [(i64 p.why), (i64 p.amount), (Value.slice A p.rows.length c)])) (by kernel_rfl) (by kernel_rfl) (fun wz hS => Runs.load (t := 46) (a := ⟨b16, 0, none⟩) (by kernel_rfl) ((H474.keep hS (fun h => h)).loads (by kernel_rfl))) (d := (some 63)) (by kernel_rfl) rfl ?_
          refine Dr.take (i := 20) (v := (agg [(i64 q.why), (i64 q.amount), (Value.slice B q.rows.length d)])) (by kernel_rfl) (by kernel_rfl) (fun wz hS => Runs.load (t := 46) (a := ⟨b25, 0, none⟩) (by kernel_rfl) ((H475.keep hS (fun h => h)).loads (by kernel_rfl))) (d := (some 64)) (by kernel_rfl) rfl ?_
          refine Dr.call (i := 13) (by kernel_rfl) (by kernel_rfl) (d := (some 57)) (by kernel_rfl) (fun _ => PutReply_calls _ (Value.slice none 0 0) [] p A c (Rd.nil _ _) hpo (Rd.keep0 (by omega) hp K471) (by (try simp only at *); (try simp only [List.length_append] at *); (try simp only [List.length_cons] at *); (try simp only [List.length_nil] at *); omega)) ?_
          rintro _ w602 ⟨v601, rfl, K603, hO604⟩
          have ob606 : ∀ i, (v601).ownBlock = some i → i ≠ b1 := fun i hi => by have := (World.ownsRow.lt hO604 i hi).1; have := H472.lt; omega
          have ob607 : ∀ i, (v601).ownBlock = some i → i ≠ b8 := fun i hi => by have := (World.ownsRow.lt hO604 i hi).1; have := H473.lt; omega
          have ob608 : ∀ i, (v601).ownBlock = some i → i ≠ b16 := fun i hi => by have := (World.ownsRow.lt hO604 i hi).1; have := H474.lt; omega
          have ob609 : ∀ i, (v601).ownBlock = some i → i ≠ b25 := fun i hi => by have := (World.ownsRow.lt hO604 i hi).1; have := H475.lt; omega
          have ob610 : ∀ i, (v601).ownBlock = some i → i ≠ b35 := fun i hi => by have := (World.ownsRow.lt hO604 i hi).1; have := H476.lt; omega
          have ob611 : ∀ i, (v601).ownBlock = some i → i ≠ b46 := fun i hi => by have := (World.ownsRow.lt hO604 i hi).1; have := H477.lt; omega
          have oo612 : ∀ i, (v58).ownBlock = some i → (v601).ownBlock = some i → False := fun i hi hs => by have := (World.ownsRow.lt hO604 i hs).1; have := (World.ownsRow.lt F478 i hi).2; omega
          have oo613 : ∀ i, (v601).ownBlock = some i → (v58).ownBlock = some i → False := fun i hi hs => oo612 i hs hi
          have oo614 : ∀ i, (v73).ownBlock = some i → (v601).ownBlock = some i → False := fun i hi hs => by have := (World.ownsRow.lt hO604 i hs).1; have := (World.ownsRow.lt F479 i hi).2; omega
          have oo615 : ∀ i, (v601).ownBlock = some i → (v73).ownBlock = some i → False := fun i hi hs => oo614 i hs hi
          have oo616 : ∀ i, (v430).ownBlock = some i → (v601).ownBlock = some i → False := fun i hi hs => by have := (World.ownsRow.lt hO604 i hs).1; have := (World.ownsRow.lt F480 i hi).2; omega
          have oo617 : ∀ i, (v601).ownBlock = some i → (v430).ownBlock = some i → False := fun i hi hs => oo616 i hs hi
          have oo618 : ∀ i, (v454).ownBlock = some i → (v601).ownBlock = some i → False := fun i hi hs => by have := (World.ownsRow.lt hO604 i hs).1; have := (World.ownsRow.lt O458 i hi).2; omega
          have oo619 : ∀ i, (v601).ownBlock = some i → (v454).ownBlock = some i → False := fun i hi hs => oo618 i hs hi
          have O605 : OwnB w602 w.heap.size _ v601 (rpv p) := own_base hO604 K471.size
          clear hO604
          have K620 := K471.trans K603 (U := none_) (fun i h1 h2 => h2) (fun i h1 h2 => by exact h2)
          clear K471
          have H621 := H472.keep K603 (fun h => h)
          clear H472
          have H622 := H473.keep K603 (fun h => h)
          clear H473
          have H623 := H474.keep K603 (fun h => h)
          clear H474
          have H624 := H475.keep K603 (fun h => h)
          clear H475
          have H625 := H476.keep K603 (fun h => h)
          clear H476
          have H626 := H477.keep K603 (fun h => h)
          clear H477
          have F627 := own_keep0 F478 K603
          clear F478
          have F628 := own_keep0 F479 K603
          clear F479
          have F629 := own_keep0 F480 K603
          clear F480
          have F630 := own_keep0 O458 K603
          clear O458
          refine ⟨_, _, rfl, rfl, K603, ?_⟩
          refine Dr.strong (S' := (fun wz => Keeps none_ w602 wz)) (Keeps.refl w602) (fun wz hx => K603.trans hx (fun i _ h => h) (fun _ _ h => h)) ?_
          clear K603
          refine Dr.take (i := 14) (v := (Value.string (str (rpv p)))) (by kernel_rfl) (by kernel_rfl) (fun wz hS => Runs.b2s (s := 23) (d := 9) (e := 5) (by kernel_rfl) (by kernel_rfl) (by kernel_rfl) (Rd.keep0 (by omega) (OwnB.rd O605) hS)) (d := (some 58)) (by kernel_rfl) rfl ?_
          refine Dr.call (i := 16) (by kernel_rfl) (by kernel_rfl) (d := (some 60)) (by kernel_rfl) (fun _ => PutReply_calls _ (Value.slice none 0 0) [] q B d (Rd.nil _ _) hqo (Rd.keep0 (by omega) hq K620) (by (try simp only at *); (try simp only [List.length_append] at *); (try simp only [List.length_cons] at *); (try simp only [List.length_nil] at *); omega)) ?_
          rintro _ w632 ⟨v631, rfl, K633, hO634⟩
          have ob636 : ∀ i, (v631).ownBlock = some i → i ≠ b1 := fun i hi => by have := (World.ownsRow.lt hO634 i hi).1; have := H621.lt; omega
          have ob637 : ∀ i, (v631).ownBlock = some i → i ≠ b8 := fun i hi => by have := (World.ownsRow.lt hO634 i hi).1; have := H622.lt; omega
          have ob638 : ∀ i, (v631).ownBlock = some i → i ≠ b16 := fun i hi => by have := (World.ownsRow.lt hO634 i hi).1; have := H623.lt; omega
          have ob639 : ∀ i, (v631).ownBlock = some i → i ≠ b25 := fun i hi => by have := (World.ownsRow.lt hO634 i hi).1; have := H624.lt; omega
          have ob640 : ∀ i, (v631).ownBlock = some i → i ≠ b35 := fun i hi => by have := (World.ownsRow.lt hO634 i hi).1; have := H625.lt; omega
          have ob641 : ∀ i, (v631).ownBlock = some i → i ≠ b46 := fun i hi => by have := (World.ownsRow.lt hO634 i hi).1; have := H626.lt; omega
          have oo642 : ∀ i, (v58).ownBlock = some i → (v631).ownBlock = some i → False := fun i hi hs => by have := (World.ownsRow.lt hO634 i hs).1; have := (World.ownsRow.lt F627 i hi).2; omega
          have oo643 : ∀ i, (v631).ownBlock = some i → (v58).ownBlock = some i → False := fun i hi hs => oo642 i hs hi
          have oo644 : ∀ i, (v73).ownBlock = some i → (v631).ownBlock = some i → False := fun i hi hs => by have := (World.ownsRow.lt hO634 i hs).1; have := (World.ownsRow.lt F628 i hi).2; omega
          have oo645 : ∀ i, (v631).ownBlock = some i → (v73).ownBlock = some i → False := fun i hi hs => oo644 i hs hi
          have oo646 : ∀ i, (v430).ownBlock = some i → (v631).ownBlock = some i → False := fun i hi hs => by have := (World.ownsRow.lt hO634 i hs).1; have := (World.ownsRow.lt F629 i hi).2; omega
          have oo647 : ∀ i, (v631).ownBlock = some i → (v430).ownBlock = some i → False := fun i hi hs => oo646 i hs hi
          have oo648 : ∀ i, (v454).ownBlock = some i → (v631).ownBlock = some i → False := fun i hi hs => by have := (World.ownsRow.lt hO634 i hs).1; have := (World.ownsRow.lt F630 i hi).2; omega
          have oo649 : ∀ i, (v631).ownBlock = some i → (v454).ownBlock = some i → False := fun i hi hs => oo648 i hs hi
          have oo650 : ∀ i, (v601).ownBlock = some i → (v631).ownBlock = some i → False := fun i hi hs => by have := (World.ownsRow.lt hO634 i hs).1; have := (World.ownsRow.lt O605 i hi).2; omega
          have oo651 : ∀ i, (v631).ownBlock = some i → (v601).ownBlock = some i → False := fun i hi hs => oo650 i hs hi
          have O635 : OwnB w632 w.heap.size _ v631 (rpv q) := own_base hO634 K620.size
          clear hO634
          have K652 := K620.trans K633 (U := none_) (fun i h1 h2 => h2) (fun i h1 h2 => by exact h2)
          clear K620
          have H653 := H621.keep K633 (fun h => h)
          clear H621
          have H654 := H622.keep K633 (fun h => h)
          clear H622
          have H655 := H623.keep K633 (fun h => h)
          clear H623
          have H656 := H624.keep K633 (fun h => h)
          clear H624
          have H657 := H625.keep K633 (fun h => h)
          clear H625
          have H658 := H626.keep K633 (fun h => h)
          clear H626
          have F659 := own_keep0 F627 K633
          clear F627
          have F660 := own_keep0 F628 K633
          clear F628
          have F661 := own_keep0 F629 K633
          clear F629
          have F662 := own_keep0 F630 K633
          clear F630
          have F663 := own_keep0 O605 K633
          clear O605
          refine ⟨_, _, rfl, rfl, K633, ?_⟩
          refine Dr.strong (S' := (fun wz => Keeps none_ w632 wz)) (Keeps.refl w632) (fun wz hx => K633.trans hx (fun i _ h => h) (fun _ _ h => h)) ?_
          clear K633
          refine Dr.take (i := 17) (v := (Value.string (str (rpv q)))) (by kernel_rfl) (by kernel_rfl) (fun wz hS => Runs.b2s (s := 23) (d := 9) (e := 5) (by kernel_rfl) (by kernel_rfl) (by kernel_rfl) (Rd.keep0 (by omega) (OwnB.rd O635) hS)) (d := (some 61)) (by kernel_rfl) rfl ?_
          refine Dr.take (i := 18) (v := (Value.bool ((rpv p) == (rpv q)))) (by kernel_rfl) (by kernel_rfl) (fun wz hS => Runs.streq (t := 9) (by kernel_rfl)) (d := (some 62)) (by kernel_rfl) rfl ?_
          refine Dr.call (i := 21) (by kernel_rfl) (by kernel_rfl) (d := (some 65)) (by kernel_rfl) (fun _ => SameReply_calls _ A c p B d q (Rd.keep0 (by omega) hp K652) (Rd.keep0 (by omega) hq K652)) ?_
          rintro _ w667 ⟨t664, rfl, ht665, K666⟩
          have K668 := K652.trans K666 (U := none_) (fun i h1 h2 => h2) (fun i h1 h2 => by exact h2)
          clear K652
          have H669 := H653.keep K666 (fun h => h)
          clear H653
          have H670 := H654.keep K666 (fun h => h)
          clear H654
          have H671 := H655.keep K666 (fun h => h)
          clear H655
          have H672 := H656.keep K666 (fun h => h)
          clear H656
          have H673 := H657.keep K666 (fun h => h)
          clear H657
          have H674 := H658.keep K666 (fun h => h)
          clear H658
          have F675 := own_keep0 F659 K666
          clear F659
          have F676 := own_keep0 F660 K666
          clear F660
          have F677 := own_keep0 F661 K666
          clear F661
          have F678 := own_keep0 F662 K666
          clear F662
          have F679 := own_keep0 F663 K666
          clear F663
          have F680 := own_keep0 O635 K666
          clear O635
          refine ⟨_, _, rfl, rfl, K666, ?_⟩
          refine Dr.strong (S' := (fun wz => Keeps none_ w667 wz)) (Keeps.refl w667) (fun wz hx => K666.trans hx (fun i _ h => h) (fun _ _ h => h)) ?_
          clear K666
          refine Dr.split ((rpv p) == (rpv q)) (fun h681 => ?_) (fun h681 => ?_)
          · rw [h681]
            have p682 : ((rpv p) == (rpv q)) = true := h681
            have hsr : p = q := rpv_inj hpo hqo hpr hqr hpn hqn (eq_of_beq h681)
            have h683 : t664 = true := ht665.2 hsr
            rw [h683]
            refine Dr.takes (fuel' := 3) (is' := [24, 23, 22, 21, 18, 17, 16, 14, 13, 20, 19, 15, 12, 11, 10, 6, 5, 4, 2, 1, 9, 8, 7, 3, 0]) [22, 23, 24] [(12, (Value.bool false)), (68, (Value.bool true))] (by kernel_rfl) rfl (by kernel_rfl) ?_
            refine Dr.call (i := 25) (by kernel_rfl) (by kernel_rfl) (d := (some 69)) (by kernel_rfl) (fun _ => known_calls _) ?_
            rintro _ w684 ⟨rfl, K685⟩
            have K686 := K668.trans K685 (U := none_) (fun i h1 h2 => h2) (fun i h1 h2 => by exact h2)
            clear K668
            have H687 := H669.keep K685 (fun h => h)
            clear H669
            have H688 := H670.keep K685 (fun h => h)
            clear H670
            have H689 := H671.keep K685 (fun h => h)
            clear H671
            have H690 := H672.keep K685 (fun h => h)
            clear H672
            have H691 := H673.keep K685 (fun h => h)
            clear H673
            have H692 := H674.keep K685 (fun h => h)
            clear H674
            have F693 := own_keep0 F675 K685
            clear F675
            have F694 := own_keep0 F676 K685
            clear F676
            have F695 := own_keep0 F677 K685
            clear F677
            have F696 := own_keep0 F678 K685
            clear F678
            have F697 := own_keep0 F679 K685
            clear F679
            have F698 := own_keep0 F680 K685
            clear F680
            refine ⟨_, _, rfl, rfl, K685, ?_⟩
            refine Dr.strong (S' := (fun wz => Keeps none_ w684 wz)) (Keeps.refl w684) (fun wz hx => K685.trans hx (fun i _ h => h) (fun _ _ h => h)) ?_
            clear K685
            refine Dr.takes (fuel' := 0) (is' := [27, 26, 25, 24, 23, 22, 21, 18, 17, 16, 14, 13, 20, 19, 15, 12, 11, 10, 6, 5, 4, 2, 1, 9, 8, 7, 3, 0]) [26, 27] [(12, (Value.bool true))] (by kernel_rfl) rfl (by kernel_rfl) ?_
            refine Dr.done (by kernel_rfl) ?_
            refine q_ret (by kernel_rfl) ?_
            refine ⟨(Value.bool true), retv_tmp rfl rfl, ?_⟩
            exact ⟨rfl, K686⟩
          · rw [h681]
            have p699 : ((rpv p) == (rpv q)) = false := h681
            have hsr : p ≠ q := fun z => by rw [z] at h681; simp at h681
            have h700 : t664 = false := Bool.eq_false_iff.2 (fun h => hsr (ht665.1 h))
            rw [h700]
            refine Dr.takes (fuel' := 3) (is' := [24, 23, 22, 21, 18, 17, 16, 14, 13, 20, 19, 15, 12, 11, 10, 6, 5, 4, 2, 1, 9, 8, 7, 3, 0]) [22, 23, 24] [(12, (Value.bool false)), (68, (Value.bool true))] (by kernel_rfl) rfl (by kernel_rfl) ?_
            refine Dr.call (i := 25) (by kernel_rfl) (by kernel_rfl) (d := (some 69)) (by kernel_rfl) (fun _ => known_calls _) ?_
            rintro _ w701 ⟨rfl, K702⟩
            have K703 := K668.trans K702 (U := none_) (fun i h1 h2 => h2) (fun i h1 h2 => by exact h2)
            clear K668
            have H704 := H669.keep K702 (fun h => h)
            clear H669
            have H705 := H670.keep K702 (fun h => h)
            clear H670
            have H706 := H671.keep K702 (fun h => h)
            clear H671
            have H707 := H672.keep K702 (fun h => h)
            clear H672
            have H708 := H673.keep K702 (fun h => h)
            clear H673
            have H709 := H674.keep K702 (fun h => h)
            clear H674
            have F710 := own_keep0 F675 K702
            clear F675
            have F711 := own_keep0 F676 K702
            clear F676
            have F712 := own_keep0 F677 K702
            clear F677
            have F713 := own_keep0 F678 K702
            clear F678
            have F714 := own_keep0 F679 K702
            clear F679
            have F715 := own_keep0 F680 K702
            clear F680
            refine ⟨_, _, rfl, rfl, K702, ?_⟩
            refine Dr.strong (S' := (fun wz => Keeps none_ w701 wz)) (Keeps.refl w701) (fun wz hx => K702.trans hx (fun i _ h => h) (fun _ _ h => h)) ?_
            clear K702
            refine Dr.takes (fuel' := 0) (is' := [27, 26, 25, 24, 23, 22, 21, 18, 17, 16, 14, 13, 20, 19, 15, 12, 11, 10, 6, 5, 4, 2, 1, 9, 8, 7, 3, 0]) [26, 27] [(12, (Value.bool true))] (by kernel_rfl) rfl (by kernel_rfl) ?_
            refine Dr.done (by kernel_rfl) ?_
            refine q_ret (by kernel_rfl) ?_
            refine ⟨(Value.bool true), retv_tmp rfl rfl, ?_⟩
            exact ⟨rfl, K703⟩
    · rw [h102]
      have p716 : ¬ (er74 = 0) := of_beq_f h102
      refine Dr.takes (fuel' := 0) (is' := [16, 15, 14, 13, 12, 11, 10, 9, 8, 7, 6, 5, 4, 3, 2, 1, 0]) [7, 8, 9, 10, 11, 12, 13, 14, 15, 16] [(6, (Value.pointer (some ⟨b1, 0, none⟩))), (7, (Value.pointer (some ⟨b8, 0, none⟩))), (8, (Value.pointer (some ⟨b16, 0, none⟩))), (9, (Value.pointer (some ⟨b25, 0, none⟩))), (12, (Value.bool false)), (43, (Value.bool false))] (by kernel_rfl) rfl (by kernel_rfl) ?_
      refine Dr.done (by kernel_rfl) ?_
      refine q_else (o := .tmp 43) (by kernel_rfl) rfl ?_
      refine q_skip (by kernel_rfl) ?_
      refine q_seq (by kernel_rfl) ?_
      refine q_draw (fun wz => Keeps none_ w89 wz) 28 (by kernel_rfl) (by kernel_rfl) (by kernel_rfl) (fun w717 K718 _ _ => ⟨K718, ?_⟩)
      have K719 := K91.trans K718 (U := none_) (fun i h1 h2 => h2) (fun i h1 h2 => by exact h2)
      clear K91
      have H720 := H92.keep K718 (fun h => h)
      clear H92
      have H721 := H93.keep K718 (fun h => h)
      clear H93
      have H722 := H94.keep K718 (fun h => h)
      clear H94
      have H723 := H95.keep K718 (fun h => h)
      clear H95
      have H724 := H96.keep K718 (fun h => h)
      clear H96
      have H725 := H97.keep K718 (fun h => h)
      clear H97
      have F726 := own_keep0 F98 K718
      clear F98
      have F727 := own_keep0 F99 K718
      clear F99
      refine Dr.strong (S' := (fun wz => Keeps none_ w717 wz)) (Keeps.refl w717) (fun wz hx => K718.trans hx (fun i _ h => h) (fun _ _ h => h)) ?_
      clear K718
      refine Dr.take (i := 0) (v := (agg [(i64 om.kind), (Value.string (str om.frm)), (Value.string (str om.to)), (i64 om.amount), (Value.string (str om.key)), (i64 om.slot), (i64 om.shard)])) (by kernel_rfl) (by kernel_rfl) (fun wz hS => Runs.load (t := 43) (a := ⟨b1, 0, none⟩) (by kernel_rfl) ((H720.keep hS (fun h => h)).loads (by kernel_rfl))) (d := (some 44)) (by kernel_rfl) rfl ?_
      refine Dr.take (i := 3) (v := (agg [(i64 on.kind), (Value.string (str on.frm)), (Value.string (str on.to)), (i64 on.amount), (Value.string (str on.key)), (i64 on.slot), (i64 on.shard)])) (by kernel_rfl) (by kernel_rfl) (fun wz hS => Runs.load (t := 43) (a := ⟨b8, 0, none⟩) (by kernel_rfl) ((H721.keep hS (fun h => h)).loads (by kernel_rfl))) (d := (some 47)) (by kernel_rfl) rfl ?_
      refine Dr.take (i := 7) (v := (agg [(i64 om.kind), (Value.string (str om.frm)), (Value.string (str om.to)), (i64 om.amount), (Value.string (str om.key)), (i64 om.slot), (i64 om.shard)])) (by kernel_rfl) (by kernel_rfl) (fun wz hS => Runs.load (t := 43) (a := ⟨b1, 0, none⟩) (by kernel_rfl) ((H720.keep hS (fun h => h)).loads (by kernel_rfl))) (d := (some 51)) (by kernel_rfl) rfl ?_
      refine Dr.take (i := 8) (v := (agg [(i64 on.kind), (Value.string (str on.frm)), (Value.string (str on.to)), (i64 on.amount), (Value.string (str on.key)), (i64 on.slot), (i64 on.shard)])) (by kernel_rfl) (by kernel_rfl) (fun wz hS => Runs.load (t := 43) (a := ⟨b8, 0, none⟩) (by kernel_rfl) ((H721.keep hS (fun h => h)).loads (by kernel_rfl))) (d := (some 52)) (by kernel_rfl) rfl ?_
      refine Dr.take (i := 9) (v := (Value.bool (aggB [(i64 om.kind), (Value.string (str om.frm)), (Value.string (str om.to)), (i64 om.amount), (Value.string (str om.key)), (i64 om.slot), (i64 om.shard)] [(i64 on.kind), (Value.string (str on.frm)), (Value.string (str on.to)), (i64 on.amount), (Value.string (str on.key)), (i64 on.slot), (i64 on.shard)]))) (by kernel_rfl) (by kernel_rfl) (fun wz hS => Runs.aggeq (t := 43) (by kernel_rfl) (by kernel_rfl)) (d := (some 53)) (by kernel_rfl) rfl ?_
      refine Dr.call (i := 1) (by kernel_rfl) (by kernel_rfl) (d := (some 45)) (by kernel_rfl) (fun _ => PutOp_calls _ (Value.slice none 0 0) [] om (Rd.nil _ _) hom (by (try simp only at *); (try simp only [List.length_append] at *); (try simp only [List.length_cons] at *); (try simp only [List.length_nil] at *); omega)) ?_
      rintro _ w729 ⟨v728, rfl, K730, hO731⟩
      have ob733 : ∀ i, (v728).ownBlock = some i → i ≠ b1 := fun i hi => by have := (World.ownsRow.lt hO731 i hi).1; have := H720.lt; omega
      have ob734 : ∀ i, (v728).ownBlock = some i → i ≠ b8 := fun i hi => by have := (World.ownsRow.lt hO731 i hi).1; have := H721.lt; omega
      have ob735 : ∀ i, (v728).ownBlock = some i → i ≠ b16 := fun i hi => by have := (World.ownsRow.lt hO731 i hi).1; have := H722.lt; omega
      have ob736 : ∀ i, (v728).ownBlock = some i → i ≠ b25 := fun i hi => by have := (World.ownsRow.lt hO731 i hi).1; have := H723.lt; omega
      have ob737 : ∀ i, (v728).ownBlock = some i → i ≠ b35 := fun i hi => by have := (World.ownsRow.lt hO731 i hi).1; have := H724.lt; omega
      have ob738 : ∀ i, (v728).ownBlock = some i → i ≠ b46 := fun i hi => by have := (World.ownsRow.lt hO731 i hi).1; have := H725.lt; omega
      have oo739 : ∀ i, (v58).ownBlock = some i → (v728).ownBlock = some i → False := fun i hi hs => by have := (World.ownsRow.lt hO731 i hs).1; have := (World.ownsRow.lt F726 i hi).2; omega
      have oo740 : ∀ i, (v728).ownBlock = some i → (v58).ownBlock = some i → False := fun i hi hs => oo739 i hs hi
      have oo741 : ∀ i, (v73).ownBlock = some i → (v728).ownBlock = some i → False := fun i hi hs => by have := (World.ownsRow.lt hO731 i hs).1; have := (World.ownsRow.lt F727 i hi).2; omega
      have oo742 : ∀ i, (v728).ownBlock = some i → (v73).ownBlock = some i → False := fun i hi hs => oo741 i hs hi
      have O732 : OwnB w729 w.heap.size _ v728 (opv om) := own_base hO731 K719.size
      clear hO731
      have K743 := K719.trans K730 (U := none_) (fun i h1 h2 => h2) (fun i h1 h2 => by exact h2)
      clear K719
      have H744 := H720.keep K730 (fun h => h)
      clear H720
      have H745 := H721.keep K730 (fun h => h)
      clear H721
      have H746 := H722.keep K730 (fun h => h)
      clear H722
      have H747 := H723.keep K730 (fun h => h)
      clear H723
      have H748 := H724.keep K730 (fun h => h)
      clear H724
      have H749 := H725.keep K730 (fun h => h)
      clear H725
      have F750 := own_keep0 F726 K730
      clear F726
      have F751 := own_keep0 F727 K730
      clear F727
      refine ⟨_, _, rfl, rfl, K730, ?_⟩
      refine Dr.strong (S' := (fun wz => Keeps none_ w729 wz)) (Keeps.refl w729) (fun wz hx => K730.trans hx (fun i _ h => h) (fun _ _ h => h)) ?_
      clear K730
      refine Dr.take (i := 2) (v := (Value.string (str (opv om)))) (by kernel_rfl) (by kernel_rfl) (fun wz hS => Runs.b2s (s := 23) (d := 9) (e := 5) (by kernel_rfl) (by kernel_rfl) (by kernel_rfl) (Rd.keep0 (by omega) (OwnB.rd O732) hS)) (d := (some 46)) (by kernel_rfl) rfl ?_
      refine Dr.call (i := 4) (by kernel_rfl) (by kernel_rfl) (d := (some 48)) (by kernel_rfl) (fun _ => PutOp_calls _ (Value.slice none 0 0) [] on (Rd.nil _ _) hon (by (try simp only at *); (try simp only [List.length_append] at *); (try simp only [List.length_cons] at *); (try simp only [List.length_nil] at *); omega)) ?_
      rintro _ w753 ⟨v752, rfl, K754, hO755⟩
      have ob757 : ∀ i, (v752).ownBlock = some i → i ≠ b1 := fun i hi => by have := (World.ownsRow.lt hO755 i hi).1; have := H744.lt; omega
      have ob758 : ∀ i, (v752).ownBlock = some i → i ≠ b8 := fun i hi => by have := (World.ownsRow.lt hO755 i hi).1; have := H745.lt; omega
      have ob759 : ∀ i, (v752).ownBlock = some i → i ≠ b16 := fun i hi => by have := (World.ownsRow.lt hO755 i hi).1; have := H746.lt; omega
      have ob760 : ∀ i, (v752).ownBlock = some i → i ≠ b25 := fun i hi => by have := (World.ownsRow.lt hO755 i hi).1; have := H747.lt; omega
      have ob761 : ∀ i, (v752).ownBlock = some i → i ≠ b35 := fun i hi => by have := (World.ownsRow.lt hO755 i hi).1; have := H748.lt; omega
      have ob762 : ∀ i, (v752).ownBlock = some i → i ≠ b46 := fun i hi => by have := (World.ownsRow.lt hO755 i hi).1; have := H749.lt; omega
      have oo763 : ∀ i, (v58).ownBlock = some i → (v752).ownBlock = some i → False := fun i hi hs => by have := (World.ownsRow.lt hO755 i hs).1; have := (World.ownsRow.lt F750 i hi).2; omega
      have oo764 : ∀ i, (v752).ownBlock = some i → (v58).ownBlock = some i → False := fun i hi hs => oo763 i hs hi
      have oo765 : ∀ i, (v73).ownBlock = some i → (v752).ownBlock = some i → False := fun i hi hs => by have := (World.ownsRow.lt hO755 i hs).1; have := (World.ownsRow.lt F751 i hi).2; omega
      have oo766 : ∀ i, (v752).ownBlock = some i → (v73).ownBlock = some i → False := fun i hi hs => oo765 i hs hi
      have oo767 : ∀ i, (v728).ownBlock = some i → (v752).ownBlock = some i → False := fun i hi hs => by have := (World.ownsRow.lt hO755 i hs).1; have := (World.ownsRow.lt O732 i hi).2; omega
      have oo768 : ∀ i, (v752).ownBlock = some i → (v728).ownBlock = some i → False := fun i hi hs => oo767 i hs hi
      have O756 : OwnB w753 w.heap.size _ v752 (opv on) := own_base hO755 K743.size
      clear hO755
      have K769 := K743.trans K754 (U := none_) (fun i h1 h2 => h2) (fun i h1 h2 => by exact h2)
      clear K743
      have H770 := H744.keep K754 (fun h => h)
      clear H744
      have H771 := H745.keep K754 (fun h => h)
      clear H745
      have H772 := H746.keep K754 (fun h => h)
      clear H746
      have H773 := H747.keep K754 (fun h => h)
      clear H747
      have H774 := H748.keep K754 (fun h => h)
      clear H748
      have H775 := H749.keep K754 (fun h => h)
      clear H749
      have F776 := own_keep0 F750 K754
      clear F750
      have F777 := own_keep0 F751 K754
      clear F751
      have F778 := own_keep0 O732 K754
      clear O732
      refine ⟨_, _, rfl, rfl, K754, ?_⟩
      refine Dr.strong (S' := (fun wz => Keeps none_ w753 wz)) (Keeps.refl w753) (fun wz hx => K754.trans hx (fun i _ h => h) (fun _ _ h => h)) ?_
      clear K754
      refine Dr.take (i := 5) (v := (Value.string (str (opv on)))) (by kernel_rfl) (by kernel_rfl) (fun wz hS => Runs.b2s (s := 23) (d := 9) (e := 5) (by kernel_rfl) (by kernel_rfl) (by kernel_rfl) (Rd.keep0 (by omega) (OwnB.rd O756) hS)) (d := (some 49)) (by kernel_rfl) rfl ?_
      refine Dr.take (i := 6) (v := (Value.bool ((opv om) == (opv on)))) (by kernel_rfl) (by kernel_rfl) (fun wz hS => Runs.streq (t := 9) (by kernel_rfl)) (d := (some 50)) (by kernel_rfl) rfl ?_
      refine Dr.split ((opv om) == (opv on)) (fun h779 => ?_) (fun h779 => ?_)
      · rw [h779]
        have p780 : ((opv om) == (opv on)) = true := h779
        have hso : om = on := opv_inj hom hon (by omega) (by omega) (by omega) (by omega) (by omega) (by omega) (eq_of_beq h779)
        have h781 : (aggB [(i64 om.kind), (Value.string (str om.frm)), (Value.string (str om.to)), (i64 om.amount), (Value.string (str om.key)), (i64 om.slot), (i64 om.shard)] [(i64 on.kind), (Value.string (str on.frm)), (Value.string (str on.to)), (i64 on.amount), (Value.string (str on.key)), (i64 on.slot), (i64 on.shard)]) = true := (aggB_op om on).2 hso
        rw [h781]
        refine Dr.takes (fuel' := 16) (is' := [11, 10, 6, 5, 4, 2, 1, 9, 8, 7, 3, 0]) [10, 11] [(8, (Value.pointer (some ⟨b16, 0, none⟩))), (9, (Value.pointer (some ⟨b25, 0, none⟩))), (12, (Value.bool false)), (55, (Value.bool true))] (by kernel_rfl) rfl (by kernel_rfl) ?_
        refine Dr.take (i := 12) (v := (agg [(i64 p.why), (i64 p.amount), (Value.slice A p.rows.length c)])) (by kernel_rfl) (by kernel_rfl) (fun wz hS => Runs.load (t := 46) (a := ⟨b16, 0, none⟩) (by kernel_rfl) ((H772.keep hS (fun h => h)).loads (by kernel_rfl))) (d := (some 56)) (by kernel_rfl) rfl ?_
        refine Dr.take (i := 15) (v := (agg [(i64 q.why), (i64 q.amount), (Value.slice B q.rows.length d)])) (by kernel_rfl) (by kernel_rfl) (fun wz hS => Runs.load (t := 46) (a := ⟨b25, 0, none⟩) (by kernel_rfl) ((H773.keep hS (fun h => h)).loads (by kernel_rfl))) (d := (some 59)) (by kernel_rfl) rfl ?_
        refine Dr.take (i := 19) (v := (agg [(i64 p.why), (i64 p.amount), (Value.slice A p.rows.length c)])) (by kernel_rfl) (by kernel_rfl) (fun wz hS => Runs.load (t := 46) (a := ⟨b16, 0, none⟩) (by kernel_rfl) ((H772.keep hS (fun h => h)).loads (by kernel_rfl))) (d := (some 63)) (by kernel_rfl) rfl ?_
        refine Dr.take (i := 20) (v := (agg [(i64 q.why), (i64 q.amount), (Value.slice B q.rows.length d)])) (by kernel_rfl) (by kernel_rfl) (fun wz hS => Runs.load (t := 46) (a := ⟨b25, 0, none⟩) (by kernel_rfl) ((H773.keep hS (fun h => h)).loads (by kernel_rfl))) (d := (some 64)) (by kernel_rfl) rfl ?_
        refine Dr.call (i := 13) (by kernel_rfl) (by kernel_rfl) (d := (some 57)) (by kernel_rfl) (fun _ => PutReply_calls _ (Value.slice none 0 0) [] p A c (Rd.nil _ _) hpo (Rd.keep0 (by omega) hp K769) (by (try simp only at *); (try simp only [List.length_append] at *); (try simp only [List.length_cons] at *); (try simp only [List.length_nil] at *); omega)) ?_
        rintro _ w783 ⟨v782, rfl, K784, hO785⟩
        have ob787 : ∀ i, (v782).ownBlock = some i → i ≠ b1 := fun i hi => by have := (World.ownsRow.lt hO785 i hi).1; have := H770.lt; omega
        have ob788 : ∀ i, (v782).ownBlock = some i → i ≠ b8 := fun i hi => by have := (World.ownsRow.lt hO785 i hi).1; have := H771.lt; omega
        have ob789 : ∀ i, (v782).ownBlock = some i → i ≠ b16 := fun i hi => by have := (World.ownsRow.lt hO785 i hi).1; have := H772.lt; omega
        have ob790 : ∀ i, (v782).ownBlock = some i → i ≠ b25 := fun i hi => by have := (World.ownsRow.lt hO785 i hi).1; have := H773.lt; omega
        have ob791 : ∀ i, (v782).ownBlock = some i → i ≠ b35 := fun i hi => by have := (World.ownsRow.lt hO785 i hi).1; have := H774.lt; omega
        have ob792 : ∀ i, (v782).ownBlock = some i → i ≠ b46 := fun i hi => by have := (World.ownsRow.lt hO785 i hi).1; have := H775.lt; omega
        have oo793 : ∀ i, (v58).ownBlock = some i → (v782).ownBlock = some i → False := fun i hi hs => by have := (World.ownsRow.lt hO785 i hs).1; have := (World.ownsRow.lt F776 i hi).2; omega
        have oo794 : ∀ i, (v782).ownBlock = some i → (v58).ownBlock = some i → False := fun i hi hs => oo793 i hs hi
        have oo795 : ∀ i, (v73).ownBlock = some i → (v782).ownBlock = some i → False := fun i hi hs => by have := (World.ownsRow.lt hO785 i hs).1; have := (World.ownsRow.lt F777 i hi).2; omega
        have oo796 : ∀ i, (v782).ownBlock = some i → (v73).ownBlock = some i → False := fun i hi hs => oo795 i hs hi
        have oo797 : ∀ i, (v728).ownBlock = some i → (v782).ownBlock = some i → False := fun i hi hs => by have := (World.ownsRow.lt hO785 i hs).1; have := (World.ownsRow.lt F778 i hi).2; omega
        have oo798 : ∀ i, (v782).ownBlock = some i → (v728).ownBlock = some i → False := fun i hi hs => oo797 i hs hi
        have oo799 : ∀ i, (v752).ownBlock = some i → (v782).ownBlock = some i → False := fun i hi hs => by have := (World.ownsRow.lt hO785 i hs).1; have := (World.ownsRow.lt O756 i hi).2; omega
        have oo800 : ∀ i, (v782).ownBlock = some i → (v752).ownBlock = some i → False := fun i hi hs => oo799 i hs hi
        have O786 : OwnB w783 w.heap.size _ v782 (rpv p) := own_base hO785 K769.size
        clear hO785
        have K801 := K769.trans K784 (U := none_) (fun i h1 h2 => h2) (fun i h1 h2 => by exact h2)
        clear K769
        have H802 := H770.keep K784 (fun h => h)
        clear H770
        have H803 := H771.keep K784 (fun h => h)
        clear H771
        have H804 := H772.keep K784 (fun h => h)
        clear H772
        have H805 := H773.keep K784 (fun h => h)
        clear H773
        have H806 := H774.keep K784 (fun h => h)
        clear H774
        have H807 := H775.keep K784 (fun h => h)
        clear H775
        have F808 := own_keep0 F776 K784
        clear F776
        have F809 := own_keep0 F777 K784
        clear F777
        have F810 := own_keep0 F778 K784
        clear F778
        have F811 := own_keep0 O756 K784
        clear O756
        refine ⟨_, _, rfl, rfl, K784, ?_⟩
        refine Dr.strong (S' := (fun wz => Keeps none_ w783 wz)) (Keeps.refl w783) (fun wz hx => K784.trans hx (fun i _ h => h) (fun _ _ h => h)) ?_
        clear K784
        refine Dr.take (i := 14) (v := (Value.string (str (rpv p)))) (by kernel_rfl) (by kernel_rfl) (fun wz hS => Runs.b2s (s := 23) (d := 9) (e := 5) (by kernel_rfl) (by kernel_rfl) (by kernel_rfl) (Rd.keep0 (by omega) (OwnB.rd O786) hS)) (d := (some 58)) (by kernel_rfl) rfl ?_
        refine Dr.call (i := 16) (by kernel_rfl) (by kernel_rfl) (d := (some 60)) (by kernel_rfl) (fun _ => PutReply_calls _ (Value.slice none 0 0) [] q B d (Rd.nil _ _) hqo (Rd.keep0 (by omega) hq K801) (by (try simp only at *); (try simp only [List.length_append] at *); (try simp only [List.length_cons] at *); (try simp only [List.length_nil] at *); omega)) ?_
        rintro _ w813 ⟨v812, rfl, K814, hO815⟩
        have ob817 : ∀ i, (v812).ownBlock = some i → i ≠ b1 := fun i hi => by have := (World.ownsRow.lt hO815 i hi).1; have := H802.lt; omega
        have ob818 : ∀ i, (v812).ownBlock = some i → i ≠ b8 := fun i hi => by have := (World.ownsRow.lt hO815 i hi).1; have := H803.lt; omega
        have ob819 : ∀ i, (v812).ownBlock = some i → i ≠ b16 := fun i hi => by have := (World.ownsRow.lt hO815 i hi).1; have := H804.lt; omega
        have ob820 : ∀ i, (v812).ownBlock = some i → i ≠ b25 := fun i hi => by have := (World.ownsRow.lt hO815 i hi).1; have := H805.lt; omega
        have ob821 : ∀ i, (v812).ownBlock = some i → i ≠ b35 := fun i hi => by have := (World.ownsRow.lt hO815 i hi).1; have := H806.lt; omega
        have ob822 : ∀ i, (v812).ownBlock = some i → i ≠ b46 := fun i hi => by have := (World.ownsRow.lt hO815 i hi).1; have := H807.lt; omega
        have oo823 : ∀ i, (v58).ownBlock = some i → (v812).ownBlock = some i → False := fun i hi hs => by have := (World.ownsRow.lt hO815 i hs).1; have := (World.ownsRow.lt F808 i hi).2; omega
        have oo824 : ∀ i, (v812).ownBlock = some i → (v58).ownBlock = some i → False := fun i hi hs => oo823 i hs hi
        have oo825 : ∀ i, (v73).ownBlock = some i → (v812).ownBlock = some i → False := fun i hi hs => by have := (World.ownsRow.lt hO815 i hs).1; have := (World.ownsRow.lt F809 i hi).2; omega
        have oo826 : ∀ i, (v812).ownBlock = some i → (v73).ownBlock = some i → False := fun i hi hs => oo825 i hs hi
        have oo827 : ∀ i, (v728).ownBlock = some i → (v812).ownBlock = some i → False := fun i hi hs => by have := (World.ownsRow.lt hO815 i hs).1; have := (World.ownsRow.lt F810 i hi).2; omega
        have oo828 : ∀ i, (v812).ownBlock = some i → (v728).ownBlock = some i → False := fun i hi hs => oo827 i hs hi
        have oo829 : ∀ i, (v752).ownBlock = some i → (v812).ownBlock = some i → False := fun i hi hs => by have := (World.ownsRow.lt hO815 i hs).1; have := (World.ownsRow.lt F811 i hi).2; omega
        have oo830 : ∀ i, (v812).ownBlock = some i → (v752).ownBlock = some i → False := fun i hi hs => oo829 i hs hi
        have oo831 : ∀ i, (v782).ownBlock = some i → (v812).ownBlock = some i → False := fun i hi hs => by have := (World.ownsRow.lt hO815 i hs).1; have := (World.ownsRow.lt O786 i hi).2; omega
        have oo832 : ∀ i, (v812).ownBlock = some i → (v782).ownBlock = some i → False := fun i hi hs => oo831 i hs hi
        have O816 : OwnB w813 w.heap.size _ v812 (rpv q) := own_base hO815 K801.size
        clear hO815
        have K833 := K801.trans K814 (U := none_) (fun i h1 h2 => h2) (fun i h1 h2 => by exact h2)
        clear K801
        have H834 := H802.keep K814 (fun h => h)
        clear H802
        have H835 := H803.keep K814 (fun h => h)
        clear H803
        have H836 := H804.keep K814 (fun h => h)
        clear H804
        have H837 := H805.keep K814 (fun h => h)
        clear H805
        have H838 := H806.keep K814 (fun h => h)
        clear H806
        have H839 := H807.keep K814 (fun h => h)
        clear H807
        have F840 := own_keep0 F808 K814
        clear F808
        have F841 := own_keep0 F809 K814
        clear F809
        have F842 := own_keep0 F810 K814
        clear F810
        have F843 := own_keep0 F811 K814
        clear F811
        have F844 := own_keep0 O786 K814
        clear O786
        refine ⟨_, _, rfl, rfl, K814, ?_⟩
        refine Dr.strong (S' := (fun wz => Keeps none_ w813 wz)) (Keeps.refl w813) (fun wz hx => K814.trans hx (fun i _ h => h) (fun _ _ h => h)) ?_
        clear K814
        refine Dr.take (i := 17) (v := (Value.string (str (rpv q)))) (by kernel_rfl) (by kernel_rfl) (fun wz hS => Runs.b2s (s := 23) (d := 9) (e := 5) (by kernel_rfl) (by kernel_rfl) (by kernel_rfl) (Rd.keep0 (by omega) (OwnB.rd O816) hS)) (d := (some 61)) (by kernel_rfl) rfl ?_
        refine Dr.take (i := 18) (v := (Value.bool ((rpv p) == (rpv q)))) (by kernel_rfl) (by kernel_rfl) (fun wz hS => Runs.streq (t := 9) (by kernel_rfl)) (d := (some 62)) (by kernel_rfl) rfl ?_
        refine Dr.call (i := 21) (by kernel_rfl) (by kernel_rfl) (d := (some 65)) (by kernel_rfl) (fun _ => SameReply_calls _ A c p B d q (Rd.keep0 (by omega) hp K833) (Rd.keep0 (by omega) hq K833)) ?_
        rintro _ w848 ⟨t845, rfl, ht846, K847⟩
        have K849 := K833.trans K847 (U := none_) (fun i h1 h2 => h2) (fun i h1 h2 => by exact h2)
        clear K833
        have H850 := H834.keep K847 (fun h => h)
        clear H834
        have H851 := H835.keep K847 (fun h => h)
        clear H835
        have H852 := H836.keep K847 (fun h => h)
        clear H836
        have H853 := H837.keep K847 (fun h => h)
        clear H837
        have H854 := H838.keep K847 (fun h => h)
        clear H838
        have H855 := H839.keep K847 (fun h => h)
        clear H839
        have F856 := own_keep0 F840 K847
        clear F840
        have F857 := own_keep0 F841 K847
        clear F841
        have F858 := own_keep0 F842 K847
        clear F842
        have F859 := own_keep0 F843 K847
        clear F843
        have F860 := own_keep0 F844 K847
        clear F844
        have F861 := own_keep0 O816 K847
        clear O816
        refine ⟨_, _, rfl, rfl, K847, ?_⟩
        refine Dr.strong (S' := (fun wz => Keeps none_ w848 wz)) (Keeps.refl w848) (fun wz hx => K847.trans hx (fun i _ h => h) (fun _ _ h => h)) ?_
        clear K847
        refine Dr.split ((rpv p) == (rpv q)) (fun h862 => ?_) (fun h862 => ?_)
        · rw [h862]
          have p863 : ((rpv p) == (rpv q)) = true := h862
          have hsr : p = q := rpv_inj hpo hqo hpr hqr hpn hqn (eq_of_beq h862)
          have h864 : t845 = true := ht846.2 hsr
          rw [h864]
          refine Dr.takes (fuel' := 3) (is' := [24, 23, 22, 21, 18, 17, 16, 14, 13, 20, 19, 15, 12, 11, 10, 6, 5, 4, 2, 1, 9, 8, 7, 3, 0]) [22, 23, 24] [(12, (Value.bool false)), (68, (Value.bool true))] (by kernel_rfl) rfl (by kernel_rfl) ?_
          refine Dr.call (i := 25) (by kernel_rfl) (by kernel_rfl) (d := (some 69)) (by kernel_rfl) (fun _ => known_calls _) ?_
          rintro _ w865 ⟨rfl, K866⟩
          have K867 := K849.trans K866 (U := none_) (fun i h1 h2 => h2) (fun i h1 h2 => by exact h2)
          clear K849
          have H868 := H850.keep K866 (fun h => h)
          clear H850
          have H869 := H851.keep K866 (fun h => h)
          clear H851
          have H870 := H852.keep K866 (fun h => h)
          clear H852
          have H871 := H853.keep K866 (fun h => h)
          clear H853
          have H872 := H854.keep K866 (fun h => h)
          clear H854
          have H873 := H855.keep K866 (fun h => h)
          clear H855
          have F874 := own_keep0 F856 K866
          clear F856
          have F875 := own_keep0 F857 K866
          clear F857
          have F876 := own_keep0 F858 K866
          clear F858
          have F877 := own_keep0 F859 K866
          clear F859
          have F878 := own_keep0 F860 K866
          clear F860
          have F879 := own_keep0 F861 K866
          clear F861
          refine ⟨_, _, rfl, rfl, K866, ?_⟩
          refine Dr.strong (S' := (fun wz => Keeps none_ w865 wz)) (Keeps.refl w865) (fun wz hx => K866.trans hx (fun i _ h => h) (fun _ _ h => h)) ?_
          clear K866
          refine Dr.takes (fuel' := 0) (is' := [27, 26, 25, 24, 23, 22, 21, 18, 17, 16, 14, 13, 20, 19, 15, 12, 11, 10, 6, 5, 4, 2, 1, 9, 8, 7, 3, 0]) [26, 27] [(12, (Value.bool true))] (by kernel_rfl) rfl (by kernel_rfl) ?_
          refine Dr.done (by kernel_rfl) ?_
          refine q_ret (by kernel_rfl) ?_
          refine ⟨(Value.bool true), retv_tmp rfl rfl, ?_⟩
          exact ⟨rfl, K867⟩
        · rw [h862]
          have p880 : ((rpv p) == (rpv q)) = false := h862
          have hsr : p ≠ q := fun z => by rw [z] at h862; simp at h862
          have h881 : t845 = false := Bool.eq_false_iff.2 (fun h => hsr (ht846.1 h))
          rw [h881]
          refine Dr.takes (fuel' := 3) (is' := [24, 23, 22, 21, 18, 17, 16, 14, 13, 20, 19, 15, 12, 11, 10, 6, 5, 4, 2, 1, 9, 8, 7, 3, 0]) [22, 23, 24] [(12, (Value.bool false)), (68, (Value.bool true))] (by kernel_rfl) rfl (by kernel_rfl) ?_
          refine Dr.call (i := 25) (by kernel_rfl) (by kernel_rfl) (d := (some 69)) (by kernel_rfl) (fun _ => known_calls _) ?_
          rintro _ w882 ⟨rfl, K883⟩
          have K884 := K849.trans K883 (U := none_) (fun i h1 h2 => h2) (fun i h1 h2 => by exact h2)
          clear K849
          have H885 := H850.keep K883 (fun h => h)
          clear H850
          have H886 := H851.keep K883 (fun h => h)
          clear H851
          have H887 := H852.keep K883 (fun h => h)
          clear H852
          have H888 := H853.keep K883 (fun h => h)
          clear H853
          have H889 := H854.keep K883 (fun h => h)
          clear H854
          have H890 := H855.keep K883 (fun h => h)
          clear H855
          have F891 := own_keep0 F856 K883
          clear F856
          have F892 := own_keep0 F857 K883
          clear F857
          have F893 := own_keep0 F858 K883
          clear F858
          have F894 := own_keep0 F859 K883
          clear F859
          have F895 := own_keep0 F860 K883
          clear F860
          have F896 := own_keep0 F861 K883
          clear F861
          refine ⟨_, _, rfl, rfl, K883, ?_⟩
          refine Dr.strong (S' := (fun wz => Keeps none_ w882 wz)) (Keeps.refl w882) (fun wz hx => K883.trans hx (fun i _ h => h) (fun _ _ h => h)) ?_
          clear K883
          refine Dr.takes (fuel' := 0) (is' := [27, 26, 25, 24, 23, 22, 21, 18, 17, 16, 14, 13, 20, 19, 15, 12, 11, 10, 6, 5, 4, 2, 1, 9, 8, 7, 3, 0]) [26, 27] [(12, (Value.bool true))] (by kernel_rfl) rfl (by kernel_rfl) ?_
          refine Dr.done (by kernel_rfl) ?_
          refine q_ret (by kernel_rfl) ?_
          refine ⟨(Value.bool true), retv_tmp rfl rfl, ?_⟩
          exact ⟨rfl, K884⟩
      · rw [h779]
        have p897 : ((opv om) == (opv on)) = false := h779
        have hso : om ≠ on := fun q => by rw [q] at h779; simp at h779
        have h898 : (aggB [(i64 om.kind), (Value.string (str om.frm)), (Value.string (str om.to)), (i64 om.amount), (Value.string (str om.key)), (i64 om.slot), (i64 om.shard)] [(i64 on.kind), (Value.string (str on.frm)), (Value.string (str on.to)), (i64 on.amount), (Value.string (str on.key)), (i64 on.slot), (i64 on.shard)]) = false := Bool.eq_false_iff.2 (fun h => hso ((aggB_op om on).1 h))
        rw [h898]
        refine Dr.takes (fuel' := 16) (is' := [11, 10, 6, 5, 4, 2, 1, 9, 8, 7, 3, 0]) [10, 11] [(8, (Value.pointer (some ⟨b16, 0, none⟩))), (9, (Value.pointer (some ⟨b25, 0, none⟩))), (12, (Value.bool false)), (55, (Value.bool true))] (by kernel_rfl) rfl (by kernel_rfl) ?_
        refine Dr.take (i := 12) (v := (agg [(i64 p.why), (i64 p.amount), (Value.slice A p.rows.length c)])) (by kernel_rfl) (by kernel_rfl) (fun wz hS => Runs.load (t := 46) (a := ⟨b16, 0, none⟩) (by kernel_rfl) ((H772.keep hS (fun h => h)).loads (by kernel_rfl))) (d := (some 56)) (by kernel_rfl) rfl ?_
        refine Dr.take (i := 15) (v := (agg [(i64 q.why), (i64 q.amount), (Value.slice B q.rows.length d)])) (by kernel_rfl) (by kernel_rfl) (fun wz hS => Runs.load (t := 46) (a := ⟨b25, 0, none⟩) (by kernel_rfl) ((H773.keep hS (fun h => h)).loads (by kernel_rfl))) (d := (some 59)) (by kernel_rfl) rfl ?_
        refine Dr.take (i := 19) (v := (agg [(i64 p.why), (i64 p.amount), (Value.slice A p.rows.length c)])) (by kernel_rfl) (by kernel_rfl) (fun wz hS => Runs.load (t := 46) (a := ⟨b16, 0, none⟩) (by kernel_rfl) ((H772.keep hS (fun h => h)).loads (by kernel_rfl))) (d := (some 63)) (by kernel_rfl) rfl ?_
        refine Dr.take (i := 20) (v := (agg [(i64 q.why), (i64 q.amount), (Value.slice B q.rows.length d)])) (by kernel_rfl) (by kernel_rfl) (fun wz hS => Runs.load (t := 46) (a := ⟨b25, 0, none⟩) (by kernel_rfl) ((H773.keep hS (fun h => h)).loads (by kernel_rfl))) (d := (some 64)) (by kernel_rfl) rfl ?_
        refine Dr.call (i := 13) (by kernel_rfl) (by kernel_rfl) (d := (some 57)) (by kernel_rfl) (fun _ => PutReply_calls _ (Value.slice none 0 0) [] p A c (Rd.nil _ _) hpo (Rd.keep0 (by omega) hp K769) (by (try simp only at *); (try simp only [List.length_append] at *); (try simp only [List.length_cons] at *); (try simp only [List.length_nil] at *); omega)) ?_
        rintro _ w900 ⟨v899, rfl, K901, hO902⟩
        have ob904 : ∀ i, (v899).ownBlock = some i → i ≠ b1 := fun i hi => by have := (World.ownsRow.lt hO902 i hi).1; have := H770.lt; omega
        have ob905 : ∀ i, (v899).ownBlock = some i → i ≠ b8 := fun i hi => by have := (World.ownsRow.lt hO902 i hi).1; have := H771.lt; omega
        have ob906 : ∀ i, (v899).ownBlock = some i → i ≠ b16 := fun i hi => by have := (World.ownsRow.lt hO902 i hi).1; have := H772.lt; omega
        have ob907 : ∀ i, (v899).ownBlock = some i → i ≠ b25 := fun i hi => by have := (World.ownsRow.lt hO902 i hi).1; have := H773.lt; omega
        have ob908 : ∀ i, (v899).ownBlock = some i → i ≠ b35 := fun i hi => by have := (World.ownsRow.lt hO902 i hi).1; have := H774.lt; omega
        have ob909 : ∀ i, (v899).ownBlock = some i → i ≠ b46 := fun i hi => by have := (World.ownsRow.lt hO902 i hi).1; have := H775.lt; omega
        have oo910 : ∀ i, (v58).ownBlock = some i → (v899).ownBlock = some i → False := fun i hi hs => by have := (World.ownsRow.lt hO902 i hs).1; have := (World.ownsRow.lt F776 i hi).2; omega
        have oo911 : ∀ i, (v899).ownBlock = some i → (v58).ownBlock = some i → False := fun i hi hs => oo910 i hs hi
        have oo912 : ∀ i, (v73).ownBlock = some i → (v899).ownBlock = some i → False := fun i hi hs => by have := (World.ownsRow.lt hO902 i hs).1; have := (World.ownsRow.lt F777 i hi).2; omega
        have oo913 : ∀ i, (v899).ownBlock = some i → (v73).ownBlock = some i → False := fun i hi hs => oo912 i hs hi
        have oo914 : ∀ i, (v728).ownBlock = some i → (v899).ownBlock = some i → False := fun i hi hs => by have := (World.ownsRow.lt hO902 i hs).1; have := (World.ownsRow.lt F778 i hi).2; omega
        have oo915 : ∀ i, (v899).ownBlock = some i → (v728).ownBlock = some i → False := fun i hi hs => oo914 i hs hi
        have oo916 : ∀ i, (v752).ownBlock = some i → (v899).ownBlock = some i → False := fun i hi hs => by have := (World.ownsRow.lt hO902 i hs).1; have := (World.ownsRow.lt O756 i hi).2; omega
        have oo917 : ∀ i, (v899).ownBlock = some i → (v752).ownBlock = some i → False := fun i hi hs => oo916 i hs hi
        have O903 : OwnB w900 w.heap.size _ v899 (rpv p) := own_base hO902 K769.size
        clear hO902
        have K918 := K769.trans K901 (U := none_) (fun i h1 h2 => h2) (fun i h1 h2 => by exact h2)
        clear K769
        have H919 := H770.keep K901 (fun h => h)
        clear H770
        have H920 := H771.keep K901 (fun h => h)
        clear H771
        have H921 := H772.keep K901 (fun h => h)
        clear H772
        have H922 := H773.keep K901 (fun h => h)
        clear H773
        have H923 := H774.keep K901 (fun h => h)
        clear H774
        have H924 := H775.keep K901 (fun h => h)
        clear H775
        have F925 := own_keep0 F776 K901
        clear F776
        have F926 := own_keep0 F777 K901
        clear F777
        have F927 := own_keep0 F778 K901
        clear F778
        have F928 := own_keep0 O756 K901
        clear O756
        refine ⟨_, _, rfl, rfl, K901, ?_⟩
        refine Dr.strong (S' := (fun wz => Keeps none_ w900 wz)) (Keeps.refl w900) (fun wz hx => K901.trans hx (fun i _ h => h) (fun _ _ h => h)) ?_
        clear K901
        refine Dr.take (i := 14) (v := (Value.string (str (rpv p)))) (by kernel_rfl) (by kernel_rfl) (fun wz hS => Runs.b2s (s := 23) (d := 9) (e := 5) (by kernel_rfl) (by kernel_rfl) (by kernel_rfl) (Rd.keep0 (by omega) (OwnB.rd O903) hS)) (d := (some 58)) (by kernel_rfl) rfl ?_
        refine Dr.call (i := 16) (by kernel_rfl) (by kernel_rfl) (d := (some 60)) (by kernel_rfl) (fun _ => PutReply_calls _ (Value.slice none 0 0) [] q B d (Rd.nil _ _) hqo (Rd.keep0 (by omega) hq K918) (by (try simp only at *); (try simp only [List.length_append] at *); (try simp only [List.length_cons] at *); (try simp only [List.length_nil] at *); omega)) ?_
        rintro _ w930 ⟨v929, rfl, K931, hO932⟩
        have ob934 : ∀ i, (v929).ownBlock = some i → i ≠ b1 := fun i hi => by have := (World.ownsRow.lt hO932 i hi).1; have := H919.lt; omega
        have ob935 : ∀ i, (v929).ownBlock = some i → i ≠ b8 := fun i hi => by have := (World.ownsRow.lt hO932 i hi).1; have := H920.lt; omega
        have ob936 : ∀ i, (v929).ownBlock = some i → i ≠ b16 := fun i hi => by have := (World.ownsRow.lt hO932 i hi).1; have := H921.lt; omega
        have ob937 : ∀ i, (v929).ownBlock = some i → i ≠ b25 := fun i hi => by have := (World.ownsRow.lt hO932 i hi).1; have := H922.lt; omega
        have ob938 : ∀ i, (v929).ownBlock = some i → i ≠ b35 := fun i hi => by have := (World.ownsRow.lt hO932 i hi).1; have := H923.lt; omega
        have ob939 : ∀ i, (v929).ownBlock = some i → i ≠ b46 := fun i hi => by have := (World.ownsRow.lt hO932 i hi).1; have := H924.lt; omega
        have oo940 : ∀ i, (v58).ownBlock = some i → (v929).ownBlock = some i → False := fun i hi hs => by have := (World.ownsRow.lt hO932 i hs).1; have := (World.ownsRow.lt F925 i hi).2; omega
        have oo941 : ∀ i, (v929).ownBlock = some i → (v58).ownBlock = some i → False := fun i hi hs => oo940 i hs hi
        have oo942 : ∀ i, (v73).ownBlock = some i → (v929).ownBlock = some i → False := fun i hi hs => by have := (World.ownsRow.lt hO932 i hs).1; have := (World.ownsRow.lt F926 i hi).2; omega
        have oo943 : ∀ i, (v929).ownBlock = some i → (v73).ownBlock = some i → False := fun i hi hs => oo942 i hs hi
        have oo944 : ∀ i, (v728).ownBlock = some i → (v929).ownBlock = some i → False := fun i hi hs => by have := (World.ownsRow.lt hO932 i hs).1; have := (World.ownsRow.lt F927 i hi).2; omega
        have oo945 : ∀ i, (v929).ownBlock = some i → (v728).ownBlock = some i → False := fun i hi hs => oo944 i hs hi
        have oo946 : ∀ i, (v752).ownBlock = some i → (v929).ownBlock = some i → False := fun i hi hs => by have := (World.ownsRow.lt hO932 i hs).1; have := (World.ownsRow.lt F928 i hi).2; omega
        have oo947 : ∀ i, (v929).ownBlock = some i → (v752).ownBlock = some i → False := fun i hi hs => oo946 i hs hi
        have oo948 : ∀ i, (v899).ownBlock = some i → (v929).ownBlock = some i → False := fun i hi hs => by have := (World.ownsRow.lt hO932 i hs).1; have := (World.ownsRow.lt O903 i hi).2; omega
        have oo949 : ∀ i, (v929).ownBlock = some i → (v899).ownBlock = some i → False := fun i hi hs => oo948 i hs hi
        have O933 : OwnB w930 w.heap.size _ v929 (rpv q) := own_base hO932 K918.size
        clear hO932
        have K950 := K918.trans K931 (U := none_) (fun i h1 h2 => h2) (fun i h1 h2 => by exact h2)
        clear K918
        have H951 := H919.keep K931 (fun h => h)
        clear H919
        have H952 := H920.keep K931 (fun h => h)
        clear H920
        have H953 := H921.keep K931 (fun h => h)
        clear H921
        have H954 := H922.keep K931 (fun h => h)
        clear H922
        have H955 := H923.keep K931 (fun h => h)
        clear H923
        have H956 := H924.keep K931 (fun h => h)
        clear H924
        have F957 := own_keep0 F925 K931
        clear F925
        have F958 := own_keep0 F926 K931
        clear F926
        have F959 := own_keep0 F927 K931
        clear F927
        have F960 := own_keep0 F928 K931
        clear F928
        have F961 := own_keep0 O903 K931
        clear O903
        refine ⟨_, _, rfl, rfl, K931, ?_⟩
        refine Dr.strong (S' := (fun wz => Keeps none_ w930 wz)) (Keeps.refl w930) (fun wz hx => K931.trans hx (fun i _ h => h) (fun _ _ h => h)) ?_
        clear K931
        refine Dr.take (i := 17) (v := (Value.string (str (rpv q)))) (by kernel_rfl) (by kernel_rfl) (fun wz hS => Runs.b2s (s := 23) (d := 9) (e := 5) (by kernel_rfl) (by kernel_rfl) (by kernel_rfl) (Rd.keep0 (by omega) (OwnB.rd O933) hS)) (d := (some 61)) (by kernel_rfl) rfl ?_
        refine Dr.take (i := 18) (v := (Value.bool ((rpv p) == (rpv q)))) (by kernel_rfl) (by kernel_rfl) (fun wz hS => Runs.streq (t := 9) (by kernel_rfl)) (d := (some 62)) (by kernel_rfl) rfl ?_
        refine Dr.call (i := 21) (by kernel_rfl) (by kernel_rfl) (d := (some 65)) (by kernel_rfl) (fun _ => SameReply_calls _ A c p B d q (Rd.keep0 (by omega) hp K950) (Rd.keep0 (by omega) hq K950)) ?_
        rintro _ w965 ⟨t962, rfl, ht963, K964⟩
        have K966 := K950.trans K964 (U := none_) (fun i h1 h2 => h2) (fun i h1 h2 => by exact h2)
        clear K950
        have H967 := H951.keep K964 (fun h => h)
        clear H951
        have H968 := H952.keep K964 (fun h => h)
        clear H952
        have H969 := H953.keep K964 (fun h => h)
        clear H953
        have H970 := H954.keep K964 (fun h => h)
        clear H954
        have H971 := H955.keep K964 (fun h => h)
        clear H955
        have H972 := H956.keep K964 (fun h => h)
        clear H956
        have F973 := own_keep0 F957 K964
        clear F957
        have F974 := own_keep0 F958 K964
        clear F958
        have F975 := own_keep0 F959 K964
        clear F959
        have F976 := own_keep0 F960 K964
        clear F960
        have F977 := own_keep0 F961 K964
        clear F961
        have F978 := own_keep0 O933 K964
        clear O933
        refine ⟨_, _, rfl, rfl, K964, ?_⟩
        refine Dr.strong (S' := (fun wz => Keeps none_ w965 wz)) (Keeps.refl w965) (fun wz hx => K964.trans hx (fun i _ h => h) (fun _ _ h => h)) ?_
        clear K964
        refine Dr.split ((rpv p) == (rpv q)) (fun h979 => ?_) (fun h979 => ?_)
        · rw [h979]
          have p980 : ((rpv p) == (rpv q)) = true := h979
          have hsr : p = q := rpv_inj hpo hqo hpr hqr hpn hqn (eq_of_beq h979)
          have h981 : t962 = true := ht963.2 hsr
          rw [h981]
          refine Dr.takes (fuel' := 3) (is' := [24, 23, 22, 21, 18, 17, 16, 14, 13, 20, 19, 15, 12, 11, 10, 6, 5, 4, 2, 1, 9, 8, 7, 3, 0]) [22, 23, 24] [(12, (Value.bool false)), (68, (Value.bool true))] (by kernel_rfl) rfl (by kernel_rfl) ?_
          refine Dr.call (i := 25) (by kernel_rfl) (by kernel_rfl) (d := (some 69)) (by kernel_rfl) (fun _ => known_calls _) ?_
          rintro _ w982 ⟨rfl, K983⟩
          have K984 := K966.trans K983 (U := none_) (fun i h1 h2 => h2) (fun i h1 h2 => by exact h2)
          clear K966
          have H985 := H967.keep K983 (fun h => h)
          clear H967
          have H986 := H968.keep K983 (fun h => h)
          clear H968
          have H987 := H969.keep K983 (fun h => h)
          clear H969
          have H988 := H970.keep K983 (fun h => h)
          clear H970
          have H989 := H971.keep K983 (fun h => h)
          clear H971
          have H990 := H972.keep K983 (fun h => h)
          clear H972
          have F991 := own_keep0 F973 K983
          clear F973
          have F992 := own_keep0 F974 K983
          clear F974
          have F993 := own_keep0 F975 K983
          clear F975
          have F994 := own_keep0 F976 K983
          clear F976
          have F995 := own_keep0 F977 K983
          clear F977
          have F996 := own_keep0 F978 K983
          clear F978
          refine ⟨_, _, rfl, rfl, K983, ?_⟩
          refine Dr.strong (S' := (fun wz => Keeps none_ w982 wz)) (Keeps.refl w982) (fun wz hx => K983.trans hx (fun i _ h => h) (fun _ _ h => h)) ?_
          clear K983
          refine Dr.takes (fuel' := 0) (is' := [27, 26, 25, 24, 23, 22, 21, 18, 17, 16, 14, 13, 20, 19, 15, 12, 11, 10, 6, 5, 4, 2, 1, 9, 8, 7, 3, 0]) [26, 27] [(12, (Value.bool true))] (by kernel_rfl) rfl (by kernel_rfl) ?_
          refine Dr.done (by kernel_rfl) ?_
          refine q_ret (by kernel_rfl) ?_
          refine ⟨(Value.bool true), retv_tmp rfl rfl, ?_⟩
          exact ⟨rfl, K984⟩
        · rw [h979]
          have p997 : ((rpv p) == (rpv q)) = false := h979
          have hsr : p ≠ q := fun z => by rw [z] at h979; simp at h979
          have h998 : t962 = false := Bool.eq_false_iff.2 (fun h => hsr (ht963.1 h))
          rw [h998]
          refine Dr.takes (fuel' := 3) (is' := [24, 23, 22, 21, 18, 17, 16, 14, 13, 20, 19, 15, 12, 11, 10, 6, 5, 4, 2, 1, 9, 8, 7, 3, 0]) [22, 23, 24] [(12, (Value.bool false)), (68, (Value.bool true))] (by kernel_rfl) rfl (by kernel_rfl) ?_
          refine Dr.call (i := 25) (by kernel_rfl) (by kernel_rfl) (d := (some 69)) (by kernel_rfl) (fun _ => known_calls _) ?_
          rintro _ w999 ⟨rfl, K1000⟩
          have K1001 := K966.trans K1000 (U := none_) (fun i h1 h2 => h2) (fun i h1 h2 => by exact h2)
          clear K966
          have H1002 := H967.keep K1000 (fun h => h)
          clear H967
          have H1003 := H968.keep K1000 (fun h => h)
          clear H968
          have H1004 := H969.keep K1000 (fun h => h)
          clear H969
          have H1005 := H970.keep K1000 (fun h => h)
          clear H970
          have H1006 := H971.keep K1000 (fun h => h)
          clear H971
          have H1007 := H972.keep K1000 (fun h => h)
          clear H972
          have F1008 := own_keep0 F973 K1000
          clear F973
          have F1009 := own_keep0 F974 K1000
          clear F974
          have F1010 := own_keep0 F975 K1000
          clear F975
          have F1011 := own_keep0 F976 K1000
          clear F976
          have F1012 := own_keep0 F977 K1000
          clear F977
          have F1013 := own_keep0 F978 K1000
          clear F978
          refine ⟨_, _, rfl, rfl, K1000, ?_⟩
          refine Dr.strong (S' := (fun wz => Keeps none_ w999 wz)) (Keeps.refl w999) (fun wz hx => K1000.trans hx (fun i _ h => h) (fun _ _ h => h)) ?_
          clear K1000
          refine Dr.takes (fuel' := 0) (is' := [27, 26, 25, 24, 23, 22, 21, 18, 17, 16, 14, 13, 20, 19, 15, 12, 11, 10, 6, 5, 4, 2, 1, 9, 8, 7, 3, 0]) [26, 27] [(12, (Value.bool true))] (by kernel_rfl) rfl (by kernel_rfl) ?_
          refine Dr.done (by kernel_rfl) ?_
          refine q_ret (by kernel_rfl) ?_
          refine ⟨(Value.bool true), retv_tmp rfl rfl, ?_⟩
          exact ⟨rfl, K1001⟩
  · rw [h100]
    have p1014 : ¬ (er59 = 0) := of_beq_f h100
    refine Dr.takes (fuel' := 0) (is' := [16, 15, 14, 13, 12, 11, 10, 9, 8, 7, 6, 5, 4, 3, 2, 1, 0]) [3, 4, 5, 6, 7, 8, 9, 10, 11, 12, 13, 14, 15, 16] [(6, (Value.pointer (some ⟨b1, 0, none⟩))), (7, (Value.pointer (some ⟨b8, 0, none⟩))), (8, (Value.pointer (some ⟨b16, 0, none⟩))), (9, (Value.pointer (some ⟨b25, 0, none⟩))), (12, (Value.bool false)), (43, (Value.bool false))] (by kernel_rfl) rfl (by kernel_rfl) ?_
    refine Dr.done (by kernel_rfl) ?_
    refine q_else (o := .tmp 43) (by kernel_rfl) rfl ?_
    refine q_skip (by kernel_rfl) ?_
    refine q_seq (by kernel_rfl) ?_
    refine q_draw (fun wz => Keeps none_ w89 wz) 28 (by kernel_rfl) (by kernel_rfl) (by kernel_rfl) (fun w1015 K1016 _ _ => ⟨K1016, ?_⟩)
    have K1017 := K91.trans K1016 (U := none_) (fun i h1 h2 => h2) (fun i h1 h2 => by exact h2)
    clear K91
    have H1018 := H92.keep K1016 (fun h => h)
    clear H92
    have H1019 := H93.keep K1016 (fun h => h)
    clear H93
    have H1020 := H94.keep K1016 (fun h => h)
    clear H94
    have H1021 := H95.keep K1016 (fun h => h)
    clear H95
    have H1022 := H96.keep K1016 (fun h => h)
    clear H96
    have H1023 := H97.keep K1016 (fun h => h)
    clear H97
    have F1024 := own_keep0 F98 K1016
    clear F98
    have F1025 := own_keep0 F99 K1016
    clear F99
    refine Dr.strong (S' := (fun wz => Keeps none_ w1015 wz)) (Keeps.refl w1015) (fun wz hx => K1016.trans hx (fun i _ h => h) (fun _ _ h => h)) ?_
    clear K1016
    refine Dr.take (i := 0) (v := (agg [(i64 om.kind), (Value.string (str om.frm)), (Value.string (str om.to)), (i64 om.amount), (Value.string (str om.key)), (i64 om.slot), (i64 om.shard)])) (by kernel_rfl) (by kernel_rfl) (fun wz hS => Runs.load (t := 43) (a := ⟨b1, 0, none⟩) (by kernel_rfl) ((H1018.keep hS (fun h => h)).loads (by kernel_rfl))) (d := (some 44)) (by kernel_rfl) rfl ?_
    refine Dr.take (i := 3) (v := (agg [(i64 on.kind), (Value.string (str on.frm)), (Value.string (str on.to)), (i64 on.amount), (Value.string (str on.key)), (i64 on.slot), (i64 on.shard)])) (by kernel_rfl) (by kernel_rfl) (fun wz hS => Runs.load (t := 43) (a := ⟨b8, 0, none⟩) (by kernel_rfl) ((H1019.keep hS (fun h => h)).loads (by kernel_rfl))) (d := (some 47)) (by kernel_rfl) rfl ?_
    refine Dr.take (i := 7) (v := (agg [(i64 om.kind), (Value.string (str om.frm)), (Value.string (str om.to)), (i64 om.amount), (Value.string (str om.key)), (i64 om.slot), (i64 om.shard)])) (by kernel_rfl) (by kernel_rfl) (fun wz hS => Runs.load (t := 43) (a := ⟨b1, 0, none⟩) (by kernel_rfl) ((H1018.keep hS (fun h => h)).loads (by kernel_rfl))) (d := (some 51)) (by kernel_rfl) rfl ?_
    refine Dr.take (i := 8) (v := (agg [(i64 on.kind), (Value.string (str on.frm)), (Value.string (str on.to)), (i64 on.amount), (Value.string (str on.key)), (i64 on.slot), (i64 on.shard)])) (by kernel_rfl) (by kernel_rfl) (fun wz hS => Runs.load (t := 43) (a := ⟨b8, 0, none⟩) (by kernel_rfl) ((H1019.keep hS (fun h => h)).loads (by kernel_rfl))) (d := (some 52)) (by kernel_rfl) rfl ?_
    refine Dr.take (i := 9) (v := (Value.bool (aggB [(i64 om.kind), (Value.string (str om.frm)), (Value.string (str om.to)), (i64 om.amount), (Value.string (str om.key)), (i64 om.slot), (i64 om.shard)] [(i64 on.kind), (Value.string (str on.frm)), (Value.string (str on.to)), (i64 on.amount), (Value.string (str on.key)), (i64 on.slot), (i64 on.shard)]))) (by kernel_rfl) (by kernel_rfl) (fun wz hS => Runs.aggeq (t := 43) (by kernel_rfl) (by kernel_rfl)) (d := (some 53)) (by kernel_rfl) rfl ?_
    refine Dr.call (i := 1) (by kernel_rfl) (by kernel_rfl) (d := (some 45)) (by kernel_rfl) (fun _ => PutOp_calls _ (Value.slice none 0 0) [] om (Rd.nil _ _) hom (by (try simp only at *); (try simp only [List.length_append] at *); (try simp only [List.length_cons] at *); (try simp only [List.length_nil] at *); omega)) ?_
    rintro _ w1027 ⟨v1026, rfl, K1028, hO1029⟩
    have ob1031 : ∀ i, (v1026).ownBlock = some i → i ≠ b1 := fun i hi => by have := (World.ownsRow.lt hO1029 i hi).1; have := H1018.lt; omega
    have ob1032 : ∀ i, (v1026).ownBlock = some i → i ≠ b8 := fun i hi => by have := (World.ownsRow.lt hO1029 i hi).1; have := H1019.lt; omega
    have ob1033 : ∀ i, (v1026).ownBlock = some i → i ≠ b16 := fun i hi => by have := (World.ownsRow.lt hO1029 i hi).1; have := H1020.lt; omega
    have ob1034 : ∀ i, (v1026).ownBlock = some i → i ≠ b25 := fun i hi => by have := (World.ownsRow.lt hO1029 i hi).1; have := H1021.lt; omega
    have ob1035 : ∀ i, (v1026).ownBlock = some i → i ≠ b35 := fun i hi => by have := (World.ownsRow.lt hO1029 i hi).1; have := H1022.lt; omega
    have ob1036 : ∀ i, (v1026).ownBlock = some i → i ≠ b46 := fun i hi => by have := (World.ownsRow.lt hO1029 i hi).1; have := H1023.lt; omega
    have oo1037 : ∀ i, (v58).ownBlock = some i → (v1026).ownBlock = some i → False := fun i hi hs => by have := (World.ownsRow.lt hO1029 i hs).1; have := (World.ownsRow.lt F1024 i hi).2; omega
    have oo1038 : ∀ i, (v1026).ownBlock = some i → (v58).ownBlock = some i → False := fun i hi hs => oo1037 i hs hi
    have oo1039 : ∀ i, (v73).ownBlock = some i → (v1026).ownBlock = some i → False := fun i hi hs => by have := (World.ownsRow.lt hO1029 i hs).1; have := (World.ownsRow.lt F1025 i hi).2; omega
    have oo1040 : ∀ i, (v1026).ownBlock = some i → (v73).ownBlock = some i → False := fun i hi hs => oo1039 i hs hi
    have O1030 : OwnB w1027 w.heap.size _ v1026 (opv om) := own_base hO1029 K1017.size
    clear hO1029
    have K1041 := K1017.trans K1028 (U := none_) (fun i h1 h2 => h2) (fun i h1 h2 => by exact h2)
    clear K1017
    have H1042 := H1018.keep K1028 (fun h => h)
    clear H1018
    have H1043 := H1019.keep K1028 (fun h => h)
    clear H1019
    have H1044 := H1020.keep K1028 (fun h => h)
    clear H1020
    have H1045 := H1021.keep K1028 (fun h => h)
    clear H1021
    have H1046 := H1022.keep K1028 (fun h => h)
    clear H1022
    have H1047 := H1023.keep K1028 (fun h => h)
    clear H1023
    have F1048 := own_keep0 F1024 K1028
    clear F1024
    have F1049 := own_keep0 F1025 K1028
    clear F1025
    refine ⟨_, _, rfl, rfl, K1028, ?_⟩
    refine Dr.strong (S' := (fun wz => Keeps none_ w1027 wz)) (Keeps.refl w1027) (fun wz hx => K1028.trans hx (fun i _ h => h) (fun _ _ h => h)) ?_
    clear K1028
    refine Dr.take (i := 2) (v := (Value.string (str (opv om)))) (by kernel_rfl) (by kernel_rfl) (fun wz hS => Runs.b2s (s := 23) (d := 9) (e := 5) (by kernel_rfl) (by kernel_rfl) (by kernel_rfl) (Rd.keep0 (by omega) (OwnB.rd O1030) hS)) (d := (some 46)) (by kernel_rfl) rfl ?_
    refine Dr.call (i := 4) (by kernel_rfl) (by kernel_rfl) (d := (some 48)) (by kernel_rfl) (fun _ => PutOp_calls _ (Value.slice none 0 0) [] on (Rd.nil _ _) hon (by (try simp only at *); (try simp only [List.length_append] at *); (try simp only [List.length_cons] at *); (try simp only [List.length_nil] at *); omega)) ?_
    rintro _ w1051 ⟨v1050, rfl, K1052, hO1053⟩
    have ob1055 : ∀ i, (v1050).ownBlock = some i → i ≠ b1 := fun i hi => by have := (World.ownsRow.lt hO1053 i hi).1; have := H1042.lt; omega
    have ob1056 : ∀ i, (v1050).ownBlock = some i → i ≠ b8 := fun i hi => by have := (World.ownsRow.lt hO1053 i hi).1; have := H1043.lt; omega
    have ob1057 : ∀ i, (v1050).ownBlock = some i → i ≠ b16 := fun i hi => by have := (World.ownsRow.lt hO1053 i hi).1; have := H1044.lt; omega
    have ob1058 : ∀ i, (v1050).ownBlock = some i → i ≠ b25 := fun i hi => by have := (World.ownsRow.lt hO1053 i hi).1; have := H1045.lt; omega
    have ob1059 : ∀ i, (v1050).ownBlock = some i → i ≠ b35 := fun i hi => by have := (World.ownsRow.lt hO1053 i hi).1; have := H1046.lt; omega
    have ob1060 : ∀ i, (v1050).ownBlock = some i → i ≠ b46 := fun i hi => by have := (World.ownsRow.lt hO1053 i hi).1; have := H1047.lt; omega
    have oo1061 : ∀ i, (v58).ownBlock = some i → (v1050).ownBlock = some i → False := fun i hi hs => by have := (World.ownsRow.lt hO1053 i hs).1; have := (World.ownsRow.lt F1048 i hi).2; omega
    have oo1062 : ∀ i, (v1050).ownBlock = some i → (v58).ownBlock = some i → False := fun i hi hs => oo1061 i hs hi
    have oo1063 : ∀ i, (v73).ownBlock = some i → (v1050).ownBlock = some i → False := fun i hi hs => by have := (World.ownsRow.lt hO1053 i hs).1; have := (World.ownsRow.lt F1049 i hi).2; omega
    have oo1064 : ∀ i, (v1050).ownBlock = some i → (v73).ownBlock = some i → False := fun i hi hs => oo1063 i hs hi
    have oo1065 : ∀ i, (v1026).ownBlock = some i → (v1050).ownBlock = some i → False := fun i hi hs => by have := (World.ownsRow.lt hO1053 i hs).1; have := (World.ownsRow.lt O1030 i hi).2; omega
    have oo1066 : ∀ i, (v1050).ownBlock = some i → (v1026).ownBlock = some i → False := fun i hi hs => oo1065 i hs hi
    have O1054 : OwnB w1051 w.heap.size _ v1050 (opv on) := own_base hO1053 K1041.size
    clear hO1053
    have K1067 := K1041.trans K1052 (U := none_) (fun i h1 h2 => h2) (fun i h1 h2 => by exact h2)
    clear K1041
    have H1068 := H1042.keep K1052 (fun h => h)
    clear H1042
    have H1069 := H1043.keep K1052 (fun h => h)
    clear H1043
    have H1070 := H1044.keep K1052 (fun h => h)
    clear H1044
    have H1071 := H1045.keep K1052 (fun h => h)
    clear H1045
    have H1072 := H1046.keep K1052 (fun h => h)
    clear H1046
    have H1073 := H1047.keep K1052 (fun h => h)
    clear H1047
    have F1074 := own_keep0 F1048 K1052
    clear F1048
    have F1075 := own_keep0 F1049 K1052
    clear F1049
    have F1076 := own_keep0 O1030 K1052
    clear O1030
    refine ⟨_, _, rfl, rfl, K1052, ?_⟩
    refine Dr.strong (S' := (fun wz => Keeps none_ w1051 wz)) (Keeps.refl w1051) (fun wz hx => K1052.trans hx (fun i _ h => h) (fun _ _ h => h)) ?_
    clear K1052
    refine Dr.take (i := 5) (v := (Value.string (str (opv on)))) (by kernel_rfl) (by kernel_rfl) (fun wz hS => Runs.b2s (s := 23) (d := 9) (e := 5) (by kernel_rfl) (by kernel_rfl) (by kernel_rfl) (Rd.keep0 (by omega) (OwnB.rd O1054) hS)) (d := (some 49)) (by kernel_rfl) rfl ?_
    refine Dr.take (i := 6) (v := (Value.bool ((opv om) == (opv on)))) (by kernel_rfl) (by kernel_rfl) (fun wz hS => Runs.streq (t := 9) (by kernel_rfl)) (d := (some 50)) (by kernel_rfl) rfl ?_
    refine Dr.split ((opv om) == (opv on)) (fun h1077 => ?_) (fun h1077 => ?_)
    · rw [h1077]
      have p1078 : ((opv om) == (opv on)) = true := h1077
      have hso : om = on := opv_inj hom hon (by omega) (by omega) (by omega) (by omega) (by omega) (by omega) (eq_of_beq h1077)
      have h1079 : (aggB [(i64 om.kind), (Value.string (str om.frm)), (Value.string (str om.to)), (i64 om.amount), (Value.string (str om.key)), (i64 om.slot), (i64 om.shard)] [(i64 on.kind), (Value.string (str on.frm)), (Value.string (str on.to)), (i64 on.amount), (Value.string (str on.key)), (i64 on.slot), (i64 on.shard)]) = true := (aggB_op om on).2 hso
      rw [h1079]
      refine Dr.takes (fuel' := 16) (is' := [11, 10, 6, 5, 4, 2, 1, 9, 8, 7, 3, 0]) [10, 11] [(8, (Value.pointer (some ⟨b16, 0, none⟩))), (9, (Value.pointer (some ⟨b25, 0, none⟩))), (12, (Value.bool false)), (55, (Value.bool true))] (by kernel_rfl) rfl (by kernel_rfl) ?_
      refine Dr.take (i := 12) (v := (agg [(i64 p.why), (i64 p.amount), (Value.slice A p.rows.length c)])) (by kernel_rfl) (by kernel_rfl) (fun wz hS => Runs.load (t := 46) (a := ⟨b16, 0, none⟩) (by kernel_rfl) ((H1070.keep hS (fun h => h)).loads (by kernel_rfl))) (d := (some 56)) (by kernel_rfl) rfl ?_
      refine Dr.take (i := 15) (v := (agg [(i64 q.why), (i64 q.amount), (Value.slice B q.rows.length d)])) (by kernel_rfl) (by kernel_rfl) (fun wz hS => Runs.load (t := 46) (a := ⟨b25, 0, none⟩) (by kernel_rfl) ((H1071.keep hS (fun h => h)).loads (by kernel_rfl))) (d := (some 59)) (by kernel_rfl) rfl ?_
      refine Dr.take (i := 19) (v := (agg [(i64 p.why), (i64 p.amount), (Value.slice A p.rows.length c)])) (by kernel_rfl) (by kernel_rfl) (fun wz hS => Runs.load (t := 46) (a := ⟨b16, 0, none⟩) (by kernel_rfl) ((H1070.keep hS (fun h => h)).loads (by kernel_rfl))) (d := (some 63)) (by kernel_rfl) rfl ?_
      refine Dr.take (i := 20) (v := (agg [(i64 q.why), (i64 q.amount), (Value.slice B q.rows.length d)])) (by kernel_rfl) (by kernel_rfl) (fun wz hS => Runs.load (t := 46) (a := ⟨b25, 0, none⟩) (by kernel_rfl) ((H1071.keep hS (fun h => h)).loads (by kernel_rfl))) (d := (some 64)) (by kernel_rfl) rfl ?_
      refine Dr.call (i := 13) (by kernel_rfl) (by kernel_rfl) (d := (some 57)) (by kernel_rfl) (fun _ => PutReply_calls _ (Value.slice none 0 0) [] p A c (Rd.nil _ _) hpo (Rd.keep0 (by omega) hp K1067) (by (try simp only at *); (try simp only [List.length_append] at *); (try simp only [List.length_cons] at *); (try simp only [List.length_nil] at *); omega)) ?_
      rintro _ w1081 ⟨v1080, rfl, K1082, hO1083⟩
      have ob1085 : ∀ i, (v1080).ownBlock = some i → i ≠ b1 := fun i hi => by have := (World.ownsRow.lt hO1083 i hi).1; have := H1068.lt; omega
      have ob1086 : ∀ i, (v1080).ownBlock = some i → i ≠ b8 := fun i hi => by have := (World.ownsRow.lt hO1083 i hi).1; have := H1069.lt; omega
      have ob1087 : ∀ i, (v1080).ownBlock = some i → i ≠ b16 := fun i hi => by have := (World.ownsRow.lt hO1083 i hi).1; have := H1070.lt; omega
      have ob1088 : ∀ i, (v1080).ownBlock = some i → i ≠ b25 := fun i hi => by have := (World.ownsRow.lt hO1083 i hi).1; have := H1071.lt; omega
      have ob1089 : ∀ i, (v1080).ownBlock = some i → i ≠ b35 := fun i hi => by have := (World.ownsRow.lt hO1083 i hi).1; have := H1072.lt; omega
      have ob1090 : ∀ i, (v1080).ownBlock = some i → i ≠ b46 := fun i hi => by have := (World.ownsRow.lt hO1083 i hi).1; have := H1073.lt; omega
      have oo1091 : ∀ i, (v58).ownBlock = some i → (v1080).ownBlock = some i → False := fun i hi hs => by have := (World.ownsRow.lt hO1083 i hs).1; have := (World.ownsRow.lt F1074 i hi).2; omega
      have oo1092 : ∀ i, (v1080).ownBlock = some i → (v58).ownBlock = some i → False := fun i hi hs => oo1091 i hs hi
      have oo1093 : ∀ i, (v73).ownBlock = some i → (v1080).ownBlock = some i → False := fun i hi hs => by have := (World.ownsRow.lt hO1083 i hs).1; have := (World.ownsRow.lt F1075 i hi).2; omega
      have oo1094 : ∀ i, (v1080).ownBlock = some i → (v73).ownBlock = some i → False := fun i hi hs => oo1093 i hs hi
      have oo1095 : ∀ i, (v1026).ownBlock = some i → (v1080).ownBlock = some i → False := fun i hi hs => by have := (World.ownsRow.lt hO1083 i hs).1; have := (World.ownsRow.lt F1076 i hi).2; omega
      have oo1096 : ∀ i, (v1080).ownBlock = some i → (v1026).ownBlock = some i → False := fun i hi hs => oo1095 i hs hi
      have oo1097 : ∀ i, (v1050).ownBlock = some i → (v1080).ownBlock = some i → False := fun i hi hs => by have := (World.ownsRow.lt hO1083 i hs).1; have := (World.ownsRow.lt O1054 i hi).2; omega
      have oo1098 : ∀ i, (v1080).ownBlock = some i → (v1050).ownBlock = some i → False := fun i hi hs => oo1097 i hs hi
      have O1084 : OwnB w1081 w.heap.size _ v1080 (rpv p) := own_base hO1083 K1067.size
      clear hO1083
      have K1099 := K1067.trans K1082 (U := none_) (fun i h1 h2 => h2) (fun i h1 h2 => by exact h2)
      clear K1067
      have H1100 := H1068.keep K1082 (fun h => h)
      clear H1068
      have H1101 := H1069.keep K1082 (fun h => h)
      clear H1069
      have H1102 := H1070.keep K1082 (fun h => h)
      clear H1070
      have H1103 := H1071.keep K1082 (fun h => h)
      clear H1071
      have H1104 := H1072.keep K1082 (fun h => h)
      clear H1072
      have H1105 := H1073.keep K1082 (fun h => h)
      clear H1073
      have F1106 := own_keep0 F1074 K1082
      clear F1074
      have F1107 := own_keep0 F1075 K1082
      clear F1075
      have F1108 := own_keep0 F1076 K1082
      clear F1076
      have F1109 := own_keep0 O1054 K1082
      clear O1054
      refine ⟨_, _, rfl, rfl, K1082, ?_⟩
      refine Dr.strong (S' := (fun wz => Keeps none_ w1081 wz)) (Keeps.refl w1081) (fun wz hx => K1082.trans hx (fun i _ h => h) (fun _ _ h => h)) ?_
      clear K1082
      refine Dr.take (i := 14) (v := (Value.string (str (rpv p)))) (by kernel_rfl) (by kernel_rfl) (fun wz hS => Runs.b2s (s := 23) (d := 9) (e := 5) (by kernel_rfl) (by kernel_rfl) (by kernel_rfl) (Rd.keep0 (by omega) (OwnB.rd O1084) hS)) (d := (some 58)) (by kernel_rfl) rfl ?_
      refine Dr.call (i := 16) (by kernel_rfl) (by kernel_rfl) (d := (some 60)) (by kernel_rfl) (fun _ => PutReply_calls _ (Value.slice none 0 0) [] q B d (Rd.nil _ _) hqo (Rd.keep0 (by omega) hq K1099) (by (try simp only at *); (try simp only [List.length_append] at *); (try simp only [List.length_cons] at *); (try simp only [List.length_nil] at *); omega)) ?_
      rintro _ w1111 ⟨v1110, rfl, K1112, hO1113⟩
      have ob1115 : ∀ i, (v1110).ownBlock = some i → i ≠ b1 := fun i hi => by have := (World.ownsRow.lt hO1113 i hi).1; have := H1100.lt; omega
      have ob1116 : ∀ i, (v1110).ownBlock = some i → i ≠ b8 := fun i hi => by have := (World.ownsRow.lt hO1113 i hi).1; have := H1101.lt; omega
      have ob1117 : ∀ i, (v1110).ownBlock = some i → i ≠ b16 := fun i hi => by have := (World.ownsRow.lt hO1113 i hi).1; have := H1102.lt; omega
      have ob1118 : ∀ i, (v1110).ownBlock = some i → i ≠ b25 := fun i hi => by have := (World.ownsRow.lt hO1113 i hi).1; have := H1103.lt; omega
      have ob1119 : ∀ i, (v1110).ownBlock = some i → i ≠ b35 := fun i hi => by have := (World.ownsRow.lt hO1113 i hi).1; have := H1104.lt; omega
      have ob1120 : ∀ i, (v1110).ownBlock = some i → i ≠ b46 := fun i hi => by have := (World.ownsRow.lt hO1113 i hi).1; have := H1105.lt; omega
      have oo1121 : ∀ i, (v58).ownBlock = some i → (v1110).ownBlock = some i → False := fun i hi hs => by have := (World.ownsRow.lt hO1113 i hs).1; have := (World.ownsRow.lt F1106 i hi).2; omega
      have oo1122 : ∀ i, (v1110).ownBlock = some i → (v58).ownBlock = some i → False := fun i hi hs => oo1121 i hs hi
      have oo1123 : ∀ i, (v73).ownBlock = some i → (v1110).ownBlock = some i → False := fun i hi hs => by have := (World.ownsRow.lt hO1113 i hs).1; have := (World.ownsRow.lt F1107 i hi).2; omega
      have oo1124 : ∀ i, (v1110).ownBlock = some i → (v73).ownBlock = some i → False := fun i hi hs => oo1123 i hs hi
      have oo1125 : ∀ i, (v1026).ownBlock = some i → (v1110).ownBlock = some i → False := fun i hi hs => by have := (World.ownsRow.lt hO1113 i hs).1; have := (World.ownsRow.lt F1108 i hi).2; omega
      have oo1126 : ∀ i, (v1110).ownBlock = some i → (v1026).ownBlock = some i → False := fun i hi hs => oo1125 i hs hi
      have oo1127 : ∀ i, (v1050).ownBlock = some i → (v1110).ownBlock = some i → False := fun i hi hs => by have := (World.ownsRow.lt hO1113 i hs).1; have := (World.ownsRow.lt F1109 i hi).2; omega
      have oo1128 : ∀ i, (v1110).ownBlock = some i → (v1050).ownBlock = some i → False := fun i hi hs => oo1127 i hs hi
      have oo1129 : ∀ i, (v1080).ownBlock = some i → (v1110).ownBlock = some i → False := fun i hi hs => by have := (World.ownsRow.lt hO1113 i hs).1; have := (World.ownsRow.lt O1084 i hi).2; omega
      have oo1130 : ∀ i, (v1110).ownBlock = some i → (v1080).ownBlock = some i → False := fun i hi hs => oo1129 i hs hi
      have O1114 : OwnB w1111 w.heap.size _ v1110 (rpv q) := own_base hO1113 K1099.size
      clear hO1113
      have K1131 := K1099.trans K1112 (U := none_) (fun i h1 h2 => h2) (fun i h1 h2 => by exact h2)
      clear K1099
      have H1132 := H1100.keep K1112 (fun h => h)
      clear H1100
      have H1133 := H1101.keep K1112 (fun h => h)
      clear H1101
      have H1134 := H1102.keep K1112 (fun h => h)
      clear H1102
      have H1135 := H1103.keep K1112 (fun h => h)
      clear H1103
      have H1136 := H1104.keep K1112 (fun h => h)
      clear H1104
      have H1137 := H1105.keep K1112 (fun h => h)
      clear H1105
      have F1138 := own_keep0 F1106 K1112
      clear F1106
      have F1139 := own_keep0 F1107 K1112
      clear F1107
      have F1140 := own_keep0 F1108 K1112
      clear F1108
      have F1141 := own_keep0 F1109 K1112
      clear F1109
      have F1142 := own_keep0 O1084 K1112
      clear O1084
      refine ⟨_, _, rfl, rfl, K1112, ?_⟩
      refine Dr.strong (S' := (fun wz => Keeps none_ w1111 wz)) (Keeps.refl w1111) (fun wz hx => K1112.trans hx (fun i _ h => h) (fun _ _ h => h)) ?_
      clear K1112
      refine Dr.take (i := 17) (v := (Value.string (str (rpv q)))) (by kernel_rfl) (by kernel_rfl) (fun wz hS => Runs.b2s (s := 23) (d := 9) (e := 5) (by kernel_rfl) (by kernel_rfl) (by kernel_rfl) (Rd.keep0 (by omega) (OwnB.rd O1114) hS)) (d := (some 61)) (by kernel_rfl) rfl ?_
      refine Dr.take (i := 18) (v := (Value.bool ((rpv p) == (rpv q)))) (by kernel_rfl) (by kernel_rfl) (fun wz hS => Runs.streq (t := 9) (by kernel_rfl)) (d := (some 62)) (by kernel_rfl) rfl ?_
      refine Dr.call (i := 21) (by kernel_rfl) (by kernel_rfl) (d := (some 65)) (by kernel_rfl) (fun _ => SameReply_calls _ A c p B d q (Rd.keep0 (by omega) hp K1131) (Rd.keep0 (by omega) hq K1131)) ?_
      rintro _ w1146 ⟨t1143, rfl, ht1144, K1145⟩
      have K1147 := K1131.trans K1145 (U := none_) (fun i h1 h2 => h2) (fun i h1 h2 => by exact h2)
      clear K1131
      have H1148 := H1132.keep K1145 (fun h => h)
      clear H1132
      have H1149 := H1133.keep K1145 (fun h => h)
      clear H1133
      have H1150 := H1134.keep K1145 (fun h => h)
      clear H1134
      have H1151 := H1135.keep K1145 (fun h => h)
      clear H1135
      have H1152 := H1136.keep K1145 (fun h => h)
      clear H1136
      have H1153 := H1137.keep K1145 (fun h => h)
      clear H1137
      have F1154 := own_keep0 F1138 K1145
      clear F1138
      have F1155 := own_keep0 F1139 K1145
      clear F1139
      have F1156 := own_keep0 F1140 K1145
      clear F1140
      have F1157 := own_keep0 F1141 K1145
      clear F1141
      have F1158 := own_keep0 F1142 K1145
      clear F1142
      have F1159 := own_keep0 O1114 K1145
      clear O1114
      refine ⟨_, _, rfl, rfl, K1145, ?_⟩
      refine Dr.strong (S' := (fun wz => Keeps none_ w1146 wz)) (Keeps.refl w1146) (fun wz hx => K1145.trans hx (fun i _ h => h) (fun _ _ h => h)) ?_
      clear K1145
      refine Dr.split ((rpv p) == (rpv q)) (fun h1160 => ?_) (fun h1160 => ?_)
      · rw [h1160]
        have p1161 : ((rpv p) == (rpv q)) = true := h1160
        have hsr : p = q := rpv_inj hpo hqo hpr hqr hpn hqn (eq_of_beq h1160)
        have h1162 : t1143 = true := ht1144.2 hsr
        rw [h1162]
        refine Dr.takes (fuel' := 3) (is' := [24, 23, 22, 21, 18, 17, 16, 14, 13, 20, 19, 15, 12, 11, 10, 6, 5, 4, 2, 1, 9, 8, 7, 3, 0]) [22, 23, 24] [(12, (Value.bool false)), (68, (Value.bool true))] (by kernel_rfl) rfl (by kernel_rfl) ?_
        refine Dr.call (i := 25) (by kernel_rfl) (by kernel_rfl) (d := (some 69)) (by kernel_rfl) (fun _ => known_calls _) ?_
        rintro _ w1163 ⟨rfl, K1164⟩
        have K1165 := K1147.trans K1164 (U := none_) (fun i h1 h2 => h2) (fun i h1 h2 => by exact h2)
        clear K1147
        have H1166 := H1148.keep K1164 (fun h => h)
        clear H1148
        have H1167 := H1149.keep K1164 (fun h => h)
        clear H1149
        have H1168 := H1150.keep K1164 (fun h => h)
        clear H1150
        have H1169 := H1151.keep K1164 (fun h => h)
        clear H1151
        have H1170 := H1152.keep K1164 (fun h => h)
        clear H1152
        have H1171 := H1153.keep K1164 (fun h => h)
        clear H1153
        have F1172 := own_keep0 F1154 K1164
        clear F1154
        have F1173 := own_keep0 F1155 K1164
        clear F1155
        have F1174 := own_keep0 F1156 K1164
        clear F1156
        have F1175 := own_keep0 F1157 K1164
        clear F1157
        have F1176 := own_keep0 F1158 K1164
        clear F1158
        have F1177 := own_keep0 F1159 K1164
        clear F1159
        refine ⟨_, _, rfl, rfl, K1164, ?_⟩
        refine Dr.strong (S' := (fun wz => Keeps none_ w1163 wz)) (Keeps.refl w1163) (fun wz hx => K1164.trans hx (fun i _ h => h) (fun _ _ h => h)) ?_
        clear K1164
        refine Dr.takes (fuel' := 0) (is' := [27, 26, 25, 24, 23, 22, 21, 18, 17, 16, 14, 13, 20, 19, 15, 12, 11, 10, 6, 5, 4, 2, 1, 9, 8, 7, 3, 0]) [26, 27] [(12, (Value.bool true))] (by kernel_rfl) rfl (by kernel_rfl) ?_
        refine Dr.done (by kernel_rfl) ?_
        refine q_ret (by kernel_rfl) ?_
        refine ⟨(Value.bool true), retv_tmp rfl rfl, ?_⟩
        exact ⟨rfl, K1165⟩
      · rw [h1160]
        have p1178 : ((rpv p) == (rpv q)) = false := h1160
        have hsr : p ≠ q := fun z => by rw [z] at h1160; simp at h1160
        have h1179 : t1143 = false := Bool.eq_false_iff.2 (fun h => hsr (ht1144.1 h))
        rw [h1179]
        refine Dr.takes (fuel' := 3) (is' := [24, 23, 22, 21, 18, 17, 16, 14, 13, 20, 19, 15, 12, 11, 10, 6, 5, 4, 2, 1, 9, 8, 7, 3, 0]) [22, 23, 24] [(12, (Value.bool false)), (68, (Value.bool true))] (by kernel_rfl) rfl (by kernel_rfl) ?_
        refine Dr.call (i := 25) (by kernel_rfl) (by kernel_rfl) (d := (some 69)) (by kernel_rfl) (fun _ => known_calls _) ?_
        rintro _ w1180 ⟨rfl, K1181⟩
        have K1182 := K1147.trans K1181 (U := none_) (fun i h1 h2 => h2) (fun i h1 h2 => by exact h2)
        clear K1147
        have H1183 := H1148.keep K1181 (fun h => h)
        clear H1148
        have H1184 := H1149.keep K1181 (fun h => h)
        clear H1149
        have H1185 := H1150.keep K1181 (fun h => h)
        clear H1150
        have H1186 := H1151.keep K1181 (fun h => h)
        clear H1151
        have H1187 := H1152.keep K1181 (fun h => h)
        clear H1152
        have H1188 := H1153.keep K1181 (fun h => h)
        clear H1153
        have F1189 := own_keep0 F1154 K1181
        clear F1154
        have F1190 := own_keep0 F1155 K1181
        clear F1155
        have F1191 := own_keep0 F1156 K1181
        clear F1156
        have F1192 := own_keep0 F1157 K1181
        clear F1157
        have F1193 := own_keep0 F1158 K1181
        clear F1158
        have F1194 := own_keep0 F1159 K1181
        clear F1159
        refine ⟨_, _, rfl, rfl, K1181, ?_⟩
        refine Dr.strong (S' := (fun wz => Keeps none_ w1180 wz)) (Keeps.refl w1180) (fun wz hx => K1181.trans hx (fun i _ h => h) (fun _ _ h => h)) ?_
        clear K1181
        refine Dr.takes (fuel' := 0) (is' := [27, 26, 25, 24, 23, 22, 21, 18, 17, 16, 14, 13, 20, 19, 15, 12, 11, 10, 6, 5, 4, 2, 1, 9, 8, 7, 3, 0]) [26, 27] [(12, (Value.bool true))] (by kernel_rfl) rfl (by kernel_rfl) ?_
        refine Dr.done (by kernel_rfl) ?_
        refine q_ret (by kernel_rfl) ?_
        refine ⟨(Value.bool true), retv_tmp rfl rfl, ?_⟩
        exact ⟨rfl, K1182⟩
    · rw [h1077]
      have p1195 : ((opv om) == (opv on)) = false := h1077
      have hso : om ≠ on := fun q => by rw [q] at h1077; simp at h1077
      have h1196 : (aggB [(i64 om.kind), (Value.string (str om.frm)), (Value.string (str om.to)), (i64 om.amount), (Value.string (str om.key)), (i64 om.slot), (i64 om.shard)] [(i64 on.kind), (Value.string (str on.frm)), (Value.string (str on.to)), (i64 on.amount), (Value.string (str on.key)), (i64 on.slot), (i64 on.shard)]) = false := Bool.eq_false_iff.2 (fun h => hso ((aggB_op om on).1 h))
      rw [h1196]
      refine Dr.takes (fuel' := 16) (is' := [11, 10, 6, 5, 4, 2, 1, 9, 8, 7, 3, 0]) [10, 11] [(8, (Value.pointer (some ⟨b16, 0, none⟩))), (9, (Value.pointer (some ⟨b25, 0, none⟩))), (12, (Value.bool false)), (55, (Value.bool true))] (by kernel_rfl) rfl (by kernel_rfl) ?_
      refine Dr.take (i := 12) (v := (agg [(i64 p.why), (i64 p.amount), (Value.slice A p.rows.length c)])) (by kernel_rfl) (by kernel_rfl) (fun wz hS => Runs.load (t := 46) (a := ⟨b16, 0, none⟩) (by kernel_rfl) ((H1070.keep hS (fun h => h)).loads (by kernel_rfl))) (d := (some 56)) (by kernel_rfl) rfl ?_
      refine Dr.take (i := 15) (v := (agg [(i64 q.why), (i64 q.amount), (Value.slice B q.rows.length d)])) (by kernel_rfl) (by kernel_rfl) (fun wz hS => Runs.load (t := 46) (a := ⟨b25, 0, none⟩) (by kernel_rfl) ((H1071.keep hS (fun h => h)).loads (by kernel_rfl))) (d := (some 59)) (by kernel_rfl) rfl ?_
      refine Dr.take (i := 19) (v := (agg [(i64 p.why), (i64 p.amount), (Value.slice A p.rows.length c)])) (by kernel_rfl) (by kernel_rfl) (fun wz hS => Runs.load (t := 46) (a := ⟨b16, 0, none⟩) (by kernel_rfl) ((H1070.keep hS (fun h => h)).loads (by kernel_rfl))) (d := (some 63)) (by kernel_rfl) rfl ?_
      refine Dr.take (i := 20) (v := (agg [(i64 q.why), (i64 q.amount), (Value.slice B q.rows.length d)])) (by kernel_rfl) (by kernel_rfl) (fun wz hS => Runs.load (t := 46) (a := ⟨b25, 0, none⟩) (by kernel_rfl) ((H1071.keep hS (fun h => h)).loads (by kernel_rfl))) (d := (some 64)) (by kernel_rfl) rfl ?_
      refine Dr.call (i := 13) (by kernel_rfl) (by kernel_rfl) (d := (some 57)) (by kernel_rfl) (fun _ => PutReply_calls _ (Value.slice none 0 0) [] p A c (Rd.nil _ _) hpo (Rd.keep0 (by omega) hp K1067) (by (try simp only at *); (try simp only [List.length_append] at *); (try simp only [List.length_cons] at *); (try simp only [List.length_nil] at *); omega)) ?_
      rintro _ w1198 ⟨v1197, rfl, K1199, hO1200⟩
      have ob1202 : ∀ i, (v1197).ownBlock = some i → i ≠ b1 := fun i hi => by have := (World.ownsRow.lt hO1200 i hi).1; have := H1068.lt; omega
      have ob1203 : ∀ i, (v1197).ownBlock = some i → i ≠ b8 := fun i hi => by have := (World.ownsRow.lt hO1200 i hi).1; have := H1069.lt; omega
      have ob1204 : ∀ i, (v1197).ownBlock = some i → i ≠ b16 := fun i hi => by have := (World.ownsRow.lt hO1200 i hi).1; have := H1070.lt; omega
      have ob1205 : ∀ i, (v1197).ownBlock = some i → i ≠ b25 := fun i hi => by have := (World.ownsRow.lt hO1200 i hi).1; have := H1071.lt; omega
      have ob1206 : ∀ i, (v1197).ownBlock = some i → i ≠ b35 := fun i hi => by have := (World.ownsRow.lt hO1200 i hi).1; have := H1072.lt; omega
      have ob1207 : ∀ i, (v1197).ownBlock = some i → i ≠ b46 := fun i hi => by have := (World.ownsRow.lt hO1200 i hi).1; have := H1073.lt; omega
      have oo1208 : ∀ i, (v58).ownBlock = some i → (v1197).ownBlock = some i → False := fun i hi hs => by have := (World.ownsRow.lt hO1200 i hs).1; have := (World.ownsRow.lt F1074 i hi).2; omega
      have oo1209 : ∀ i, (v1197).ownBlock = some i → (v58).ownBlock = some i → False := fun i hi hs => oo1208 i hs hi
      have oo1210 : ∀ i, (v73).ownBlock = some i → (v1197).ownBlock = some i → False := fun i hi hs => by have := (World.ownsRow.lt hO1200 i hs).1; have := (World.ownsRow.lt F1075 i hi).2; omega
      have oo1211 : ∀ i, (v1197).ownBlock = some i → (v73).ownBlock = some i → False := fun i hi hs => oo1210 i hs hi
      have oo1212 : ∀ i, (v1026).ownBlock = some i → (v1197).ownBlock = some i → False := fun i hi hs => by have := (World.ownsRow.lt hO1200 i hs).1; have := (World.ownsRow.lt F1076 i hi).2; omega
      have oo1213 : ∀ i, (v1197).ownBlock = some i → (v1026).ownBlock = some i → False := fun i hi hs => oo1212 i hs hi
      have oo1214 : ∀ i, (v1050).ownBlock = some i → (v1197).ownBlock = some i → False := fun i hi hs => by have := (World.ownsRow.lt hO1200 i hs).1; have := (World.ownsRow.lt O1054 i hi).2; omega
      have oo1215 : ∀ i, (v1197).ownBlock = some i → (v1050).ownBlock = some i → False := fun i hi hs => oo1214 i hs hi
      have O1201 : OwnB w1198 w.heap.size _ v1197 (rpv p) := own_base hO1200 K1067.size
      clear hO1200
      have K1216 := K1067.trans K1199 (U := none_) (fun i h1 h2 => h2) (fun i h1 h2 => by exact h2)
      clear K1067
      have H1217 := H1068.keep K1199 (fun h => h)
      clear H1068
      have H1218 := H1069.keep K1199 (fun h => h)
      clear H1069
      have H1219 := H1070.keep K1199 (fun h => h)
      clear H1070
      have H1220 := H1071.keep K1199 (fun h => h)
      clear H1071
      have H1221 := H1072.keep K1199 (fun h => h)
      clear H1072
      have H1222 := H1073.keep K1199 (fun h => h)
      clear H1073
      have F1223 := own_keep0 F1074 K1199
      clear F1074
      have F1224 := own_keep0 F1075 K1199
      clear F1075
      have F1225 := own_keep0 F1076 K1199
      clear F1076
      have F1226 := own_keep0 O1054 K1199
      clear O1054
      refine ⟨_, _, rfl, rfl, K1199, ?_⟩
      refine Dr.strong (S' := (fun wz => Keeps none_ w1198 wz)) (Keeps.refl w1198) (fun wz hx => K1199.trans hx (fun i _ h => h) (fun _ _ h => h)) ?_
      clear K1199
      refine Dr.take (i := 14) (v := (Value.string (str (rpv p)))) (by kernel_rfl) (by kernel_rfl) (fun wz hS => Runs.b2s (s := 23) (d := 9) (e := 5) (by kernel_rfl) (by kernel_rfl) (by kernel_rfl) (Rd.keep0 (by omega) (OwnB.rd O1201) hS)) (d := (some 58)) (by kernel_rfl) rfl ?_
      refine Dr.call (i := 16) (by kernel_rfl) (by kernel_rfl) (d := (some 60)) (by kernel_rfl) (fun _ => PutReply_calls _ (Value.slice none 0 0) [] q B d (Rd.nil _ _) hqo (Rd.keep0 (by omega) hq K1216) (by (try simp only at *); (try simp only [List.length_append] at *); (try simp only [List.length_cons] at *); (try simp only [List.length_nil] at *); omega)) ?_
      rintro _ w1228 ⟨v1227, rfl, K1229, hO1230⟩
      have ob1232 : ∀ i, (v1227).ownBlock = some i → i ≠ b1 := fun i hi => by have := (World.ownsRow.lt hO1230 i hi).1; have := H1217.lt; omega
      have ob1233 : ∀ i, (v1227).ownBlock = some i → i ≠ b8 := fun i hi => by have := (World.ownsRow.lt hO1230 i hi).1; have := H1218.lt; omega
      have ob1234 : ∀ i, (v1227).ownBlock = some i → i ≠ b16 := fun i hi => by have := (World.ownsRow.lt hO1230 i hi).1; have := H1219.lt; omega
      have ob1235 : ∀ i, (v1227).ownBlock = some i → i ≠ b25 := fun i hi => by have := (World.ownsRow.lt hO1230 i hi).1; have := H1220.lt; omega
      have ob1236 : ∀ i, (v1227).ownBlock = some i → i ≠ b35 := fun i hi => by have := (World.ownsRow.lt hO1230 i hi).1; have := H1221.lt; omega
      have ob1237 : ∀ i, (v1227).ownBlock = some i → i ≠ b46 := fun i hi => by have := (World.ownsRow.lt hO1230 i hi).1; have := H1222.lt; omega
      have oo1238 : ∀ i, (v58).ownBlock = some i → (v1227).ownBlock = some i → False := fun i hi hs => by have := (World.ownsRow.lt hO1230 i hs).1; have := (World.ownsRow.lt F1223 i hi).2; omega
      have oo1239 : ∀ i, (v1227).ownBlock = some i → (v58).ownBlock = some i → False := fun i hi hs => oo1238 i hs hi
      have oo1240 : ∀ i, (v73).ownBlock = some i → (v1227).ownBlock = some i → False := fun i hi hs => by have := (World.ownsRow.lt hO1230 i hs).1; have := (World.ownsRow.lt F1224 i hi).2; omega
      have oo1241 : ∀ i, (v1227).ownBlock = some i → (v73).ownBlock = some i → False := fun i hi hs => oo1240 i hs hi
      have oo1242 : ∀ i, (v1026).ownBlock = some i → (v1227).ownBlock = some i → False := fun i hi hs => by have := (World.ownsRow.lt hO1230 i hs).1; have := (World.ownsRow.lt F1225 i hi).2; omega
      have oo1243 : ∀ i, (v1227).ownBlock = some i → (v1026).ownBlock = some i → False := fun i hi hs => oo1242 i hs hi
      have oo1244 : ∀ i, (v1050).ownBlock = some i → (v1227).ownBlock = some i → False := fun i hi hs => by have := (World.ownsRow.lt hO1230 i hs).1; have := (World.ownsRow.lt F1226 i hi).2; omega
      have oo1245 : ∀ i, (v1227).ownBlock = some i → (v1050).ownBlock = some i → False := fun i hi hs => oo1244 i hs hi
      have oo1246 : ∀ i, (v1197).ownBlock = some i → (v1227).ownBlock = some i → False := fun i hi hs => by have := (World.ownsRow.lt hO1230 i hs).1; have := (World.ownsRow.lt O1201 i hi).2; omega
      have oo1247 : ∀ i, (v1227).ownBlock = some i → (v1197).ownBlock = some i → False := fun i hi hs => oo1246 i hs hi
      have O1231 : OwnB w1228 w.heap.size _ v1227 (rpv q) := own_base hO1230 K1216.size
      clear hO1230
      have K1248 := K1216.trans K1229 (U := none_) (fun i h1 h2 => h2) (fun i h1 h2 => by exact h2)
      clear K1216
      have H1249 := H1217.keep K1229 (fun h => h)
      clear H1217
      have H1250 := H1218.keep K1229 (fun h => h)
      clear H1218
      have H1251 := H1219.keep K1229 (fun h => h)
      clear H1219
      have H1252 := H1220.keep K1229 (fun h => h)
      clear H1220
      have H1253 := H1221.keep K1229 (fun h => h)
      clear H1221
      have H1254 := H1222.keep K1229 (fun h => h)
      clear H1222
      have F1255 := own_keep0 F1223 K1229
      clear F1223
      have F1256 := own_keep0 F1224 K1229
      clear F1224
      have F1257 := own_keep0 F1225 K1229
      clear F1225
      have F1258 := own_keep0 F1226 K1229
      clear F1226
      have F1259 := own_keep0 O1201 K1229
      clear O1201
      refine ⟨_, _, rfl, rfl, K1229, ?_⟩
      refine Dr.strong (S' := (fun wz => Keeps none_ w1228 wz)) (Keeps.refl w1228) (fun wz hx => K1229.trans hx (fun i _ h => h) (fun _ _ h => h)) ?_
      clear K1229
      refine Dr.take (i := 17) (v := (Value.string (str (rpv q)))) (by kernel_rfl) (by kernel_rfl) (fun wz hS => Runs.b2s (s := 23) (d := 9) (e := 5) (by kernel_rfl) (by kernel_rfl) (by kernel_rfl) (Rd.keep0 (by omega) (OwnB.rd O1231) hS)) (d := (some 61)) (by kernel_rfl) rfl ?_
      refine Dr.take (i := 18) (v := (Value.bool ((rpv p) == (rpv q)))) (by kernel_rfl) (by kernel_rfl) (fun wz hS => Runs.streq (t := 9) (by kernel_rfl)) (d := (some 62)) (by kernel_rfl) rfl ?_
      refine Dr.call (i := 21) (by kernel_rfl) (by kernel_rfl) (d := (some 65)) (by kernel_rfl) (fun _ => SameReply_calls _ A c p B d q (Rd.keep0 (by omega) hp K1248) (Rd.keep0 (by omega) hq K1248)) ?_
      rintro _ w1263 ⟨t1260, rfl, ht1261, K1262⟩
      have K1264 := K1248.trans K1262 (U := none_) (fun i h1 h2 => h2) (fun i h1 h2 => by exact h2)
      clear K1248
      have H1265 := H1249.keep K1262 (fun h => h)
      clear H1249
      have H1266 := H1250.keep K1262 (fun h => h)
      clear H1250
      have H1267 := H1251.keep K1262 (fun h => h)
      clear H1251
      have H1268 := H1252.keep K1262 (fun h => h)
      clear H1252
      have H1269 := H1253.keep K1262 (fun h => h)
      clear H1253
      have H1270 := H1254.keep K1262 (fun h => h)
      clear H1254
      have F1271 := own_keep0 F1255 K1262
      clear F1255
      have F1272 := own_keep0 F1256 K1262
      clear F1256
      have F1273 := own_keep0 F1257 K1262
      clear F1257
      have F1274 := own_keep0 F1258 K1262
      clear F1258
      have F1275 := own_keep0 F1259 K1262
      clear F1259
      have F1276 := own_keep0 O1231 K1262
      clear O1231
      refine ⟨_, _, rfl, rfl, K1262, ?_⟩
      refine Dr.strong (S' := (fun wz => Keeps none_ w1263 wz)) (Keeps.refl w1263) (fun wz hx => K1262.trans hx (fun i _ h => h) (fun _ _ h => h)) ?_
      clear K1262
      refine Dr.split ((rpv p) == (rpv q)) (fun h1277 => ?_) (fun h1277 => ?_)
      · rw [h1277]
        have p1278 : ((rpv p) == (rpv q)) = true := h1277
        have hsr : p = q := rpv_inj hpo hqo hpr hqr hpn hqn (eq_of_beq h1277)
        have h1279 : t1260 = true := ht1261.2 hsr
        rw [h1279]
        refine Dr.takes (fuel' := 3) (is' := [24, 23, 22, 21, 18, 17, 16, 14, 13, 20, 19, 15, 12, 11, 10, 6, 5, 4, 2, 1, 9, 8, 7, 3, 0]) [22, 23, 24] [(12, (Value.bool false)), (68, (Value.bool true))] (by kernel_rfl) rfl (by kernel_rfl) ?_
        refine Dr.call (i := 25) (by kernel_rfl) (by kernel_rfl) (d := (some 69)) (by kernel_rfl) (fun _ => known_calls _) ?_
        rintro _ w1280 ⟨rfl, K1281⟩
        have K1282 := K1264.trans K1281 (U := none_) (fun i h1 h2 => h2) (fun i h1 h2 => by exact h2)
        clear K1264
        have H1283 := H1265.keep K1281 (fun h => h)
        clear H1265
        have H1284 := H1266.keep K1281 (fun h => h)
        clear H1266
        have H1285 := H1267.keep K1281 (fun h => h)
        clear H1267
        have H1286 := H1268.keep K1281 (fun h => h)
        clear H1268
        have H1287 := H1269.keep K1281 (fun h => h)
        clear H1269
        have H1288 := H1270.keep K1281 (fun h => h)
        clear H1270
        have F1289 := own_keep0 F1271 K1281
        clear F1271
        have F1290 := own_keep0 F1272 K1281
        clear F1272
        have F1291 := own_keep0 F1273 K1281
        clear F1273
        have F1292 := own_keep0 F1274 K1281
        clear F1274
        have F1293 := own_keep0 F1275 K1281
        clear F1275
        have F1294 := own_keep0 F1276 K1281
        clear F1276
        refine ⟨_, _, rfl, rfl, K1281, ?_⟩
        refine Dr.strong (S' := (fun wz => Keeps none_ w1280 wz)) (Keeps.refl w1280) (fun wz hx => K1281.trans hx (fun i _ h => h) (fun _ _ h => h)) ?_
        clear K1281
        refine Dr.takes (fuel' := 0) (is' := [27, 26, 25, 24, 23, 22, 21, 18, 17, 16, 14, 13, 20, 19, 15, 12, 11, 10, 6, 5, 4, 2, 1, 9, 8, 7, 3, 0]) [26, 27] [(12, (Value.bool true))] (by kernel_rfl) rfl (by kernel_rfl) ?_
        refine Dr.done (by kernel_rfl) ?_
        refine q_ret (by kernel_rfl) ?_
        refine ⟨(Value.bool true), retv_tmp rfl rfl, ?_⟩
        exact ⟨rfl, K1282⟩
      · rw [h1277]
        have p1295 : ((rpv p) == (rpv q)) = false := h1277
        have hsr : p ≠ q := fun z => by rw [z] at h1277; simp at h1277
        have h1296 : t1260 = false := Bool.eq_false_iff.2 (fun h => hsr (ht1261.1 h))
        rw [h1296]
        refine Dr.takes (fuel' := 3) (is' := [24, 23, 22, 21, 18, 17, 16, 14, 13, 20, 19, 15, 12, 11, 10, 6, 5, 4, 2, 1, 9, 8, 7, 3, 0]) [22, 23, 24] [(12, (Value.bool false)), (68, (Value.bool true))] (by kernel_rfl) rfl (by kernel_rfl) ?_
        refine Dr.call (i := 25) (by kernel_rfl) (by kernel_rfl) (d := (some 69)) (by kernel_rfl) (fun _ => known_calls _) ?_
        rintro _ w1297 ⟨rfl, K1298⟩
        have K1299 := K1264.trans K1298 (U := none_) (fun i h1 h2 => h2) (fun i h1 h2 => by exact h2)
        clear K1264
        have H1300 := H1265.keep K1298 (fun h => h)
        clear H1265
        have H1301 := H1266.keep K1298 (fun h => h)
        clear H1266
        have H1302 := H1267.keep K1298 (fun h => h)
        clear H1267
        have H1303 := H1268.keep K1298 (fun h => h)
        clear H1268
        have H1304 := H1269.keep K1298 (fun h => h)
        clear H1269
        have H1305 := H1270.keep K1298 (fun h => h)
        clear H1270
        have F1306 := own_keep0 F1271 K1298
        clear F1271
        have F1307 := own_keep0 F1272 K1298
        clear F1272
        have F1308 := own_keep0 F1273 K1298
        clear F1273
        have F1309 := own_keep0 F1274 K1298
        clear F1274
        have F1310 := own_keep0 F1275 K1298
        clear F1275
        have F1311 := own_keep0 F1276 K1298
        clear F1276
        refine ⟨_, _, rfl, rfl, K1298, ?_⟩
        refine Dr.strong (S' := (fun wz => Keeps none_ w1297 wz)) (Keeps.refl w1297) (fun wz hx => K1298.trans hx (fun i _ h => h) (fun _ _ h => h)) ?_
        clear K1298
        refine Dr.takes (fuel' := 0) (is' := [27, 26, 25, 24, 23, 22, 21, 18, 17, 16, 14, 13, 20, 19, 15, 12, 11, 10, 6, 5, 4, 2, 1, 9, 8, 7, 3, 0]) [26, 27] [(12, (Value.bool true))] (by kernel_rfl) rfl (by kernel_rfl) ?_
        refine Dr.done (by kernel_rfl) ?_
        refine q_ret (by kernel_rfl) ?_
        refine ⟨(Value.bool true), retv_tmp rfl rfl, ?_⟩
        exact ⟨rfl, K1299⟩
end Go.Proofs.Ytnepjfnkaigakaa
