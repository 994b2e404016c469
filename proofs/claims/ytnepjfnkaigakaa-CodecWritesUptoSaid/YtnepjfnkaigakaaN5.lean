/- chapter 02: CodecWrites returns true -/
import Derived.Test.YtnepjfnkaigakaaProg
import Derived.Test.YtnepjfnkaigakaaKG
set_option linter.unusedVariables false
namespace Go.Proofs.Ytnepjfnkaigakaa
open Go.Q Go.RowKit

set_option maxHeartbeats 4000000 in
theorem Writes_calls (w : World) (B : Option Addr) (bc : Nat) (bs : List UInt8) (n : Nat) (z : Int) (ss : List UInt8) (om : Opm) (p : ReplyM) (A : Option Addr) (c : Nat) (m : MsgP) (E : Option Addr) (ec : Nat) (D : Option Addr) (dc : Nat) (hB : RdB w (.slice B bs.length bc) bs) (hn : n < 18446744073709551616) (hz : -9223372036854775808 ≤ z ∧ z ≤ 9223372036854775807) (ho : om.Ok) (hpo : p.Ok) (hp : RdR w (.slice A p.rows.length c) p.rows) (hm : m.Ok) (hE : RdE w (.slice E m.entries.length ec) m.entries) (hC : EntsIn w m.entries) (hD : RdB w (.slice D m.data.length dc) m.data) (hbl : bs.length ≤ 1048576) (hsl : ss.length ≤ 1048576) (ho1 : om.frm.length ≤ 1048576) (ho2 : om.to.length ≤ 1048576) (ho3 : om.key.length ≤ 1048576) (hpr : p.rows.length ≤ 1048576) (hpn : ∀ x ∈ p.rows, x.name.length ≤ 1048576) (hcl : ∀ x ∈ m.entries, x.cmd.length ≤ 140737488351232) : Calls Try.prog 5 ⟨[(Value.slice B bs.length bc), (Value.int IntKind.u64 ((n : Nat) : Int)), (i64 z), (Value.string (str ss)), (agg [(i64 om.kind), (Value.string (str om.frm)), (Value.string (str om.to)), (i64 om.amount), (Value.string (str om.key)), (i64 om.slot), (i64 om.shard)]), (agg [(i64 p.why), (i64 p.amount), (Value.slice A p.rows.length c)]), (agg [(i64 m.kind), (i64 m.group), (i64 m.frm), (i64 m.to), (i64 m.term), (i64 m.index), (i64 m.logTerm), (i64 m.commit), (Value.bool m.ok), (Value.slice E m.entries.length ec), (Value.slice D m.data.length dc)])]⟩ w (fun e w' => e = .returned (.bool true) ∧ Keeps none_ w w') := by
  have hol := opv_len om
  have hpl := rpv_len p
  have hi1 := iv_length_10 ho.kind
  have hi2 := iv_length_10 ho.amount
  have hi3 := iv_length_10 ho.slot
  have hi4 := iv_length_10 ho.shard
  have hi5 := iv_length_10 hpo.why
  have hi6 := iv_length_10 hpo.amount
  have hu0 := uv_length_10 (n := p.rows.length) (by omega)
  have ht1 := tv_le (s := om.frm) (by omega)
  have ht2 := tv_le (s := om.to) (by omega)
  have ht3 := tv_le (s := om.key) (by omega)
  have hrv := rowsv_len_le (B := 1048576) p.rows hpn hpo.rows (by decide)
  have hrm : p.rows.length * (1048576 + 20) ≤ 1048576 * 1048596 := Nat.mul_le_mul hpr (by decide)
  have K0 : Keeps none_ w w := Keeps.refl w
  refine q_calls Try.func5 (by kernel_rfl) (by kernel_rfl) ?_
  refine q_seq (by kernel_rfl) ?_
  refine q_region (by kernel_rfl) ?_
  refine Ops.new (o := rowL [(i64 om.kind), (Value.string (str om.frm)), (Value.string (str om.to)), (i64 om.amount), (Value.string (str om.key)), (i64 om.slot), (i64 om.shard)] 43) (V := fun b => (Value.pointer (some ⟨b, 0, none⟩))) (by kernel_rfl) (d := (some 11)) (by kernel_rfl) (fun b => rfl) (fun b1 w2 hb3 H4 K5 hs6 => ?_)
  have nb1 : w.heap.size ≤ b1 := by have := K0.size; omega
  have K7 := K0.trans K5 (U := none_) (fun i h1 h2 => h2) (fun i h1 h2 => by exact h2)
  clear K0
  clear K5 hs6
  refine Ops.new (o := rowL [(i64 p.why), (i64 p.amount), (Value.slice A p.rows.length c)] 46) (V := fun b => (Value.pointer (some ⟨b, 0, none⟩))) (by kernel_rfl) (d := (some 12)) (by kernel_rfl) (fun b => rfl) (fun b8 w9 hb10 H11 K12 hs13 => ?_)
  have lb8b1 : b1 < b8 := by have := H4.lt; omega
  have nb8 : w.heap.size ≤ b8 := by have := K7.size; omega
  have K14 := K7.trans K12 (U := none_) (fun i h1 h2 => h2) (fun i h1 h2 => by exact h2)
  clear K7
  have H15 := H4.keep K12 (fun h => h)
  clear H4
  clear K12 hs13
  refine Ops.new (o := rowL [(i64 m.kind), (i64 m.group), (i64 m.frm), (i64 m.to), (i64 m.term), (i64 m.index), (i64 m.logTerm), (i64 m.commit), (Value.bool m.ok), (Value.slice E m.entries.length ec), (Value.slice D m.data.length dc)] 49) (V := fun b => (Value.pointer (some ⟨b, 0, none⟩))) (by kernel_rfl) (d := (some 13)) (by kernel_rfl) (fun b => rfl) (fun b16 w17 hb18 H19 K20 hs21 => ?_)
  have lb16b1 : b1 < b16 := by have := H15.lt; omega
  have lb16b8 : b8 < b16 := by have := H11.lt; omega
  have nb16 : w.heap.size ≤ b16 := by have := K14.size; omega
  have K22 := K14.trans K20 (U := none_) (fun i h1 h2 => h2) (fun i h1 h2 => by exact h2)
  clear K14
  have H23 := H15.keep K20 (fun h => h)
  clear H15
  have H24 := H11.keep K20 (fun h => h)
  clear H11
  clear K20 hs21
  refine Ops.regs 1 [(0, (Value.slice B bs.length bc)), (1, (Value.int IntKind.u64 ((n : Nat) : Int))), (2, (i64 z)), (3, (Value.string (str ss))), (11, (Value.pointer (some ⟨b1, 0, none⟩))), (12, (Value.pointer (some ⟨b8, 0, none⟩))), (13, (Value.pointer (some ⟨b16, 0, none⟩))), (14, (Value.bool false))] (j := 4) (by kernel_rfl) (by kernel_rfl) ?_
  refine Ops.done (by kernel_rfl) ?_
  refine q_seq (by kernel_rfl) ?_
  refine q_region (by kernel_rfl) ?_
  refine Ops.regs 1 [(0, (Value.slice B bs.length bc)), (1, (Value.int IntKind.u64 ((n : Nat) : Int))), (2, (i64 z)), (3, (Value.string (str ss))), (11, (Value.pointer (some ⟨b1, 0, none⟩))), (12, (Value.pointer (some ⟨b8, 0, none⟩))), (13, (Value.pointer (some ⟨b16, 0, none⟩))), (14, (Value.bool false)), (22, (Value.slice B bs.length bc))] (j := 1) (by kernel_rfl) (by kernel_rfl) ?_
  refine Ops.call (by kernel_rfl) (d := (some 23)) (by kernel_rfl) (Lent_calls _ B bc bs (hB.keep0 (by omega) K22) (by omega)) ?_
  rintro _ w27 ⟨A25, c26, rfl, K28, hO29⟩
  have O31 := OwnB.cut hO29 (by simp)
  have ob32 : ∀ i, ((Value.slice A25 bs.length c26)).ownBlock = some i → i ≠ b1 := fun i hi => by have := (World.ownsRow.lt O31 i hi).1; have := H23.lt; omega
  have ob33 : ∀ i, ((Value.slice A25 bs.length c26)).ownBlock = some i → i ≠ b8 := fun i hi => by have := (World.ownsRow.lt O31 i hi).1; have := H24.lt; omega
  have ob34 : ∀ i, ((Value.slice A25 bs.length c26)).ownBlock = some i → i ≠ b16 := fun i hi => by have := (World.ownsRow.lt O31 i hi).1; have := H19.lt; omega
  have ob35 : ∀ i, ((Value.slice A25 ((bs ++ [byte 167]).length) c26)).ownBlock = some i → i ≠ b1 := fun i hi => by have := (World.ownsRow.lt hO29 i hi).1; have := H23.lt; omega
  have ob36 : ∀ i, ((Value.slice A25 ((bs ++ [byte 167]).length) c26)).ownBlock = some i → i ≠ b8 := fun i hi => by have := (World.ownsRow.lt hO29 i hi).1; have := H24.lt; omega
  have ob37 : ∀ i, ((Value.slice A25 ((bs ++ [byte 167]).length) c26)).ownBlock = some i → i ≠ b16 := fun i hi => by have := (World.ownsRow.lt hO29 i hi).1; have := H19.lt; omega
  have O30 := own_base O31 K22.size
  clear O31
  have O38 := own_base hO29 K22.size
  clear hO29
  refine ⟨_, _, rfl, rfl, ?_⟩
  have K39 := K22.trans K28 (U := none_) (fun i h1 h2 => h2) (fun i h1 h2 => by exact h2)
  clear K22
  have H40 := H23.keep K28 (fun h => h)
  clear H23
  have H41 := H24.keep K28 (fun h => h)
  clear H24
  have H42 := H19.keep K28 (fun h => h)
  clear H19
  clear K28
  refine Ops.regs 1 [(0, (Value.slice B bs.length bc)), (1, (Value.int IntKind.u64 ((n : Nat) : Int))), (2, (i64 z)), (3, (Value.string (str ss))), (11, (Value.pointer (some ⟨b1, 0, none⟩))), (12, (Value.pointer (some ⟨b8, 0, none⟩))), (13, (Value.pointer (some ⟨b16, 0, none⟩))), (14, (Value.bool false)), (15, (Value.slice A25 bs.length c26))] (j := 3) (by kernel_rfl) (by kernel_rfl) ?_
  refine Ops.done (by kernel_rfl) ?_
  refine q_seq (by kernel_rfl) ?_
  refine q_region (by kernel_rfl) ?_
  refine Ops.regs 2 [(0, (Value.slice B bs.length bc)), (1, (Value.int IntKind.u64 ((n : Nat) : Int))), (2, (i64 z)), (3, (Value.string (str ss))), (11, (Value.pointer (some ⟨b1, 0, none⟩))), (12, (Value.pointer (some ⟨b8, 0, none⟩))), (13, (Value.pointer (some ⟨b16, 0, none⟩))), (14, (Value.bool false)), (15, (Value.slice A25 bs.length c26)), (24, (Value.slice A25 bs.length c26)), (25, (Value.int IntKind.u64 ((n : Nat) : Int)))] (j := 2) (by kernel_rfl) (by kernel_rfl) ?_
  refine Ops.call (by kernel_rfl) (d := (some 26)) (by kernel_rfl) (Uint_calls _ (Value.slice A25 bs.length c26) bs n (OwnB.rd O30) (by omega) (by (try simp only at *); (try simp only [List.length_append] at *); (try simp only [List.length_cons] at *); (try simp only [List.length_nil] at *); omega)) ?_
  rintro _ w45 ⟨v44, rfl, K46, hO47⟩
  have ob49 : ∀ i, (v44).ownBlock = some i → i ≠ b1 := fun i hi => by have := (World.ownsRow.lt hO47 i hi).1; have := H40.lt; omega
  have ob50 : ∀ i, (v44).ownBlock = some i → i ≠ b8 := fun i hi => by have := (World.ownsRow.lt hO47 i hi).1; have := H41.lt; omega
  have ob51 : ∀ i, (v44).ownBlock = some i → i ≠ b16 := fun i hi => by have := (World.ownsRow.lt hO47 i hi).1; have := H42.lt; omega
  have oo52 : ∀ i, ((Value.slice A25 bs.length c26)).ownBlock = some i → (v44).ownBlock = some i → False := fun i hi hs => by have := (World.ownsRow.lt hO47 i hs).1; have := (World.ownsRow.lt O30 i hi).2; omega
  have oo53 : ∀ i, (v44).ownBlock = some i → ((Value.slice A25 bs.length c26)).ownBlock = some i → False := fun i hi hs => oo52 i hs hi
  have oo54 : ∀ i, ((Value.slice A25 ((bs ++ [byte 167]).length) c26)).ownBlock = some i → (v44).ownBlock = some i → False := fun i hi hs => by have := (World.ownsRow.lt hO47 i hs).1; have := (World.ownsRow.lt O38 i hi).2; omega
  have oo55 : ∀ i, (v44).ownBlock = some i → ((Value.slice A25 ((bs ++ [byte 167]).length) c26)).ownBlock = some i → False := fun i hi hs => oo54 i hs hi
  have O48 := own_base hO47 K39.size
  clear hO47
  have hL43 := uv_length_10 (n := n) (by omega)
  refine ⟨_, _, rfl, rfl, ?_⟩
  have K56 := K39.trans K46 (U := none_) (fun i h1 h2 => h2) (fun i h1 h2 => by exact h2)
  clear K39
  have H57 := H40.keep K46 (fun h => h)
  clear H40
  have H58 := H41.keep K46 (fun h => h)
  clear H41
  have H59 := H42.keep K46 (fun h => h)
  clear H42
  have F60 := own_keep0 O30 K46
  clear O30
  have F61 := own_keep0 O38 K46
  clear O38
  clear K46
  refine Ops.regs 1 [(0, (Value.slice B bs.length bc)), (1, (Value.int IntKind.u64 ((n : Nat) : Int))), (2, (i64 z)), (3, (Value.string (str ss))), (11, (Value.pointer (some ⟨b1, 0, none⟩))), (12, (Value.pointer (some ⟨b8, 0, none⟩))), (13, (Value.pointer (some ⟨b16, 0, none⟩))), (14, (Value.bool false)), (15, (Value.slice A25 bs.length c26)), (16, v44)] (j := 4) (by kernel_rfl) (by kernel_rfl) ?_
  refine Ops.done (by kernel_rfl) ?_
  refine q_seq (by kernel_rfl) ?_
  refine q_region (by kernel_rfl) ?_
  refine Ops.regs 1 [(0, (Value.slice B bs.length bc)), (1, (Value.int IntKind.u64 ((n : Nat) : Int))), (2, (i64 z)), (3, (Value.string (str ss))), (11, (Value.pointer (some ⟨b1, 0, none⟩))), (12, (Value.pointer (some ⟨b8, 0, none⟩))), (13, (Value.pointer (some ⟨b16, 0, none⟩))), (14, (Value.bool false)), (15, (Value.slice A25 bs.length c26)), (16, v44), (27, (Value.slice A25 bs.length c26))] (j := 1) (by kernel_rfl) (by kernel_rfl) ?_
  refine Ops.go (v := (agg [(i64 om.kind), (Value.string (str om.frm)), (Value.string (str om.to)), (i64 om.amount), (Value.string (str om.key)), (i64 om.slot), (i64 om.shard)])) (by kernel_rfl) (Runs.load (t := 43) (a := ⟨b1, 0, none⟩) (by kernel_rfl) (H57.loads (by kernel_rfl))) (d := (some 28)) (by kernel_rfl) rfl ?_
  refine Ops.call (by kernel_rfl) (d := (some 29)) (by kernel_rfl) (PutOp_calls _ (Value.slice A25 bs.length c26) bs om (OwnB.rd F60) ho (by (try simp only at *); (try simp only [List.length_append] at *); (try simp only [List.length_cons] at *); (try simp only [List.length_nil] at *); omega)) ?_
  rintro _ w63 ⟨v62, rfl, K64, hO65⟩
  have ob67 : ∀ i, (v62).ownBlock = some i → i ≠ b1 := fun i hi => by have := (World.ownsRow.lt hO65 i hi).1; have := H57.lt; omega
  have ob68 : ∀ i, (v62).ownBlock = some i → i ≠ b8 := fun i hi => by have := (World.ownsRow.lt hO65 i hi).1; have := H58.lt; omega
  have ob69 : ∀ i, (v62).ownBlock = some i → i ≠ b16 := fun i hi => by have := (World.ownsRow.lt hO65 i hi).1; have := H59.lt; omega
  have oo70 : ∀ i, ((Value.slice A25 bs.length c26)).ownBlock = some i → (v62).ownBlock = some i → False := fun i hi hs => by have := (World.ownsRow.lt hO65 i hs).1; have := (World.ownsRow.lt F60 i hi).2; omega
  have oo71 : ∀ i, (v62).ownBlock = some i → ((Value.slice A25 bs.length c26)).ownBlock = some i → False := fun i hi hs => oo70 i hs hi
  have oo72 : ∀ i, ((Value.slice A25 ((bs ++ [byte 167]).length) c26)).ownBlock = some i → (v62).ownBlock = some i → False := fun i hi hs => by have := (World.ownsRow.lt hO65 i hs).1; have := (World.ownsRow.lt F61 i hi).2; omega
  have oo73 : ∀ i, (v62).ownBlock = some i → ((Value.slice A25 ((bs ++ [byte 167]).length) c26)).ownBlock = some i → False := fun i hi hs => oo72 i hs hi
  have oo74 : ∀ i, (v44).ownBlock = some i → (v62).ownBlock = some i → False := fun i hi hs => by have := (World.ownsRow.lt hO65 i hs).1; have := (World.ownsRow.lt O48 i hi).2; omega
  have oo75 : ∀ i, (v62).ownBlock = some i → (v44).ownBlock = some i → False := fun i hi hs => oo74 i hs hi
  have O66 := own_base hO65 K56.size
  clear hO65
  refine ⟨_, _, rfl, rfl, ?_⟩
  have K76 := K56.trans K64 (U := none_) (fun i h1 h2 => h2) (fun i h1 h2 => by exact h2)
  clear K56
  have H77 := H57.keep K64 (fun h => h)
  clear H57
  have H78 := H58.keep K64 (fun h => h)
  clear H58
  have H79 := H59.keep K64 (fun h => h)
  clear H59
  have F80 := own_keep0 F60 K64
  clear F60
  have F81 := own_keep0 F61 K64
  clear F61
  have F82 := own_keep0 O48 K64
  clear O48
  clear K64
  refine Ops.regs 1 [(0, (Value.slice B bs.length bc)), (1, (Value.int IntKind.u64 ((n : Nat) : Int))), (2, (i64 z)), (3, (Value.string (str ss))), (11, (Value.pointer (some ⟨b1, 0, none⟩))), (12, (Value.pointer (some ⟨b8, 0, none⟩))), (13, (Value.pointer (some ⟨b16, 0, none⟩))), (14, (Value.bool false)), (15, (Value.slice A25 bs.length c26)), (16, v44), (17, v62)] (j := 4) (by kernel_rfl) (by kernel_rfl) ?_
  refine Ops.done (by kernel_rfl) ?_
  refine q_seq (by kernel_rfl) ?_
  refine q_region (by kernel_rfl) ?_
  refine Ops.go (v := (agg [(i64 m.kind), (i64 m.group), (i64 m.frm), (i64 m.to), (i64 m.term), (i64 m.index), (i64 m.logTerm), (i64 m.commit), (Value.bool m.ok), (Value.slice E m.entries.length ec), (Value.slice D m.data.length dc)])) (by kernel_rfl) (Runs.load (t := 49) (a := ⟨b16, 0, none⟩) (by kernel_rfl) (H79.loads (by kernel_rfl))) (d := (some 31)) (by kernel_rfl) rfl ?_
  refine Ops.call (by kernel_rfl) (d := (some 32)) (by kernel_rfl) (Msg_calls _ m E ec D dc hm (hE.keep0 (by omega) K76) (hC.keep K76) (hD.keep0 (by omega) K76) ) ?_
  rintro _ w86 ⟨v83, er84, out85, rfl, K87, hO88, hc90⟩
  have O89 := own_base hO88 K76.size
  clear hO88
  refine ⟨_, _, rfl, rfl, ?_⟩
  have K91 := K76.trans K87 (U := none_) (fun i h1 h2 => h2) (fun i h1 h2 => by exact h2)
  clear K76
  have H92 := H77.keep K87 (fun h => h)
  clear H77
  have H93 := H78.keep K87 (fun h => h)
  clear H78
  have H94 := H79.keep K87 (fun h => h)
  clear H79
  have F95 := own_keep0 F80 K87
  clear F80
  have F96 := own_keep0 F81 K87
  clear F81
  have F97 := own_keep0 F82 K87
  clear F82
  have F98 := own_keep0 O66 K87
  clear O66
  clear K87
  refine Ops.regs 5 [(0, (Value.slice B bs.length bc)), (1, (Value.int IntKind.u64 ((n : Nat) : Int))), (2, (i64 z)), (3, (Value.string (str ss))), (11, (Value.pointer (some ⟨b1, 0, none⟩))), (12, (Value.pointer (some ⟨b8, 0, none⟩))), (13, (Value.pointer (some ⟨b16, 0, none⟩))), (14, (Value.bool false)), (15, (Value.slice A25 bs.length c26)), (16, v44), (17, v62), (18, v83), (19, (i64 er84))] (j := 7) (by kernel_rfl) (by kernel_rfl) ?_
  refine Ops.done (by kernel_rfl) ?_
  refine q_seq (by kernel_rfl) ?_
  refine q_region (by kernel_rfl) ?_
  refine Ops.go (v := (agg [(i64 m.kind), (i64 m.group), (i64 m.frm), (i64 m.to), (i64 m.term), (i64 m.index), (i64 m.logTerm), (i64 m.commit), (Value.bool m.ok), (Value.slice E m.entries.length ec), (Value.slice D m.data.length dc)])) (by kernel_rfl) (Runs.load (t := 49) (a := ⟨b16, 0, none⟩) (by kernel_rfl) (H94.loads (by kernel_rfl))) (d := (some 36)) (by kernel_rfl) rfl ?_
  refine Ops.call (by kernel_rfl) (d := (some 37)) (by kernel_rfl) (RMsg_calls _ m E ec D dc hm (hE.keep0 (by omega) K91) (hC.keep K91) (hD.keep0 (by omega) K91) hcl) ?_
  rintro _ w102 ⟨v99, er100, out101, rfl, K103, hO104, hc106⟩
  have O105 := own_base hO104 K91.size
  clear hO104
  refine ⟨_, _, rfl, rfl, ?_⟩
  have K107 := K91.trans K103 (U := none_) (fun i h1 h2 => h2) (fun i h1 h2 => by exact h2)
  clear K91
  have H108 := H92.keep K103 (fun h => h)
  clear H92
  have H109 := H93.keep K103 (fun h => h)
  clear H93
  have H110 := H94.keep K103 (fun h => h)
  clear H94
  have F111 := own_keep0 F95 K103
  clear F95
  have F112 := own_keep0 F96 K103
  clear F96
  have F113 := own_keep0 F97 K103
  clear F97
  have F114 := own_keep0 F98 K103
  clear F98
  have F115 := own_keep0 O89 K103
  clear O89
  clear K103
  refine Ops.regs 5 [(0, (Value.slice B bs.length bc)), (1, (Value.int IntKind.u64 ((n : Nat) : Int))), (2, (i64 z)), (3, (Value.string (str ss))), (11, (Value.pointer (some ⟨b1, 0, none⟩))), (12, (Value.pointer (some ⟨b8, 0, none⟩))), (14, (Value.bool false)), (15, (Value.slice A25 bs.length c26)), (16, v44), (17, v62), (18, v83), (19, (i64 er84)), (20, v99), (21, (i64 er100))] (j := 7) (by kernel_rfl) (by kernel_rfl) ?_
  refine Ops.done (by kernel_rfl) ?_
  refine q_seq (by kernel_rfl) ?_
  refine q_seq (by kernel_rfl) ?_
  refine q_draw (fun wz => Keeps none_ w102 wz) 88 (by kernel_rfl) (by kernel_rfl) (by kernel_rfl) (fun w116 K117 _ _ => ⟨K117, ?_⟩)
  have K118 := K107.trans K117 (U := none_) (fun i h1 h2 => h2) (fun i h1 h2 => by exact h2)
  clear K107
  have H119 := H108.keep K117 (fun h => h)
  clear H108
  have H120 := H109.keep K117 (fun h => h)
  clear H109
  have H121 := H110.keep K117 (fun h => h)
  clear H110
  have F122 := own_keep0 F111 K117
  clear F111
  have F123 := own_keep0 F112 K117
  clear F112
  have F124 := own_keep0 F113 K117
  clear F113
  have F125 := own_keep0 F114 K117
  clear F114
  have F126 := own_keep0 F115 K117
  clear F115
  have F127 := own_keep0 O105 K117
  clear O105
  refine Dr.strong (S' := (fun wz => Keeps none_ w116 wz)) (Keeps.refl w116) (fun wz hx => K117.trans hx (fun i _ h => h) (fun _ _ h => h)) ?_
  clear K117
  refine Dr.takes (fuel' := 87) (is' := [0]) [0] [(0, (Value.slice B bs.length bc)), (1, (Value.int IntKind.u64 ((n : Nat) : Int))), (2, (i64 z)), (3, (Value.string (str ss))), (11, (Value.pointer (some ⟨b1, 0, none⟩))), (12, (Value.pointer (some ⟨b8, 0, none⟩))), (14, (Value.bool false)), (15, (Value.slice A25 bs.length c26)), (16, v44), (17, v62), (18, v83), (19, (i64 er84)), (20, v99), (21, (i64 er100)), (40, v44)] (by kernel_rfl) rfl (by kernel_rfl) ?_
  refine Dr.take (i := 1) (v := (Value.string (str (bs ++ uv n)))) (by kernel_rfl) (by kernel_rfl) (fun wz hS => Runs.b2s (s := 23) (d := 9) (e := 5) (by kernel_rfl) (by kernel_rfl) (by kernel_rfl) (Rd.keep0 (by omega) (OwnB.rd F124) hS)) (d := (some 41)) (by kernel_rfl) rfl ?_
  refine Dr.takes (fuel' := 84) (is' := [3, 2, 1, 0]) [2, 3] [(0, (Value.slice B bs.length bc)), (1, (Value.int IntKind.u64 ((n : Nat) : Int))), (2, (i64 z)), (3, (Value.string (str ss))), (11, (Value.pointer (some ⟨b1, 0, none⟩))), (12, (Value.pointer (some ⟨b8, 0, none⟩))), (14, (Value.bool false)), (15, (Value.slice A25 bs.length c26)), (16, v44), (17, v62), (18, v83), (19, (i64 er84)), (20, v99), (21, (i64 er100)), (41, (Value.string (str (bs ++ uv n)))), (42, (Value.slice B bs.length bc)), (43, (Value.int IntKind.u64 ((n : Nat) : Int)))] (by kernel_rfl) rfl (by kernel_rfl) ?_
  refine Dr.call (i := 4) (by kernel_rfl) (by kernel_rfl) (d := (some 44)) (by kernel_rfl) (fun _ => RUint_calls _ (Value.slice B bs.length bc) bs n (hB.keep0 (by omega) K118) (by omega) (by (try simp only at *); (try simp only [List.length_append] at *); (try simp only [List.length_cons] at *); (try simp only [List.length_nil] at *); omega)) ?_
  rintro _ w130 ⟨v129, rfl, K131, hO132⟩
  have ob134 : ∀ i, (v129).ownBlock = some i → i ≠ b1 := fun i hi => by have := (World.ownsRow.lt hO132 i hi).1; have := H119.lt; omega
  have ob135 : ∀ i, (v129).ownBlock = some i → i ≠ b8 := fun i hi => by have := (World.ownsRow.lt hO132 i hi).1; have := H120.lt; omega
  have ob136 : ∀ i, (v129).ownBlock = some i → i ≠ b16 := fun i hi => by have := (World.ownsRow.lt hO132 i hi).1; have := H121.lt; omega
  have oo137 : ∀ i, ((Value.slice A25 bs.length c26)).ownBlock = some i → (v129).ownBlock = some i → False := fun i hi hs => by have := (World.ownsRow.lt hO132 i hs).1; have := (World.ownsRow.lt F122 i hi).2; omega
  have oo138 : ∀ i, (v129).ownBlock = some i → ((Value.slice A25 bs.length c26)).ownBlock = some i → False := fun i hi hs => oo137 i hs hi
  have oo139 : ∀ i, ((Value.slice A25 ((bs ++ [byte 167]).length) c26)).ownBlock = some i → (v129).ownBlock = some i → False := fun i hi hs => by have := (World.ownsRow.lt hO132 i hs).1; have := (World.ownsRow.lt F123 i hi).2; omega
  have oo140 : ∀ i, (v129).ownBlock = some i → ((Value.slice A25 ((bs ++ [byte 167]).length) c26)).ownBlock = some i → False := fun i hi hs => oo139 i hs hi
  have oo141 : ∀ i, (v44).ownBlock = some i → (v129).ownBlock = some i → False := fun i hi hs => by have := (World.ownsRow.lt hO132 i hs).1; have := (World.ownsRow.lt F124 i hi).2; omega
  have oo142 : ∀ i, (v129).ownBlock = some i → (v44).ownBlock = some i → False := fun i hi hs => oo141 i hs hi
  have oo143 : ∀ i, (v62).ownBlock = some i → (v129).ownBlock = some i → False := fun i hi hs => by have := (World.ownsRow.lt hO132 i hs).1; have := (World.ownsRow.lt F125 i hi).2; omega
  have oo144 : ∀ i, (v129).ownBlock = some i → (v62).ownBlock = some i → False := fun i hi hs => oo143 i hs hi
  have oo145 : ∀ i, (v83).ownBlock = some i → (v129).ownBlock = some i → False := fun i hi hs => by have := (World.ownsRow.lt hO132 i hs).1; have := (World.ownsRow.lt F126 i hi).2; omega
  have oo146 : ∀ i, (v129).ownBlock = some i → (v83).ownBlock = some i → False := fun i hi hs => oo145 i hs hi
  have oo147 : ∀ i, (v99).ownBlock = some i → (v129).ownBlock = some i → False := fun i hi hs => by have := (World.ownsRow.lt hO132 i hs).1; have := (World.ownsRow.lt F127 i hi).2; omega
  have oo148 : ∀ i, (v129).ownBlock = some i → (v99).ownBlock = some i → False := fun i hi hs => oo147 i hs hi
  have O133 := own_base hO132 K118.size
  clear hO132
  have hL128 := uv_length_10 (n := n) (by omega)
  have K149 := K118.trans K131 (U := none_) (fun i h1 h2 => h2) (fun i h1 h2 => by exact h2)
  clear K118
  have H150 := H119.keep K131 (fun h => h)
  clear H119
  have H151 := H120.keep K131 (fun h => h)
  clear H120
  have H152 := H121.keep K131 (fun h => h)
  clear H121
  have F153 := own_keep0 F122 K131
  clear F122
  have F154 := own_keep0 F123 K131
  clear F123
  have F155 := own_keep0 F124 K131
  clear F124
  have F156 := own_keep0 F125 K131
  clear F125
  have F157 := own_keep0 F126 K131
  clear F126
  have F158 := own_keep0 F127 K131
  clear F127
  refine ⟨_, _, rfl, rfl, K131, ?_⟩
  refine Dr.strong (S' := (fun wz => Keeps none_ w130 wz)) (Keeps.refl w130) (fun wz hx => K131.trans hx (fun i _ h => h) (fun _ _ h => h)) ?_
  clear K131
  refine Dr.take (i := 5) (v := (Value.string (str (bs ++ uv n)))) (by kernel_rfl) (by kernel_rfl) (fun wz hS => Runs.b2s (s := 23) (d := 9) (e := 5) (by kernel_rfl) (by kernel_rfl) (by kernel_rfl) (Rd.keep0 (by omega) (OwnB.rd O133) hS)) (d := (some 45)) (by kernel_rfl) rfl ?_
  refine Dr.take (i := 6) (v := (Value.bool (!((bs ++ uv n) == (bs ++ uv n))))) (by kernel_rfl) (by kernel_rfl) (fun wz hS => Runs.strne (t := 9) (by kernel_rfl)) (d := (some 46)) (by kernel_rfl) rfl ?_
  refine Dr.takes (fuel' := 80) (is' := [7, 6, 5, 4, 3, 2, 1, 0]) [7] [(0, (Value.slice B bs.length bc)), (1, (Value.int IntKind.u64 ((n : Nat) : Int))), (2, (i64 z)), (3, (Value.string (str ss))), (11, (Value.pointer (some ⟨b1, 0, none⟩))), (12, (Value.pointer (some ⟨b8, 0, none⟩))), (14, (Value.bool false)), (15, (Value.slice A25 bs.length c26)), (16, v44), (17, v62), (18, v83), (19, (i64 er84)), (20, v99), (21, (i64 er100)), (47, (Value.bool (!((bs ++ uv n) == (bs ++ uv n)))))] (by kernel_rfl) rfl (by kernel_rfl) ?_
  have h159 : (!((bs ++ uv n) == (bs ++ uv n))) = false := by simp
  rw [h159]
  refine Dr.takes (fuel' := 76) (is' := [13, 12, 9, 8, 7, 6, 5, 4, 3, 2, 1, 0]) [8, 9, 12, 13] [(0, (Value.slice B bs.length bc)), (1, (Value.int IntKind.u64 ((n : Nat) : Int))), (3, (Value.string (str ss))), (11, (Value.pointer (some ⟨b1, 0, none⟩))), (12, (Value.pointer (some ⟨b8, 0, none⟩))), (14, (Value.bool false)), (15, (Value.slice A25 bs.length c26)), (16, v44), (17, v62), (18, v83), (19, (i64 er84)), (20, v99), (21, (i64 er100)), (47, (Value.bool false)), (48, (Value.slice A25 bs.length c26)), (49, (i64 z)), (52, (Value.slice B bs.length bc)), (53, (i64 z))] (by kernel_rfl) rfl (by kernel_rfl) ?_
  refine Dr.call (i := 10) (by kernel_rfl) (by kernel_rfl) (d := (some 50)) (by kernel_rfl) (fun _ => Int_calls _ (Value.slice A25 bs.length c26) bs z (OwnB.rd F153) (by omega) (by (try simp only at *); (try simp only [List.length_append] at *); (try simp only [List.length_cons] at *); (try simp only [List.length_nil] at *); omega)) ?_
  rintro _ w162 ⟨v161, rfl, K163, hO164⟩
  have ob166 : ∀ i, (v161).ownBlock = some i → i ≠ b1 := fun i hi => by have := (World.ownsRow.lt hO164 i hi).1; have := H150.lt; omega
  have ob167 : ∀ i, (v161).ownBlock = some i → i ≠ b8 := fun i hi => by have := (World.ownsRow.lt hO164 i hi).1; have := H151.lt; omega
  have ob168 : ∀ i, (v161).ownBlock = some i → i ≠ b16 := fun i hi => by have := (World.ownsRow.lt hO164 i hi).1; have := H152.lt; omega
  have oo169 : ∀ i, ((Value.slice A25 bs.length c26)).ownBlock = some i → (v161).ownBlock = some i → False := fun i hi hs => by have := (World.ownsRow.lt hO164 i hs).1; have := (World.ownsRow.lt F153 i hi).2; omega
  have oo170 : ∀ i, (v161).ownBlock = some i → ((Value.slice A25 bs.length c26)).ownBlock = some i → False := fun i hi hs => oo169 i hs hi
  have oo171 : ∀ i, ((Value.slice A25 ((bs ++ [byte 167]).length) c26)).ownBlock = some i → (v161).ownBlock = some i → False := fun i hi hs => by have := (World.ownsRow.lt hO164 i hs).1; have := (World.ownsRow.lt F154 i hi).2; omega
  have oo172 : ∀ i, (v161).ownBlock = some i → ((Value.slice A25 ((bs ++ [byte 167]).length) c26)).ownBlock = some i → False := fun i hi hs => oo171 i hs hi
  have oo173 : ∀ i, (v44).ownBlock = some i → (v161).ownBlock = some i → False := fun i hi hs => by have := (World.ownsRow.lt hO164 i hs).1; have := (World.ownsRow.lt F155 i hi).2; omega
  have oo174 : ∀ i, (v161).ownBlock = some i → (v44).ownBlock = some i → False := fun i hi hs => oo173 i hs hi
  have oo175 : ∀ i, (v62).ownBlock = some i → (v161).ownBlock = some i → False := fun i hi hs => by have := (World.ownsRow.lt hO164 i hs).1; have := (World.ownsRow.lt F156 i hi).2; omega
  have oo176 : ∀ i, (v161).ownBlock = some i → (v62).ownBlock = some i → False := fun i hi hs => oo175 i hs hi
  have oo177 : ∀ i, (v83).ownBlock = some i → (v161).ownBlock = some i → False := fun i hi hs => by have := (World.ownsRow.lt hO164 i hs).1; have := (World.ownsRow.lt F157 i hi).2; omega
  have oo178 : ∀ i, (v161).ownBlock = some i → (v83).ownBlock = some i → False := fun i hi hs => oo177 i hs hi
  have oo179 : ∀ i, (v99).ownBlock = some i → (v161).ownBlock = some i → False := fun i hi hs => by have := (World.ownsRow.lt hO164 i hs).1; have := (World.ownsRow.lt F158 i hi).2; omega
  have oo180 : ∀ i, (v161).ownBlock = some i → (v99).ownBlock = some i → False := fun i hi hs => oo179 i hs hi
  have oo181 : ∀ i, (v129).ownBlock = some i → (v161).ownBlock = some i → False := fun i hi hs => by have := (World.ownsRow.lt hO164 i hs).1; have := (World.ownsRow.lt O133 i hi).2; omega
  have oo182 : ∀ i, (v161).ownBlock = some i → (v129).ownBlock = some i → False := fun i hi hs => oo181 i hs hi
  have O165 := own_base hO164 K149.size
  clear hO164
  have hL160 := iv_length_10 (n := z) (by omega)
  have K183 := K149.trans K163 (U := none_) (fun i h1 h2 => h2) (fun i h1 h2 => by exact h2)
  clear K149
  have H184 := H150.keep K163 (fun h => h)
  clear H150
  have H185 := H151.keep K163 (fun h => h)
  clear H151
  have H186 := H152.keep K163 (fun h => h)
  clear H152
  have F187 := own_keep0 F153 K163
  clear F153
  have F188 := own_keep0 F154 K163
  clear F154
  have F189 := own_keep0 F155 K163
  clear F155
  have F190 := own_keep0 F156 K163
  clear F156
  have F191 := own_keep0 F157 K163
  clear F157
  have F192 := own_keep0 F158 K163
  clear F158
  have F193 := own_keep0 O133 K163
  clear O133
  refine ⟨_, _, rfl, rfl, K163, ?_⟩
  refine Dr.strong (S' := (fun wz => Keeps none_ w162 wz)) (Keeps.refl w162) (fun wz hx => K163.trans hx (fun i _ h => h) (fun _ _ h => h)) ?_
  clear K163
  refine Dr.take (i := 11) (v := (Value.string (str (bs ++ iv z)))) (by kernel_rfl) (by kernel_rfl) (fun wz hS => Runs.b2s (s := 23) (d := 9) (e := 5) (by kernel_rfl) (by kernel_rfl) (by kernel_rfl) (Rd.keep0 (by omega) (OwnB.rd O165) hS)) (d := (some 51)) (by kernel_rfl) rfl ?_
  refine Dr.call (i := 14) (by kernel_rfl) (by kernel_rfl) (d := (some 54)) (by kernel_rfl) (fun _ => RInt_calls _ (Value.slice B bs.length bc) bs z (hB.keep0 (by omega) K183) (by omega) (by (try simp only at *); (try simp only [List.length_append] at *); (try simp only [List.length_cons] at *); (try simp only [List.length_nil] at *); omega)) ?_
  rintro _ w196 ⟨v195, rfl, K197, hO198⟩
  have ob200 : ∀ i, (v195).ownBlock = some i → i ≠ b1 := fun i hi => by have := (World.ownsRow.lt hO198 i hi).1; have := H184.lt; omega
  have ob201 : ∀ i, (v195).ownBlock = some i → i ≠ b8 := fun i hi => by have := (World.ownsRow.lt hO198 i hi).1; have := H185.lt; omega
  have ob202 : ∀ i, (v195).ownBlock = some i → i ≠ b16 := fun i hi => by have := (World.ownsRow.lt hO198 i hi).1; have := H186.lt; omega
  have oo203 : ∀ i, ((Value.slice A25 bs.length c26)).ownBlock = some i → (v195).ownBlock = some i → False := fun i hi hs => by have := (World.ownsRow.lt hO198 i hs).1; have := (World.ownsRow.lt F187 i hi).2; omega
  have oo204 : ∀ i, (v195).ownBlock = some i → ((Value.slice A25 bs.length c26)).ownBlock = some i → False := fun i hi hs => oo203 i hs hi
  have oo205 : ∀ i, ((Value.slice A25 ((bs ++ [byte 167]).length) c26)).ownBlock = some i → (v195).ownBlock = some i → False := fun i hi hs => by have := (World.ownsRow.lt hO198 i hs).1; have := (World.ownsRow.lt F188 i hi).2; omega
  have oo206 : ∀ i, (v195).ownBlock = some i → ((Value.slice A25 ((bs ++ [byte 167]).length) c26)).ownBlock = some i → False := fun i hi hs => oo205 i hs hi
  have oo207 : ∀ i, (v44).ownBlock = some i → (v195).ownBlock = some i → False := fun i hi hs => by have := (World.ownsRow.lt hO198 i hs).1; have := (World.ownsRow.lt F189 i hi).2; omega
  have oo208 : ∀ i, (v195).ownBlock = some i → (v44).ownBlock = some i → False := fun i hi hs => oo207 i hs hi
  have oo209 : ∀ i, (v62).ownBlock = some i → (v195).ownBlock = some i → False := fun i hi hs => by have := (World.ownsRow.lt hO198 i hs).1; have := (World.ownsRow.lt F190 i hi).2; omega
  have oo210 : ∀ i, (v195).ownBlock = some i → (v62).ownBlock = some i → False := fun i hi hs => oo209 i hs hi
  have oo211 : ∀ i, (v83).ownBlock = some i → (v195).ownBlock = some i → False := fun i hi hs => by have := (World.ownsRow.lt hO198 i hs).1; have := (World.ownsRow.lt F191 i hi).2; omega
  have oo212 : ∀ i, (v195).ownBlock = some i → (v83).ownBlock = some i → False := fun i hi hs => oo211 i hs hi
  have oo213 : ∀ i, (v99).ownBlock = some i → (v195).ownBlock = some i → False := fun i hi hs => by have := (World.ownsRow.lt hO198 i hs).1; have := (World.ownsRow.lt F192 i hi).2; omega
  have oo214 : ∀ i, (v195).ownBlock = some i → (v99).ownBlock = some i → False := fun i hi hs => oo213 i hs hi
  have oo215 : ∀ i, (v129).ownBlock = some i → (v195).ownBlock = some i → False := fun i hi hs => by have := (World.ownsRow.lt hO198 i hs).1; have := (World.ownsRow.lt F193 i hi).2; omega
  have oo216 : ∀ i, (v195).ownBlock = some i → (v129).ownBlock = some i → False := fun i hi hs => oo215 i hs hi
  have oo217 : ∀ i, (v161).ownBlock = some i → (v195).ownBlock = some i → False := fun i hi hs => by have := (World.ownsRow.lt hO198 i hs).1; have := (World.ownsRow.lt O165 i hi).2; omega
  have oo218 : ∀ i, (v195).ownBlock = some i → (v161).ownBlock = some i → False := fun i hi hs => oo217 i hs hi
  have O199 := own_base hO198 K183.size
  clear hO198
  have hL194 := iv_length_10 (n := z) (by omega)
  have K219 := K183.trans K197 (U := none_) (fun i h1 h2 => h2) (fun i h1 h2 => by exact h2)
  clear K183
  have H220 := H184.keep K197 (fun h => h)
  clear H184
  have H221 := H185.keep K197 (fun h => h)
  clear H185
  have H222 := H186.keep K197 (fun h => h)
  clear H186
  have F223 := own_keep0 F187 K197
  clear F187
  have F224 := own_keep0 F188 K197
  clear F188
  have F225 := own_keep0 F189 K197
  clear F189
  have F226 := own_keep0 F190 K197
  clear F190
  have F227 := own_keep0 F191 K197
  clear F191
  have F228 := own_keep0 F192 K197
  clear F192
  have F229 := own_keep0 F193 K197
  clear F193
  have F230 := own_keep0 O165 K197
  clear O165
  refine ⟨_, _, rfl, rfl, K197, ?_⟩
  refine Dr.strong (S' := (fun wz => Keeps none_ w196 wz)) (Keeps.refl w196) (fun wz hx => K197.trans hx (fun i _ h => h) (fun _ _ h => h)) ?_
  clear K197
  refine Dr.take (i := 15) (v := (Value.string (str (bs ++ iv z)))) (by kernel_rfl) (by kernel_rfl) (fun wz hS => Runs.b2s (s := 23) (d := 9) (e := 5) (by kernel_rfl) (by kernel_rfl) (by kernel_rfl) (Rd.keep0 (by omega) (OwnB.rd O199) hS)) (d := (some 55)) (by kernel_rfl) rfl ?_
  refine Dr.take (i := 16) (v := (Value.bool (!((bs ++ iv z) == (bs ++ iv z))))) (by kernel_rfl) (by kernel_rfl) (fun wz hS => Runs.strne (t := 9) (by kernel_rfl)) (d := (some 56)) (by kernel_rfl) rfl ?_
  refine Dr.takes (fuel' := 69) (is' := [18, 17, 16, 15, 14, 11, 10, 13, 12, 9, 8, 7, 6, 5, 4, 3, 2, 1, 0]) [17, 18] [(0, (Value.slice B bs.length bc)), (1, (Value.int IntKind.u64 ((n : Nat) : Int))), (3, (Value.string (str ss))), (11, (Value.pointer (some ⟨b1, 0, none⟩))), (12, (Value.pointer (some ⟨b8, 0, none⟩))), (14, (Value.bool false)), (15, (Value.slice A25 bs.length c26)), (16, v44), (17, v62), (18, v83), (19, (i64 er84)), (20, v99), (21, (i64 er100)), (58, (Value.bool (!((bs ++ iv z) == (bs ++ iv z)))))] (by kernel_rfl) rfl (by kernel_rfl) ?_
  have h231 : (!((bs ++ iv z) == (bs ++ iv z))) = false := by simp
  rw [h231]
  refine Dr.takes (fuel' := 65) (is' := [25, 24, 20, 19, 18, 17, 16, 15, 14, 11, 10, 13, 12, 9, 8, 7, 6, 5, 4, 3, 2, 1, 0]) [19, 20, 24, 25] [(0, (Value.slice B bs.length bc)), (1, (Value.int IntKind.u64 ((n : Nat) : Int))), (3, (Value.string (str ss))), (11, (Value.pointer (some ⟨b1, 0, none⟩))), (12, (Value.pointer (some ⟨b8, 0, none⟩))), (14, (Value.bool false)), (15, (Value.slice A25 bs.length c26)), (16, v44), (17, v62), (18, v83), (19, (i64 er84)), (20, v99), (21, (i64 er100)), (58, (Value.bool false)), (59, (Value.slice A25 bs.length c26)), (60, (Value.string (str ss))), (64, (Value.slice B bs.length bc)), (65, (Value.string (str ss)))] (by kernel_rfl) rfl (by kernel_rfl) ?_
  obtain ⟨A232, c233, w234, hr235, K236, F237, hge238⟩ := run_s2b (P := Try.prog) (w := w196) (src := 9) (dst := 23) (e := 5) (ss := ss) (by kernel_rfl) (by kernel_rfl) (by first | omega | decide)
  have ob239 : ∀ i, ((Value.slice A232 ss.length c233)).ownBlock = some i → i ≠ b1 := new_ne hge238 H220.lt
  have ob240 : ∀ i, ((Value.slice A232 ss.length c233)).ownBlock = some i → i ≠ b8 := new_ne hge238 H221.lt
  have ob241 : ∀ i, ((Value.slice A232 ss.length c233)).ownBlock = some i → i ≠ b16 := new_ne hge238 H222.lt
  have K242 := K219.trans K236 (U := none_) (fun i h1 h2 => h2) (fun i h1 h2 => by exact h2)
  clear K219
  have H243 := H220.keep K236 (fun h => h)
  clear H220
  have H244 := H221.keep K236 (fun h => h)
  clear H221
  have H245 := H222.keep K236 (fun h => h)
  clear H222
  have F246 := own_keep0 F223 K236
  clear F223
  have F247 := own_keep0 F224 K236
  clear F224
  have F248 := own_keep0 F225 K236
  clear F225
  have F249 := own_keep0 F226 K236
  clear F226
  have F250 := own_keep0 F227 K236
  clear F227
  have F251 := own_keep0 F228 K236
  clear F228
  have F252 := own_keep0 F229 K236
  clear F229
  have F253 := own_keep0 F230 K236
  clear F230
  have F254 := own_keep0 O199 K236
  clear O199
  refine Dr.go (i := 21) (v := (Value.slice A232 ss.length c233)) (by kernel_rfl) (by kernel_rfl) (Runs.conv (by kernel_rfl) hr235) (d := (some 61)) (by kernel_rfl) rfl K236 ?_
  refine Dr.strong (S' := (fun wz => Keeps none_ w234 wz)) (Keeps.refl w234) (fun wz hx => K236.trans hx (fun i _ h => h) (fun _ _ h => h)) ?_
  clear K236 hr235 hge238
  refine Dr.call (i := 22) (by kernel_rfl) (by kernel_rfl) (d := (some 62)) (by kernel_rfl) (fun _ => BytesW_calls _ (Value.slice A25 bs.length c26) bs A232 c233 ss (OwnB.rd F246) F237 (by first | omega | decide) (by (try simp only at *); (try simp only [List.length_append] at *); (try simp only [List.length_cons] at *); (try simp only [List.length_nil] at *); omega)) ?_
  rintro _ w258 ⟨v257, rfl, K259, hO260⟩
  have ob262 : ∀ i, (v257).ownBlock = some i → i ≠ b1 := fun i hi => by have := (World.ownsRow.lt hO260 i hi).1; have := H243.lt; omega
  have ob263 : ∀ i, (v257).ownBlock = some i → i ≠ b8 := fun i hi => by have := (World.ownsRow.lt hO260 i hi).1; have := H244.lt; omega
  have ob264 : ∀ i, (v257).ownBlock = some i → i ≠ b16 := fun i hi => by have := (World.ownsRow.lt hO260 i hi).1; have := H245.lt; omega
  have oo265 : ∀ i, ((Value.slice A25 bs.length c26)).ownBlock = some i → (v257).ownBlock = some i → False := fun i hi hs => by have := (World.ownsRow.lt hO260 i hs).1; have := (World.ownsRow.lt F246 i hi).2; omega
  have oo266 : ∀ i, (v257).ownBlock = some i → ((Value.slice A25 bs.length c26)).ownBlock = some i → False := fun i hi hs => oo265 i hs hi
  have oo267 : ∀ i, ((Value.slice A25 ((bs ++ [byte 167]).length) c26)).ownBlock = some i → (v257).ownBlock = some i → False := fun i hi hs => by have := (World.ownsRow.lt hO260 i hs).1; have := (World.ownsRow.lt F247 i hi).2; omega
  have oo268 : ∀ i, (v257).ownBlock = some i → ((Value.slice A25 ((bs ++ [byte 167]).length) c26)).ownBlock = some i → False := fun i hi hs => oo267 i hs hi
  have oo269 : ∀ i, (v44).ownBlock = some i → (v257).ownBlock = some i → False := fun i hi hs => by have := (World.ownsRow.lt hO260 i hs).1; have := (World.ownsRow.lt F248 i hi).2; omega
  have oo270 : ∀ i, (v257).ownBlock = some i → (v44).ownBlock = some i → False := fun i hi hs => oo269 i hs hi
  have oo271 : ∀ i, (v62).ownBlock = some i → (v257).ownBlock = some i → False := fun i hi hs => by have := (World.ownsRow.lt hO260 i hs).1; have := (World.ownsRow.lt F249 i hi).2; omega
  have oo272 : ∀ i, (v257).ownBlock = some i → (v62).ownBlock = some i → False := fun i hi hs => oo271 i hs hi
  have oo273 : ∀ i, (v83).ownBlock = some i → (v257).ownBlock = some i → False := fun i hi hs => by have := (World.ownsRow.lt hO260 i hs).1; have := (World.ownsRow.lt F250 i hi).2; omega
  have oo274 : ∀ i, (v257).ownBlock = some i → (v83).ownBlock = some i → False := fun i hi hs => oo273 i hs hi
  have oo275 : ∀ i, (v99).ownBlock = some i → (v257).ownBlock = some i → False := fun i hi hs => by have := (World.ownsRow.lt hO260 i hs).1; have := (World.ownsRow.lt F251 i hi).2; omega
  have oo276 : ∀ i, (v257).ownBlock = some i → (v99).ownBlock = some i → False := fun i hi hs => oo275 i hs hi
  have oo277 : ∀ i, (v129).ownBlock = some i → (v257).ownBlock = some i → False := fun i hi hs => by have := (World.ownsRow.lt hO260 i hs).1; have := (World.ownsRow.lt F252 i hi).2; omega
  have oo278 : ∀ i, (v257).ownBlock = some i → (v129).ownBlock = some i → False := fun i hi hs => oo277 i hs hi
  have oo279 : ∀ i, (v161).ownBlock = some i → (v257).ownBlock = some i → False := fun i hi hs => by have := (World.ownsRow.lt hO260 i hs).1; have := (World.ownsRow.lt F253 i hi).2; omega
  have oo280 : ∀ i, (v257).ownBlock = some i → (v161).ownBlock = some i → False := fun i hi hs => oo279 i hs hi
  have oo281 : ∀ i, (v195).ownBlock = some i → (v257).ownBlock = some i → False := fun i hi hs => by have := (World.ownsRow.lt hO260 i hs).1; have := (World.ownsRow.lt F254 i hi).2; omega
  have oo282 : ∀ i, (v257).ownBlock = some i → (v195).ownBlock = some i → False := fun i hi hs => oo281 i hs hi
  have O261 := own_base hO260 K242.size
  clear hO260
  have hL255 := tv_ge ss
  have hL256 := tv_le (s := ss) (by first | omega | decide)
  have K283 := K242.trans K259 (U := none_) (fun i h1 h2 => h2) (fun i h1 h2 => by exact h2)
  clear K242
  have H284 := H243.keep K259 (fun h => h)
  clear H243
  have H285 := H244.keep K259 (fun h => h)
  clear H244
  have H286 := H245.keep K259 (fun h => h)
  clear H245
  have F287 := own_keep0 F246 K259
  clear F246
  have F288 := own_keep0 F247 K259
  clear F247
  have F289 := own_keep0 F248 K259
  clear F248
  have F290 := own_keep0 F249 K259
  clear F249
  have F291 := own_keep0 F250 K259
  clear F250
  have F292 := own_keep0 F251 K259
  clear F251
  have F293 := own_keep0 F252 K259
  clear F252
  have F294 := own_keep0 F253 K259
  clear F253
  have F295 := own_keep0 F254 K259
  clear F254
  have F296 := (Rd.keep0 (by omega) F237 K259)
  clear F237
  refine ⟨_, _, rfl, rfl, K259, ?_⟩
  refine Dr.strong (S' := (fun wz => Keeps none_ w258 wz)) (Keeps.refl w258) (fun wz hx => K259.trans hx (fun i _ h => h) (fun _ _ h => h)) ?_
  clear K259
  refine Dr.take (i := 23) (v := (Value.string (str (bs ++ tv ss)))) (by kernel_rfl) (by kernel_rfl) (fun wz hS => Runs.b2s (s := 23) (d := 9) (e := 5) (by kernel_rfl) (by kernel_rfl) (by kernel_rfl) (Rd.keep0 (by omega) (OwnB.rd O261) hS)) (d := (some 63)) (by kernel_rfl) rfl ?_
  refine Dr.call (i := 26) (by kernel_rfl) (by kernel_rfl) (d := (some 66)) (by kernel_rfl) (fun _ => RText_calls _ (Value.slice B bs.length bc) bs ss (hB.keep0 (by omega) K283) (by first | omega | decide) (by (try simp only at *); (try simp only [List.length_append] at *); (try simp only [List.length_cons] at *); (try simp only [List.length_nil] at *); omega)) ?_
  rintro _ w300 ⟨v299, rfl, K301, hO302⟩
  have ob304 : ∀ i, (v299).ownBlock = some i → i ≠ b1 := fun i hi => by have := (World.ownsRow.lt hO302 i hi).1; have := H284.lt; omega
  have ob305 : ∀ i, (v299).ownBlock = some i → i ≠ b8 := fun i hi => by have := (World.ownsRow.lt hO302 i hi).1; have := H285.lt; omega
  have ob306 : ∀ i, (v299).ownBlock = some i → i ≠ b16 := fun i hi => by have := (World.ownsRow.lt hO302 i hi).1; have := H286.lt; omega
  have oo307 : ∀ i, ((Value.slice A25 bs.length c26)).ownBlock = some i → (v299).ownBlock = some i → False := fun i hi hs => by have := (World.ownsRow.lt hO302 i hs).1; have := (World.ownsRow.lt F287 i hi).2; omega
  have oo308 : ∀ i, (v299).ownBlock = some i → ((Value.slice A25 bs.length c26)).ownBlock = some i → False := fun i hi hs => oo307 i hs hi
  have oo309 : ∀ i, ((Value.slice A25 ((bs ++ [byte 167]).length) c26)).ownBlock = some i → (v299).ownBlock = some i → False := fun i hi hs => by have := (World.ownsRow.lt hO302 i hs).1; have := (World.ownsRow.lt F288 i hi).2; omega
  have oo310 : ∀ i, (v299).ownBlock = some i → ((Value.slice A25 ((bs ++ [byte 167]).length) c26)).ownBlock = some i → False := fun i hi hs => oo309 i hs hi
  have oo311 : ∀ i, (v44).ownBlock = some i → (v299).ownBlock = some i → False := fun i hi hs => by have := (World.ownsRow.lt hO302 i hs).1; have := (World.ownsRow.lt F289 i hi).2; omega
  have oo312 : ∀ i, (v299).ownBlock = some i → (v44).ownBlock = some i → False := fun i hi hs => oo311 i hs hi
  have oo313 : ∀ i, (v62).ownBlock = some i → (v299).ownBlock = some i → False := fun i hi hs => by have := (World.ownsRow.lt hO302 i hs).1; have := (World.ownsRow.lt F290 i hi).2; omega
  have oo314 : ∀ i, (v299).ownBlock = some i → (v62).ownBlock = some i → False := fun i hi hs => oo313 i hs hi
  have oo315 : ∀ i, (v83).ownBlock = some i → (v299).ownBlock = some i → False := fun i hi hs => by have := (World.ownsRow.lt hO302 i hs).1; have := (World.ownsRow.lt F291 i hi).2; omega
  have oo316 : ∀ i, (v299).ownBlock = some i → (v83).ownBlock = some i → False := fun i hi hs => oo315 i hs hi
  have oo317 : ∀ i, (v99).ownBlock = some i → (v299).ownBlock = some i → False := fun i hi hs => by have := (World.ownsRow.lt hO302 i hs).1; have := (World.ownsRow.lt F292 i hi).2; omega
  have oo318 : ∀ i, (v299).ownBlock = some i → (v99).ownBlock = some i → False := fun i hi hs => oo317 i hs hi
  have oo319 : ∀ i, (v129).ownBlock = some i → (v299).ownBlock = some i → False := fun i hi hs => by have := (World.ownsRow.lt hO302 i hs).1; have := (World.ownsRow.lt F293 i hi).2; omega
  have oo320 : ∀ i, (v299).ownBlock = some i → (v129).ownBlock = some i → False := fun i hi hs => oo319 i hs hi
  have oo321 : ∀ i, (v161).ownBlock = some i → (v299).ownBlock = some i → False := fun i hi hs => by have := (World.ownsRow.lt hO302 i hs).1; have := (World.ownsRow.lt F294 i hi).2; omega
  have oo322 : ∀ i, (v299).ownBlock = some i → (v161).ownBlock = some i → False := fun i hi hs => oo321 i hs hi
  have oo323 : ∀ i, (v195).ownBlock = some i → (v299).ownBlock = some i → False := fun i hi hs => by have := (World.ownsRow.lt hO302 i hs).1; have := (World.ownsRow.lt F295 i hi).2; omega
  have oo324 : ∀ i, (v299).ownBlock = some i → (v195).ownBlock = some i → False := fun i hi hs => oo323 i hs hi
  have oo325 : ∀ i, (v257).ownBlock = some i → (v299).ownBlock = some i → False := fun i hi hs => by have := (World.ownsRow.lt hO302 i hs).1; have := (World.ownsRow.lt O261 i hi).2; omega
  have oo326 : ∀ i, (v299).ownBlock = some i → (v257).ownBlock = some i → False := fun i hi hs => oo325 i hs hi
  have O303 := own_base hO302 K283.size
  clear hO302
  have hL297 := tv_ge ss
  have hL298 := tv_le (s := ss) (by first | omega | decide)
  have K327 := K283.trans K301 (U := none_) (fun i h1 h2 => h2) (fun i h1 h2 => by exact h2)
  clear K283
  have H328 := H284.keep K301 (fun h => h)
  clear H284
  have H329 := H285.keep K301 (fun h => h)
  clear H285
  have H330 := H286.keep K301 (fun h => h)
  clear H286
  have F331 := own_keep0 F287 K301
  clear F287
  have F332 := own_keep0 F288 K301
  clear F288
  have F333 := own_keep0 F289 K301
  clear F289
  have F334 := own_keep0 F290 K301
  clear F290
  have F335 := own_keep0 F291 K301
  clear F291
  have F336 := own_keep0 F292 K301
  clear F292
  have F337 := own_keep0 F293 K301
  clear F293
  have F338 := own_keep0 F294 K301
  clear F294
  have F339 := own_keep0 F295 K301
  clear F295
  have F340 := (Rd.keep0 (by omega) F296 K301)
  clear F296
  have F341 := own_keep0 O261 K301
  clear O261
  refine ⟨_, _, rfl, rfl, K301, ?_⟩
  refine Dr.strong (S' := (fun wz => Keeps none_ w300 wz)) (Keeps.refl w300) (fun wz hx => K301.trans hx (fun i _ h => h) (fun _ _ h => h)) ?_
  clear K301
  refine Dr.take (i := 27) (v := (Value.string (str (bs ++ tv ss)))) (by kernel_rfl) (by kernel_rfl) (fun wz hS => Runs.b2s (s := 23) (d := 9) (e := 5) (by kernel_rfl) (by kernel_rfl) (by kernel_rfl) (Rd.keep0 (by omega) (OwnB.rd O303) hS)) (d := (some 67)) (by kernel_rfl) rfl ?_
  refine Dr.take (i := 28) (v := (Value.bool (!((bs ++ tv ss) == (bs ++ tv ss))))) (by kernel_rfl) (by kernel_rfl) (fun wz hS => Runs.strne (t := 9) (by kernel_rfl)) (d := (some 68)) (by kernel_rfl) rfl ?_
  refine Dr.takes (fuel' := 57) (is' := [30, 29, 28, 27, 26, 23, 22, 21, 25, 24, 20, 19, 18, 17, 16, 15, 14, 11, 10, 13, 12, 9, 8, 7, 6, 5, 4, 3, 2, 1, 0]) [29, 30] [(0, (Value.slice B bs.length bc)), (1, (Value.int IntKind.u64 ((n : Nat) : Int))), (3, (Value.string (str ss))), (11, (Value.pointer (some ⟨b1, 0, none⟩))), (12, (Value.pointer (some ⟨b8, 0, none⟩))), (14, (Value.bool false)), (15, (Value.slice A25 bs.length c26)), (16, v44), (17, v62), (18, v83), (19, (i64 er84)), (20, v99), (21, (i64 er100)), (70, (Value.bool (!((bs ++ tv ss) == (bs ++ tv ss)))))] (by kernel_rfl) rfl (by kernel_rfl) ?_
  have h342 : (!((bs ++ tv ss) == (bs ++ tv ss))) = false := by simp
  rw [h342]
  refine Dr.takes (fuel' := 53) (is' := [36, 35, 32, 31, 30, 29, 28, 27, 26, 23, 22, 21, 25, 24, 20, 19, 18, 17, 16, 15, 14, 11, 10, 13, 12, 9, 8, 7, 6, 5, 4, 3, 2, 1, 0]) [31, 32, 35, 36] [(0, (Value.slice B bs.length bc)), (1, (Value.int IntKind.u64 ((n : Nat) : Int))), (11, (Value.pointer (some ⟨b1, 0, none⟩))), (12, (Value.pointer (some ⟨b8, 0, none⟩))), (14, (Value.bool false)), (15, (Value.slice A25 bs.length c26)), (16, v44), (17, v62), (18, v83), (19, (i64 er84)), (20, v99), (21, (i64 er100)), (70, (Value.bool false)), (71, (Value.slice A25 bs.length c26)), (72, (Value.string (str ss))), (75, (Value.slice B bs.length bc)), (76, (Value.string (str ss)))] (by kernel_rfl) rfl (by kernel_rfl) ?_
  refine Dr.call (i := 33) (by kernel_rfl) (by kernel_rfl) (d := (some 73)) (by kernel_rfl) (fun _ => Text_calls _ (Value.slice A25 bs.length c26) bs ss (OwnB.rd F331) (by first | omega | decide) (by (try simp only at *); (try simp only [List.length_append] at *); (try simp only [List.length_cons] at *); (try simp only [List.length_nil] at *); omega)) ?_
  rintro _ w346 ⟨v345, rfl, K347, hO348⟩
  have ob350 : ∀ i, (v345).ownBlock = some i → i ≠ b1 := fun i hi => by have := (World.ownsRow.lt hO348 i hi).1; have := H328.lt; omega
  have ob351 : ∀ i, (v345).ownBlock = some i → i ≠ b8 := fun i hi => by have := (World.ownsRow.lt hO348 i hi).1; have := H329.lt; omega
  have ob352 : ∀ i, (v345).ownBlock = some i → i ≠ b16 := fun i hi => by have := (World.ownsRow.lt hO348 i hi).1; have := H330.lt; omega
  have oo353 : ∀ i, ((Value.slice A25 bs.length c26)).ownBlock = some i → (v345).ownBlock = some i → False := fun i hi hs => by have := (World.ownsRow.lt hO348 i hs).1; have := (World.ownsRow.lt F331 i hi).2; omega
  have oo354 : ∀ i, (v345).ownBlock = some i → ((Value.slice A25 bs.length c26)).ownBlock = some i → False := fun i hi hs => oo353 i hs hi
  have oo355 : ∀ i, ((Value.slice A25 ((bs ++ [byte 167]).length) c26)).ownBlock = some i → (v345).ownBlock = some i → False := fun i hi hs => by have := (World.ownsRow.lt hO348 i hs).1; have := (World.ownsRow.lt F332 i hi).2; omega
  have oo356 : ∀ i, (v345).ownBlock = some i → ((Value.slice A25 ((bs ++ [byte 167]).length) c26)).ownBlock = some i → False := fun i hi hs => oo355 i hs hi
  have oo357 : ∀ i, (v44).ownBlock = some i → (v345).ownBlock = some i → False := fun i hi hs => by have := (World.ownsRow.lt hO348 i hs).1; have := (World.ownsRow.lt F333 i hi).2; omega
  have oo358 : ∀ i, (v345).ownBlock = some i → (v44).ownBlock = some i → False := fun i hi hs => oo357 i hs hi
  have oo359 : ∀ i, (v62).ownBlock = some i → (v345).ownBlock = some i → False := fun i hi hs => by have := (World.ownsRow.lt hO348 i hs).1; have := (World.ownsRow.lt F334 i hi).2; omega
  have oo360 : ∀ i, (v345).ownBlock = some i → (v62).ownBlock = some i → False := fun i hi hs => oo359 i hs hi
  have oo361 : ∀ i, (v83).ownBlock = some i → (v345).ownBlock = some i → False := fun i hi hs => by have := (World.ownsRow.lt hO348 i hs).1; have := (World.ownsRow.lt F335 i hi).2; omega
  have oo362 : ∀ i, (v345).ownBlock = some i → (v83).ownBlock = some i → False := fun i hi hs => oo361 i hs hi
  have oo363 : ∀ i, (v99).ownBlock = some i → (v345).ownBlock = some i → False := fun i hi hs => by have := (World.ownsRow.lt hO348 i hs).1; have := (World.ownsRow.lt F336 i hi).2; omega
  have oo364 : ∀ i, (v345).ownBlock = some i → (v99).ownBlock = some i → False := fun i hi hs => oo363 i hs hi
  have oo365 : ∀ i, (v129).ownBlock = some i → (v345).ownBlock = some i → False := fun i hi hs => by have := (World.ownsRow.lt hO348 i hs).1; have := (World.ownsRow.lt F337 i hi).2; omega
  have oo366 : ∀ i, (v345).ownBlock = some i → (v129).ownBlock = some i → False := fun i hi hs => oo365 i hs hi
  have oo367 : ∀ i, (v161).ownBlock = some i → (v345).ownBlock = some i → False := fun i hi hs => by have := (World.ownsRow.lt hO348 i hs).1; have := (World.ownsRow.lt F338 i hi).2; omega
  have oo368 : ∀ i, (v345).ownBlock = some i → (v161).ownBlock = some i → False := fun i hi hs => oo367 i hs hi
  have oo369 : ∀ i, (v195).ownBlock = some i → (v345).ownBlock = some i → False := fun i hi hs => by have := (World.ownsRow.lt hO348 i hs).1; have := (World.ownsRow.lt F339 i hi).2; omega
  have oo370 : ∀ i, (v345).ownBlock = some i → (v195).ownBlock = some i → False := fun i hi hs => oo369 i hs hi
  have oo371 : ∀ i, (v257).ownBlock = some i → (v345).ownBlock = some i → False := fun i hi hs => by have := (World.ownsRow.lt hO348 i hs).1; have := (World.ownsRow.lt F341 i hi).2; omega
  have oo372 : ∀ i, (v345).ownBlock = some i → (v257).ownBlock = some i → False := fun i hi hs => oo371 i hs hi
  have oo373 : ∀ i, (v299).ownBlock = some i → (v345).ownBlock = some i → False := fun i hi hs => by have := (World.ownsRow.lt hO348 i hs).1; have := (World.ownsRow.lt O303 i hi).2; omega
  have oo374 : ∀ i, (v345).ownBlock = some i → (v299).ownBlock = some i → False := fun i hi hs => oo373 i hs hi
  have O349 := own_base hO348 K327.size
  clear hO348
  have hL343 := tv_ge ss
  have hL344 := tv_le (s := ss) (by first | omega | decide)
  have K375 := K327.trans K347 (U := none_) (fun i h1 h2 => h2) (fun i h1 h2 => by exact h2)
  clear K327
  have H376 := H328.keep K347 (fun h => h)
  clear H328
  have H377 := H329.keep K347 (fun h => h)
  clear H329
  have H378 := H330.keep K347 (fun h => h)
  clear H330
  have F379 := own_keep0 F331 K347
  clear F331
  have F380 := own_keep0 F332 K347
  clear F332
  have F381 := own_keep0 F333 K347
  clear F333
  have F382 := own_keep0 F334 K347
  clear F334
  have F383 := own_keep0 F335 K347
  clear F335
  have F384 := own_keep0 F336 K347
  clear F336
  have F385 := own_keep0 F337 K347
  clear F337
  have F386 := own_keep0 F338 K347
  clear F338
  have F387 := own_keep0 F339 K347
  clear F339
  have F388 := (Rd.keep0 (by omega) F340 K347)
  clear F340
  have F389 := own_keep0 F341 K347
  clear F341
  have F390 := own_keep0 O303 K347
  clear O303
  refine ⟨_, _, rfl, rfl, K347, ?_⟩
  refine Dr.strong (S' := (fun wz => Keeps none_ w346 wz)) (Keeps.refl w346) (fun wz hx => K347.trans hx (fun i _ h => h) (fun _ _ h => h)) ?_
  clear K347
  refine Dr.take (i := 34) (v := (Value.string (str (bs ++ tv ss)))) (by kernel_rfl) (by kernel_rfl) (fun wz hS => Runs.b2s (s := 23) (d := 9) (e := 5) (by kernel_rfl) (by kernel_rfl) (by kernel_rfl) (Rd.keep0 (by omega) (OwnB.rd O349) hS)) (d := (some 74)) (by kernel_rfl) rfl ?_
  refine Dr.call (i := 37) (by kernel_rfl) (by kernel_rfl) (d := (some 77)) (by kernel_rfl) (fun _ => RText_calls _ (Value.slice B bs.length bc) bs ss (hB.keep0 (by omega) K375) (by first | omega | decide) (by (try simp only at *); (try simp only [List.length_append] at *); (try simp only [List.length_cons] at *); (try simp only [List.length_nil] at *); omega)) ?_
  rintro _ w394 ⟨v393, rfl, K395, hO396⟩
  have ob398 : ∀ i, (v393).ownBlock = some i → i ≠ b1 := fun i hi => by have := (World.ownsRow.lt hO396 i hi).1; have := H376.lt; omega
  have ob399 : ∀ i, (v393).ownBlock = some i → i ≠ b8 := fun i hi => by have := (World.ownsRow.lt hO396 i hi).1; have := H377.lt; omega
  have ob400 : ∀ i, (v393).ownBlock = some i → i ≠ b16 := fun i hi => by have := (World.ownsRow.lt hO396 i hi).1; have := H378.lt; omega
  have oo401 : ∀ i, ((Value.slice A25 bs.length c26)).ownBlock = some i → (v393).ownBlock = some i → False := fun i hi hs => by have := (World.ownsRow.lt hO396 i hs).1; have := (World.ownsRow.lt F379 i hi).2; omega
  have oo402 : ∀ i, (v393).ownBlock = some i → ((Value.slice A25 bs.length c26)).ownBlock = some i → False := fun i hi hs => oo401 i hs hi
  have oo403 : ∀ i, ((Value.slice A25 ((bs ++ [byte 167]).length) c26)).ownBlock = some i → (v393).ownBlock = some i → False := fun i hi hs => by have := (World.ownsRow.lt hO396 i hs).1; have := (World.ownsRow.lt F380 i hi).2; omega
  have oo404 : ∀ i, (v393).ownBlock = some i → ((Value.slice A25 ((bs ++ [byte 167]).length) c26)).ownBlock = some i → False := fun i hi hs => oo403 i hs hi
  have oo405 : ∀ i, (v44).ownBlock = some i → (v393).ownBlock = some i → False := fun i hi hs => by have := (World.ownsRow.lt hO396 i hs).1; have := (World.ownsRow.lt F381 i hi).2; omega
  have oo406 : ∀ i, (v393).ownBlock = some i → (v44).ownBlock = some i → False := fun i hi hs => oo405 i hs hi
  have oo407 : ∀ i, (v62).ownBlock = some i → (v393).ownBlock = some i → False := fun i hi hs => by have := (World.ownsRow.lt hO396 i hs).1; have := (World.ownsRow.lt F382 i hi).2; omega
  have oo408 : ∀ i, (v393).ownBlock = some i → (v62).ownBlock = some i → False := fun i hi hs => oo407 i hs hi
  have oo409 : ∀ i, (v83).ownBlock = some i → (v393).ownBlock = some i → False := fun i hi hs => by have := (World.ownsRow.lt hO396 i hs).1; have := (World.ownsRow.lt F383 i hi).2; omega
  have oo410 : ∀ i, (v393).ownBlock = some i → (v83).ownBlock = some i → False := fun i hi hs => oo409 i hs hi
  have oo411 : ∀ i, (v99).ownBlock = some i → (v393).ownBlock = some i → False := fun i hi hs => by have := (World.ownsRow.lt hO396 i hs).1; have := (World.ownsRow.lt F384 i hi).2; omega
  have oo412 : ∀ i, (v393).ownBlock = some i → (v99).ownBlock = some i → False := fun i hi hs => oo411 i hs hi
  have oo413 : ∀ i, (v129).ownBlock = some i → (v393).ownBlock = some i → False := fun i hi hs => by have := (World.ownsRow.lt hO396 i hs).1; have := (World.ownsRow.lt F385 i hi).2; omega
  have oo414 : ∀ i, (v393).ownBlock = some i → (v129).ownBlock = some i → False := fun i hi hs => oo413 i hs hi
  have oo415 : ∀ i, (v161).ownBlock = some i → (v393).ownBlock = some i → False := fun i hi hs => by have := (World.ownsRow.lt hO396 i hs).1; have := (World.ownsRow.lt F386 i hi).2; omega
  have oo416 : ∀ i, (v393).ownBlock = some i → (v161).ownBlock = some i → False := fun i hi hs => oo415 i hs hi
  have oo417 : ∀ i, (v195).ownBlock = some i → (v393).ownBlock = some i → False := fun i hi hs => by have := (World.ownsRow.lt hO396 i hs).1; have := (World.ownsRow.lt F387 i hi).2; omega
  have oo418 : ∀ i, (v393).ownBlock = some i → (v195).ownBlock = some i → False := fun i hi hs => oo417 i hs hi
  have oo419 : ∀ i, (v257).ownBlock = some i → (v393).ownBlock = some i → False := fun i hi hs => by have := (World.ownsRow.lt hO396 i hs).1; have := (World.ownsRow.lt F389 i hi).2; omega
  have oo420 : ∀ i, (v393).ownBlock = some i → (v257).ownBlock = some i → False := fun i hi hs => oo419 i hs hi
  have oo421 : ∀ i, (v299).ownBlock = some i → (v393).ownBlock = some i → False := fun i hi hs => by have := (World.ownsRow.lt hO396 i hs).1; have := (World.ownsRow.lt F390 i hi).2; omega
  have oo422 : ∀ i, (v393).ownBlock = some i → (v299).ownBlock = some i → False := fun i hi hs => oo421 i hs hi
  have oo423 : ∀ i, (v345).ownBlock = some i → (v393).ownBlock = some i → False := fun i hi hs => by have := (World.ownsRow.lt hO396 i hs).1; have := (World.ownsRow.lt O349 i hi).2; omega
  have oo424 : ∀ i, (v393).ownBlock = some i → (v345).ownBlock = some i → False := fun i hi hs => oo423 i hs hi
  have O397 := own_base hO396 K375.size
  clear hO396
  have hL391 := tv_ge ss
  have hL392 := tv_le (s := ss) (by first | omega | decide)
  have K425 := K375.trans K395 (U := none_) (fun i h1 h2 => h2) (fun i h1 h2 => by exact h2)
  clear K375
  have H426 := H376.keep K395 (fun h => h)
  clear H376
  have H427 := H377.keep K395 (fun h => h)
  clear H377
  have H428 := H378.keep K395 (fun h => h)
  clear H378
  have F429 := own_keep0 F379 K395
  clear F379
  have F430 := own_keep0 F380 K395
  clear F380
  have F431 := own_keep0 F381 K395
  clear F381
  have F432 := own_keep0 F382 K395
  clear F382
  have F433 := own_keep0 F383 K395
  clear F383
  have F434 := own_keep0 F384 K395
  clear F384
  have F435 := own_keep0 F385 K395
  clear F385
  have F436 := own_keep0 F386 K395
  clear F386
  have F437 := own_keep0 F387 K395
  clear F387
  have F438 := (Rd.keep0 (by omega) F388 K395)
  clear F388
  have F439 := own_keep0 F389 K395
  clear F389
  have F440 := own_keep0 F390 K395
  clear F390
  have F441 := own_keep0 O349 K395
  clear O349
  refine ⟨_, _, rfl, rfl, K395, ?_⟩
  refine Dr.strong (S' := (fun wz => Keeps none_ w394 wz)) (Keeps.refl w394) (fun wz hx => K395.trans hx (fun i _ h => h) (fun _ _ h => h)) ?_
  clear K395
  refine Dr.take (i := 38) (v := (Value.string (str (bs ++ tv ss)))) (by kernel_rfl) (by kernel_rfl) (fun wz hS => Runs.b2s (s := 23) (d := 9) (e := 5) (by kernel_rfl) (by kernel_rfl) (by kernel_rfl) (Rd.keep0 (by omega) (OwnB.rd O397) hS)) (d := (some 78)) (by kernel_rfl) rfl ?_
  refine Dr.take (i := 39) (v := (Value.bool (!((bs ++ tv ss) == (bs ++ tv ss))))) (by kernel_rfl) (by kernel_rfl) (fun wz hS => Runs.strne (t := 9) (by kernel_rfl)) (d := (some 79)) (by kernel_rfl) rfl ?_
  refine Dr.takes (fuel' := 46) (is' := [41, 40, 39, 38, 37, 34, 33, 36, 35, 32, 31, 30, 29, 28, 27, 26, 23, 22, 21, 25, 24, 20, 19, 18, 17, 16, 15, 14, 11, 10, 13, 12, 9, 8, 7, 6, 5, 4, 3, 2, 1, 0]) [40, 41] [(0, (Value.slice B bs.length bc)), (1, (Value.int IntKind.u64 ((n : Nat) : Int))), (11, (Value.pointer (some ⟨b1, 0, none⟩))), (12, (Value.pointer (some ⟨b8, 0, none⟩))), (14, (Value.bool false)), (15, (Value.slice A25 bs.length c26)), (16, v44), (17, v62), (18, v83), (19, (i64 er84)), (20, v99), (21, (i64 er100)), (81, (Value.bool (!((bs ++ tv ss) == (bs ++ tv ss)))))] (by kernel_rfl) rfl (by kernel_rfl) ?_
  rw [h342]
  refine Dr.takes (fuel' := 43) (is' := [44, 43, 42, 41, 40, 39, 38, 37, 34, 33, 36, 35, 32, 31, 30, 29, 28, 27, 26, 23, 22, 21, 25, 24, 20, 19, 18, 17, 16, 15, 14, 11, 10, 13, 12, 9, 8, 7, 6, 5, 4, 3, 2, 1, 0]) [42, 43, 44] [(0, (Value.slice B bs.length bc)), (1, (Value.int IntKind.u64 ((n : Nat) : Int))), (11, (Value.pointer (some ⟨b1, 0, none⟩))), (12, (Value.pointer (some ⟨b8, 0, none⟩))), (14, (Value.bool false)), (15, (Value.slice A25 bs.length c26)), (16, v44), (17, v62), (18, v83), (19, (i64 er84)), (20, v99), (21, (i64 er100)), (81, (Value.bool false)), (82, (Value.slice A25 bs.length c26)), (84, (Value.int IntKind.u64 ((((n : Nat) : Int)).tmod 2)))] (by kernel_rfl) rfl (by kernel_rfl) ?_
  have e442 : (((n : Nat) : Int)).tmod 2 = ((n % 2 : Nat) : Int) := tmod_nat n 2
  rw [e442]
  clear e442
  refine Dr.takes (fuel' := 39) (is' := [50, 49, 48, 45, 44, 43, 42, 41, 40, 39, 38, 37, 34, 33, 36, 35, 32, 31, 30, 29, 28, 27, 26, 23, 22, 21, 25, 24, 20, 19, 18, 17, 16, 15, 14, 11, 10, 13, 12, 9, 8, 7, 6, 5, 4, 3, 2, 1, 0]) [45, 48, 49, 50] [(0, (Value.slice B bs.length bc)), (11, (Value.pointer (some ⟨b1, 0, none⟩))), (12, (Value.pointer (some ⟨b8, 0, none⟩))), (14, (Value.bool false)), (15, (Value.slice A25 bs.length c26)), (16, v44), (17, v62), (18, v83), (19, (i64 er84)), (20, v99), (21, (i64 er100)), (81, (Value.bool false)), (82, (Value.slice A25 bs.length c26)), (85, (Value.bool (((n % 2 : Nat) : Int) == 1))), (88, (Value.slice B bs.length bc)), (90, (Value.int IntKind.u64 ((((n : Nat) : Int)).tmod 2)))] (by kernel_rfl) rfl (by kernel_rfl) ?_
  have e443 : (((n : Nat) : Int)).tmod 2 = ((n % 2 : Nat) : Int) := tmod_nat n 2
  rw [e443]
  clear e443
  refine Dr.takes (fuel' := 38) (is' := [51, 50, 49, 48, 45, 44, 43, 42, 41, 40, 39, 38, 37, 34, 33, 36, 35, 32, 31, 30, 29, 28, 27, 26, 23, 22, 21, 25, 24, 20, 19, 18, 17, 16, 15, 14, 11, 10, 13, 12, 9, 8, 7, 6, 5, 4, 3, 2, 1, 0]) [51] [(0, (Value.slice B bs.length bc)), (11, (Value.pointer (some ⟨b1, 0, none⟩))), (12, (Value.pointer (some ⟨b8, 0, none⟩))), (14, (Value.bool false)), (15, (Value.slice A25 bs.length c26)), (16, v44), (17, v62), (18, v83), (19, (i64 er84)), (20, v99), (21, (i64 er100)), (81, (Value.bool false)), (82, (Value.slice A25 bs.length c26)), (85, (Value.bool (((n % 2 : Nat) : Int) == 1))), (88, (Value.slice B bs.length bc)), (91, (Value.bool (((n % 2 : Nat) : Int) == 1)))] (by kernel_rfl) rfl (by kernel_rfl) ?_
  refine Dr.call (i := 46) (by kernel_rfl) (by kernel_rfl) (d := (some 86)) (by kernel_rfl) (fun _ => BoolW_calls _ (Value.slice A25 bs.length c26) bs (((n % 2 : Nat) : Int) == 1) (OwnB.rd F429)  (by (try simp only at *); (try simp only [List.length_append] at *); (try simp only [List.length_cons] at *); (try simp only [List.length_nil] at *); omega)) ?_
  rintro _ w446 ⟨v445, rfl, K447, hO448⟩
  have ob450 : ∀ i, (v445).ownBlock = some i → i ≠ b1 := fun i hi => by have := (World.ownsRow.lt hO448 i hi).1; have := H426.lt; omega
  have ob451 : ∀ i, (v445).ownBlock = some i → i ≠ b8 := fun i hi => by have := (World.ownsRow.lt hO448 i hi).1; have := H427.lt; omega
  have ob452 : ∀ i, (v445).ownBlock = some i → i ≠ b16 := fun i hi => by have := (World.ownsRow.lt hO448 i hi).1; have := H428.lt; omega
  have oo453 : ∀ i, ((Value.slice A25 bs.length c26)).ownBlock = some i → (v445).ownBlock = some i → False := fun i hi hs => by have := (World.ownsRow.lt hO448 i hs).1; have := (World.ownsRow.lt F429 i hi).2; omega
  have oo454 : ∀ i, (v445).ownBlock = some i → ((Value.slice A25 bs.length c26)).ownBlock = some i → False := fun i hi hs => oo453 i hs hi
  have oo455 : ∀ i, ((Value.slice A25 ((bs ++ [byte 167]).length) c26)).ownBlock = some i → (v445).ownBlock = some i → False := fun i hi hs => by have := (World.ownsRow.lt hO448 i hs).1; have := (World.ownsRow.lt F430 i hi).2; omega
  have oo456 : ∀ i, (v445).ownBlock = some i → ((Value.slice A25 ((bs ++ [byte 167]).length) c26)).ownBlock = some i → False := fun i hi hs => oo455 i hs hi
  have oo457 : ∀ i, (v44).ownBlock = some i → (v445).ownBlock = some i → False := fun i hi hs => by have := (World.ownsRow.lt hO448 i hs).1; have := (World.ownsRow.lt F431 i hi).2; omega
  have oo458 : ∀ i, (v445).ownBlock = some i → (v44).ownBlock = some i → False := fun i hi hs => oo457 i hs hi
  have oo459 : ∀ i, (v62).ownBlock = some i → (v445).ownBlock = some i → False := fun i hi hs => by have := (World.ownsRow.lt hO448 i hs).1; have := (World.ownsRow.lt F432 i hi).2; omega
  have oo460 : ∀ i, (v445).ownBlock = some i → (v62).ownBlock = some i → False := fun i hi hs => oo459 i hs hi
  have oo461 : ∀ i, (v83).ownBlock = some i → (v445).ownBlock = some i → False := fun i hi hs => by have := (World.ownsRow.lt hO448 i hs).1; have := (World.ownsRow.lt F433 i hi).2; omega
  have oo462 : ∀ i, (v445).ownBlock = some i → (v83).ownBlock = some i → False := fun i hi hs => oo461 i hs hi
  have oo463 : ∀ i, (v99).ownBlock = some i → (v445).ownBlock = some i → False := fun i hi hs => by have := (World.ownsRow.lt hO448 i hs).1; have := (World.ownsRow.lt F434 i hi).2; omega
  have oo464 : ∀ i, (v445).ownBlock = some i → (v99).ownBlock = some i → False := fun i hi hs => oo463 i hs hi
  have oo465 : ∀ i, (v129).ownBlock = some i → (v445).ownBlock = some i → False := fun i hi hs => by have := (World.ownsRow.lt hO448 i hs).1; have := (World.ownsRow.lt F435 i hi).2; omega
  have oo466 : ∀ i, (v445).ownBlock = some i → (v129).ownBlock = some i → False := fun i hi hs => oo465 i hs hi
  have oo467 : ∀ i, (v161).ownBlock = some i → (v445).ownBlock = some i → False := fun i hi hs => by have := (World.ownsRow.lt hO448 i hs).1; have := (World.ownsRow.lt F436 i hi).2; omega
  have oo468 : ∀ i, (v445).ownBlock = some i → (v161).ownBlock = some i → False := fun i hi hs => oo467 i hs hi
  have oo469 : ∀ i, (v195).ownBlock = some i → (v445).ownBlock = some i → False := fun i hi hs => by have := (World.ownsRow.lt hO448 i hs).1; have := (World.ownsRow.lt F437 i hi).2; omega
  have oo470 : ∀ i, (v445).ownBlock = some i → (v195).ownBlock = some i → False := fun i hi hs => oo469 i hs hi
  have oo471 : ∀ i, (v257).ownBlock = some i → (v445).ownBlock = some i → False := fun i hi hs => by have := (World.ownsRow.lt hO448 i hs).1; have := (World.ownsRow.lt F439 i hi).2; omega
  have oo472 : ∀ i, (v445).ownBlock = some i → (v257).ownBlock = some i → False := fun i hi hs => oo471 i hs hi
  have oo473 : ∀ i, (v299).ownBlock = some i → (v445).ownBlock = some i → False := fun i hi hs => by have := (World.ownsRow.lt hO448 i hs).1; have := (World.ownsRow.lt F440 i hi).2; omega
  have oo474 : ∀ i, (v445).ownBlock = some i → (v299).ownBlock = some i → False := fun i hi hs => oo473 i hs hi
  have oo475 : ∀ i, (v345).ownBlock = some i → (v445).ownBlock = some i → False := fun i hi hs => by have := (World.ownsRow.lt hO448 i hs).1; have := (World.ownsRow.lt F441 i hi).2; omega
  have oo476 : ∀ i, (v445).ownBlock = some i → (v345).ownBlock = some i → False := fun i hi hs => oo475 i hs hi
  have oo477 : ∀ i, (v393).ownBlock = some i → (v445).ownBlock = some i → False := fun i hi hs => by have := (World.ownsRow.lt hO448 i hs).1; have := (World.ownsRow.lt O397 i hi).2; omega
  have oo478 : ∀ i, (v445).ownBlock = some i → (v393).ownBlock = some i → False := fun i hi hs => oo477 i hs hi
  have O449 := own_base hO448 K425.size
  clear hO448
  have hL444 := uvb_len (((n % 2 : Nat) : Int) == 1)
  have K479 := K425.trans K447 (U := none_) (fun i h1 h2 => h2) (fun i h1 h2 => by exact h2)
  clear K425
  have H480 := H426.keep K447 (fun h => h)
  clear H426
  have H481 := H427.keep K447 (fun h => h)
  clear H427
  have H482 := H428.keep K447 (fun h => h)
  clear H428
  have F483 := own_keep0 F429 K447
  clear F429
  have F484 := own_keep0 F430 K447
  clear F430
  have F485 := own_keep0 F431 K447
  clear F431
  have F486 := own_keep0 F432 K447
  clear F432
  have F487 := own_keep0 F433 K447
  clear F433
  have F488 := own_keep0 F434 K447
  clear F434
  have F489 := own_keep0 F435 K447
  clear F435
  have F490 := own_keep0 F436 K447
  clear F436
  have F491 := own_keep0 F437 K447
  clear F437
  have F492 := (Rd.keep0 (by omega) F438 K447)
  clear F438
  have F493 := own_keep0 F439 K447
  clear F439
  have F494 := own_keep0 F440 K447
  clear F440
  have F495 := own_keep0 F441 K447
  clear F441
  have F496 := own_keep0 O397 K447
  clear O397
  refine ⟨_, _, rfl, rfl, K447, ?_⟩
  refine Dr.strong (S' := (fun wz => Keeps none_ w446 wz)) (Keeps.refl w446) (fun wz hx => K447.trans hx (fun i _ h => h) (fun _ _ h => h)) ?_
  clear K447
  refine Dr.take (i := 47) (v := (Value.string (str (bs ++ uv ((((n % 2 : Nat) : Int) == 1)).toNat)))) (by kernel_rfl) (by kernel_rfl) (fun wz hS => Runs.b2s (s := 23) (d := 9) (e := 5) (by kernel_rfl) (by kernel_rfl) (by kernel_rfl) (Rd.keep0 (by omega) (OwnB.rd O449) hS)) (d := (some 87)) (by kernel_rfl) rfl ?_
  refine Dr.call (i := 52) (by kernel_rfl) (by kernel_rfl) (d := (some 92)) (by kernel_rfl) (fun _ => RBoolW_calls _ (Value.slice B bs.length bc) bs (((n % 2 : Nat) : Int) == 1) (hB.keep0 (by omega) K479)  (by (try simp only at *); (try simp only [List.length_append] at *); (try simp only [List.length_cons] at *); (try simp only [List.length_nil] at *); omega)) ?_
  rintro _ w499 ⟨v498, rfl, K500, hO501⟩
  have ob503 : ∀ i, (v498).ownBlock = some i → i ≠ b1 := fun i hi => by have := (World.ownsRow.lt hO501 i hi).1; have := H480.lt; omega
  have ob504 : ∀ i, (v498).ownBlock = some i → i ≠ b8 := fun i hi => by have := (World.ownsRow.lt hO501 i hi).1; have := H481.lt; omega
  have ob505 : ∀ i, (v498).ownBlock = some i → i ≠ b16 := fun i hi => by have := (World.ownsRow.lt hO501 i hi).1; have := H482.lt; omega
  have oo506 : ∀ i, ((Value.slice A25 bs.length c26)).ownBlock = some i → (v498).ownBlock = some i → False := fun i hi hs => by have := (World.ownsRow.lt hO501 i hs).1; have := (World.ownsRow.lt F483 i hi).2; omega
  have oo507 : ∀ i, (v498).ownBlock = some i → ((Value.slice A25 bs.length c26)).ownBlock = some i → False := fun i hi hs => oo506 i hs hi
  have oo508 : ∀ i, ((Value.slice A25 ((bs ++ [byte 167]).length) c26)).ownBlock = some i → (v498).ownBlock = some i → False := fun i hi hs => by have := (World.ownsRow.lt hO501 i hs).1; have := (World.ownsRow.lt F484 i hi).2; omega
  have oo509 : ∀ i, (v498).ownBlock = some i → ((Value.slice A25 ((bs ++ [byte 167]).length) c26)).ownBlock = some i → False := fun i hi hs => oo508 i hs hi
  have oo510 : ∀ i, (v44).ownBlock = some i → (v498).ownBlock = some i → False := fun i hi hs => by have := (World.ownsRow.lt hO501 i hs).1; have := (World.ownsRow.lt F485 i hi).2; omega
  have oo511 : ∀ i, (v498).ownBlock = some i → (v44).ownBlock = some i → False := fun i hi hs => oo510 i hs hi
  have oo512 : ∀ i, (v62).ownBlock = some i → (v498).ownBlock = some i → False := fun i hi hs => by have := (World.ownsRow.lt hO501 i hs).1; have := (World.ownsRow.lt F486 i hi).2; omega
  have oo513 : ∀ i, (v498).ownBlock = some i → (v62).ownBlock = some i → False := fun i hi hs => oo512 i hs hi
  have oo514 : ∀ i, (v83).ownBlock = some i → (v498).ownBlock = some i → False := fun i hi hs => by have := (World.ownsRow.lt hO501 i hs).1; have := (World.ownsRow.lt F487 i hi).2; omega
  have oo515 : ∀ i, (v498).ownBlock = some i → (v83).ownBlock = some i → False := fun i hi hs => oo514 i hs hi
  have oo516 : ∀ i, (v99).ownBlock = some i → (v498).ownBlock = some i → False := fun i hi hs => by have := (World.ownsRow.lt hO501 i hs).1; have := (World.ownsRow.lt F488 i hi).2; omega
  have oo517 : ∀ i, (v498).ownBlock = some i → (v99).ownBlock = some i → False := fun i hi hs => oo516 i hs hi
  have oo518 : ∀ i, (v129).ownBlock = some i → (v498).ownBlock = some i → False := fun i hi hs => by have := (World.ownsRow.lt hO501 i hs).1; have := (World.ownsRow.lt F489 i hi).2; omega
  have oo519 : ∀ i, (v498).ownBlock = some i → (v129).ownBlock = some i → False := fun i hi hs => oo518 i hs hi
  have oo520 : ∀ i, (v161).ownBlock = some i → (v498).ownBlock = some i → False := fun i hi hs => by have := (World.ownsRow.lt hO501 i hs).1; have := (World.ownsRow.lt F490 i hi).2; omega
  have oo521 : ∀ i, (v498).ownBlock = some i → (v161).ownBlock = some i → False := fun i hi hs => oo520 i hs hi
  have oo522 : ∀ i, (v195).ownBlock = some i → (v498).ownBlock = some i → False := fun i hi hs => by have := (World.ownsRow.lt hO501 i hs).1; have := (World.ownsRow.lt F491 i hi).2; omega
  have oo523 : ∀ i, (v498).ownBlock = some i → (v195).ownBlock = some i → False := fun i hi hs => oo522 i hs hi
  have oo524 : ∀ i, (v257).ownBlock = some i → (v498).ownBlock = some i → False := fun i hi hs => by have := (World.ownsRow.lt hO501 i hs).1; have := (World.ownsRow.lt F493 i hi).2; omega
  have oo525 : ∀ i, (v498).ownBlock = some i → (v257).ownBlock = some i → False := fun i hi hs => oo524 i hs hi
  have oo526 : ∀ i, (v299).ownBlock = some i → (v498).ownBlock = some i → False := fun i hi hs => by have := (World.ownsRow.lt hO501 i hs).1; have := (World.ownsRow.lt F494 i hi).2; omega
  have oo527 : ∀ i, (v498).ownBlock = some i → (v299).ownBlock = some i → False := fun i hi hs => oo526 i hs hi
  have oo528 : ∀ i, (v345).ownBlock = some i → (v498).ownBlock = some i → False := fun i hi hs => by have := (World.ownsRow.lt hO501 i hs).1; have := (World.ownsRow.lt F495 i hi).2; omega
  have oo529 : ∀ i, (v498).ownBlock = some i → (v345).ownBlock = some i → False := fun i hi hs => oo528 i hs hi
  have oo530 : ∀ i, (v393).ownBlock = some i → (v498).ownBlock = some i → False := fun i hi hs => by have := (World.ownsRow.lt hO501 i hs).1; have := (World.ownsRow.lt F496 i hi).2; omega
  have oo531 : ∀ i, (v498).ownBlock = some i → (v393).ownBlock = some i → False := fun i hi hs => oo530 i hs hi
  have oo532 : ∀ i, (v445).ownBlock = some i → (v498).ownBlock = some i → False := fun i hi hs => by have := (World.ownsRow.lt hO501 i hs).1; have := (World.ownsRow.lt O449 i hi).2; omega
  have oo533 : ∀ i, (v498).ownBlock = some i → (v445).ownBlock = some i → False := fun i hi hs => oo532 i hs hi
  have O502 := own_base hO501 K479.size
  clear hO501
  have hL497 := uvb_len (((n % 2 : Nat) : Int) == 1)
  have K534 := K479.trans K500 (U := none_) (fun i h1 h2 => h2) (fun i h1 h2 => by exact h2)
  clear K479
  have H535 := H480.keep K500 (fun h => h)
  clear H480
  have H536 := H481.keep K500 (fun h => h)
  clear H481
  have H537 := H482.keep K500 (fun h => h)
  clear H482
  have F538 := own_keep0 F483 K500
  clear F483
  have F539 := own_keep0 F484 K500
  clear F484
  have F540 := own_keep0 F485 K500
  clear F485
  have F541 := own_keep0 F486 K500
  clear F486
  have F542 := own_keep0 F487 K500
  clear F487
  have F543 := own_keep0 F488 K500
  clear F488
  have F544 := own_keep0 F489 K500
  clear F489
  have F545 := own_keep0 F490 K500
  clear F490
  have F546 := own_keep0 F491 K500
  clear F491
  have F547 := (Rd.keep0 (by omega) F492 K500)
  clear F492
  have F548 := own_keep0 F493 K500
  clear F493
  have F549 := own_keep0 F494 K500
  clear F494
  have F550 := own_keep0 F495 K500
  clear F495
  have F551 := own_keep0 F496 K500
  clear F496
  have F552 := own_keep0 O449 K500
  clear O449
  refine ⟨_, _, rfl, rfl, K500, ?_⟩
  refine Dr.strong (S' := (fun wz => Keeps none_ w499 wz)) (Keeps.refl w499) (fun wz hx => K500.trans hx (fun i _ h => h) (fun _ _ h => h)) ?_
  clear K500
  refine Dr.take (i := 53) (v := (Value.string (str (bs ++ uv ((((n % 2 : Nat) : Int) == 1)).toNat)))) (by kernel_rfl) (by kernel_rfl) (fun wz hS => Runs.b2s (s := 23) (d := 9) (e := 5) (by kernel_rfl) (by kernel_rfl) (by kernel_rfl) (Rd.keep0 (by omega) (OwnB.rd O502) hS)) (d := (some 93)) (by kernel_rfl) rfl ?_
  refine Dr.take (i := 54) (v := (Value.bool (!((bs ++ uv ((((n % 2 : Nat) : Int) == 1)).toNat) == (bs ++ uv ((((n % 2 : Nat) : Int) == 1)).toNat))))) (by kernel_rfl) (by kernel_rfl) (fun wz hS => Runs.strne (t := 9) (by kernel_rfl)) (d := (some 94)) (by kernel_rfl) rfl ?_
  refine Dr.takes (fuel' := 31) (is' := [56, 55, 54, 53, 52, 47, 46, 51, 50, 49, 48, 45, 44, 43, 42, 41, 40, 39, 38, 37, 34, 33, 36, 35, 32, 31, 30, 29, 28, 27, 26, 23, 22, 21, 25, 24, 20, 19, 18, 17, 16, 15, 14, 11, 10, 13, 12, 9, 8, 7, 6, 5, 4, 3, 2, 1, 0]) [55, 56] [(0, (Value.slice B bs.length bc)), (11, (Value.pointer (some ⟨b1, 0, none⟩))), (12, (Value.pointer (some ⟨b8, 0, none⟩))), (14, (Value.bool false)), (15, (Value.slice A25 bs.length c26)), (16, v44), (17, v62), (18, v83), (19, (i64 er84)), (20, v99), (21, (i64 er100)), (96, (Value.bool (!((bs ++ uv ((((n % 2 : Nat) : Int) == 1)).toNat) == (bs ++ uv ((((n % 2 : Nat) : Int) == 1)).toNat)))))] (by kernel_rfl) rfl (by kernel_rfl) ?_
  have h553 : (!((bs ++ uv ((((n % 2 : Nat) : Int) == 1)).toNat) == (bs ++ uv ((((n % 2 : Nat) : Int) == 1)).toNat))) = false := by simp
  rw [h553]
  refine Dr.takes (fuel' := 30) (is' := [57, 56, 55, 54, 53, 52, 47, 46, 51, 50, 49, 48, 45, 44, 43, 42, 41, 40, 39, 38, 37, 34, 33, 36, 35, 32, 31, 30, 29, 28, 27, 26, 23, 22, 21, 25, 24, 20, 19, 18, 17, 16, 15, 14, 11, 10, 13, 12, 9, 8, 7, 6, 5, 4, 3, 2, 1, 0]) [57] [(0, (Value.slice B bs.length bc)), (11, (Value.pointer (some ⟨b1, 0, none⟩))), (12, (Value.pointer (some ⟨b8, 0, none⟩))), (14, (Value.bool false)), (15, (Value.slice A25 bs.length c26)), (16, v44), (17, v62), (18, v83), (19, (i64 er84)), (20, v99), (21, (i64 er100)), (96, (Value.bool false)), (97, v62)] (by kernel_rfl) rfl (by kernel_rfl) ?_
  refine Dr.take (i := 58) (v := (Value.string (str (bs ++ opv om)))) (by kernel_rfl) (by kernel_rfl) (fun wz hS => Runs.b2s (s := 23) (d := 9) (e := 5) (by kernel_rfl) (by kernel_rfl) (by kernel_rfl) (Rd.keep0 (by omega) (OwnB.rd F541) hS)) (d := (some 98)) (by kernel_rfl) rfl ?_
  refine Dr.takes (fuel' := 28) (is' := [59, 58, 57, 56, 55, 54, 53, 52, 47, 46, 51, 50, 49, 48, 45, 44, 43, 42, 41, 40, 39, 38, 37, 34, 33, 36, 35, 32, 31, 30, 29, 28, 27, 26, 23, 22, 21, 25, 24, 20, 19, 18, 17, 16, 15, 14, 11, 10, 13, 12, 9, 8, 7, 6, 5, 4, 3, 2, 1, 0]) [59] [(0, (Value.slice B bs.length bc)), (11, (Value.pointer (some ⟨b1, 0, none⟩))), (12, (Value.pointer (some ⟨b8, 0, none⟩))), (14, (Value.bool false)), (15, (Value.slice A25 bs.length c26)), (16, v44), (17, v62), (18, v83), (19, (i64 er84)), (20, v99), (21, (i64 er100)), (96, (Value.bool false)), (98, (Value.string (str (bs ++ opv om)))), (99, (Value.slice B bs.length bc))] (by kernel_rfl) rfl (by kernel_rfl) ?_
  refine Dr.take (i := 60) (v := (agg [(i64 om.kind), (Value.string (str om.frm)), (Value.string (str om.to)), (i64 om.amount), (Value.string (str om.key)), (i64 om.slot), (i64 om.shard)])) (by kernel_rfl) (by kernel_rfl) (fun wz hS => Runs.load (t := 43) (a := ⟨b1, 0, none⟩) (by kernel_rfl) ((H535.keep hS (fun h => h)).loads (by kernel_rfl))) (d := (some 100)) (by kernel_rfl) rfl ?_
  refine Dr.call (i := 61) (by kernel_rfl) (by kernel_rfl) (d := (some 101)) (by kernel_rfl) (fun _ => RPutOp_calls _ (Value.slice B bs.length bc) bs om (hB.keep0 (by omega) K534) ho (by (try simp only at *); (try simp only [List.length_append] at *); (try simp only [List.length_cons] at *); (try simp only [List.length_nil] at *); omega)) ?_
  rintro _ w555 ⟨v554, rfl, K556, hO557⟩
  have ob559 : ∀ i, (v554).ownBlock = some i → i ≠ b1 := fun i hi => by have := (World.ownsRow.lt hO557 i hi).1; have := H535.lt; omega
  have ob560 : ∀ i, (v554).ownBlock = some i → i ≠ b8 := fun i hi => by have := (World.ownsRow.lt hO557 i hi).1; have := H536.lt; omega
  have ob561 : ∀ i, (v554).ownBlock = some i → i ≠ b16 := fun i hi => by have := (World.ownsRow.lt hO557 i hi).1; have := H537.lt; omega
  have oo562 : ∀ i, ((Value.slice A25 bs.length c26)).ownBlock = some i → (v554).ownBlock = some i → False := fun i hi hs => by have := (World.ownsRow.lt hO557 i hs).1; have := (World.ownsRow.lt F538 i hi).2; omega
  have oo563 : ∀ i, (v554).ownBlock = some i → ((Value.slice A25 bs.length c26)).ownBlock = some i → False := fun i hi hs => oo562 i hs hi
  have oo564 : ∀ i, ((Value.slice A25 ((bs ++ [byte 167]).length) c26)).ownBlock = some i → (v554).ownBlock = some i → False := fun i hi hs => by have := (World.ownsRow.lt hO557 i hs).1; have := (World.ownsRow.lt F539 i hi).2; omega
  have oo565 : ∀ i, (v554).ownBlock = some i → ((Value.slice A25 ((bs ++ [byte 167]).length) c26)).ownBlock = some i → False := fun i hi hs => oo564 i hs hi
  have oo566 : ∀ i, (v44).ownBlock = some i → (v554).ownBlock = some i → False := fun i hi hs => by have := (World.ownsRow.lt hO557 i hs).1; have := (World.ownsRow.lt F540 i hi).2; omega
  have oo567 : ∀ i, (v554).ownBlock = some i → (v44).ownBlock = some i → False := fun i hi hs => oo566 i hs hi
  have oo568 : ∀ i, (v62).ownBlock = some i → (v554).ownBlock = some i → False := fun i hi hs => by have := (World.ownsRow.lt hO557 i hs).1; have := (World.ownsRow.lt F541 i hi).2; omega
  have oo569 : ∀ i, (v554).ownBlock = some i → (v62).ownBlock = some i → False := fun i hi hs => oo568 i hs hi
  have oo570 : ∀ i, (v83).ownBlock = some i → (v554).ownBlock = some i → False := fun i hi hs => by have := (World.ownsRow.lt hO557 i hs).1; have := (World.ownsRow.lt F542 i hi).2; omega
  have oo571 : ∀ i, (v554).ownBlock = some i → (v83).ownBlock = some i → False := fun i hi hs => oo570 i hs hi
  have oo572 : ∀ i, (v99).ownBlock = some i → (v554).ownBlock = some i → False := fun i hi hs => by have := (World.ownsRow.lt hO557 i hs).1; have := (World.ownsRow.lt F543 i hi).2; omega
  have oo573 : ∀ i, (v554).ownBlock = some i → (v99).ownBlock = some i → False := fun i hi hs => oo572 i hs hi
  have oo574 : ∀ i, (v129).ownBlock = some i → (v554).ownBlock = some i → False := fun i hi hs => by have := (World.ownsRow.lt hO557 i hs).1; have := (World.ownsRow.lt F544 i hi).2; omega
  have oo575 : ∀ i, (v554).ownBlock = some i → (v129).ownBlock = some i → False := fun i hi hs => oo574 i hs hi
  have oo576 : ∀ i, (v161).ownBlock = some i → (v554).ownBlock = some i → False := fun i hi hs => by have := (World.ownsRow.lt hO557 i hs).1; have := (World.ownsRow.lt F545 i hi).2; omega
  have oo577 : ∀ i, (v554).ownBlock = some i → (v161).ownBlock = some i → False := fun i hi hs => oo576 i hs hi
  have oo578 : ∀ i, (v195).ownBlock = some i → (v554).ownBlock = some i → False := fun i hi hs => by have := (World.ownsRow.lt hO557 i hs).1; have := (World.ownsRow.lt F546 i hi).2; omega
  have oo579 : ∀ i, (v554).ownBlock = some i → (v195).ownBlock = some i → False := fun i hi hs => oo578 i hs hi
  have oo580 : ∀ i, (v257).ownBlock = some i → (v554).ownBlock = some i → False := fun i hi hs => by have := (World.ownsRow.lt hO557 i hs).1; have := (World.ownsRow.lt F548 i hi).2; omega
  have oo581 : ∀ i, (v554).ownBlock = some i → (v257).ownBlock = some i → False := fun i hi hs => oo580 i hs hi
  have oo582 : ∀ i, (v299).ownBlock = some i → (v554).ownBlock = some i → False := fun i hi hs => by have := (World.ownsRow.lt hO557 i hs).1; have := (World.ownsRow.lt F549 i hi).2; omega
  have oo583 : ∀ i, (v554).ownBlock = some i → (v299).ownBlock = some i → False := fun i hi hs => oo582 i hs hi
  have oo584 : ∀ i, (v345).ownBlock = some i → (v554).ownBlock = some i → False := fun i hi hs => by have := (World.ownsRow.lt hO557 i hs).1; have := (World.ownsRow.lt F550 i hi).2; omega
  have oo585 : ∀ i, (v554).ownBlock = some i → (v345).ownBlock = some i → False := fun i hi hs => oo584 i hs hi
  have oo586 : ∀ i, (v393).ownBlock = some i → (v554).ownBlock = some i → False := fun i hi hs => by have := (World.ownsRow.lt hO557 i hs).1; have := (World.ownsRow.lt F551 i hi).2; omega
  have oo587 : ∀ i, (v554).ownBlock = some i → (v393).ownBlock = some i → False := fun i hi hs => oo586 i hs hi
  have oo588 : ∀ i, (v445).ownBlock = some i → (v554).ownBlock = some i → False := fun i hi hs => by have := (World.ownsRow.lt hO557 i hs).1; have := (World.ownsRow.lt F552 i hi).2; omega
  have oo589 : ∀ i, (v554).ownBlock = some i → (v445).ownBlock = some i → False := fun i hi hs => oo588 i hs hi
  have oo590 : ∀ i, (v498).ownBlock = some i → (v554).ownBlock = some i → False := fun i hi hs => by have := (World.ownsRow.lt hO557 i hs).1; have := (World.ownsRow.lt O502 i hi).2; omega
  have oo591 : ∀ i, (v554).ownBlock = some i → (v498).ownBlock = some i → False := fun i hi hs => oo590 i hs hi
  have O558 := own_base hO557 K534.size
  clear hO557
  have K592 := K534.trans K556 (U := none_) (fun i h1 h2 => h2) (fun i h1 h2 => by exact h2)
  clear K534
  have H593 := H535.keep K556 (fun h => h)
  clear H535
  have H594 := H536.keep K556 (fun h => h)
  clear H536
  have H595 := H537.keep K556 (fun h => h)
  clear H537
  have F596 := own_keep0 F538 K556
  clear F538
  have F597 := own_keep0 F539 K556
  clear F539
  have F598 := own_keep0 F540 K556
  clear F540
  have F599 := own_keep0 F541 K556
  clear F541
  have F600 := own_keep0 F542 K556
  clear F542
  have F601 := own_keep0 F543 K556
  clear F543
  have F602 := own_keep0 F544 K556
  clear F544
  have F603 := own_keep0 F545 K556
  clear F545
  have F604 := own_keep0 F546 K556
  clear F546
  have F605 := (Rd.keep0 (by omega) F547 K556)
  clear F547
  have F606 := own_keep0 F548 K556
  clear F548
  have F607 := own_keep0 F549 K556
  clear F549
  have F608 := own_keep0 F550 K556
  clear F550
  have F609 := own_keep0 F551 K556
  clear F551
  have F610 := own_keep0 F552 K556
  clear F552
  have F611 := own_keep0 O502 K556
  clear O502
  refine ⟨_, _, rfl, rfl, K556, ?_⟩
  refine Dr.strong (S' := (fun wz => Keeps none_ w555 wz)) (Keeps.refl w555) (fun wz hx => K556.trans hx (fun i _ h => h) (fun _ _ h => h)) ?_
  clear K556
  refine Dr.take (i := 62) (v := (Value.string (str (bs ++ opv om)))) (by kernel_rfl) (by kernel_rfl) (fun wz hS => Runs.b2s (s := 23) (d := 9) (e := 5) (by kernel_rfl) (by kernel_rfl) (by kernel_rfl) (Rd.keep0 (by omega) (OwnB.rd O558) hS)) (d := (some 102)) (by kernel_rfl) rfl ?_
  refine Dr.take (i := 63) (v := (Value.bool (!((bs ++ opv om) == (bs ++ opv om))))) (by kernel_rfl) (by kernel_rfl) (fun wz hS => Runs.strne (t := 9) (by kernel_rfl)) (d := (some 103)) (by kernel_rfl) rfl ?_
  refine Dr.takes (fuel' := 22) (is' := [65, 64, 63, 62, 61, 60, 59, 58, 57, 56, 55, 54, 53, 52, 47, 46, 51, 50, 49, 48, 45, 44, 43, 42, 41, 40, 39, 38, 37, 34, 33, 36, 35, 32, 31, 30, 29, 28, 27, 26, 23, 22, 21, 25, 24, 20, 19, 18, 17, 16, 15, 14, 11, 10, 13, 12, 9, 8, 7, 6, 5, 4, 3, 2, 1, 0]) [64, 65] [(0, (Value.slice B bs.length bc)), (12, (Value.pointer (some ⟨b8, 0, none⟩))), (14, (Value.bool false)), (15, (Value.slice A25 bs.length c26)), (16, v44), (17, v62), (18, v83), (19, (i64 er84)), (20, v99), (21, (i64 er100)), (105, (Value.bool (!((bs ++ opv om) == (bs ++ opv om)))))] (by kernel_rfl) rfl (by kernel_rfl) ?_
  have h612 : (!((bs ++ opv om) == (bs ++ opv om))) = false := by simp
  rw [h612]
  refine Dr.takes (fuel' := 21) (is' := [66, 65, 64, 63, 62, 61, 60, 59, 58, 57, 56, 55, 54, 53, 52, 47, 46, 51, 50, 49, 48, 45, 44, 43, 42, 41, 40, 39, 38, 37, 34, 33, 36, 35, 32, 31, 30, 29, 28, 27, 26, 23, 22, 21, 25, 24, 20, 19, 18, 17, 16, 15, 14, 11, 10, 13, 12, 9, 8, 7, 6, 5, 4, 3, 2, 1, 0]) [66] [(0, (Value.slice B bs.length bc)), (12, (Value.pointer (some ⟨b8, 0, none⟩))), (14, (Value.bool false)), (15, (Value.slice A25 bs.length c26)), (16, v44), (17, v62), (18, v83), (19, (i64 er84)), (20, v99), (21, (i64 er100)), (105, (Value.bool false)), (106, (Value.slice A25 bs.length c26))] (by kernel_rfl) rfl (by kernel_rfl) ?_
  refine Dr.take (i := 67) (v := (agg [(i64 p.why), (i64 p.amount), (Value.slice A p.rows.length c)])) (by kernel_rfl) (by kernel_rfl) (fun wz hS => Runs.load (t := 46) (a := ⟨b8, 0, none⟩) (by kernel_rfl) ((H594.keep hS (fun h => h)).loads (by kernel_rfl))) (d := (some 107)) (by kernel_rfl) rfl ?_
  refine Dr.takes (fuel' := 19) (is' := [70, 67, 66, 65, 64, 63, 62, 61, 60, 59, 58, 57, 56, 55, 54, 53, 52, 47, 46, 51, 50, 49, 48, 45, 44, 43, 42, 41, 40, 39, 38, 37, 34, 33, 36, 35, 32, 31, 30, 29, 28, 27, 26, 23, 22, 21, 25, 24, 20, 19, 18, 17, 16, 15, 14, 11, 10, 13, 12, 9, 8, 7, 6, 5, 4, 3, 2, 1, 0]) [70] [(0, (Value.slice B bs.length bc)), (12, (Value.pointer (some ⟨b8, 0, none⟩))), (14, (Value.bool false)), (15, (Value.slice A25 bs.length c26)), (16, v44), (17, v62), (18, v83), (19, (i64 er84)), (20, v99), (21, (i64 er100)), (105, (Value.bool false)), (106, (Value.slice A25 bs.length c26)), (107, (agg [(i64 p.why), (i64 p.amount), (Value.slice A p.rows.length c)])), (110, (Value.slice B bs.length bc))] (by kernel_rfl) rfl (by kernel_rfl) ?_
  refine Dr.take (i := 71) (v := (agg [(i64 p.why), (i64 p.amount), (Value.slice A p.rows.length c)])) (by kernel_rfl) (by kernel_rfl) (fun wz hS => Runs.load (t := 46) (a := ⟨b8, 0, none⟩) (by kernel_rfl) ((H594.keep hS (fun h => h)).loads (by kernel_rfl))) (d := (some 111)) (by kernel_rfl) rfl ?_
  refine Dr.call (i := 68) (by kernel_rfl) (by kernel_rfl) (d := (some 108)) (by kernel_rfl) (fun _ => PutReply_calls _ (Value.slice A25 bs.length c26) bs p A c (OwnB.rd F596) hpo (Rd.keep0 (by omega) hp K592) (by (try simp only at *); (try simp only [List.length_append] at *); (try simp only [List.length_cons] at *); (try simp only [List.length_nil] at *); omega)) ?_
  rintro _ w614 ⟨v613, rfl, K615, hO616⟩
  have ob618 : ∀ i, (v613).ownBlock = some i → i ≠ b1 := fun i hi => by have := (World.ownsRow.lt hO616 i hi).1; have := H593.lt; omega
  have ob619 : ∀ i, (v613).ownBlock = some i → i ≠ b8 := fun i hi => by have := (World.ownsRow.lt hO616 i hi).1; have := H594.lt; omega
  have ob620 : ∀ i, (v613).ownBlock = some i → i ≠ b16 := fun i hi => by have := (World.ownsRow.lt hO616 i hi).1; have := H595.lt; omega
  have oo621 : ∀ i, ((Value.slice A25 bs.length c26)).ownBlock = some i → (v613).ownBlock = some i → False := fun i hi hs => by have := (World.ownsRow.lt hO616 i hs).1; have := (World.ownsRow.lt F596 i hi).2; omega
  have oo622 : ∀ i, (v613).ownBlock = some i → ((Value.slice A25 bs.length c26)).ownBlock = some i → False := fun i hi hs => oo621 i hs hi
  have oo623 : ∀ i, ((Value.slice A25 ((bs ++ [byte 167]).length) c26)).ownBlock = some i → (v613).ownBlock = some i → False := fun i hi hs => by have := (World.ownsRow.lt hO616 i hs).1; have := (World.ownsRow.lt F597 i hi).2; omega
  have oo624 : ∀ i, (v613).ownBlock = some i → ((Value.slice A25 ((bs ++ [byte 167]).length) c26)).ownBlock = some i → False := fun i hi hs => oo623 i hs hi
  have oo625 : ∀ i, (v44).ownBlock = some i → (v613).ownBlock = some i → False := fun i hi hs => by have := (World.ownsRow.lt hO616 i hs).1; have := (World.ownsRow.lt F598 i hi).2; omega
  have oo626 : ∀ i, (v613).ownBlock = some i → (v44).ownBlock = some i → False := fun i hi hs => oo625 i hs hi
  have oo627 : ∀ i, (v62).ownBlock = some i → (v613).ownBlock = some i → False := fun i hi hs => by have := (World.ownsRow.lt hO616 i hs).1; have := (World.ownsRow.lt F599 i hi).2; omega
  have oo628 : ∀ i, (v613).ownBlock = some i → (v62).ownBlock = some i → False := fun i hi hs => oo627 i hs hi
  have oo629 : ∀ i, (v83).ownBlock = some i → (v613).ownBlock = some i → False := fun i hi hs => by have := (World.ownsRow.lt hO616 i hs).1; have := (World.ownsRow.lt F600 i hi).2; omega
  have oo630 : ∀ i, (v613).ownBlock = some i → (v83).ownBlock = some i → False := fun i hi hs => oo629 i hs hi
  have oo631 : ∀ i, (v99).ownBlock = some i → (v613).ownBlock = some i → False := fun i hi hs => by have := (World.ownsRow.lt hO616 i hs).1; have := (World.ownsRow.lt F601 i hi).2; omega
  have oo632 : ∀ i, (v613).ownBlock = some i → (v99).ownBlock = some i → False := fun i hi hs => oo631 i hs hi
  have oo633 : ∀ i, (v129).ownBlock = some i → (v613).ownBlock = some i → False := fun i hi hs => by have := (World.ownsRow.lt hO616 i hs).1; have := (World.ownsRow.lt F602 i hi).2; omega
  have oo634 : ∀ i, (v613).ownBlock = some i → (v129).ownBlock = some i → False := fun i hi hs => oo633 i hs hi
  have oo635 : ∀ i, (v161).ownBlock = some i → (v613).ownBlock = some i → False := fun i hi hs => by have := (World.ownsRow.lt hO616 i hs).1; have := (World.ownsRow.lt F603 i hi).2; omega
  have oo636 : ∀ i, (v613).ownBlock = some i → (v161).ownBlock = some i → False := fun i hi hs => oo635 i hs hi
  have oo637 : ∀ i, (v195).ownBlock = some i → (v613).ownBlock = some i → False := fun i hi hs => by have := (World.ownsRow.lt hO616 i hs).1; have := (World.ownsRow.lt F604 i hi).2; omega
  have oo638 : ∀ i, (v613).ownBlock = some i → (v195).ownBlock = some i → False := fun i hi hs => oo637 i hs hi
  have oo639 : ∀ i, (v257).ownBlock = some i → (v613).ownBlock = some i → False := fun i hi hs => by have := (World.ownsRow.lt hO616 i hs).1; have := (World.ownsRow.lt F606 i hi).2; omega
  have oo640 : ∀ i, (v613).ownBlock = some i → (v257).ownBlock = some i → False := fun i hi hs => oo639 i hs hi
  have oo641 : ∀ i, (v299).ownBlock = some i → (v613).ownBlock = some i → False := fun i hi hs => by have := (World.ownsRow.lt hO616 i hs).1; have := (World.ownsRow.lt F607 i hi).2; omega
  have oo642 : ∀ i, (v613).ownBlock = some i → (v299).ownBlock = some i → False := fun i hi hs => oo641 i hs hi
  have oo643 : ∀ i, (v345).ownBlock = some i → (v613).ownBlock = some i → False := fun i hi hs => by have := (World.ownsRow.lt hO616 i hs).1; have := (World.ownsRow.lt F608 i hi).2; omega
  have oo644 : ∀ i, (v613).ownBlock = some i → (v345).ownBlock = some i → False := fun i hi hs => oo643 i hs hi
  have oo645 : ∀ i, (v393).ownBlock = some i → (v613).ownBlock = some i → False := fun i hi hs => by have := (World.ownsRow.lt hO616 i hs).1; have := (World.ownsRow.lt F609 i hi).2; omega
  have oo646 : ∀ i, (v613).ownBlock = some i → (v393).ownBlock = some i → False := fun i hi hs => oo645 i hs hi
  have oo647 : ∀ i, (v445).ownBlock = some i → (v613).ownBlock = some i → False := fun i hi hs => by have := (World.ownsRow.lt hO616 i hs).1; have := (World.ownsRow.lt F610 i hi).2; omega
  have oo648 : ∀ i, (v613).ownBlock = some i → (v445).ownBlock = some i → False := fun i hi hs => oo647 i hs hi
  have oo649 : ∀ i, (v498).ownBlock = some i → (v613).ownBlock = some i → False := fun i hi hs => by have := (World.ownsRow.lt hO616 i hs).1; have := (World.ownsRow.lt F611 i hi).2; omega
  have oo650 : ∀ i, (v613).ownBlock = some i → (v498).ownBlock = some i → False := fun i hi hs => oo649 i hs hi
  have oo651 : ∀ i, (v554).ownBlock = some i → (v613).ownBlock = some i → False := fun i hi hs => by have := (World.ownsRow.lt hO616 i hs).1; have := (World.ownsRow.lt O558 i hi).2; omega
  have oo652 : ∀ i, (v613).ownBlock = some i → (v554).ownBlock = some i → False := fun i hi hs => oo651 i hs hi
  have O617 := own_base hO616 K592.size
  clear hO616
  have K653 := K592.trans K615 (U := none_) (fun i h1 h2 => h2) (fun i h1 h2 => by exact h2)
  clear K592
  have H654 := H593.keep K615 (fun h => h)
  clear H593
  have H655 := H594.keep K615 (fun h => h)
  clear H594
  have H656 := H595.keep K615 (fun h => h)
  clear H595
  have F657 := own_keep0 F596 K615
  clear F596
  have F658 := own_keep0 F597 K615
  clear F597
  have F659 := own_keep0 F598 K615
  clear F598
  have F660 := own_keep0 F599 K615
  clear F599
  have F661 := own_keep0 F600 K615
  clear F600
  have F662 := own_keep0 F601 K615
  clear F601
  have F663 := own_keep0 F602 K615
  clear F602
  have F664 := own_keep0 F603 K615
  clear F603
  have F665 := own_keep0 F604 K615
  clear F604
  have F666 := (Rd.keep0 (by omega) F605 K615)
  clear F605
  have F667 := own_keep0 F606 K615
  clear F606
  have F668 := own_keep0 F607 K615
  clear F607
  have F669 := own_keep0 F608 K615
  clear F608
  have F670 := own_keep0 F609 K615
  clear F609
  have F671 := own_keep0 F610 K615
  clear F610
  have F672 := own_keep0 F611 K615
  clear F611
  have F673 := own_keep0 O558 K615
  clear O558
  refine ⟨_, _, rfl, rfl, K615, ?_⟩
  refine Dr.strong (S' := (fun wz => Keeps none_ w614 wz)) (Keeps.refl w614) (fun wz hx => K615.trans hx (fun i _ h => h) (fun _ _ h => h)) ?_
  clear K615
  refine Dr.take (i := 69) (v := (Value.string (str (bs ++ rpv p)))) (by kernel_rfl) (by kernel_rfl) (fun wz hS => Runs.b2s (s := 23) (d := 9) (e := 5) (by kernel_rfl) (by kernel_rfl) (by kernel_rfl) (Rd.keep0 (by omega) (OwnB.rd O617) hS)) (d := (some 109)) (by kernel_rfl) rfl ?_
  refine Dr.call (i := 72) (by kernel_rfl) (by kernel_rfl) (d := (some 112)) (by kernel_rfl) (fun _ => RPutReply_calls _ (Value.slice B bs.length bc) bs p A c (hB.keep0 (by omega) K653) hpo (Rd.keep0 (by omega) hp K653) (by (try simp only at *); (try simp only [List.length_append] at *); (try simp only [List.length_cons] at *); (try simp only [List.length_nil] at *); omega)) ?_
  rintro _ w675 ⟨v674, rfl, K676, hO677⟩
  have ob679 : ∀ i, (v674).ownBlock = some i → i ≠ b1 := fun i hi => by have := (World.ownsRow.lt hO677 i hi).1; have := H654.lt; omega
  have ob680 : ∀ i, (v674).ownBlock = some i → i ≠ b8 := fun i hi => by have := (World.ownsRow.lt hO677 i hi).1; have := H655.lt; omega
  have ob681 : ∀ i, (v674).ownBlock = some i → i ≠ b16 := fun i hi => by have := (World.ownsRow.lt hO677 i hi).1; have := H656.lt; omega
  have oo682 : ∀ i, ((Value.slice A25 bs.length c26)).ownBlock = some i → (v674).ownBlock = some i → False := fun i hi hs => by have := (World.ownsRow.lt hO677 i hs).1; have := (World.ownsRow.lt F657 i hi).2; omega
  have oo683 : ∀ i, (v674).ownBlock = some i → ((Value.slice A25 bs.length c26)).ownBlock = some i → False := fun i hi hs => oo682 i hs hi
  have oo684 : ∀ i, ((Value.slice A25 ((bs ++ [byte 167]).length) c26)).ownBlock = some i → (v674).ownBlock = some i → False := fun i hi hs => by have := (World.ownsRow.lt hO677 i hs).1; have := (World.ownsRow.lt F658 i hi).2; omega
  have oo685 : ∀ i, (v674).ownBlock = some i → ((Value.slice A25 ((bs ++ [byte 167]).length) c26)).ownBlock = some i → False := fun i hi hs => oo684 i hs hi
  have oo686 : ∀ i, (v44).ownBlock = some i → (v674).ownBlock = some i → False := fun i hi hs => by have := (World.ownsRow.lt hO677 i hs).1; have := (World.ownsRow.lt F659 i hi).2; omega
  have oo687 : ∀ i, (v674).ownBlock = some i → (v44).ownBlock = some i → False := fun i hi hs => oo686 i hs hi
  have oo688 : ∀ i, (v62).ownBlock = some i → (v674).ownBlock = some i → False := fun i hi hs => by have := (World.ownsRow.lt hO677 i hs).1; have := (World.ownsRow.lt F660 i hi).2; omega
  have oo689 : ∀ i, (v674).ownBlock = some i → (v62).ownBlock = some i → False := fun i hi hs => oo688 i hs hi
  have oo690 : ∀ i, (v83).ownBlock = some i → (v674).ownBlock = some i → False := fun i hi hs => by have := (World.ownsRow.lt hO677 i hs).1; have := (World.ownsRow.lt F661 i hi).2; omega
  have oo691 : ∀ i, (v674).ownBlock = some i → (v83).ownBlock = some i → False := fun i hi hs => oo690 i hs hi
  have oo692 : ∀ i, (v99).ownBlock = some i → (v674).ownBlock = some i → False := fun i hi hs => by have := (World.ownsRow.lt hO677 i hs).1; have := (World.ownsRow.lt F662 i hi).2; omega
  have oo693 : ∀ i, (v674).ownBlock = some i → (v99).ownBlock = some i → False := fun i hi hs => oo692 i hs hi
  have oo694 : ∀ i, (v129).ownBlock = some i → (v674).ownBlock = some i → False := fun i hi hs => by have := (World.ownsRow.lt hO677 i hs).1; have := (World.ownsRow.lt F663 i hi).2; omega
  have oo695 : ∀ i, (v674).ownBlock = some i → (v129).ownBlock = some i → False := fun i hi hs => oo694 i hs hi
  have oo696 : ∀ i, (v161).ownBlock = some i → (v674).ownBlock = some i → False := fun i hi hs => by have := (World.ownsRow.lt hO677 i hs).1; have := (World.ownsRow.lt F664 i hi).2; omega
  have oo697 : ∀ i, (v674).ownBlock = some i → (v161).ownBlock = some i → False := fun i hi hs => oo696 i hs hi
  have oo698 : ∀ i, (v195).ownBlock = some i → (v674).ownBlock = some i → False := fun i hi hs => by have := (World.ownsRow.lt hO677 i hs).1; have := (World.ownsRow.lt F665 i hi).2; omega
  have oo699 : ∀ i, (v674).ownBlock = some i → (v195).ownBlock = some i → False := fun i hi hs => oo698 i hs hi
  have oo700 : ∀ i, (v257).ownBlock = some i → (v674).ownBlock = some i → False := fun i hi hs => by have := (World.ownsRow.lt hO677 i hs).1; have := (World.ownsRow.lt F667 i hi).2; omega
  have oo701 : ∀ i, (v674).ownBlock = some i → (v257).ownBlock = some i → False := fun i hi hs => oo700 i hs hi
  have oo702 : ∀ i, (v299).ownBlock = some i → (v674).ownBlock = some i → False := fun i hi hs => by have := (World.ownsRow.lt hO677 i hs).1; have := (World.ownsRow.lt F668 i hi).2; omega
  have oo703 : ∀ i, (v674).ownBlock = some i → (v299).ownBlock = some i → False := fun i hi hs => oo702 i hs hi
  have oo704 : ∀ i, (v345).ownBlock = some i → (v674).ownBlock = some i → False := fun i hi hs => by have := (World.ownsRow.lt hO677 i hs).1; have := (World.ownsRow.lt F669 i hi).2; omega
  have oo705 : ∀ i, (v674).ownBlock = some i → (v345).ownBlock = some i → False := fun i hi hs => oo704 i hs hi
  have oo706 : ∀ i, (v393).ownBlock = some i → (v674).ownBlock = some i → False := fun i hi hs => by have := (World.ownsRow.lt hO677 i hs).1; have := (World.ownsRow.lt F670 i hi).2; omega
  have oo707 : ∀ i, (v674).ownBlock = some i → (v393).ownBlock = some i → False := fun i hi hs => oo706 i hs hi
  have oo708 : ∀ i, (v445).ownBlock = some i → (v674).ownBlock = some i → False := fun i hi hs => by have := (World.ownsRow.lt hO677 i hs).1; have := (World.ownsRow.lt F671 i hi).2; omega
  have oo709 : ∀ i, (v674).ownBlock = some i → (v445).ownBlock = some i → False := fun i hi hs => oo708 i hs hi
  have oo710 : ∀ i, (v498).ownBlock = some i → (v674).ownBlock = some i → False := fun i hi hs => by have := (World.ownsRow.lt hO677 i hs).1; have := (World.ownsRow.lt F672 i hi).2; omega
  have oo711 : ∀ i, (v674).ownBlock = some i → (v498).ownBlock = some i → False := fun i hi hs => oo710 i hs hi
  have oo712 : ∀ i, (v554).ownBlock = some i → (v674).ownBlock = some i → False := fun i hi hs => by have := (World.ownsRow.lt hO677 i hs).1; have := (World.ownsRow.lt F673 i hi).2; omega
  have oo713 : ∀ i, (v674).ownBlock = some i → (v554).ownBlock = some i → False := fun i hi hs => oo712 i hs hi
  have oo714 : ∀ i, (v613).ownBlock = some i → (v674).ownBlock = some i → False := fun i hi hs => by have := (World.ownsRow.lt hO677 i hs).1; have := (World.ownsRow.lt O617 i hi).2; omega
  have oo715 : ∀ i, (v674).ownBlock = some i → (v613).ownBlock = some i → False := fun i hi hs => oo714 i hs hi
  have O678 := own_base hO677 K653.size
  clear hO677
  have K716 := K653.trans K676 (U := none_) (fun i h1 h2 => h2) (fun i h1 h2 => by exact h2)
  clear K653
  have H717 := H654.keep K676 (fun h => h)
  clear H654
  have H718 := H655.keep K676 (fun h => h)
  clear H655
  have H719 := H656.keep K676 (fun h => h)
  clear H656
  have F720 := own_keep0 F657 K676
  clear F657
  have F721 := own_keep0 F658 K676
  clear F658
  have F722 := own_keep0 F659 K676
  clear F659
  have F723 := own_keep0 F660 K676
  clear F660
  have F724 := own_keep0 F661 K676
  clear F661
  have F725 := own_keep0 F662 K676
  clear F662
  have F726 := own_keep0 F663 K676
  clear F663
  have F727 := own_keep0 F664 K676
  clear F664
  have F728 := own_keep0 F665 K676
  clear F665
  have F729 := (Rd.keep0 (by omega) F666 K676)
  clear F666
  have F730 := own_keep0 F667 K676
  clear F667
  have F731 := own_keep0 F668 K676
  clear F668
  have F732 := own_keep0 F669 K676
  clear F669
  have F733 := own_keep0 F670 K676
  clear F670
  have F734 := own_keep0 F671 K676
  clear F671
  have F735 := own_keep0 F672 K676
  clear F672
  have F736 := own_keep0 F673 K676
  clear F673
  have F737 := own_keep0 O617 K676
  clear O617
  refine ⟨_, _, rfl, rfl, K676, ?_⟩
  refine Dr.strong (S' := (fun wz => Keeps none_ w675 wz)) (Keeps.refl w675) (fun wz hx => K676.trans hx (fun i _ h => h) (fun _ _ h => h)) ?_
  clear K676
  refine Dr.take (i := 73) (v := (Value.string (str (bs ++ rpv p)))) (by kernel_rfl) (by kernel_rfl) (fun wz hS => Runs.b2s (s := 23) (d := 9) (e := 5) (by kernel_rfl) (by kernel_rfl) (by kernel_rfl) (Rd.keep0 (by omega) (OwnB.rd O678) hS)) (d := (some 113)) (by kernel_rfl) rfl ?_
  refine Dr.take (i := 74) (v := (Value.bool (!((bs ++ rpv p) == (bs ++ rpv p))))) (by kernel_rfl) (by kernel_rfl) (fun wz hS => Runs.strne (t := 9) (by kernel_rfl)) (d := (some 114)) (by kernel_rfl) rfl ?_
  refine Dr.takes (fuel' := 11) (is' := [76, 75, 74, 73, 72, 69, 68, 71, 70, 67, 66, 65, 64, 63, 62, 61, 60, 59, 58, 57, 56, 55, 54, 53, 52, 47, 46, 51, 50, 49, 48, 45, 44, 43, 42, 41, 40, 39, 38, 37, 34, 33, 36, 35, 32, 31, 30, 29, 28, 27, 26, 23, 22, 21, 25, 24, 20, 19, 18, 17, 16, 15, 14, 11, 10, 13, 12, 9, 8, 7, 6, 5, 4, 3, 2, 1, 0]) [75, 76] [(0, (Value.slice B bs.length bc)), (14, (Value.bool false)), (15, (Value.slice A25 bs.length c26)), (16, v44), (17, v62), (18, v83), (19, (i64 er84)), (20, v99), (21, (i64 er100)), (116, (Value.bool (!((bs ++ rpv p) == (bs ++ rpv p)))))] (by kernel_rfl) rfl (by kernel_rfl) ?_
  have h738 : (!((bs ++ rpv p) == (bs ++ rpv p))) = false := by simp
  rw [h738]
  refine Dr.takes (fuel' := 10) (is' := [77, 76, 75, 74, 73, 72, 69, 68, 71, 70, 67, 66, 65, 64, 63, 62, 61, 60, 59, 58, 57, 56, 55, 54, 53, 52, 47, 46, 51, 50, 49, 48, 45, 44, 43, 42, 41, 40, 39, 38, 37, 34, 33, 36, 35, 32, 31, 30, 29, 28, 27, 26, 23, 22, 21, 25, 24, 20, 19, 18, 17, 16, 15, 14, 11, 10, 13, 12, 9, 8, 7, 6, 5, 4, 3, 2, 1, 0]) [77] [(0, (Value.slice B bs.length bc)), (14, (Value.bool false)), (15, (Value.slice A25 bs.length c26)), (16, v44), (17, v62), (19, (i64 er84)), (20, v99), (21, (i64 er100)), (116, (Value.bool false)), (117, v83)] (by kernel_rfl) rfl (by kernel_rfl) ?_
  refine Dr.take (i := 78) (v := (Value.string (str out85))) (by kernel_rfl) (by kernel_rfl) (fun wz hS => Runs.b2s (s := 23) (d := 9) (e := 5) (by kernel_rfl) (by kernel_rfl) (by kernel_rfl) (Rd.keep0 (by omega) (OwnB.rd F724) hS)) (d := (some 118)) (by kernel_rfl) rfl ?_
  refine Dr.takes (fuel' := 8) (is' := [79, 78, 77, 76, 75, 74, 73, 72, 69, 68, 71, 70, 67, 66, 65, 64, 63, 62, 61, 60, 59, 58, 57, 56, 55, 54, 53, 52, 47, 46, 51, 50, 49, 48, 45, 44, 43, 42, 41, 40, 39, 38, 37, 34, 33, 36, 35, 32, 31, 30, 29, 28, 27, 26, 23, 22, 21, 25, 24, 20, 19, 18, 17, 16, 15, 14, 11, 10, 13, 12, 9, 8, 7, 6, 5, 4, 3, 2, 1, 0]) [79] [(0, (Value.slice B bs.length bc)), (14, (Value.bool false)), (15, (Value.slice A25 bs.length c26)), (16, v44), (17, v62), (19, (i64 er84)), (21, (i64 er100)), (116, (Value.bool false)), (118, (Value.string (str out85))), (119, v99)] (by kernel_rfl) rfl (by kernel_rfl) ?_
  refine Dr.take (i := 80) (v := (Value.string (str out101))) (by kernel_rfl) (by kernel_rfl) (fun wz hS => Runs.b2s (s := 23) (d := 9) (e := 5) (by kernel_rfl) (by kernel_rfl) (by kernel_rfl) (Rd.keep0 (by omega) (OwnB.rd F725) hS)) (d := (some 120)) (by kernel_rfl) rfl ?_
  refine Dr.take (i := 81) (v := (Value.bool (!(out85 == out101)))) (by kernel_rfl) (by kernel_rfl) (fun wz hS => Runs.strne (t := 9) (by kernel_rfl)) (d := (some 121)) (by kernel_rfl) rfl ?_
  refine Dr.takes (fuel' := 4) (is' := [83, 82, 81, 80, 79, 78, 77, 76, 75, 74, 73, 72, 69, 68, 71, 70, 67, 66, 65, 64, 63, 62, 61, 60, 59, 58, 57, 56, 55, 54, 53, 52, 47, 46, 51, 50, 49, 48, 45, 44, 43, 42, 41, 40, 39, 38, 37, 34, 33, 36, 35, 32, 31, 30, 29, 28, 27, 26, 23, 22, 21, 25, 24, 20, 19, 18, 17, 16, 15, 14, 11, 10, 13, 12, 9, 8, 7, 6, 5, 4, 3, 2, 1, 0]) [82, 83] [(0, (Value.slice B bs.length bc)), (14, (Value.bool false)), (15, (Value.slice A25 bs.length c26)), (16, v44), (17, v62), (19, (i64 er84)), (21, (i64 er100)), (123, (Value.bool (!(out85 == out101))))] (by kernel_rfl) rfl (by kernel_rfl) ?_
  have h739 : (!(out85 == out101)) = false := by rw [(msg_same hc90 hc106).1]; simp
  rw [h739]
  refine Dr.takes (fuel' := 0) (is' := [87, 86, 85, 84, 83, 82, 81, 80, 79, 78, 77, 76, 75, 74, 73, 72, 69, 68, 71, 70, 67, 66, 65, 64, 63, 62, 61, 60, 59, 58, 57, 56, 55, 54, 53, 52, 47, 46, 51, 50, 49, 48, 45, 44, 43, 42, 41, 40, 39, 38, 37, 34, 33, 36, 35, 32, 31, 30, 29, 28, 27, 26, 23, 22, 21, 25, 24, 20, 19, 18, 17, 16, 15, 14, 11, 10, 13, 12, 9, 8, 7, 6, 5, 4, 3, 2, 1, 0]) [84, 85, 86, 87] [(0, (Value.slice B bs.length bc)), (14, (Value.bool false)), (15, (Value.slice A25 bs.length c26)), (16, v44), (17, v62), (127, (Value.bool (er84 != er100)))] (by kernel_rfl) rfl (by kernel_rfl) ?_
  refine Dr.done (by kernel_rfl) ?_
  have h740 : (er84 != er100) = false := bne_f (msg_same hc90 hc106).2
  rw [h740]
  refine q_else (o := .tmp 127) (by kernel_rfl) rfl ?_
  refine q_skip (by kernel_rfl) ?_
  refine q_seq (by kernel_rfl) ?_
  refine q_region (by kernel_rfl) ?_
  refine Ops.regs 1 [(0, (Value.slice B bs.length bc)), (14, (Value.bool false)), (15, (Value.slice A25 bs.length c26)), (17, v62), (128, v44)] (j := 1) (by kernel_rfl) (by kernel_rfl) ?_
  refine Ops.call (by kernel_rfl) (d := (some 129)) (by kernel_rfl) (Spoil_calls _ v44 (bs ++ uv n) _ F722 (by (try simp only [List.length_append]); omega)) ?_
  rintro _ w742 ⟨rfl, K741⟩
  refine ⟨_, _, rfl, rfl, ?_⟩
  have K743 := K716.trans K741 (U := none_) (fun i h1 h2 => h2) (fun i h1 h2 => by have h2 : (v44).ownBlock = some i := h2; exfalso; have := (World.ownsRow.lt F722 i h2).1; omega)
  clear K716
  have H744 := H717.keep K741 (by intro h; change (v44).ownBlock = some b1 at h; have := ob49 b1 h; omega)
  clear H717
  have H745 := H718.keep K741 (by intro h; change (v44).ownBlock = some b8 at h; have := ob50 b8 h; omega)
  clear H718
  have H746 := H719.keep K741 (by intro h; change (v44).ownBlock = some b16 at h; have := ob51 b16 h; omega)
  clear H719
  have F747 := own_keep F720 K741 (fun i hi hs => by have hs : (v44).ownBlock = some i := hs; exact oo52 i hi hs)
  clear F720
  have F748 := own_keep F721 K741 (fun i hi hs => by have hs : (v44).ownBlock = some i := hs; exact oo54 i hi hs)
  clear F721
  clear F722
  have F749 := own_keep F723 K741 (fun i hi hs => by have hs : (v44).ownBlock = some i := hs; exact oo75 i hi hs)
  clear F723
  clear F724
  clear F725
  have F750 := own_keep F726 K741 (fun i hi hs => by have hs : (v44).ownBlock = some i := hs; exact oo142 i hi hs)
  clear F726
  have F751 := own_keep F727 K741 (fun i hi hs => by have hs : (v44).ownBlock = some i := hs; exact oo174 i hi hs)
  clear F727
  have F752 := own_keep F728 K741 (fun i hi hs => by have hs : (v44).ownBlock = some i := hs; exact oo208 i hi hs)
  clear F728
  clear F729
  have F753 := own_keep F730 K741 (fun i hi hs => by have hs : (v44).ownBlock = some i := hs; exact oo270 i hi hs)
  clear F730
  have F754 := own_keep F731 K741 (fun i hi hs => by have hs : (v44).ownBlock = some i := hs; exact oo312 i hi hs)
  clear F731
  have F755 := own_keep F732 K741 (fun i hi hs => by have hs : (v44).ownBlock = some i := hs; exact oo358 i hi hs)
  clear F732
  have F756 := own_keep F733 K741 (fun i hi hs => by have hs : (v44).ownBlock = some i := hs; exact oo406 i hi hs)
  clear F733
  have F757 := own_keep F734 K741 (fun i hi hs => by have hs : (v44).ownBlock = some i := hs; exact oo458 i hi hs)
  clear F734
  have F758 := own_keep F735 K741 (fun i hi hs => by have hs : (v44).ownBlock = some i := hs; exact oo511 i hi hs)
  clear F735
  have F759 := own_keep F736 K741 (fun i hi hs => by have hs : (v44).ownBlock = some i := hs; exact oo567 i hi hs)
  clear F736
  have F760 := own_keep F737 K741 (fun i hi hs => by have hs : (v44).ownBlock = some i := hs; exact oo626 i hi hs)
  clear F737
  have F761 := own_keep O678 K741 (fun i hi hs => by have hs : (v44).ownBlock = some i := hs; exact oo687 i hi hs)
  clear O678
  clear K741
  refine Ops.done (by kernel_rfl) ?_
  refine q_seq (by kernel_rfl) ?_
  refine q_region (by kernel_rfl) ?_
  refine Ops.regs 1 [(0, (Value.slice B bs.length bc)), (14, (Value.bool false)), (15, (Value.slice A25 bs.length c26)), (130, v62)] (j := 1) (by kernel_rfl) (by kernel_rfl) ?_
  refine Ops.call (by kernel_rfl) (d := (some 131)) (by kernel_rfl) (Spoil_calls _ v62 (bs ++ opv om) _ F749 (by (try simp only [List.length_append]); omega)) ?_
  rintro _ w763 ⟨rfl, K762⟩
  refine ⟨_, _, rfl, rfl, ?_⟩
  have K764 := K743.trans K762 (U := none_) (fun i h1 h2 => h2) (fun i h1 h2 => by have h2 : (v62).ownBlock = some i := h2; exfalso; have := (World.ownsRow.lt F749 i h2).1; omega)
  clear K743
  have H765 := H744.keep K762 (by intro h; change (v62).ownBlock = some b1 at h; have := ob67 b1 h; omega)
  clear H744
  have H766 := H745.keep K762 (by intro h; change (v62).ownBlock = some b8 at h; have := ob68 b8 h; omega)
  clear H745
  have H767 := H746.keep K762 (by intro h; change (v62).ownBlock = some b16 at h; have := ob69 b16 h; omega)
  clear H746
  have F768 := own_keep F747 K762 (fun i hi hs => by have hs : (v62).ownBlock = some i := hs; exact oo70 i hi hs)
  clear F747
  have F769 := own_keep F748 K762 (fun i hi hs => by have hs : (v62).ownBlock = some i := hs; exact oo72 i hi hs)
  clear F748
  clear F749
  have F770 := own_keep F750 K762 (fun i hi hs => by have hs : (v62).ownBlock = some i := hs; exact oo144 i hi hs)
  clear F750
  have F771 := own_keep F751 K762 (fun i hi hs => by have hs : (v62).ownBlock = some i := hs; exact oo176 i hi hs)
  clear F751
  have F772 := own_keep F752 K762 (fun i hi hs => by have hs : (v62).ownBlock = some i := hs; exact oo210 i hi hs)
  clear F752
  have F773 := own_keep F753 K762 (fun i hi hs => by have hs : (v62).ownBlock = some i := hs; exact oo272 i hi hs)
  clear F753
  have F774 := own_keep F754 K762 (fun i hi hs => by have hs : (v62).ownBlock = some i := hs; exact oo314 i hi hs)
  clear F754
  have F775 := own_keep F755 K762 (fun i hi hs => by have hs : (v62).ownBlock = some i := hs; exact oo360 i hi hs)
  clear F755
  have F776 := own_keep F756 K762 (fun i hi hs => by have hs : (v62).ownBlock = some i := hs; exact oo408 i hi hs)
  clear F756
  have F777 := own_keep F757 K762 (fun i hi hs => by have hs : (v62).ownBlock = some i := hs; exact oo460 i hi hs)
  clear F757
  have F778 := own_keep F758 K762 (fun i hi hs => by have hs : (v62).ownBlock = some i := hs; exact oo513 i hi hs)
  clear F758
  have F779 := own_keep F759 K762 (fun i hi hs => by have hs : (v62).ownBlock = some i := hs; exact oo569 i hi hs)
  clear F759
  have F780 := own_keep F760 K762 (fun i hi hs => by have hs : (v62).ownBlock = some i := hs; exact oo628 i hi hs)
  clear F760
  have F781 := own_keep F761 K762 (fun i hi hs => by have hs : (v62).ownBlock = some i := hs; exact oo689 i hi hs)
  clear F761
  clear K762
  refine Ops.done (by kernel_rfl) ?_
  refine q_seq (by kernel_rfl) ?_
  refine q_region (by kernel_rfl) ?_
  refine Ops.regs 2 [(14, (Value.bool false)), (132, (Value.slice A25 bs.length c26)), (133, (Value.slice B bs.length bc))] (j := 2) (by kernel_rfl) (by kernel_rfl) ?_
  refine Ops.call (by kernel_rfl) (d := (some 134)) (by kernel_rfl) (Kept_calls _ A25 c26 bs _ B bc F769 (hB.keep0 (by omega) K764) (by omega)) ?_
  rintro _ w782 ⟨rfl, K783⟩
  refine ⟨_, _, rfl, rfl, ?_⟩
  have K784 := K764.trans K783 (U := none_) (fun i h1 h2 => h2) (fun i h1 h2 => by exact h2)
  clear K764
  have H785 := H765.keep K783 (fun h => h)
  clear H765
  have H786 := H766.keep K783 (fun h => h)
  clear H766
  have H787 := H767.keep K783 (fun h => h)
  clear H767
  have F788 := own_keep0 F768 K783
  clear F768
  have F789 := own_keep0 F769 K783
  clear F769
  have F790 := own_keep0 F770 K783
  clear F770
  have F791 := own_keep0 F771 K783
  clear F771
  have F792 := own_keep0 F772 K783
  clear F772
  have F793 := own_keep0 F773 K783
  clear F773
  have F794 := own_keep0 F774 K783
  clear F774
  have F795 := own_keep0 F775 K783
  clear F775
  have F796 := own_keep0 F776 K783
  clear F776
  have F797 := own_keep0 F777 K783
  clear F777
  have F798 := own_keep0 F778 K783
  clear F778
  have F799 := own_keep0 F779 K783
  clear F779
  have F800 := own_keep0 F780 K783
  clear F780
  have F801 := own_keep0 F781 K783
  clear F781
  clear K783
  refine Ops.regs 1 [(14, (Value.bool false)), (135, (Value.bool true))] (j := 4) (by kernel_rfl) (by kernel_rfl) ?_
  refine Ops.call (by kernel_rfl) (d := (some 136)) (by kernel_rfl) (known_calls _) ?_
  rintro _ w802 ⟨rfl, K803⟩
  refine ⟨_, _, rfl, rfl, ?_⟩
  have K804 := K784.trans K803 (U := none_) (fun i h1 h2 => h2) (fun i h1 h2 => by exact h2)
  clear K784
  have H805 := H785.keep K803 (fun h => h)
  clear H785
  have H806 := H786.keep K803 (fun h => h)
  clear H786
  have H807 := H787.keep K803 (fun h => h)
  clear H787
  have F808 := own_keep0 F788 K803
  clear F788
  have F809 := own_keep0 F789 K803
  clear F789
  have F810 := own_keep0 F790 K803
  clear F790
  have F811 := own_keep0 F791 K803
  clear F791
  have F812 := own_keep0 F792 K803
  clear F792
  have F813 := own_keep0 F793 K803
  clear F793
  have F814 := own_keep0 F794 K803
  clear F794
  have F815 := own_keep0 F795 K803
  clear F795
  have F816 := own_keep0 F796 K803
  clear F796
  have F817 := own_keep0 F797 K803
  clear F797
  have F818 := own_keep0 F798 K803
  clear F798
  have F819 := own_keep0 F799 K803
  clear F799
  have F820 := own_keep0 F800 K803
  clear F800
  have F821 := own_keep0 F801 K803
  clear F801
  clear K803
  refine Ops.regs 2 [(14, (Value.bool true))] (j := 7) (by kernel_rfl) (by kernel_rfl) ?_
  refine Ops.done (by kernel_rfl) ?_
  refine q_ret (by kernel_rfl) ?_
  refine ⟨(Value.bool true), retv_tmp rfl rfl, ?_⟩
  exact ⟨rfl, K804⟩
end Go.Proofs.Ytnepjfnkaigakaa
