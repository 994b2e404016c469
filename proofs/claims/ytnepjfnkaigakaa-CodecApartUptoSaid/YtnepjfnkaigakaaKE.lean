/- codec: operations and answers are written -/
import Derived.Test.YtnepjfnkaigakaaProg
import Derived.Test.YtnepjfnkaigakaaLD
import Derived.Test.YtnepjfnkaigakaaKD
set_option linter.unusedVariables false
namespace Go.Proofs.Ytnepjfnkaigakaa
open Go.Q Go.RowKit

theorem RText_calls (w : World) (v : Value) (xs : List UInt8) (ss : List UInt8) (hv : RdB w v xs) (hs : ss.length ≤ 70368744173568) (hl : xs.length ≤ 70368744173568) : Calls Try.prog 29 ⟨[v, (Value.string (str ss))]⟩ w (fun e w' => ∃ v', e = .returned v' ∧ Keeps none_ w w' ∧ OwnB w' w.heap.size 5 v' (xs ++ tv ss)) := by
  have K0 : Keeps none_ w w := Keeps.refl w
  refine q_calls Try.func29 (by kernel_rfl) (by kernel_rfl) ?_
  refine q_seq (by kernel_rfl) ?_
  refine q_region (by kernel_rfl) ?_
  refine Ops.regs 1 [(0, v), (1, (Value.string (str ss))), (4, (Value.slice none 0 0))] (j := 1) (by kernel_rfl) (by kernel_rfl) ?_
  refine Ops.done (by kernel_rfl) ?_
  refine q_seq (by kernel_rfl) ?_
  refine q_region (by kernel_rfl) ?_
  refine Ops.regs 2 [(4, (Value.slice none 0 0)), (5, v), (6, (Value.string (str ss)))] (j := 2) (by kernel_rfl) (by kernel_rfl) ?_
  obtain ⟨A1, c2, w3, hr4, K5, F6, hge7⟩ := run_s2b (P := Try.prog) (w := w) (src := 9) (dst := 23) (e := 5) (ss := ss) (by kernel_rfl) (by kernel_rfl) (by first | omega | decide)
  refine Ops.go (v := (Value.slice A1 ss.length c2)) (by kernel_rfl) (Runs.conv (by kernel_rfl) hr4) (d := (some 7)) (by kernel_rfl) rfl ?_
  have K8 := K0.trans K5 (U := none_) (fun i h1 h2 => h2) (fun i h1 h2 => by exact h2)
  clear K0
  clear K5 hr4 hge7
  refine Ops.call (by kernel_rfl) (d := (some 8)) (by kernel_rfl) (RBytesW_calls _ v xs A1 c2 ss (hv.keep0 (by omega) K8) F6 (by first | omega | decide) (by (try simp only at *); (try simp only [List.length_append] at *); (try simp only [List.length_cons] at *); (try simp only [List.length_nil] at *); omega)) ?_
  rintro _ w12 ⟨v11, rfl, K13, hO14⟩
  have O15 := own_base hO14 K8.size
  clear hO14
  have hL9 := tv_ge ss
  have hL10 := tv_le (s := ss) (by first | omega | decide)
  refine ⟨_, _, rfl, rfl, ?_⟩
  have K16 := K8.trans K13 (U := none_) (fun i h1 h2 => h2) (fun i h1 h2 => by exact h2)
  clear K8
  have F17 := (Rd.keep0 (by omega) F6 K13)
  clear F6
  clear K13
  refine Ops.regs 1 [(4, v11)] (j := 5) (by kernel_rfl) (by kernel_rfl) ?_
  refine Ops.done (by kernel_rfl) ?_
  refine q_ret (by kernel_rfl) ?_
  refine ⟨v11, retv_tmp rfl rfl, ?_⟩
  exact ⟨_, rfl, K16, O15⟩

theorem PutOp_calls (w : World) (v : Value) (xs : List UInt8) (o : Opm) (hv : RdB w v xs) (ho : o.Ok) (hl : xs.length + (opv o).length ≤ 70368744173568) : Calls Try.prog 22 ⟨[v, (agg [(i64 o.kind), (Value.string (str o.frm)), (Value.string (str o.to)), (i64 o.amount), (Value.string (str o.key)), (i64 o.slot), (i64 o.shard)])]⟩ w (fun e w' => ∃ v', e = .returned v' ∧ Keeps none_ w w' ∧ OwnB w' w.heap.size 5 v' (xs ++ opv o)) := by
  have hol := opv_len o
  have hi1 := ho.kind
  have hi2 := ho.amount
  have hi3 := ho.slot
  have hi4 := ho.shard
  have ht1 := tv_ge o.frm
  have ht2 := tv_ge o.to
  have ht3 := tv_ge o.key
  have K0 : Keeps none_ w w := Keeps.refl w
  refine q_calls Try.func22 (by kernel_rfl) (by kernel_rfl) ?_
  refine q_seq (by kernel_rfl) ?_
  refine q_region (by kernel_rfl) ?_
  refine Ops.new (o := rowL [(i64 o.kind), (Value.string (str o.frm)), (Value.string (str o.to)), (i64 o.amount), (Value.string (str o.key)), (i64 o.slot), (i64 o.shard)] 43) (V := fun b => (Value.pointer (some ⟨b, 0, none⟩))) (by kernel_rfl) (d := (some 3)) (by kernel_rfl) (fun b => rfl) (fun b1 w2 hb3 H4 K5 hs6 => ?_)
  have nb1 : w.heap.size ≤ b1 := by have := K0.size; omega
  have K7 := K0.trans K5 (U := none_) (fun i h1 h2 => h2) (fun i h1 h2 => by exact h2)
  clear K0
  clear K5 hs6
  refine Ops.regs 1 [(0, v), (3, (Value.pointer (some ⟨b1, 0, none⟩))), (4, (Value.slice none 0 0))] (j := 2) (by kernel_rfl) (by kernel_rfl) ?_
  refine Ops.done (by kernel_rfl) ?_
  refine q_seq (by kernel_rfl) ?_
  refine q_draw (fun wz => Keeps none_ w2 wz) 11 (by kernel_rfl) (by kernel_rfl) (by kernel_rfl) (fun w8 K9 _ _ => ⟨K9, ?_⟩)
  have K10 := K7.trans K9 (U := none_) (fun i h1 h2 => h2) (fun i h1 h2 => by exact h2)
  clear K7
  have H11 := H4.keep K9 (fun h => h)
  clear H4
  refine Dr.strong (S' := (fun wz => Keeps none_ w8 wz)) (Keeps.refl w8) (fun wz hx => K9.trans hx (fun i _ h => h) (fun _ _ h => h)) ?_
  clear K9
  refine Dr.takes (fuel' := 9) (is' := [1, 0]) [0, 1] [(0, v), (3, (Value.pointer (some ⟨b1, 0, none⟩))), (4, (Value.slice none 0 0)), (5, v), (6, (Value.pointer (some ⟨b1, 0, none⟩)))] (by kernel_rfl) rfl (by kernel_rfl) ?_
  refine Dr.take (i := 2) (v := (i64 o.kind)) (by kernel_rfl) (by kernel_rfl) (fun wz hS => Runs.load (t := 3) (a := ⟨b1, 0, none⟩) (by kernel_rfl) ((H11.keep hS (fun h => h)).loads (by kernel_rfl))) (d := (some 7)) (by kernel_rfl) rfl ?_
  refine Dr.takes (fuel' := 7) (is' := [4, 2, 1, 0]) [4] [(0, v), (3, (Value.pointer (some ⟨b1, 0, none⟩))), (4, (Value.slice none 0 0)), (5, v), (7, (i64 o.kind)), (9, (Value.pointer (some ⟨b1, 1, none⟩)))] (by kernel_rfl) rfl (by kernel_rfl) ?_
  refine Dr.take (i := 5) (v := (Value.string (str o.frm))) (by kernel_rfl) (by kernel_rfl) (fun wz hS => Runs.load (t := 9) (a := ⟨b1, 1, none⟩) (by kernel_rfl) ((H11.keep hS (fun h => h)).loads (by kernel_rfl))) (d := (some 10)) (by kernel_rfl) rfl ?_
  refine Dr.takes (fuel' := 5) (is' := [7, 5, 4, 2, 1, 0]) [7] [(0, v), (3, (Value.pointer (some ⟨b1, 0, none⟩))), (4, (Value.slice none 0 0)), (5, v), (7, (i64 o.kind)), (10, (Value.string (str o.frm))), (12, (Value.pointer (some ⟨b1, 2, none⟩)))] (by kernel_rfl) rfl (by kernel_rfl) ?_
  refine Dr.take (i := 8) (v := (Value.string (str o.to))) (by kernel_rfl) (by kernel_rfl) (fun wz hS => Runs.load (t := 9) (a := ⟨b1, 2, none⟩) (by kernel_rfl) ((H11.keep hS (fun h => h)).loads (by kernel_rfl))) (d := (some 13)) (by kernel_rfl) rfl ?_
  refine Dr.call (i := 3) (by kernel_rfl) (by kernel_rfl) (d := (some 8)) (by kernel_rfl) (fun _ => Int_calls _ v xs o.kind (hv.keep0 (by omega) K10) (by omega) (by (try simp only at *); (try simp only [List.length_append] at *); (try simp only [List.length_cons] at *); (try simp only [List.length_nil] at *); omega)) ?_
  rintro _ w14 ⟨v13, rfl, K15, hO16⟩
  have O17 := own_base hO16 K10.size
  clear hO16
  have hL12 := iv_length_10 (n := o.kind) (by omega)
  have K18 := K10.trans K15 (U := none_) (fun i h1 h2 => h2) (fun i h1 h2 => by exact h2)
  clear K10
  have H19 := H11.keep K15 (fun h => h)
  clear H11
  refine ⟨_, _, rfl, rfl, K15, ?_⟩
  refine Dr.strong (S' := (fun wz => Keeps none_ w14 wz)) (Keeps.refl w14) (fun wz hx => K15.trans hx (fun i _ h => h) (fun _ _ h => h)) ?_
  clear K15
  refine Dr.call (i := 6) (by kernel_rfl) (by kernel_rfl) (d := (some 11)) (by kernel_rfl) (fun _ => Text_calls _ v13 (xs ++ iv o.kind) o.frm (OwnB.rd O17) (by first | omega | decide) (by (try simp only at *); (try simp only [List.length_append] at *); (try simp only [List.length_cons] at *); (try simp only [List.length_nil] at *); omega)) ?_
  rintro _ w23 ⟨v22, rfl, K24, hO25⟩
  have O26 := own_base hO25 K18.size
  clear hO25
  have hL20 := tv_ge o.frm
  have hL21 := tv_le (s := o.frm) (by first | omega | decide)
  have K27 := K18.trans K24 (U := none_) (fun i h1 h2 => h2) (fun i h1 h2 => by exact h2)
  clear K18
  have H28 := H19.keep K24 (fun h => h)
  clear H19
  have F29 := own_keep0 O17 K24
  clear O17
  refine ⟨_, _, rfl, rfl, K24, ?_⟩
  refine Dr.strong (S' := (fun wz => Keeps none_ w23 wz)) (Keeps.refl w23) (fun wz hx => K24.trans hx (fun i _ h => h) (fun _ _ h => h)) ?_
  clear K24
  refine Dr.call (i := 9) (by kernel_rfl) (by kernel_rfl) (d := (some 14)) (by kernel_rfl) (fun _ => Text_calls _ v22 (xs ++ iv o.kind ++ tv o.frm) o.to (OwnB.rd O26) (by first | omega | decide) (by (try simp only at *); (try simp only [List.length_append] at *); (try simp only [List.length_cons] at *); (try simp only [List.length_nil] at *); omega)) ?_
  rintro _ w33 ⟨v32, rfl, K34, hO35⟩
  have O36 := own_base hO35 K27.size
  clear hO35
  have hL30 := tv_ge o.to
  have hL31 := tv_le (s := o.to) (by first | omega | decide)
  have K37 := K27.trans K34 (U := none_) (fun i h1 h2 => h2) (fun i h1 h2 => by exact h2)
  clear K27
  have H38 := H28.keep K34 (fun h => h)
  clear H28
  have F39 := own_keep0 F29 K34
  clear F29
  have F40 := own_keep0 O26 K34
  clear O26
  refine ⟨_, _, rfl, rfl, K34, ?_⟩
  refine Dr.strong (S' := (fun wz => Keeps none_ w33 wz)) (Keeps.refl w33) (fun wz hx => K34.trans hx (fun i _ h => h) (fun _ _ h => h)) ?_
  clear K34
  refine Dr.takes (fuel' := 0) (is' := [10, 9, 6, 3, 8, 7, 5, 4, 2, 1, 0]) [10] [(0, v32), (3, (Value.pointer (some ⟨b1, 0, none⟩))), (4, (Value.slice none 0 0))] (by kernel_rfl) rfl (by kernel_rfl) ?_
  refine Dr.done (by kernel_rfl) ?_
  refine q_seq (by kernel_rfl) ?_
  refine q_draw (fun wz => Keeps none_ w33 wz) 8 (by kernel_rfl) (by kernel_rfl) (by kernel_rfl) (fun w41 K42 _ _ => ⟨K42, ?_⟩)
  have K43 := K37.trans K42 (U := none_) (fun i h1 h2 => h2) (fun i h1 h2 => by exact h2)
  clear K37
  have H44 := H38.keep K42 (fun h => h)
  clear H38
  have F45 := own_keep0 F39 K42
  clear F39
  have F46 := own_keep0 F40 K42
  clear F40
  have F47 := own_keep0 O36 K42
  clear O36
  refine Dr.strong (S' := (fun wz => Keeps none_ w41 wz)) (Keeps.refl w41) (fun wz hx => K42.trans hx (fun i _ h => h) (fun _ _ h => h)) ?_
  clear K42
  refine Dr.takes (fuel' := 6) (is' := [1, 0]) [0, 1] [(0, v32), (3, (Value.pointer (some ⟨b1, 0, none⟩))), (4, (Value.slice none 0 0)), (15, v32), (16, (Value.pointer (some ⟨b1, 3, none⟩)))] (by kernel_rfl) rfl (by kernel_rfl) ?_
  refine Dr.take (i := 2) (v := (i64 o.amount)) (by kernel_rfl) (by kernel_rfl) (fun wz hS => Runs.load (t := 2) (a := ⟨b1, 3, none⟩) (by kernel_rfl) ((H44.keep hS (fun h => h)).loads (by kernel_rfl))) (d := (some 17)) (by kernel_rfl) rfl ?_
  refine Dr.takes (fuel' := 4) (is' := [4, 2, 1, 0]) [4] [(0, v32), (3, (Value.pointer (some ⟨b1, 0, none⟩))), (4, (Value.slice none 0 0)), (15, v32), (17, (i64 o.amount)), (19, (Value.pointer (some ⟨b1, 4, none⟩)))] (by kernel_rfl) rfl (by kernel_rfl) ?_
  refine Dr.take (i := 5) (v := (Value.string (str o.key))) (by kernel_rfl) (by kernel_rfl) (fun wz hS => Runs.load (t := 9) (a := ⟨b1, 4, none⟩) (by kernel_rfl) ((H44.keep hS (fun h => h)).loads (by kernel_rfl))) (d := (some 20)) (by kernel_rfl) rfl ?_
  refine Dr.call (i := 3) (by kernel_rfl) (by kernel_rfl) (d := (some 18)) (by kernel_rfl) (fun _ => Int_calls _ v32 (xs ++ iv o.kind ++ tv o.frm ++ tv o.to) o.amount (OwnB.rd F47) (by omega) (by (try simp only at *); (try simp only [List.length_append] at *); (try simp only [List.length_cons] at *); (try simp only [List.length_nil] at *); omega)) ?_
  rintro _ w50 ⟨v49, rfl, K51, hO52⟩
  have O53 := own_base hO52 K43.size
  clear hO52
  have hL48 := iv_length_10 (n := o.amount) (by omega)
  have K54 := K43.trans K51 (U := none_) (fun i h1 h2 => h2) (fun i h1 h2 => by exact h2)
  clear K43
  have H55 := H44.keep K51 (fun h => h)
  clear H44
  have F56 := own_keep0 F45 K51
  clear F45
  have F57 := own_keep0 F46 K51
  clear F46
  have F58 := own_keep0 F47 K51
  clear F47
  refine ⟨_, _, rfl, rfl, K51, ?_⟩
  refine Dr.strong (S' := (fun wz => Keeps none_ w50 wz)) (Keeps.refl w50) (fun wz hx => K51.trans hx (fun i _ h => h) (fun _ _ h => h)) ?_
  clear K51
  refine Dr.call (i := 6) (by kernel_rfl) (by kernel_rfl) (d := (some 21)) (by kernel_rfl) (fun _ => Text_calls _ v49 (xs ++ iv o.kind ++ tv o.frm ++ tv o.to ++ iv o.amount) o.key (OwnB.rd O53) (by first | omega | decide) (by (try simp only at *); (try simp only [List.length_append] at *); (try simp only [List.length_cons] at *); (try simp only [List.length_nil] at *); omega)) ?_
  rintro _ w62 ⟨v61, rfl, K63, hO64⟩
  have O65 := own_base hO64 K54.size
  clear hO64
  have hL59 := tv_ge o.key
  have hL60 := tv_le (s := o.key) (by first | omega | decide)
  have K66 := K54.trans K63 (U := none_) (fun i h1 h2 => h2) (fun i h1 h2 => by exact h2)
  clear K54
  have H67 := H55.keep K63 (fun h => h)
  clear H55
  have F68 := own_keep0 F56 K63
  clear F56
  have F69 := own_keep0 F57 K63
  clear F57
  have F70 := own_keep0 F58 K63
  clear F58
  have F71 := own_keep0 O53 K63
  clear O53
  refine ⟨_, _, rfl, rfl, K63, ?_⟩
  refine Dr.strong (S' := (fun wz => Keeps none_ w62 wz)) (Keeps.refl w62) (fun wz hx => K63.trans hx (fun i _ h => h) (fun _ _ h => h)) ?_
  clear K63
  refine Dr.takes (fuel' := 0) (is' := [7, 6, 3, 5, 4, 2, 1, 0]) [7] [(0, v61), (3, (Value.pointer (some ⟨b1, 0, none⟩))), (4, (Value.slice none 0 0))] (by kernel_rfl) rfl (by kernel_rfl) ?_
  refine Dr.done (by kernel_rfl) ?_
  refine q_seq (by kernel_rfl) ?_
  refine q_draw (fun wz => Keeps none_ w62 wz) 8 (by kernel_rfl) (by kernel_rfl) (by kernel_rfl) (fun w72 K73 _ _ => ⟨K73, ?_⟩)
  have K74 := K66.trans K73 (U := none_) (fun i h1 h2 => h2) (fun i h1 h2 => by exact h2)
  clear K66
  have H75 := H67.keep K73 (fun h => h)
  clear H67
  have F76 := own_keep0 F68 K73
  clear F68
  have F77 := own_keep0 F69 K73
  clear F69
  have F78 := own_keep0 F70 K73
  clear F70
  have F79 := own_keep0 F71 K73
  clear F71
  have F80 := own_keep0 O65 K73
  clear O65
  refine Dr.strong (S' := (fun wz => Keeps none_ w72 wz)) (Keeps.refl w72) (fun wz hx => K73.trans hx (fun i _ h => h) (fun _ _ h => h)) ?_
  clear K73
  refine Dr.takes (fuel' := 6) (is' := [1, 0]) [0, 1] [(3, (Value.pointer (some ⟨b1, 0, none⟩))), (4, (Value.slice none 0 0)), (22, v61), (23, (Value.pointer (some ⟨b1, 5, none⟩)))] (by kernel_rfl) rfl (by kernel_rfl) ?_
  refine Dr.take (i := 2) (v := (i64 o.slot)) (by kernel_rfl) (by kernel_rfl) (fun wz hS => Runs.load (t := 3) (a := ⟨b1, 5, none⟩) (by kernel_rfl) ((H75.keep hS (fun h => h)).loads (by kernel_rfl))) (d := (some 24)) (by kernel_rfl) rfl ?_
  refine Dr.takes (fuel' := 4) (is' := [4, 2, 1, 0]) [4] [(4, (Value.slice none 0 0)), (22, v61), (24, (i64 o.slot)), (26, (Value.pointer (some ⟨b1, 6, none⟩)))] (by kernel_rfl) rfl (by kernel_rfl) ?_
  refine Dr.take (i := 5) (v := (i64 o.shard)) (by kernel_rfl) (by kernel_rfl) (fun wz hS => Runs.load (t := 3) (a := ⟨b1, 6, none⟩) (by kernel_rfl) ((H75.keep hS (fun h => h)).loads (by kernel_rfl))) (d := (some 27)) (by kernel_rfl) rfl ?_
  refine Dr.call (i := 3) (by kernel_rfl) (by kernel_rfl) (d := (some 25)) (by kernel_rfl) (fun _ => Int_calls _ v61 (xs ++ iv o.kind ++ tv o.frm ++ tv o.to ++ iv o.amount ++ tv o.key) o.slot (OwnB.rd F80) (by omega) (by (try simp only at *); (try simp only [List.length_append] at *); (try simp only [List.length_cons] at *); (try simp only [List.length_nil] at *); omega)) ?_
  rintro _ w83 ⟨v82, rfl, K84, hO85⟩
  have O86 := own_base hO85 K74.size
  clear hO85
  have hL81 := iv_length_10 (n := o.slot) (by omega)
  have K87 := K74.trans K84 (U := none_) (fun i h1 h2 => h2) (fun i h1 h2 => by exact h2)
  clear K74
  have H88 := H75.keep K84 (fun h => h)
  clear H75
  have F89 := own_keep0 F76 K84
  clear F76
  have F90 := own_keep0 F77 K84
  clear F77
  have F91 := own_keep0 F78 K84
  clear F78
  have F92 := own_keep0 F79 K84
  clear F79
  have F93 := own_keep0 F80 K84
  clear F80
  refine ⟨_, _, rfl, rfl, K84, ?_⟩
  refine Dr.strong (S' := (fun wz => Keeps none_ w83 wz)) (Keeps.refl w83) (fun wz hx => K84.trans hx (fun i _ h => h) (fun _ _ h => h)) ?_
  clear K84
  refine Dr.call (i := 6) (by kernel_rfl) (by kernel_rfl) (d := (some 28)) (by kernel_rfl) (fun _ => Int_calls _ v82 (xs ++ iv o.kind ++ tv o.frm ++ tv o.to ++ iv o.amount ++ tv o.key ++ iv o.slot) o.shard (OwnB.rd O86) (by omega) (by (try simp only at *); (try simp only [List.length_append] at *); (try simp only [List.length_cons] at *); (try simp only [List.length_nil] at *); omega)) ?_
  rintro _ w96 ⟨v95, rfl, K97, hO98⟩
  have O99 := own_base hO98 K87.size
  clear hO98
  have hL94 := iv_length_10 (n := o.shard) (by omega)
  have K100 := K87.trans K97 (U := none_) (fun i h1 h2 => h2) (fun i h1 h2 => by exact h2)
  clear K87
  have H101 := H88.keep K97 (fun h => h)
  clear H88
  have F102 := own_keep0 F89 K97
  clear F89
  have F103 := own_keep0 F90 K97
  clear F90
  have F104 := own_keep0 F91 K97
  clear F91
  have F105 := own_keep0 F92 K97
  clear F92
  have F106 := own_keep0 F93 K97
  clear F93
  have F107 := own_keep0 O86 K97
  clear O86
  refine ⟨_, _, rfl, rfl, K97, ?_⟩
  refine Dr.strong (S' := (fun wz => Keeps none_ w96 wz)) (Keeps.refl w96) (fun wz hx => K97.trans hx (fun i _ h => h) (fun _ _ h => h)) ?_
  clear K97
  refine Dr.takes (fuel' := 0) (is' := [7, 6, 3, 5, 4, 2, 1, 0]) [7] [(4, v95)] (by kernel_rfl) rfl (by kernel_rfl) ?_
  refine Dr.done (by kernel_rfl) ?_
  refine q_ret (by kernel_rfl) ?_
  refine ⟨v95, retv_tmp rfl rfl, ?_⟩
  have hfin : xs ++ iv o.kind ++ tv o.frm ++ tv o.to ++ iv o.amount ++ tv o.key ++ iv o.slot ++ iv o.shard = xs ++ opv o := by simp only [opv, List.append_assoc]
  rw [hfin] at O99
  exact ⟨_, rfl, K100, O99⟩

theorem RPutOp_calls (w : World) (v : Value) (xs : List UInt8) (o : Opm) (hv : RdB w v xs) (ho : o.Ok) (hl : xs.length + (opv o).length ≤ 70368744173568) : Calls Try.prog 33 ⟨[v, (agg [(i64 o.kind), (Value.string (str o.frm)), (Value.string (str o.to)), (i64 o.amount), (Value.string (str o.key)), (i64 o.slot), (i64 o.shard)])]⟩ w (fun e w' => ∃ v', e = .returned v' ∧ Keeps none_ w w' ∧ OwnB w' w.heap.size 5 v' (xs ++ opv o)) := by
  have hol := opv_len o
  have hi1 := ho.kind
  have hi2 := ho.amount
  have hi3 := ho.slot
  have hi4 := ho.shard
  have ht1 := tv_ge o.frm
  have ht2 := tv_ge o.to
  have ht3 := tv_ge o.key
  have K0 : Keeps none_ w w := Keeps.refl w
  refine q_calls Try.func33 (by kernel_rfl) (by kernel_rfl) ?_
  refine q_seq (by kernel_rfl) ?_
  refine q_region (by kernel_rfl) ?_
  refine Ops.new (o := rowL [(i64 o.kind), (Value.string (str o.frm)), (Value.string (str o.to)), (i64 o.amount), (Value.string (str o.key)), (i64 o.slot), (i64 o.shard)] 43) (V := fun b => (Value.pointer (some ⟨b, 0, none⟩))) (by kernel_rfl) (d := (some 3)) (by kernel_rfl) (fun b => rfl) (fun b1 w2 hb3 H4 K5 hs6 => ?_)
  have nb1 : w.heap.size ≤ b1 := by have := K0.size; omega
  have K7 := K0.trans K5 (U := none_) (fun i h1 h2 => h2) (fun i h1 h2 => by exact h2)
  clear K0
  clear K5 hs6
  refine Ops.regs 1 [(0, v), (3, (Value.pointer (some ⟨b1, 0, none⟩))), (4, (Value.slice none 0 0))] (j := 2) (by kernel_rfl) (by kernel_rfl) ?_
  refine Ops.done (by kernel_rfl) ?_
  refine q_seq (by kernel_rfl) ?_
  refine q_region (by kernel_rfl) ?_
  refine Ops.regs 2 [(0, v), (3, (Value.pointer (some ⟨b1, 0, none⟩))), (4, (Value.slice none 0 0)), (5, v), (6, (Value.pointer (some ⟨b1, 0, none⟩)))] (j := 2) (by kernel_rfl) (by kernel_rfl) ?_
  refine Ops.go (v := (i64 o.kind)) (by kernel_rfl) (Runs.load (t := 3) (a := ⟨b1, 0, none⟩) (by kernel_rfl) (H4.loads (by kernel_rfl))) (d := (some 7)) (by kernel_rfl) rfl ?_
  refine Ops.call (by kernel_rfl) (d := (some 8)) (by kernel_rfl) (RInt_calls _ v xs o.kind (hv.keep0 (by omega) K7) (by omega) (by (try simp only at *); (try simp only [List.length_append] at *); (try simp only [List.length_cons] at *); (try simp only [List.length_nil] at *); omega)) ?_
  rintro _ w10 ⟨v9, rfl, K11, hO12⟩
  have O13 := own_base hO12 K7.size
  clear hO12
  have hL8 := iv_length_10 (n := o.kind) (by omega)
  refine ⟨_, _, rfl, rfl, ?_⟩
  have K14 := K7.trans K11 (U := none_) (fun i h1 h2 => h2) (fun i h1 h2 => by exact h2)
  clear K7
  have H15 := H4.keep K11 (fun h => h)
  clear H4
  clear K11
  refine Ops.regs 1 [(0, v9), (3, (Value.pointer (some ⟨b1, 0, none⟩))), (4, (Value.slice none 0 0))] (j := 5) (by kernel_rfl) (by kernel_rfl) ?_
  refine Ops.done (by kernel_rfl) ?_
  refine q_seq (by kernel_rfl) ?_
  refine q_region (by kernel_rfl) ?_
  refine Ops.regs 2 [(0, v9), (3, (Value.pointer (some ⟨b1, 0, none⟩))), (4, (Value.slice none 0 0)), (9, v9), (10, (Value.pointer (some ⟨b1, 1, none⟩)))] (j := 2) (by kernel_rfl) (by kernel_rfl) ?_
  refine Ops.go (v := (Value.string (str o.frm))) (by kernel_rfl) (Runs.load (t := 9) (a := ⟨b1, 1, none⟩) (by kernel_rfl) (H15.loads (by kernel_rfl))) (d := (some 11)) (by kernel_rfl) rfl ?_
  refine Ops.call (by kernel_rfl) (d := (some 12)) (by kernel_rfl) (RText_calls _ v9 (xs ++ iv o.kind) o.frm (OwnB.rd O13) (by first | omega | decide) (by (try simp only at *); (try simp only [List.length_append] at *); (try simp only [List.length_cons] at *); (try simp only [List.length_nil] at *); omega)) ?_
  rintro _ w19 ⟨v18, rfl, K20, hO21⟩
  have O22 := own_base hO21 K14.size
  clear hO21
  have hL16 := tv_ge o.frm
  have hL17 := tv_le (s := o.frm) (by first | omega | decide)
  refine ⟨_, _, rfl, rfl, ?_⟩
  have K23 := K14.trans K20 (U := none_) (fun i h1 h2 => h2) (fun i h1 h2 => by exact h2)
  clear K14
  have H24 := H15.keep K20 (fun h => h)
  clear H15
  have F25 := own_keep0 O13 K20
  clear O13
  clear K20
  refine Ops.regs 1 [(0, v18), (3, (Value.pointer (some ⟨b1, 0, none⟩))), (4, (Value.slice none 0 0))] (j := 5) (by kernel_rfl) (by kernel_rfl) ?_
  refine Ops.done (by kernel_rfl) ?_
  refine q_seq (by kernel_rfl) ?_
  refine q_region (by kernel_rfl) ?_
  refine Ops.regs 2 [(0, v18), (3, (Value.pointer (some ⟨b1, 0, none⟩))), (4, (Value.slice none 0 0)), (13, v18), (14, (Value.pointer (some ⟨b1, 2, none⟩)))] (j := 2) (by kernel_rfl) (by kernel_rfl) ?_
  refine Ops.go (v := (Value.string (str o.to))) (by kernel_rfl) (Runs.load (t := 9) (a := ⟨b1, 2, none⟩) (by kernel_rfl) (H24.loads (by kernel_rfl))) (d := (some 15)) (by kernel_rfl) rfl ?_
  refine Ops.call (by kernel_rfl) (d := (some 16)) (by kernel_rfl) (RText_calls _ v18 (xs ++ iv o.kind ++ tv o.frm) o.to (OwnB.rd O22) (by first | omega | decide) (by (try simp only at *); (try simp only [List.length_append] at *); (try simp only [List.length_cons] at *); (try simp only [List.length_nil] at *); omega)) ?_
  rintro _ w29 ⟨v28, rfl, K30, hO31⟩
  have O32 := own_base hO31 K23.size
  clear hO31
  have hL26 := tv_ge o.to
  have hL27 := tv_le (s := o.to) (by first | omega | decide)
  refine ⟨_, _, rfl, rfl, ?_⟩
  have K33 := K23.trans K30 (U := none_) (fun i h1 h2 => h2) (fun i h1 h2 => by exact h2)
  clear K23
  have H34 := H24.keep K30 (fun h => h)
  clear H24
  have F35 := own_keep0 F25 K30
  clear F25
  have F36 := own_keep0 O22 K30
  clear O22
  clear K30
  refine Ops.regs 1 [(0, v28), (3, (Value.pointer (some ⟨b1, 0, none⟩))), (4, (Value.slice none 0 0))] (j := 5) (by kernel_rfl) (by kernel_rfl) ?_
  refine Ops.done (by kernel_rfl) ?_
  refine q_seq (by kernel_rfl) ?_
  refine q_region (by kernel_rfl) ?_
  refine Ops.regs 2 [(0, v28), (3, (Value.pointer (some ⟨b1, 0, none⟩))), (4, (Value.slice none 0 0)), (17, v28), (18, (Value.pointer (some ⟨b1, 3, none⟩)))] (j := 2) (by kernel_rfl) (by kernel_rfl) ?_
  refine Ops.go (v := (i64 o.amount)) (by kernel_rfl) (Runs.load (t := 2) (a := ⟨b1, 3, none⟩) (by kernel_rfl) (H34.loads (by kernel_rfl))) (d := (some 19)) (by kernel_rfl) rfl ?_
  refine Ops.call (by kernel_rfl) (d := (some 20)) (by kernel_rfl) (RInt_calls _ v28 (xs ++ iv o.kind ++ tv o.frm ++ tv o.to) o.amount (OwnB.rd O32) (by omega) (by (try simp only at *); (try simp only [List.length_append] at *); (try simp only [List.length_cons] at *); (try simp only [List.length_nil] at *); omega)) ?_
  rintro _ w39 ⟨v38, rfl, K40, hO41⟩
  have O42 := own_base hO41 K33.size
  clear hO41
  have hL37 := iv_length_10 (n := o.amount) (by omega)
  refine ⟨_, _, rfl, rfl, ?_⟩
  have K43 := K33.trans K40 (U := none_) (fun i h1 h2 => h2) (fun i h1 h2 => by exact h2)
  clear K33
  have H44 := H34.keep K40 (fun h => h)
  clear H34
  have F45 := own_keep0 F35 K40
  clear F35
  have F46 := own_keep0 F36 K40
  clear F36
  have F47 := own_keep0 O32 K40
  clear O32
  clear K40
  refine Ops.regs 1 [(0, v38), (3, (Value.pointer (some ⟨b1, 0, none⟩))), (4, (Value.slice none 0 0))] (j := 5) (by kernel_rfl) (by kernel_rfl) ?_
  refine Ops.done (by kernel_rfl) ?_
  refine q_seq (by kernel_rfl) ?_
  refine q_region (by kernel_rfl) ?_
  refine Ops.regs 2 [(0, v38), (3, (Value.pointer (some ⟨b1, 0, none⟩))), (4, (Value.slice none 0 0)), (21, v38), (22, (Value.pointer (some ⟨b1, 4, none⟩)))] (j := 2) (by kernel_rfl) (by kernel_rfl) ?_
  refine Ops.go (v := (Value.string (str o.key))) (by kernel_rfl) (Runs.load (t := 9) (a := ⟨b1, 4, none⟩) (by kernel_rfl) (H44.loads (by kernel_rfl))) (d := (some 23)) (by kernel_rfl) rfl ?_
  refine Ops.call (by kernel_rfl) (d := (some 24)) (by kernel_rfl) (RText_calls _ v38 (xs ++ iv o.kind ++ tv o.frm ++ tv o.to ++ iv o.amount) o.key (OwnB.rd O42) (by first | omega | decide) (by (try simp only at *); (try simp only [List.length_append] at *); (try simp only [List.length_cons] at *); (try simp only [List.length_nil] at *); omega)) ?_
  rintro _ w51 ⟨v50, rfl, K52, hO53⟩
  have O54 := own_base hO53 K43.size
  clear hO53
  have hL48 := tv_ge o.key
  have hL49 := tv_le (s := o.key) (by first | omega | decide)
  refine ⟨_, _, rfl, rfl, ?_⟩
  have K55 := K43.trans K52 (U := none_) (fun i h1 h2 => h2) (fun i h1 h2 => by exact h2)
  clear K43
  have H56 := H44.keep K52 (fun h => h)
  clear H44
  have F57 := own_keep0 F45 K52
  clear F45
  have F58 := own_keep0 F46 K52
  clear F46
  have F59 := own_keep0 F47 K52
  clear F47
  have F60 := own_keep0 O42 K52
  clear O42
  clear K52
  refine Ops.regs 1 [(0, v50), (3, (Value.pointer (some ⟨b1, 0, none⟩))), (4, (Value.slice none 0 0))] (j := 5) (by kernel_rfl) (by kernel_rfl) ?_
  refine Ops.done (by kernel_rfl) ?_
  refine q_seq (by kernel_rfl) ?_
  refine q_region (by kernel_rfl) ?_
  refine Ops.regs 2 [(0, v50), (3, (Value.pointer (some ⟨b1, 0, none⟩))), (4, (Value.slice none 0 0)), (25, v50), (26, (Value.pointer (some ⟨b1, 5, none⟩)))] (j := 2) (by kernel_rfl) (by kernel_rfl) ?_
  refine Ops.go (v := (i64 o.slot)) (by kernel_rfl) (Runs.load (t := 3) (a := ⟨b1, 5, none⟩) (by kernel_rfl) (H56.loads (by kernel_rfl))) (d := (some 27)) (by kernel_rfl) rfl ?_
  refine Ops.call (by kernel_rfl) (d := (some 28)) (by kernel_rfl) (RInt_calls _ v50 (xs ++ iv o.kind ++ tv o.frm ++ tv o.to ++ iv o.amount ++ tv o.key) o.slot (OwnB.rd O54) (by omega) (by (try simp only at *); (try simp only [List.length_append] at *); (try simp only [List.length_cons] at *); (try simp only [List.length_nil] at *); omega)) ?_
  rintro _ w63 ⟨v62, rfl, K64, hO65⟩
  have O66 := own_base hO65 K55.size
  clear hO65
  have hL61 := iv_length_10 (n := o.slot) (by omega)
  refine ⟨_, _, rfl, rfl, ?_⟩
  have K67 := K55.trans K64 (U := none_) (fun i h1 h2 => h2) (fun i h1 h2 => by exact h2)
  clear K55
  have H68 := H56.keep K64 (fun h => h)
  clear H56
  have F69 := own_keep0 F57 K64
  clear F57
  have F70 := own_keep0 F58 K64
  clear F58
  have F71 := own_keep0 F59 K64
  clear F59
  have F72 := own_keep0 F60 K64
  clear F60
  have F73 := own_keep0 O54 K64
  clear O54
  clear K64
  refine Ops.regs 1 [(0, v62), (3, (Value.pointer (some ⟨b1, 0, none⟩))), (4, (Value.slice none 0 0))] (j := 5) (by kernel_rfl) (by kernel_rfl) ?_
  refine Ops.done (by kernel_rfl) ?_
  refine q_seq (by kernel_rfl) ?_
  refine q_region (by kernel_rfl) ?_
  refine Ops.regs 2 [(4, (Value.slice none 0 0)), (29, v62), (30, (Value.pointer (some ⟨b1, 6, none⟩)))] (j := 2) (by kernel_rfl) (by kernel_rfl) ?_
  refine Ops.go (v := (i64 o.shard)) (by kernel_rfl) (Runs.load (t := 3) (a := ⟨b1, 6, none⟩) (by kernel_rfl) (H68.loads (by kernel_rfl))) (d := (some 31)) (by kernel_rfl) rfl ?_
  refine Ops.call (by kernel_rfl) (d := (some 32)) (by kernel_rfl) (RInt_calls _ v62 (xs ++ iv o.kind ++ tv o.frm ++ tv o.to ++ iv o.amount ++ tv o.key ++ iv o.slot) o.shard (OwnB.rd O66) (by omega) (by (try simp only at *); (try simp only [List.length_append] at *); (try simp only [List.length_cons] at *); (try simp only [List.length_nil] at *); omega)) ?_
  rintro _ w76 ⟨v75, rfl, K77, hO78⟩
  have O79 := own_base hO78 K67.size
  clear hO78
  have hL74 := iv_length_10 (n := o.shard) (by omega)
  refine ⟨_, _, rfl, rfl, ?_⟩
  have K80 := K67.trans K77 (U := none_) (fun i h1 h2 => h2) (fun i h1 h2 => by exact h2)
  clear K67
  have H81 := H68.keep K77 (fun h => h)
  clear H68
  have F82 := own_keep0 F69 K77
  clear F69
  have F83 := own_keep0 F70 K77
  clear F70
  have F84 := own_keep0 F71 K77
  clear F71
  have F85 := own_keep0 F72 K77
  clear F72
  have F86 := own_keep0 F73 K77
  clear F73
  have F87 := own_keep0 O66 K77
  clear O66
  clear K77
  refine Ops.regs 1 [(4, v75)] (j := 5) (by kernel_rfl) (by kernel_rfl) ?_
  refine Ops.done (by kernel_rfl) ?_
  refine q_ret (by kernel_rfl) ?_
  refine ⟨v75, retv_tmp rfl rfl, ?_⟩
  have hfin : xs ++ iv o.kind ++ tv o.frm ++ tv o.to ++ iv o.amount ++ tv o.key ++ iv o.slot ++ iv o.shard = xs ++ opv o := by simp only [opv, List.append_assoc]
  rw [hfin] at O79
  exact ⟨_, rfl, K80, O79⟩

theorem PutReply_calls (w : World) (v : Value) (xs : List UInt8) (p : ReplyM) (A : Option Addr) (c : Nat) (hv : RdB w v xs) (hpo : p.Ok) (hp : RdR w (.slice A p.rows.length c) p.rows) (hl : xs.length + (rpv p).length ≤ 70368744173568) : Calls Try.prog 34 ⟨[v, (agg [(i64 p.why), (i64 p.amount), (Value.slice A p.rows.length c)])]⟩ w (fun e w' => ∃ v', e = .returned v' ∧ Keeps none_ w w' ∧ OwnB w' w.heap.size 5 v' (xs ++ rpv p)) := by
  have hpl := rpv_len p
  have hi1 := hpo.why
  have hi2 := hpo.amount
  have hrl := (RdT.len RowM.two (by decide) hp).2
  unfold maxLen at hrl
  have hge := rowsv_ge p.rows
  have K0 : Keeps none_ w w := Keeps.refl w
  refine q_calls Try.func34 (by kernel_rfl) (by kernel_rfl) ?_
  refine q_seq (by kernel_rfl) ?_
  refine q_region (by kernel_rfl) ?_
  refine Ops.new (o := rowL [(i64 p.why), (i64 p.amount), (Value.slice A p.rows.length c)] 46) (V := fun b => (Value.pointer (some ⟨b, 0, none⟩))) (by kernel_rfl) (d := (some 3)) (by kernel_rfl) (fun b => rfl) (fun b1 w2 hb3 H4 K5 hs6 => ?_)
  have nb1 : w.heap.size ≤ b1 := by have := K0.size; omega
  have K7 := K0.trans K5 (U := none_) (fun i h1 h2 => h2) (fun i h1 h2 => by exact h2)
  clear K0
  clear K5 hs6
  refine Ops.regs 1 [(0, v), (3, (Value.pointer (some ⟨b1, 0, none⟩))), (4, (Value.slice none 0 0))] (j := 2) (by kernel_rfl) (by kernel_rfl) ?_
  refine Ops.done (by kernel_rfl) ?_
  refine q_seq (by kernel_rfl) ?_
  refine q_draw (fun wz => Keeps none_ w2 wz) 13 (by kernel_rfl) (by kernel_rfl) (by kernel_rfl) (fun w8 K9 _ _ => ⟨K9, ?_⟩)
  have K10 := K7.trans K9 (U := none_) (fun i h1 h2 => h2) (fun i h1 h2 => by exact h2)
  clear K7
  have H11 := H4.keep K9 (fun h => h)
  clear H4
  refine Dr.strong (S' := (fun wz => Keeps none_ w8 wz)) (Keeps.refl w8) (fun wz hx => K9.trans hx (fun i _ h => h) (fun _ _ h => h)) ?_
  clear K9
  refine Dr.takes (fuel' := 11) (is' := [1, 0]) [0, 1] [(0, v), (3, (Value.pointer (some ⟨b1, 0, none⟩))), (4, (Value.slice none 0 0)), (7, v), (8, (Value.pointer (some ⟨b1, 0, none⟩)))] (by kernel_rfl) rfl (by kernel_rfl) ?_
  refine Dr.take (i := 2) (v := (i64 p.why)) (by kernel_rfl) (by kernel_rfl) (fun wz hS => Runs.load (t := 28) (a := ⟨b1, 0, none⟩) (by kernel_rfl) ((H11.keep hS (fun h => h)).loads (by kernel_rfl))) (d := (some 9)) (by kernel_rfl) rfl ?_
  refine Dr.takes (fuel' := 9) (is' := [4, 2, 1, 0]) [4] [(0, v), (3, (Value.pointer (some ⟨b1, 0, none⟩))), (4, (Value.slice none 0 0)), (7, v), (9, (i64 p.why)), (11, (Value.pointer (some ⟨b1, 1, none⟩)))] (by kernel_rfl) rfl (by kernel_rfl) ?_
  refine Dr.take (i := 5) (v := (i64 p.amount)) (by kernel_rfl) (by kernel_rfl) (fun wz hS => Runs.load (t := 2) (a := ⟨b1, 1, none⟩) (by kernel_rfl) ((H11.keep hS (fun h => h)).loads (by kernel_rfl))) (d := (some 12)) (by kernel_rfl) rfl ?_
  refine Dr.takes (fuel' := 7) (is' := [7, 5, 4, 2, 1, 0]) [7] [(0, v), (3, (Value.pointer (some ⟨b1, 0, none⟩))), (4, (Value.slice none 0 0)), (7, v), (9, (i64 p.why)), (12, (i64 p.amount)), (14, (Value.pointer (some ⟨b1, 2, none⟩)))] (by kernel_rfl) rfl (by kernel_rfl) ?_
  refine Dr.take (i := 8) (v := (Value.slice A p.rows.length c)) (by kernel_rfl) (by kernel_rfl) (fun wz hS => Runs.load (t := 44) (a := ⟨b1, 2, none⟩) (by kernel_rfl) ((H11.keep hS (fun h => h)).loads (by kernel_rfl))) (d := (some 15)) (by kernel_rfl) rfl ?_
  refine Dr.takes (fuel' := 4) (is' := [10, 9, 8, 7, 5, 4, 2, 1, 0]) [9, 10] [(0, v), (3, (Value.pointer (some ⟨b1, 0, none⟩))), (4, (Value.slice none 0 0)), (7, v), (9, (i64 p.why)), (12, (i64 p.amount)), (17, (Value.int IntKind.u64 (IntKind.u64.wrap (((p.rows.length : Nat) : Int)))))] (by kernel_rfl) rfl (by kernel_rfl) ?_
  have e12 : IntKind.u64.wrap (((p.rows.length : Nat) : Int)) = ((p.rows.length : Nat) : Int) := wrap_u64 (by omega) (by omega)
  rw [e12]
  refine Dr.call (i := 3) (by kernel_rfl) (by kernel_rfl) (d := (some 10)) (by kernel_rfl) (fun _ => Int_calls _ v xs p.why (hv.keep0 (by omega) K10) (by omega) (by (try simp only at *); (try simp only [List.length_append] at *); (try simp only [List.length_cons] at *); (try simp only [List.length_nil] at *); omega)) ?_
  rintro _ w15 ⟨v14, rfl, K16, hO17⟩
  have O18 := own_base hO17 K10.size
  clear hO17
  have hL13 := iv_length_10 (n := p.why) (by omega)
  have K19 := K10.trans K16 (U := none_) (fun i h1 h2 => h2) (fun i h1 h2 => by exact h2)
  clear K10
  have H20 := H11.keep K16 (fun h => h)
  clear H11
  refine ⟨_, _, rfl, rfl, K16, ?_⟩
  refine Dr.strong (S' := (fun wz => Keeps none_ w15 wz)) (Keeps.refl w15) (fun wz hx => K16.trans hx (fun i _ h => h) (fun _ _ h => h)) ?_
  clear K16
  refine Dr.call (i := 6) (by kernel_rfl) (by kernel_rfl) (d := (some 13)) (by kernel_rfl) (fun _ => Int_calls _ v14 (xs ++ iv p.why) p.amount (OwnB.rd O18) (by omega) (by (try simp only at *); (try simp only [List.length_append] at *); (try simp only [List.length_cons] at *); (try simp only [List.length_nil] at *); omega)) ?_
  rintro _ w23 ⟨v22, rfl, K24, hO25⟩
  have O26 := own_base hO25 K19.size
  clear hO25
  have hL21 := iv_length_10 (n := p.amount) (by omega)
  have K27 := K19.trans K24 (U := none_) (fun i h1 h2 => h2) (fun i h1 h2 => by exact h2)
  clear K19
  have H28 := H20.keep K24 (fun h => h)
  clear H20
  have F29 := own_keep0 O18 K24
  clear O18
  refine ⟨_, _, rfl, rfl, K24, ?_⟩
  refine Dr.strong (S' := (fun wz => Keeps none_ w23 wz)) (Keeps.refl w23) (fun wz hx => K24.trans hx (fun i _ h => h) (fun _ _ h => h)) ?_
  clear K24
  refine Dr.call (i := 11) (by kernel_rfl) (by kernel_rfl) (d := (some 18)) (by kernel_rfl) (fun _ => Uint_calls _ v22 (xs ++ iv p.why ++ iv p.amount) p.rows.length (OwnB.rd O26) (by omega) (by (try simp only at *); (try simp only [List.length_append] at *); (try simp only [List.length_cons] at *); (try simp only [List.length_nil] at *); omega)) ?_
  rintro _ w32 ⟨v31, rfl, K33, hO34⟩
  have O35 := own_base hO34 K27.size
  clear hO34
  have hL30 := uv_length_10 (n := p.rows.length) (by omega)
  have K36 := K27.trans K33 (U := none_) (fun i h1 h2 => h2) (fun i h1 h2 => by exact h2)
  clear K27
  have H37 := H28.keep K33 (fun h => h)
  clear H28
  have F38 := own_keep0 F29 K33
  clear F29
  have F39 := own_keep0 O26 K33
  clear O26
  refine ⟨_, _, rfl, rfl, K33, ?_⟩
  refine Dr.strong (S' := (fun wz => Keeps none_ w32 wz)) (Keeps.refl w32) (fun wz hx => K33.trans hx (fun i _ h => h) (fun _ _ h => h)) ?_
  clear K33
  refine Dr.takes (fuel' := 0) (is' := [12, 11, 6, 3, 10, 9, 8, 7, 5, 4, 2, 1, 0]) [12] [(0, v31), (3, (Value.pointer (some ⟨b1, 0, none⟩))), (4, (Value.slice none 0 0))] (by kernel_rfl) rfl (by kernel_rfl) ?_
  refine Dr.done (by kernel_rfl) ?_
  refine q_seq (by kernel_rfl) ?_
  refine q_seq (by kernel_rfl) ?_
  refine q_region (by kernel_rfl) ?_
  refine Ops.regs 1 [(0, v31), (4, (Value.slice none 0 0)), (19, (Value.pointer (some ⟨b1, 2, none⟩)))] (j := 1) (by kernel_rfl) (by kernel_rfl) ?_
  refine Ops.go (v := (Value.slice A p.rows.length c)) (by kernel_rfl) (Runs.load (t := 44) (a := ⟨b1, 2, none⟩) (by kernel_rfl) (H37.loads (by kernel_rfl))) (d := (some 20)) (by kernel_rfl) rfl ?_
  refine Ops.regs 2 [(0, v31), (4, (Value.slice none 0 0)), (20, (Value.slice A p.rows.length c)), (21, (i64 ((p.rows.length : Nat) : Int))), (22, (i64 0))] (j := 4) (by kernel_rfl) (by kernel_rfl) ?_
  refine Ops.done (by kernel_rfl) ?_
  refine q_block (id := 0) (by kernel_rfl) ?_
  refine q_keep (R := [(0, v31), (4, (Value.slice none 0 0)), (20, (Value.slice A p.rows.length c)), (21, (i64 ((p.rows.length : Nat) : Int))), (22, (i64 0))]) (by kernel_rfl) ?_
  refine q_loop (fun (gs : Value × Nat × (List UInt8)) L (wx : World) => match gs with | (u, i, ys) => L = [(0, u), (4, (Value.slice none 0 0)), (20, (Value.slice A p.rows.length c)), (21, (i64 ((p.rows.length : Nat) : Int))), (22, (i64 ((i : Nat) : Int)))] ∧ OwnB wx w.heap.size 5 u ys ∧ ys = xs ++ (iv p.why ++ (iv p.amount ++ (uv p.rows.length ++ rowsv (p.rows.take i)))) ∧ i ≤ p.rows.length ∧ Keeps none_ w wx ∧ Has wx b1 (rowL [(i64 p.why), (i64 p.amount), (Value.slice A p.rows.length c)] 46)) (fun (gs : Value × Nat × (List UInt8)) => match gs with | (u, i, ys) => p.rows.length - i) (v31, 0, xs ++ iv p.why ++ iv p.amount ++ uv p.rows.length) (by kernel_rfl) ⟨rfl, O35, (by simp [rowsv]), Nat.zero_le _, K36, H37⟩ ?_
  clear H37 F38 F39 O35 K36
  rintro ⟨u, i, ys⟩ _ w40 ⟨rfl, hU, hE, hi, K41, H42⟩
  have hyl := congrArg List.length hE
  simp only [List.length_append] at hyl
  have htl0 := rowsv_take_le p.rows i
  refine q_seq (by kernel_rfl) ?_
  refine q_region (by kernel_rfl) ?_
  refine Ops.regs 1 [(0, u), (4, (Value.slice none 0 0)), (20, (Value.slice A p.rows.length c)), (21, (i64 ((p.rows.length : Nat) : Int))), (22, (i64 ((i : Nat) : Int))), (23, (Value.bool (decide (((i : Nat) : Int) < ((p.rows.length : Nat) : Int)))))] (j := 1) (by kernel_rfl) (by kernel_rfl) ?_
  refine Ops.done (by kernel_rfl) ?_
  refine q_seq (by kernel_rfl) ?_
  refine q_cond (o := .tmp 23) (b := (decide (((i : Nat) : Int) < ((p.rows.length : Nat) : Int)))) (by kernel_rfl) rfl (fun h43 => ?_) (fun h43 => ?_)
  · rw [h43]
    have p44 : ((i : Nat) : Int) < ((p.rows.length : Nat) : Int) := of_decide_eq_true h43
    obtain ⟨rb45, ro46, x, hA47, hx48⟩ := RdT.open (Rd.keep0 (by omega) hp K41) rfl (k := i) (by omega)
    have hX := hx48
    have hxr := hpo.rows x (List.mem_of_getElem? hX)
    have htk := congrArg List.length (rowsv_take hX)
    simp only [List.length_append] at htk
    have htl := rowsv_take_le p.rows (i + 1)
    have htg := tv_ge x.name
    refine q_skip (by kernel_rfl) ?_
    refine q_seq (by kernel_rfl) ?_
    refine q_block (id := 1) (by kernel_rfl) ?_
    refine q_seq (by kernel_rfl) ?_
    refine q_region (by kernel_rfl) ?_
    refine Ops.go (by kernel_rfl) (Runs.ixSliceE (k := IntKind.i64) (t := 44) (len := p.rows.length) (cap := c) (s := 2) (off' := ro46 + i * 2) (i := ((i : Nat) : Int)) hA47 (by kernel_rfl) (by kernel_rfl) (by omega) (by omega) (by omega)) (d := (some 24)) (by kernel_rfl) rfl ?_
    refine Ops.go (v := (agg [(Value.string (str x.name)), (i64 x.amount)])) (by kernel_rfl) (Runs.load (t := 82) (a := ⟨rb45, ro46 + i * 2, none⟩) (by kernel_rfl) (RdT.ld (f := RowM.cells) (x := x) RowM.two (Rd.keep0 (by omega) hp K41) (by kernel_rfl) (by kernel_rfl) hA47 hx48)) (d := (some 25)) (by kernel_rfl) rfl ?_
    refine Ops.new (o := rowL [(Value.string ByteArray.empty), (i64 0)] 82) (V := fun b => (Value.pointer (some ⟨b, 0, none⟩))) (by kernel_rfl) (d := (some 6)) (by kernel_rfl) (fun b => rfl) (fun b49 w50 hb51 H52 K53 hs54 => ?_)
    have lb49 : b1 < b49 := by have := H42.lt; omega
    have nb49 : w.heap.size ≤ b49 := by have := K41.size; omega
    have ob55 : ∀ i, (u).ownBlock = some i → i < b49 := fun i hi => by have := (World.ownsRow.lt hU i hi).2; omega
    have K56 := K41.trans K53 (U := none_) (fun i h1 h2 => h2) (fun i h1 h2 => by exact h2)
    clear K41
    have H57 := H42.keep K53 (fun h => h)
    clear H42
    have F58 := own_keep0 hU K53
    clear hU
    clear K53 hs54
    refine Ops.put (t := 82) (b := b49) (off := 0) (v := (agg [(Value.string (str x.name)), (i64 x.amount)])) (ys := [(Value.string (str x.name)), (i64 x.amount)]) (by kernel_rfl) (by kernel_rfl) H52 (by kernel_rfl) (d := none) (by kernel_rfl) rfl (fun w59 H60 K61 => ?_)
    clear H52
    have K62 := K56.trans K61 (U := none_) (fun i h1 h2 => h2) (fun i h1 h2 => by have h2 : i = b49 := h2; exfalso; omega)
    clear K56
    have H63 := H57.keep K61 (by intro h; change b1 = b49 at h; omega)
    clear H57
    have F64 := own_keep F58 K61 (fun i hi hs => by have hs : i = b49 := hs; have := ob55 i hi; omega)
    clear F58
    clear K61
    refine Ops.done (by kernel_rfl) ?_
    refine q_draw (fun wz => Keeps none_ w59 wz) 8 (by kernel_rfl) (by kernel_rfl) (by kernel_rfl) (fun w65 K66 _ _ => ⟨K66, ?_⟩)
    have K67 := K62.trans K66 (U := none_) (fun i h1 h2 => h2) (fun i h1 h2 => by exact h2)
    clear K62
    have H68 := H63.keep K66 (fun h => h)
    clear H63
    have H69 := H60.keep K66 (fun h => h)
    clear H60
    have F70 := own_keep0 F64 K66
    clear F64
    refine Dr.strong (S' := (fun wz => Keeps none_ w65 wz)) (Keeps.refl w65) (fun wz hx => K66.trans hx (fun i _ h => h) (fun _ _ h => h)) ?_
    clear K66
    refine Dr.takes (fuel' := 6) (is' := [1, 0]) [0, 1] [(0, u), (4, (Value.slice none 0 0)), (6, (Value.pointer (some ⟨b49, 0, none⟩))), (20, (Value.slice A p.rows.length c)), (21, (i64 ((p.rows.length : Nat) : Int))), (22, (i64 ((i : Nat) : Int))), (23, (Value.bool true)), (26, u), (27, (Value.pointer (some ⟨b49, 0, none⟩)))] (by kernel_rfl) rfl (by kernel_rfl) ?_
    refine Dr.take (i := 2) (v := (Value.string (str x.name))) (by kernel_rfl) (by kernel_rfl) (fun wz hS => Runs.load (t := 9) (a := ⟨b49, 0, none⟩) (by kernel_rfl) ((H69.keep hS (fun h => h)).loads (by kernel_rfl))) (d := (some 28)) (by kernel_rfl) rfl ?_
    refine Dr.takes (fuel' := 4) (is' := [4, 2, 1, 0]) [4] [(0, u), (4, (Value.slice none 0 0)), (6, (Value.pointer (some ⟨b49, 0, none⟩))), (20, (Value.slice A p.rows.length c)), (21, (i64 ((p.rows.length : Nat) : Int))), (22, (i64 ((i : Nat) : Int))), (23, (Value.bool true)), (26, u), (28, (Value.string (str x.name))), (30, (Value.pointer (some ⟨b49, 1, none⟩)))] (by kernel_rfl) rfl (by kernel_rfl) ?_
    refine Dr.take (i := 5) (v := (i64 x.amount)) (by kernel_rfl) (by kernel_rfl) (fun wz hS => Runs.load (t := 2) (a := ⟨b49, 1, none⟩) (by kernel_rfl) ((H69.keep hS (fun h => h)).loads (by kernel_rfl))) (d := (some 31)) (by kernel_rfl) rfl ?_
    refine Dr.call (i := 3) (by kernel_rfl) (by kernel_rfl) (d := (some 29)) (by kernel_rfl) (fun _ => Text_calls _ u ys x.name (OwnB.rd F70) (by first | omega | decide) (by (try simp only at *); (try simp only [List.length_append] at *); (try simp only [List.length_cons] at *); (try simp only [List.length_nil] at *); omega)) ?_
    rintro _ w74 ⟨v73, rfl, K75, hO76⟩
    have O77 := own_base hO76 K67.size
    clear hO76
    have hL71 := tv_ge x.name
    have hL72 := tv_le (s := x.name) (by first | omega | decide)
    have K78 := K67.trans K75 (U := none_) (fun i h1 h2 => h2) (fun i h1 h2 => by exact h2)
    clear K67
    have H79 := H68.keep K75 (fun h => h)
    clear H68
    have H80 := H69.keep K75 (fun h => h)
    clear H69
    have F81 := own_keep0 F70 K75
    clear F70
    refine ⟨_, _, rfl, rfl, K75, ?_⟩
    refine Dr.strong (S' := (fun wz => Keeps none_ w74 wz)) (Keeps.refl w74) (fun wz hx => K75.trans hx (fun i _ h => h) (fun _ _ h => h)) ?_
    clear K75
    refine Dr.call (i := 6) (by kernel_rfl) (by kernel_rfl) (d := (some 32)) (by kernel_rfl) (fun _ => Int_calls _ v73 (ys ++ tv x.name) x.amount (OwnB.rd O77) (by omega) (by (try simp only at *); (try simp only [List.length_append] at *); (try simp only [List.length_cons] at *); (try simp only [List.length_nil] at *); omega)) ?_
    rintro _ w84 ⟨v83, rfl, K85, hO86⟩
    have O87 := own_base hO86 K78.size
    clear hO86
    have hL82 := iv_length_10 (n := x.amount) (by omega)
    have K88 := K78.trans K85 (U := none_) (fun i h1 h2 => h2) (fun i h1 h2 => by exact h2)
    clear K78
    have H89 := H79.keep K85 (fun h => h)
    clear H79
    have H90 := H80.keep K85 (fun h => h)
    clear H80
    have F91 := own_keep0 F81 K85
    clear F81
    have F92 := own_keep0 O77 K85
    clear O77
    refine ⟨_, _, rfl, rfl, K85, ?_⟩
    refine Dr.strong (S' := (fun wz => Keeps none_ w84 wz)) (Keeps.refl w84) (fun wz hx => K85.trans hx (fun i _ h => h) (fun _ _ h => h)) ?_
    clear K85
    refine Dr.takes (fuel' := 0) (is' := [7, 6, 3, 5, 4, 2, 1, 0]) [7] [(0, v83), (4, (Value.slice none 0 0)), (6, (Value.pointer (some ⟨b49, 0, none⟩))), (20, (Value.slice A p.rows.length c)), (21, (i64 ((p.rows.length : Nat) : Int))), (22, (i64 ((i : Nat) : Int))), (23, (Value.bool true))] (by kernel_rfl) rfl (by kernel_rfl) ?_
    refine Dr.done (by kernel_rfl) ?_
    refine q_region (by kernel_rfl) ?_
    refine Ops.regs 1 [(0, v83), (4, (Value.slice none 0 0)), (6, (Value.pointer (some ⟨b49, 0, none⟩))), (20, (Value.slice A p.rows.length c)), (21, (i64 ((p.rows.length : Nat) : Int))), (22, (i64 ((i : Nat) : Int))), (23, (Value.bool true)), (33, (i64 (IntKind.i64.wrap (((i : Nat) : Int) + 1))))] (j := 1) (by kernel_rfl) (by kernel_rfl) ?_
    have e93 : IntKind.i64.wrap (((i : Nat) : Int) + 1) = ((i + 1 : Nat) : Int) := by rw [wrap_i64 (by omega) (by omega)]; omega
    rw [e93]
    clear e93
    refine Ops.regs 1 [(0, v83), (4, (Value.slice none 0 0)), (6, (Value.pointer (some ⟨b49, 0, none⟩))), (20, (Value.slice A p.rows.length c)), (21, (i64 ((p.rows.length : Nat) : Int))), (22, (i64 ((i + 1 : Nat) : Int))), (23, (Value.bool true))] (j := 2) (by kernel_rfl) (by kernel_rfl) ?_
    refine Ops.keep (R := [(0, v83), (4, (Value.slice none 0 0)), (20, (Value.slice A p.rows.length c)), (21, (i64 ((p.rows.length : Nat) : Int))), (22, (i64 ((i + 1 : Nat) : Int)))]) (by kernel_rfl) ?_
    refine Ops.done (by kernel_rfl) ?_
    exact ⟨(v83, i + 1, ys ++ tv x.name ++ iv x.amount), ⟨rfl, O87, (by rw [hE, rowsv_take hX]; simp only [List.append_assoc]), (by omega), K88, H89⟩, (show p.rows.length - (i + 1) < p.rows.length - i from by omega)⟩
  · rw [h43]
    have p94 : ¬ (((i : Nat) : Int) < ((p.rows.length : Nat) : Int)) := of_decide_eq_false h43
    refine q_exit (id := 0) (by kernel_rfl) ?_
    refine q_seq (by kernel_rfl) ?_
    refine q_region (by kernel_rfl) ?_
    refine Ops.regs 2 [(4, u)] (j := 2) (by kernel_rfl) (by kernel_rfl) ?_
    refine Ops.done (by kernel_rfl) ?_
    refine q_ret (by kernel_rfl) ?_
    refine ⟨u, retv_tmp rfl rfl, ?_⟩
    have hfin : ys = xs ++ rpv p := by rw [hE, List.take_of_length_le (by omega)]; rfl
    rw [hfin] at hU
    exact ⟨_, rfl, K41, hU⟩

theorem RPutReply_calls (w : World) (v : Value) (xs : List UInt8) (p : ReplyM) (A : Option Addr) (c : Nat) (hv : RdB w v xs) (hpo : p.Ok) (hp : RdR w (.slice A p.rows.length c) p.rows) (hl : xs.length + (rpv p).length ≤ 70368744173568) : Calls Try.prog 35 ⟨[v, (agg [(i64 p.why), (i64 p.amount), (Value.slice A p.rows.length c)])]⟩ w (fun e w' => ∃ v', e = .returned v' ∧ Keeps none_ w w' ∧ OwnB w' w.heap.size 5 v' (xs ++ rpv p)) := by
  have hpl := rpv_len p
  have hi1 := hpo.why
  have hi2 := hpo.amount
  have hrl := (RdT.len RowM.two (by decide) hp).2
  unfold maxLen at hrl
  have hge := rowsv_ge p.rows
  have K0 : Keeps none_ w w := Keeps.refl w
  refine q_calls Try.func35 (by kernel_rfl) (by kernel_rfl) ?_
  refine q_seq (by kernel_rfl) ?_
  refine q_region (by kernel_rfl) ?_
  refine Ops.new (o := rowL [(i64 p.why), (i64 p.amount), (Value.slice A p.rows.length c)] 46) (V := fun b => (Value.pointer (some ⟨b, 0, none⟩))) (by kernel_rfl) (d := (some 3)) (by kernel_rfl) (fun b => rfl) (fun b1 w2 hb3 H4 K5 hs6 => ?_)
  have nb1 : w.heap.size ≤ b1 := by have := K0.size; omega
  have K7 := K0.trans K5 (U := none_) (fun i h1 h2 => h2) (fun i h1 h2 => by exact h2)
  clear K0
  clear K5 hs6
  refine Ops.regs 1 [(0, v), (3, (Value.pointer (some ⟨b1, 0, none⟩))), (4, (Value.slice none 0 0))] (j := 2) (by kernel_rfl) (by kernel_rfl) ?_
  refine Ops.done (by kernel_rfl) ?_
  refine q_seq (by kernel_rfl) ?_
  refine q_region (by kernel_rfl) ?_
  refine Ops.regs 2 [(0, v), (3, (Value.pointer (some ⟨b1, 0, none⟩))), (4, (Value.slice none 0 0)), (6, v), (7, (Value.pointer (some ⟨b1, 0, none⟩)))] (j := 2) (by kernel_rfl) (by kernel_rfl) ?_
  refine Ops.go (v := (i64 p.why)) (by kernel_rfl) (Runs.load (t := 28) (a := ⟨b1, 0, none⟩) (by kernel_rfl) (H4.loads (by kernel_rfl))) (d := (some 8)) (by kernel_rfl) rfl ?_
  refine Ops.call (by kernel_rfl) (d := (some 9)) (by kernel_rfl) (RInt_calls _ v xs p.why (hv.keep0 (by omega) K7) (by omega) (by (try simp only at *); (try simp only [List.length_append] at *); (try simp only [List.length_cons] at *); (try simp only [List.length_nil] at *); omega)) ?_
  rintro _ w10 ⟨v9, rfl, K11, hO12⟩
  have O13 := own_base hO12 K7.size
  clear hO12
  have hL8 := iv_length_10 (n := p.why) (by omega)
  refine ⟨_, _, rfl, rfl, ?_⟩
  have K14 := K7.trans K11 (U := none_) (fun i h1 h2 => h2) (fun i h1 h2 => by exact h2)
  clear K7
  have H15 := H4.keep K11 (fun h => h)
  clear H4
  clear K11
  refine Ops.regs 1 [(0, v9), (3, (Value.pointer (some ⟨b1, 0, none⟩))), (4, (Value.slice none 0 0))] (j := 5) (by kernel_rfl) (by kernel_rfl) ?_
  refine Ops.done (by kernel_rfl) ?_
  refine q_seq (by kernel_rfl) ?_
  refine q_region (by kernel_rfl) ?_
  refine Ops.regs 2 [(0, v9), (3, (Value.pointer (some ⟨b1, 0, none⟩))), (4, (Value.slice none 0 0)), (10, v9), (11, (Value.pointer (some ⟨b1, 1, none⟩)))] (j := 2) (by kernel_rfl) (by kernel_rfl) ?_
  refine Ops.go (v := (i64 p.amount)) (by kernel_rfl) (Runs.load (t := 2) (a := ⟨b1, 1, none⟩) (by kernel_rfl) (H15.loads (by kernel_rfl))) (d := (some 12)) (by kernel_rfl) rfl ?_
  refine Ops.call (by kernel_rfl) (d := (some 13)) (by kernel_rfl) (RInt_calls _ v9 (xs ++ iv p.why) p.amount (OwnB.rd O13) (by omega) (by (try simp only at *); (try simp only [List.length_append] at *); (try simp only [List.length_cons] at *); (try simp only [List.length_nil] at *); omega)) ?_
  rintro _ w18 ⟨v17, rfl, K19, hO20⟩
  have O21 := own_base hO20 K14.size
  clear hO20
  have hL16 := iv_length_10 (n := p.amount) (by omega)
  refine ⟨_, _, rfl, rfl, ?_⟩
  have K22 := K14.trans K19 (U := none_) (fun i h1 h2 => h2) (fun i h1 h2 => by exact h2)
  clear K14
  have H23 := H15.keep K19 (fun h => h)
  clear H15
  have F24 := own_keep0 O13 K19
  clear O13
  clear K19
  refine Ops.regs 1 [(0, v17), (3, (Value.pointer (some ⟨b1, 0, none⟩))), (4, (Value.slice none 0 0))] (j := 5) (by kernel_rfl) (by kernel_rfl) ?_
  refine Ops.done (by kernel_rfl) ?_
  refine q_seq (by kernel_rfl) ?_
  refine q_region (by kernel_rfl) ?_
  refine Ops.regs 2 [(0, v17), (3, (Value.pointer (some ⟨b1, 0, none⟩))), (4, (Value.slice none 0 0)), (14, v17), (15, (Value.pointer (some ⟨b1, 2, none⟩)))] (j := 2) (by kernel_rfl) (by kernel_rfl) ?_
  refine Ops.go (v := (Value.slice A p.rows.length c)) (by kernel_rfl) (Runs.load (t := 44) (a := ⟨b1, 2, none⟩) (by kernel_rfl) (H23.loads (by kernel_rfl))) (d := (some 16)) (by kernel_rfl) rfl ?_
  refine Ops.regs 2 [(0, v17), (3, (Value.pointer (some ⟨b1, 0, none⟩))), (4, (Value.slice none 0 0)), (14, v17), (18, (Value.int IntKind.u64 (IntKind.u64.wrap (((p.rows.length : Nat) : Int)))))] (j := 5) (by kernel_rfl) (by kernel_rfl) ?_
  have e25 : IntKind.u64.wrap (((p.rows.length : Nat) : Int)) = ((p.rows.length : Nat) : Int) := wrap_u64 (by omega) (by omega)
  rw [e25]
  refine Ops.call (by kernel_rfl) (d := (some 19)) (by kernel_rfl) (RUint_calls _ v17 (xs ++ iv p.why ++ iv p.amount) p.rows.length (OwnB.rd O21) (by omega) (by (try simp only at *); (try simp only [List.length_append] at *); (try simp only [List.length_cons] at *); (try simp only [List.length_nil] at *); omega)) ?_
  rintro _ w28 ⟨v27, rfl, K29, hO30⟩
  have O31 := own_base hO30 K22.size
  clear hO30
  have hL26 := uv_length_10 (n := p.rows.length) (by omega)
  refine ⟨_, _, rfl, rfl, ?_⟩
  have K32 := K22.trans K29 (U := none_) (fun i h1 h2 => h2) (fun i h1 h2 => by exact h2)
  clear K22
  have H33 := H23.keep K29 (fun h => h)
  clear H23
  have F34 := own_keep0 F24 K29
  clear F24
  have F35 := own_keep0 O21 K29
  clear O21
  clear K29
  refine Ops.regs 1 [(0, v27), (3, (Value.pointer (some ⟨b1, 0, none⟩))), (4, (Value.slice none 0 0))] (j := 7) (by kernel_rfl) (by kernel_rfl) ?_
  refine Ops.done (by kernel_rfl) ?_
  refine q_seq (by kernel_rfl) ?_
  refine q_seq (by kernel_rfl) ?_
  refine q_region (by kernel_rfl) ?_
  refine Ops.regs 1 [(0, v27), (3, (Value.pointer (some ⟨b1, 0, none⟩))), (4, (Value.slice none 0 0)), (5, (i64 0))] (j := 1) (by kernel_rfl) (by kernel_rfl) ?_
  refine Ops.done (by kernel_rfl) ?_
  refine q_block (id := 0) (by kernel_rfl) ?_
  refine q_keep (R := [(0, v27), (3, (Value.pointer (some ⟨b1, 0, none⟩))), (4, (Value.slice none 0 0)), (5, (i64 0))]) (by kernel_rfl) ?_
  refine q_loop (fun (gs : Value × Nat × (List UInt8)) L (wx : World) => match gs with | (u, i, ys) => L = [(0, u), (3, (Value.pointer (some ⟨b1, 0, none⟩))), (4, (Value.slice none 0 0)), (5, (i64 ((i : Nat) : Int)))] ∧ OwnB wx w.heap.size 5 u ys ∧ ys = xs ++ (iv p.why ++ (iv p.amount ++ (uv p.rows.length ++ rowsv (p.rows.take i)))) ∧ i ≤ p.rows.length ∧ Keeps none_ w wx ∧ Has wx b1 (rowL [(i64 p.why), (i64 p.amount), (Value.slice A p.rows.length c)] 46)) (fun (gs : Value × Nat × (List UInt8)) => match gs with | (u, i, ys) => p.rows.length - i) (v27, 0, xs ++ iv p.why ++ iv p.amount ++ uv p.rows.length) (by kernel_rfl) ⟨rfl, O31, (by simp [rowsv]), Nat.zero_le _, K32, H33⟩ ?_
  clear H33 F34 F35 O31 K32
  rintro ⟨u, i, ys⟩ _ w36 ⟨rfl, hU, hE, hi, K37, H38⟩
  have hyl := congrArg List.length hE
  simp only [List.length_append] at hyl
  have htl0 := rowsv_take_le p.rows i
  refine q_seq (by kernel_rfl) ?_
  refine q_seq (by kernel_rfl) ?_
  refine q_region (by kernel_rfl) ?_
  refine Ops.regs 2 [(0, u), (3, (Value.pointer (some ⟨b1, 0, none⟩))), (4, (Value.slice none 0 0)), (5, (i64 ((i : Nat) : Int))), (20, (i64 ((i : Nat) : Int))), (21, (Value.pointer (some ⟨b1, 2, none⟩)))] (j := 2) (by kernel_rfl) (by kernel_rfl) ?_
  refine Ops.go (v := (Value.slice A p.rows.length c)) (by kernel_rfl) (Runs.load (t := 44) (a := ⟨b1, 2, none⟩) (by kernel_rfl) (H38.loads (by kernel_rfl))) (d := (some 22)) (by kernel_rfl) rfl ?_
  refine Ops.regs 2 [(0, u), (3, (Value.pointer (some ⟨b1, 0, none⟩))), (4, (Value.slice none 0 0)), (5, (i64 ((i : Nat) : Int))), (24, (Value.bool (decide (((i : Nat) : Int) < ((p.rows.length : Nat) : Int)))))] (j := 5) (by kernel_rfl) (by kernel_rfl) ?_
  refine Ops.done (by kernel_rfl) ?_
  refine q_cond (o := .tmp 24) (b := (decide (((i : Nat) : Int) < ((p.rows.length : Nat) : Int)))) (by kernel_rfl) rfl (fun h39 => ?_) (fun h39 => ?_)
  · rw [h39]
    have p40 : ((i : Nat) : Int) < ((p.rows.length : Nat) : Int) := of_decide_eq_true h39
    obtain ⟨rb41, ro42, x, hA43, hx44⟩ := RdT.open (Rd.keep0 (by omega) hp K37) rfl (k := i) (by omega)
    have hX := hx44
    have hxr := hpo.rows x (List.mem_of_getElem? hX)
    have htk := congrArg List.length (rowsv_take hX)
    simp only [List.length_append] at htk
    have htl := rowsv_take_le p.rows (i + 1)
    have htg := tv_ge x.name
    refine q_skip (by kernel_rfl) ?_
    refine q_seq (by kernel_rfl) ?_
    refine q_block (id := 1) (by kernel_rfl) ?_
    refine q_seq (by kernel_rfl) ?_
    refine q_region (by kernel_rfl) ?_
    refine Ops.regs 2 [(0, u), (3, (Value.pointer (some ⟨b1, 0, none⟩))), (4, (Value.slice none 0 0)), (5, (i64 ((i : Nat) : Int))), (24, (Value.bool true)), (27, u), (28, (Value.pointer (some ⟨b1, 2, none⟩)))] (j := 2) (by kernel_rfl) (by kernel_rfl) ?_
    refine Ops.go (v := (Value.slice A p.rows.length c)) (by kernel_rfl) (Runs.load (t := 44) (a := ⟨b1, 2, none⟩) (by kernel_rfl) (H38.loads (by kernel_rfl))) (d := (some 29)) (by kernel_rfl) rfl ?_
    refine Ops.regs 1 [(0, u), (3, (Value.pointer (some ⟨b1, 0, none⟩))), (4, (Value.slice none 0 0)), (5, (i64 ((i : Nat) : Int))), (24, (Value.bool true)), (27, u), (29, (Value.slice A p.rows.length c)), (30, (i64 ((i : Nat) : Int)))] (j := 4) (by kernel_rfl) (by kernel_rfl) ?_
    refine Ops.go (by kernel_rfl) (Runs.ixSliceE (k := IntKind.i64) (t := 44) (len := p.rows.length) (cap := c) (s := 2) (off' := ro42 + i * 2) (i := ((i : Nat) : Int)) hA43 (by kernel_rfl) (by kernel_rfl) (by omega) (by omega) (by omega)) (d := (some 31)) (by kernel_rfl) rfl ?_
    refine Ops.regs 1 [(0, u), (3, (Value.pointer (some ⟨b1, 0, none⟩))), (4, (Value.slice none 0 0)), (5, (i64 ((i : Nat) : Int))), (24, (Value.bool true)), (27, u), (32, (Value.pointer (some ⟨rb41, ro42 + i * 2, none⟩)))] (j := 6) (by kernel_rfl) (by kernel_rfl) ?_
    refine Ops.go (v := (Value.string (str x.name))) (by kernel_rfl) (Runs.load (t := 9) (a := ⟨rb41, ro42 + i * 2, none⟩) (by kernel_rfl) (RdT.ldf (f := RowM.cells) (x := x) (o := 0) RowM.two (Rd.keep0 (by omega) hp K37) (by kernel_rfl) hA43 hx44 rfl)) (d := (some 33)) (by kernel_rfl) rfl ?_
    refine Ops.call (by kernel_rfl) (d := (some 34)) (by kernel_rfl) (RText_calls _ u ys x.name (OwnB.rd hU) (by first | omega | decide) (by (try simp only at *); (try simp only [List.length_append] at *); (try simp only [List.length_cons] at *); (try simp only [List.length_nil] at *); omega)) ?_
    rintro _ w48 ⟨v47, rfl, K49, hO50⟩
    have O51 := own_base hO50 K37.size
    clear hO50
    have hL45 := tv_ge x.name
    have hL46 := tv_le (s := x.name) (by first | omega | decide)
    refine ⟨_, _, rfl, rfl, ?_⟩
    have K52 := K37.trans K49 (U := none_) (fun i h1 h2 => h2) (fun i h1 h2 => by exact h2)
    clear K37
    have H53 := H38.keep K49 (fun h => h)
    clear H38
    have F54 := own_keep0 hU K49
    clear hU
    clear K49
    refine Ops.regs 1 [(0, v47), (3, (Value.pointer (some ⟨b1, 0, none⟩))), (4, (Value.slice none 0 0)), (5, (i64 ((i : Nat) : Int))), (24, (Value.bool true))] (j := 9) (by kernel_rfl) (by kernel_rfl) ?_
    refine Ops.done (by kernel_rfl) ?_
    refine q_region (by kernel_rfl) ?_
    refine Ops.regs 2 [(0, v47), (3, (Value.pointer (some ⟨b1, 0, none⟩))), (4, (Value.slice none 0 0)), (5, (i64 ((i : Nat) : Int))), (24, (Value.bool true)), (35, v47), (36, (Value.pointer (some ⟨b1, 2, none⟩)))] (j := 2) (by kernel_rfl) (by kernel_rfl) ?_
    refine Ops.go (v := (Value.slice A p.rows.length c)) (by kernel_rfl) (Runs.load (t := 44) (a := ⟨b1, 2, none⟩) (by kernel_rfl) (H53.loads (by kernel_rfl))) (d := (some 37)) (by kernel_rfl) rfl ?_
    refine Ops.regs 1 [(0, v47), (3, (Value.pointer (some ⟨b1, 0, none⟩))), (4, (Value.slice none 0 0)), (5, (i64 ((i : Nat) : Int))), (24, (Value.bool true)), (35, v47), (37, (Value.slice A p.rows.length c)), (38, (i64 ((i : Nat) : Int)))] (j := 4) (by kernel_rfl) (by kernel_rfl) ?_
    refine Ops.go (by kernel_rfl) (Runs.ixSliceE (k := IntKind.i64) (t := 44) (len := p.rows.length) (cap := c) (s := 2) (off' := ro42 + i * 2) (i := ((i : Nat) : Int)) hA43 (by kernel_rfl) (by kernel_rfl) (by omega) (by omega) (by omega)) (d := (some 39)) (by kernel_rfl) rfl ?_
    refine Ops.regs 1 [(0, v47), (3, (Value.pointer (some ⟨b1, 0, none⟩))), (4, (Value.slice none 0 0)), (5, (i64 ((i : Nat) : Int))), (24, (Value.bool true)), (35, v47), (40, (Value.pointer (some ⟨rb41, ro42 + i * 2 + 1, none⟩)))] (j := 6) (by kernel_rfl) (by kernel_rfl) ?_
    refine Ops.go (v := (i64 x.amount)) (by kernel_rfl) (Runs.load (t := 2) (a := ⟨rb41, ro42 + i * 2 + 1, none⟩) (by kernel_rfl) (RdT.ldf (f := RowM.cells) (x := x) (o := 1) RowM.two (Rd.keep0 (by omega) hp K52) (by kernel_rfl) hA43 hx44 rfl)) (d := (some 41)) (by kernel_rfl) rfl ?_
    refine Ops.call (by kernel_rfl) (d := (some 42)) (by kernel_rfl) (RInt_calls _ v47 (ys ++ tv x.name) x.amount (OwnB.rd O51) (by omega) (by (try simp only at *); (try simp only [List.length_append] at *); (try simp only [List.length_cons] at *); (try simp only [List.length_nil] at *); omega)) ?_
    rintro _ w57 ⟨v56, rfl, K58, hO59⟩
    have O60 := own_base hO59 K52.size
    clear hO59
    have hL55 := iv_length_10 (n := x.amount) (by omega)
    refine ⟨_, _, rfl, rfl, ?_⟩
    have K61 := K52.trans K58 (U := none_) (fun i h1 h2 => h2) (fun i h1 h2 => by exact h2)
    clear K52
    have H62 := H53.keep K58 (fun h => h)
    clear H53
    have F63 := own_keep0 F54 K58
    clear F54
    have F64 := own_keep0 O51 K58
    clear O51
    clear K58
    refine Ops.regs 1 [(0, v56), (3, (Value.pointer (some ⟨b1, 0, none⟩))), (4, (Value.slice none 0 0)), (5, (i64 ((i : Nat) : Int))), (24, (Value.bool true))] (j := 9) (by kernel_rfl) (by kernel_rfl) ?_
    refine Ops.done (by kernel_rfl) ?_
    refine q_region (by kernel_rfl) ?_
    refine Ops.regs 2 [(0, v56), (3, (Value.pointer (some ⟨b1, 0, none⟩))), (4, (Value.slice none 0 0)), (5, (i64 ((i : Nat) : Int))), (24, (Value.bool true)), (26, (i64 (IntKind.i64.wrap (((i : Nat) : Int) + 1))))] (j := 2) (by kernel_rfl) (by kernel_rfl) ?_
    have e65 : IntKind.i64.wrap (((i : Nat) : Int) + 1) = ((i + 1 : Nat) : Int) := by rw [wrap_i64 (by omega) (by omega)]; omega
    rw [e65]
    clear e65
    refine Ops.regs 1 [(0, v56), (3, (Value.pointer (some ⟨b1, 0, none⟩))), (4, (Value.slice none 0 0)), (5, (i64 ((i + 1 : Nat) : Int))), (24, (Value.bool true))] (j := 3) (by kernel_rfl) (by kernel_rfl) ?_
    refine Ops.keep (R := [(0, v56), (3, (Value.pointer (some ⟨b1, 0, none⟩))), (4, (Value.slice none 0 0)), (5, (i64 ((i + 1 : Nat) : Int)))]) (by kernel_rfl) ?_
    refine Ops.done (by kernel_rfl) ?_
    exact ⟨(v56, i + 1, ys ++ tv x.name ++ iv x.amount), ⟨rfl, O60, (by rw [hE, rowsv_take hX]; simp only [List.append_assoc]), (by omega), K61, H62⟩, (show p.rows.length - (i + 1) < p.rows.length - i from by omega)⟩
  · rw [h39]
    have p66 : ¬ (((i : Nat) : Int) < ((p.rows.length : Nat) : Int)) := of_decide_eq_false h39
    refine q_exit (id := 0) (by kernel_rfl) ?_
    refine q_seq (by kernel_rfl) ?_
    refine q_region (by kernel_rfl) ?_
    refine Ops.regs 2 [(4, u)] (j := 2) (by kernel_rfl) (by kernel_rfl) ?_
    refine Ops.done (by kernel_rfl) ?_
    refine q_ret (by kernel_rfl) ?_
    refine ⟨u, retv_tmp rfl rfl, ?_⟩
    have hfin : ys = xs ++ rpv p := by rw [hE, List.take_of_length_le (by omega)]; rfl
    rw [hfin] at hU
    exact ⟨_, rfl, K37, hU⟩
end Go.Proofs.Ytnepjfnkaigakaa
