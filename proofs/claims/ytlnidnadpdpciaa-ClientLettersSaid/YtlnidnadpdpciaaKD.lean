/- operations and answers are written -/
import Derived.Test.YtlnidnadpdpciaaProg
import Derived.Test.YtlnidnadpdpciaaLD
import Derived.Test.YtlnidnadpdpciaaKC
import Derived.Test.YtlnidnadpdpciaaLX
set_option linter.unusedVariables false
namespace Go.Proofs.Ytlnidnadpdpciaa
open Go.Q Go.RowKit

theorem PutOp_calls (w : World) (v : Value) (xs : List UInt8) (o : Opm) (hv : RdB w v xs) (ho : o.Ok) (hl : xs.length + (opv o).length ≤ 70368744173568) : Calls Try.prog 34 ⟨[v, (agg [(i64 o.kind), (Value.string (str o.frm)), (Value.string (str o.to)), (i64 o.amount), (Value.string (str o.key)), (i64 o.slot), (i64 o.shard)])]⟩ w (fun e w' => ∃ v', e = .returned v' ∧ Keeps none_ w w' ∧ OwnB w' w.heap.size 5 v' (xs ++ opv o)) := by
 have hol := opv_len o
 have hi1 := ho.kind
 have hi2 := ho.amount
 have hi3 := ho.slot
 have hi4 := ho.shard
 have ht1 := tv_ge o.frm
 have ht2 := tv_ge o.to
 have ht3 := tv_ge o.key
 have K0 : Keeps none_ w w := Keeps.refl w
 refine q_calls Try.func34 (by kernel_rfl) (by kernel_rfl) ?_
 refine qs ?_
 refine qg ?_
 refine Ops.new (o := rowL [(i64 o.kind), (Value.string (str o.frm)), (Value.string (str o.to)), (i64 o.amount), (Value.string (str o.key)), (i64 o.slot), (i64 o.shard)] 23) (V := fun b => (ptr b)) (by kernel_rfl) (d := (some 3)) (by kernel_rfl) (fun b => rfl) (fun b1 w2 hb3 H4 K5 hs6 => ?_)
 have nb1 : w.heap.size ≤ b1 := by have := K0.size; omega
 replace K0 := K0.t0 K5
 clear K5 hs6
 refine og 1 [(0, v), (3, (ptr b1)), (4, (Value.slice none 0 0))] 2 ?_
 refine od ?_
 refine qs ?_
 refine q_draw (fun wz => Keeps none_ w2 wz) 11 (by kernel_rfl) (by kernel_rfl) (by kernel_rfl) (fun w7 K8 _ _ => ⟨K8, ?_⟩)
 replace K0 := K0.t0 K8
 replace H4 := H4.keep K8 (fun h => h)
 refine Dr.strong (S' := (fun wz => Keeps none_ w7 wz)) (Keeps.refl w7) (fun wz hx => K8.trans hx (fun i _ h => h) (fun _ _ h => h)) ?_
 clear K8
 refine Dr.takes (fuel' := 9) (is' := [1, 0]) [0, 1] [(0, v), (3, (ptr b1)), (4, (Value.slice none 0 0)), (5, v), (6, (ptr b1))] (by kernel_rfl) rfl (by kernel_rfl) ?_
 refine Dr.take (i := 2) (v := (i64 o.kind)) (by kernel_rfl) (by kernel_rfl) (fun wz hS => Runs.load (t := 3) (a := ⟨b1, 0, none⟩) (by kernel_rfl) ((H4.keep hS (fun h => h)).loads (by kernel_rfl))) (d := (some 7)) (by kernel_rfl) rfl ?_
 refine Dr.takes (fuel' := 7) (is' := [4, 2, 1, 0]) [4] [(0, v), (3, (ptr b1)), (4, (Value.slice none 0 0)), (5, v), (7, (i64 o.kind)), (9, (Value.pointer (some ⟨b1, 1, none⟩)))] (by kernel_rfl) rfl (by kernel_rfl) ?_
 refine Dr.take (i := 5) (v := (Value.string (str o.frm))) (by kernel_rfl) (by kernel_rfl) (fun wz hS => Runs.load (t := 9) (a := ⟨b1, 1, none⟩) (by kernel_rfl) ((H4.keep hS (fun h => h)).loads (by kernel_rfl))) (d := (some 10)) (by kernel_rfl) rfl ?_
 refine Dr.takes (fuel' := 5) (is' := [7, 5, 4, 2, 1, 0]) [7] [(0, v), (3, (ptr b1)), (4, (Value.slice none 0 0)), (5, v), (7, (i64 o.kind)), (10, (Value.string (str o.frm))), (12, (Value.pointer (some ⟨b1, 2, none⟩)))] (by kernel_rfl) rfl (by kernel_rfl) ?_
 refine Dr.take (i := 8) (v := (Value.string (str o.to))) (by kernel_rfl) (by kernel_rfl) (fun wz hS => Runs.load (t := 9) (a := ⟨b1, 2, none⟩) (by kernel_rfl) ((H4.keep hS (fun h => h)).loads (by kernel_rfl))) (d := (some 13)) (by kernel_rfl) rfl ?_
 refine Dr.call (i := 3) (by kernel_rfl) (by kernel_rfl) (d := (some 8)) (by kernel_rfl) (fun _ => Int_calls _ v xs o.kind (hv.keep0 (by omega) K0) (by omega) (by (try simp only at *); (try simp only [List.length_append] at *); (try simp only [List.length_cons] at *); (try simp only [List.length_nil] at *); omega)) ?_
 rintro _ w11 ⟨v10, rfl, K12, hO13⟩
 have O14 := own_base hO13 K0.size
 clear hO13
 have hL9 := iv_length_10 (n := o.kind) (by omega)
 replace K0 := K0.t0 K12
 replace H4 := H4.keep K12 (fun h => h)
 refine ⟨_, _, rfl, rfl, K12, ?_⟩
 refine Dr.strong (S' := (fun wz => Keeps none_ w11 wz)) (Keeps.refl w11) (fun wz hx => K12.trans hx (fun i _ h => h) (fun _ _ h => h)) ?_
 clear K12
 refine Dr.call (i := 6) (by kernel_rfl) (by kernel_rfl) (d := (some 11)) (by kernel_rfl) (fun _ => Text_calls _ v10 (xs ++ iv o.kind) o.frm (OwnB.rd O14) (by first | omega | decide) (by (try simp only at *); (try simp only [List.length_append] at *); (try simp only [List.length_cons] at *); (try simp only [List.length_nil] at *); omega)) ?_
 rintro _ w18 ⟨v17, rfl, K19, hO20⟩
 have O21 := own_base hO20 K0.size
 clear hO20
 have hL15 := tv_ge o.frm
 have hL16 := tv_le (s := o.frm) (by first | omega | decide)
 replace K0 := K0.t0 K19
 replace H4 := H4.keep K19 (fun h => h)
 replace O14 := own_keep0 O14 K19
 refine ⟨_, _, rfl, rfl, K19, ?_⟩
 refine Dr.strong (S' := (fun wz => Keeps none_ w18 wz)) (Keeps.refl w18) (fun wz hx => K19.trans hx (fun i _ h => h) (fun _ _ h => h)) ?_
 clear K19
 refine Dr.call (i := 9) (by kernel_rfl) (by kernel_rfl) (d := (some 14)) (by kernel_rfl) (fun _ => Text_calls _ v17 (xs ++ iv o.kind ++ tv o.frm) o.to (OwnB.rd O21) (by first | omega | decide) (by (try simp only at *); (try simp only [List.length_append] at *); (try simp only [List.length_cons] at *); (try simp only [List.length_nil] at *); omega)) ?_
 rintro _ w25 ⟨v24, rfl, K26, hO27⟩
 have O28 := own_base hO27 K0.size
 clear hO27
 have hL22 := tv_ge o.to
 have hL23 := tv_le (s := o.to) (by first | omega | decide)
 replace K0 := K0.t0 K26
 replace H4 := H4.keep K26 (fun h => h)
 replace O14 := own_keep0 O14 K26
 replace O21 := own_keep0 O21 K26
 refine ⟨_, _, rfl, rfl, K26, ?_⟩
 refine Dr.strong (S' := (fun wz => Keeps none_ w25 wz)) (Keeps.refl w25) (fun wz hx => K26.trans hx (fun i _ h => h) (fun _ _ h => h)) ?_
 clear K26
 refine Dr.takes (fuel' := 0) (is' := [10, 9, 6, 3, 8, 7, 5, 4, 2, 1, 0]) [10] [(0, v24), (3, (ptr b1)), (4, (Value.slice none 0 0))] (by kernel_rfl) rfl (by kernel_rfl) ?_
 refine Dr.done (by kernel_rfl) ?_
 refine qs ?_
 refine q_draw (fun wz => Keeps none_ w25 wz) 8 (by kernel_rfl) (by kernel_rfl) (by kernel_rfl) (fun w29 K30 _ _ => ⟨K30, ?_⟩)
 replace K0 := K0.t0 K30
 replace H4 := H4.keep K30 (fun h => h)
 replace O14 := own_keep0 O14 K30
 replace O21 := own_keep0 O21 K30
 replace O28 := own_keep0 O28 K30
 refine Dr.strong (S' := (fun wz => Keeps none_ w29 wz)) (Keeps.refl w29) (fun wz hx => K30.trans hx (fun i _ h => h) (fun _ _ h => h)) ?_
 clear K30
 refine Dr.takes (fuel' := 6) (is' := [1, 0]) [0, 1] [(0, v24), (3, (ptr b1)), (4, (Value.slice none 0 0)), (15, v24), (16, (Value.pointer (some ⟨b1, 3, none⟩)))] (by kernel_rfl) rfl (by kernel_rfl) ?_
 refine Dr.take (i := 2) (v := (i64 o.amount)) (by kernel_rfl) (by kernel_rfl) (fun wz hS => Runs.load (t := 2) (a := ⟨b1, 3, none⟩) (by kernel_rfl) ((H4.keep hS (fun h => h)).loads (by kernel_rfl))) (d := (some 17)) (by kernel_rfl) rfl ?_
 refine Dr.takes (fuel' := 4) (is' := [4, 2, 1, 0]) [4] [(0, v24), (3, (ptr b1)), (4, (Value.slice none 0 0)), (15, v24), (17, (i64 o.amount)), (19, (Value.pointer (some ⟨b1, 4, none⟩)))] (by kernel_rfl) rfl (by kernel_rfl) ?_
 refine Dr.take (i := 5) (v := (Value.string (str o.key))) (by kernel_rfl) (by kernel_rfl) (fun wz hS => Runs.load (t := 9) (a := ⟨b1, 4, none⟩) (by kernel_rfl) ((H4.keep hS (fun h => h)).loads (by kernel_rfl))) (d := (some 20)) (by kernel_rfl) rfl ?_
 refine Dr.call (i := 3) (by kernel_rfl) (by kernel_rfl) (d := (some 18)) (by kernel_rfl) (fun _ => Int_calls _ v24 (xs ++ iv o.kind ++ tv o.frm ++ tv o.to) o.amount (OwnB.rd O28) (by omega) (by (try simp only at *); (try simp only [List.length_append] at *); (try simp only [List.length_cons] at *); (try simp only [List.length_nil] at *); omega)) ?_
 rintro _ w33 ⟨v32, rfl, K34, hO35⟩
 have O36 := own_base hO35 K0.size
 clear hO35
 have hL31 := iv_length_10 (n := o.amount) (by omega)
 replace K0 := K0.t0 K34
 replace H4 := H4.keep K34 (fun h => h)
 replace O14 := own_keep0 O14 K34
 replace O21 := own_keep0 O21 K34
 replace O28 := own_keep0 O28 K34
 refine ⟨_, _, rfl, rfl, K34, ?_⟩
 refine Dr.strong (S' := (fun wz => Keeps none_ w33 wz)) (Keeps.refl w33) (fun wz hx => K34.trans hx (fun i _ h => h) (fun _ _ h => h)) ?_
 clear K34
 refine Dr.call (i := 6) (by kernel_rfl) (by kernel_rfl) (d := (some 21)) (by kernel_rfl) (fun _ => Text_calls _ v32 (xs ++ iv o.kind ++ tv o.frm ++ tv o.to ++ iv o.amount) o.key (OwnB.rd O36) (by first | omega | decide) (by (try simp only at *); (try simp only [List.length_append] at *); (try simp only [List.length_cons] at *); (try simp only [List.length_nil] at *); omega)) ?_
 rintro _ w40 ⟨v39, rfl, K41, hO42⟩
 have O43 := own_base hO42 K0.size
 clear hO42
 have hL37 := tv_ge o.key
 have hL38 := tv_le (s := o.key) (by first | omega | decide)
 replace K0 := K0.t0 K41
 replace H4 := H4.keep K41 (fun h => h)
 replace O14 := own_keep0 O14 K41
 replace O21 := own_keep0 O21 K41
 replace O28 := own_keep0 O28 K41
 replace O36 := own_keep0 O36 K41
 refine ⟨_, _, rfl, rfl, K41, ?_⟩
 refine Dr.strong (S' := (fun wz => Keeps none_ w40 wz)) (Keeps.refl w40) (fun wz hx => K41.trans hx (fun i _ h => h) (fun _ _ h => h)) ?_
 clear K41
 refine Dr.takes (fuel' := 0) (is' := [7, 6, 3, 5, 4, 2, 1, 0]) [7] [(0, v39), (3, (ptr b1)), (4, (Value.slice none 0 0))] (by kernel_rfl) rfl (by kernel_rfl) ?_
 refine Dr.done (by kernel_rfl) ?_
 refine qs ?_
 refine q_draw (fun wz => Keeps none_ w40 wz) 8 (by kernel_rfl) (by kernel_rfl) (by kernel_rfl) (fun w44 K45 _ _ => ⟨K45, ?_⟩)
 replace K0 := K0.t0 K45
 replace H4 := H4.keep K45 (fun h => h)
 replace O14 := own_keep0 O14 K45
 replace O21 := own_keep0 O21 K45
 replace O28 := own_keep0 O28 K45
 replace O36 := own_keep0 O36 K45
 replace O43 := own_keep0 O43 K45
 refine Dr.strong (S' := (fun wz => Keeps none_ w44 wz)) (Keeps.refl w44) (fun wz hx => K45.trans hx (fun i _ h => h) (fun _ _ h => h)) ?_
 clear K45
 refine Dr.takes (fuel' := 6) (is' := [1, 0]) [0, 1] [(3, (ptr b1)), (4, (Value.slice none 0 0)), (22, v39), (23, (Value.pointer (some ⟨b1, 5, none⟩)))] (by kernel_rfl) rfl (by kernel_rfl) ?_
 refine Dr.take (i := 2) (v := (i64 o.slot)) (by kernel_rfl) (by kernel_rfl) (fun wz hS => Runs.load (t := 3) (a := ⟨b1, 5, none⟩) (by kernel_rfl) ((H4.keep hS (fun h => h)).loads (by kernel_rfl))) (d := (some 24)) (by kernel_rfl) rfl ?_
 refine Dr.takes (fuel' := 4) (is' := [4, 2, 1, 0]) [4] [(4, (Value.slice none 0 0)), (22, v39), (24, (i64 o.slot)), (26, (Value.pointer (some ⟨b1, 6, none⟩)))] (by kernel_rfl) rfl (by kernel_rfl) ?_
 refine Dr.take (i := 5) (v := (i64 o.shard)) (by kernel_rfl) (by kernel_rfl) (fun wz hS => Runs.load (t := 3) (a := ⟨b1, 6, none⟩) (by kernel_rfl) ((H4.keep hS (fun h => h)).loads (by kernel_rfl))) (d := (some 27)) (by kernel_rfl) rfl ?_
 refine Dr.call (i := 3) (by kernel_rfl) (by kernel_rfl) (d := (some 25)) (by kernel_rfl) (fun _ => Int_calls _ v39 (xs ++ iv o.kind ++ tv o.frm ++ tv o.to ++ iv o.amount ++ tv o.key) o.slot (OwnB.rd O43) (by omega) (by (try simp only at *); (try simp only [List.length_append] at *); (try simp only [List.length_cons] at *); (try simp only [List.length_nil] at *); omega)) ?_
 rintro _ w48 ⟨v47, rfl, K49, hO50⟩
 have O51 := own_base hO50 K0.size
 clear hO50
 have hL46 := iv_length_10 (n := o.slot) (by omega)
 replace K0 := K0.t0 K49
 replace H4 := H4.keep K49 (fun h => h)
 replace O14 := own_keep0 O14 K49
 replace O21 := own_keep0 O21 K49
 replace O28 := own_keep0 O28 K49
 replace O36 := own_keep0 O36 K49
 replace O43 := own_keep0 O43 K49
 refine ⟨_, _, rfl, rfl, K49, ?_⟩
 refine Dr.strong (S' := (fun wz => Keeps none_ w48 wz)) (Keeps.refl w48) (fun wz hx => K49.trans hx (fun i _ h => h) (fun _ _ h => h)) ?_
 clear K49
 refine Dr.call (i := 6) (by kernel_rfl) (by kernel_rfl) (d := (some 28)) (by kernel_rfl) (fun _ => Int_calls _ v47 (xs ++ iv o.kind ++ tv o.frm ++ tv o.to ++ iv o.amount ++ tv o.key ++ iv o.slot) o.shard (OwnB.rd O51) (by omega) (by (try simp only at *); (try simp only [List.length_append] at *); (try simp only [List.length_cons] at *); (try simp only [List.length_nil] at *); omega)) ?_
 rintro _ w54 ⟨v53, rfl, K55, hO56⟩
 have O57 := own_base hO56 K0.size
 clear hO56
 have hL52 := iv_length_10 (n := o.shard) (by omega)
 replace K0 := K0.t0 K55
 replace H4 := H4.keep K55 (fun h => h)
 replace O14 := own_keep0 O14 K55
 replace O21 := own_keep0 O21 K55
 replace O28 := own_keep0 O28 K55
 replace O36 := own_keep0 O36 K55
 replace O43 := own_keep0 O43 K55
 replace O51 := own_keep0 O51 K55
 refine ⟨_, _, rfl, rfl, K55, ?_⟩
 refine Dr.strong (S' := (fun wz => Keeps none_ w54 wz)) (Keeps.refl w54) (fun wz hx => K55.trans hx (fun i _ h => h) (fun _ _ h => h)) ?_
 clear K55
 refine Dr.takes (fuel' := 0) (is' := [7, 6, 3, 5, 4, 2, 1, 0]) [7] [(4, v53)] (by kernel_rfl) rfl (by kernel_rfl) ?_
 refine Dr.done (by kernel_rfl) ?_
 refine q_ret (by kernel_rfl) ?_
 refine ⟨v53, retv_tmp rfl rfl, ?_⟩
 have hfin : xs ++ iv o.kind ++ tv o.frm ++ tv o.to ++ iv o.amount ++ tv o.key ++ iv o.slot ++ iv o.shard = xs ++ opv o := by simp only [opv, List.append_assoc]
 rw [hfin] at O57
 exact ⟨_, rfl, K0, O57⟩

theorem PutReply_calls (w : World) (v : Value) (xs : List UInt8) (p : ReplyM) (A : Option Addr) (c : Nat) (hv : RdB w v xs) (hpo : p.Ok) (hp : RdR w (.slice A p.rows.length c) p.rows) (hl : xs.length + (rpv p).length ≤ 70368744173568) : Calls Try.prog 35 ⟨[v, (agg [(i64 p.why), (i64 p.amount), (Value.slice A p.rows.length c)])]⟩ w (fun e w' => ∃ v', e = .returned v' ∧ Keeps none_ w w' ∧ OwnB w' w.heap.size 5 v' (xs ++ rpv p)) := by
 have hpl := rpv_len p
 have hi1 := hpo.why
 have hi2 := hpo.amount
 have hrl := (RdT.len RowM.two (by decide) hp).2
 unfold maxLen at hrl
 have hge := rowsv_ge p.rows
 have K0 : Keeps none_ w w := Keeps.refl w
 refine q_calls Try.func35 (by kernel_rfl) (by kernel_rfl) ?_
 refine qs ?_
 refine qg ?_
 refine Ops.new (o := rowL [(i64 p.why), (i64 p.amount), (Value.slice A p.rows.length c)] 27) (V := fun b => (ptr b)) (by kernel_rfl) (d := (some 3)) (by kernel_rfl) (fun b => rfl) (fun b1 w2 hb3 H4 K5 hs6 => ?_)
 have nb1 : w.heap.size ≤ b1 := by have := K0.size; omega
 replace K0 := K0.t0 K5
 clear K5 hs6
 refine og 1 [(0, v), (3, (ptr b1)), (4, (Value.slice none 0 0))] 2 ?_
 refine od ?_
 refine qs ?_
 refine q_draw (fun wz => Keeps none_ w2 wz) 13 (by kernel_rfl) (by kernel_rfl) (by kernel_rfl) (fun w7 K8 _ _ => ⟨K8, ?_⟩)
 replace K0 := K0.t0 K8
 replace H4 := H4.keep K8 (fun h => h)
 refine Dr.strong (S' := (fun wz => Keeps none_ w7 wz)) (Keeps.refl w7) (fun wz hx => K8.trans hx (fun i _ h => h) (fun _ _ h => h)) ?_
 clear K8
 refine Dr.takes (fuel' := 11) (is' := [1, 0]) [0, 1] [(0, v), (3, (ptr b1)), (4, (Value.slice none 0 0)), (7, v), (8, (ptr b1))] (by kernel_rfl) rfl (by kernel_rfl) ?_
 refine Dr.take (i := 2) (v := (i64 p.why)) (by kernel_rfl) (by kernel_rfl) (fun wz hS => Runs.load (t := 24) (a := ⟨b1, 0, none⟩) (by kernel_rfl) ((H4.keep hS (fun h => h)).loads (by kernel_rfl))) (d := (some 9)) (by kernel_rfl) rfl ?_
 refine Dr.takes (fuel' := 9) (is' := [4, 2, 1, 0]) [4] [(0, v), (3, (ptr b1)), (4, (Value.slice none 0 0)), (7, v), (9, (i64 p.why)), (11, (Value.pointer (some ⟨b1, 1, none⟩)))] (by kernel_rfl) rfl (by kernel_rfl) ?_
 refine Dr.take (i := 5) (v := (i64 p.amount)) (by kernel_rfl) (by kernel_rfl) (fun wz hS => Runs.load (t := 2) (a := ⟨b1, 1, none⟩) (by kernel_rfl) ((H4.keep hS (fun h => h)).loads (by kernel_rfl))) (d := (some 12)) (by kernel_rfl) rfl ?_
 refine Dr.takes (fuel' := 7) (is' := [7, 5, 4, 2, 1, 0]) [7] [(0, v), (3, (ptr b1)), (4, (Value.slice none 0 0)), (7, v), (9, (i64 p.why)), (12, (i64 p.amount)), (14, (Value.pointer (some ⟨b1, 2, none⟩)))] (by kernel_rfl) rfl (by kernel_rfl) ?_
 refine Dr.take (i := 8) (v := (Value.slice A p.rows.length c)) (by kernel_rfl) (by kernel_rfl) (fun wz hS => Runs.load (t := 25) (a := ⟨b1, 2, none⟩) (by kernel_rfl) ((H4.keep hS (fun h => h)).loads (by kernel_rfl))) (d := (some 15)) (by kernel_rfl) rfl ?_
 refine Dr.takes (fuel' := 4) (is' := [10, 9, 8, 7, 5, 4, 2, 1, 0]) [9, 10] [(0, v), (3, (ptr b1)), (4, (Value.slice none 0 0)), (7, v), (9, (i64 p.why)), (12, (i64 p.amount)), (17, (Value.int IntKind.u64 (IntKind.u64.wrap (((p.rows.length : Nat) : Int)))))] (by kernel_rfl) rfl (by kernel_rfl) ?_
 have e9 : IntKind.u64.wrap (((p.rows.length : Nat) : Int)) = ((p.rows.length : Nat) : Int) := wrap_u64 (by omega) (by omega)
 rw [e9]
 refine Dr.call (i := 3) (by kernel_rfl) (by kernel_rfl) (d := (some 10)) (by kernel_rfl) (fun _ => Int_calls _ v xs p.why (hv.keep0 (by omega) K0) (by omega) (by (try simp only at *); (try simp only [List.length_append] at *); (try simp only [List.length_cons] at *); (try simp only [List.length_nil] at *); omega)) ?_
 rintro _ w12 ⟨v11, rfl, K13, hO14⟩
 have O15 := own_base hO14 K0.size
 clear hO14
 have hL10 := iv_length_10 (n := p.why) (by omega)
 replace K0 := K0.t0 K13
 replace H4 := H4.keep K13 (fun h => h)
 refine ⟨_, _, rfl, rfl, K13, ?_⟩
 refine Dr.strong (S' := (fun wz => Keeps none_ w12 wz)) (Keeps.refl w12) (fun wz hx => K13.trans hx (fun i _ h => h) (fun _ _ h => h)) ?_
 clear K13
 refine Dr.call (i := 6) (by kernel_rfl) (by kernel_rfl) (d := (some 13)) (by kernel_rfl) (fun _ => Int_calls _ v11 (xs ++ iv p.why) p.amount (OwnB.rd O15) (by omega) (by (try simp only at *); (try simp only [List.length_append] at *); (try simp only [List.length_cons] at *); (try simp only [List.length_nil] at *); omega)) ?_
 rintro _ w18 ⟨v17, rfl, K19, hO20⟩
 have O21 := own_base hO20 K0.size
 clear hO20
 have hL16 := iv_length_10 (n := p.amount) (by omega)
 replace K0 := K0.t0 K19
 replace H4 := H4.keep K19 (fun h => h)
 replace O15 := own_keep0 O15 K19
 refine ⟨_, _, rfl, rfl, K19, ?_⟩
 refine Dr.strong (S' := (fun wz => Keeps none_ w18 wz)) (Keeps.refl w18) (fun wz hx => K19.trans hx (fun i _ h => h) (fun _ _ h => h)) ?_
 clear K19
 refine Dr.call (i := 11) (by kernel_rfl) (by kernel_rfl) (d := (some 18)) (by kernel_rfl) (fun _ => Uint_calls _ v17 (xs ++ iv p.why ++ iv p.amount) p.rows.length (OwnB.rd O21) (by omega) (by (try simp only at *); (try simp only [List.length_append] at *); (try simp only [List.length_cons] at *); (try simp only [List.length_nil] at *); omega)) ?_
 rintro _ w24 ⟨v23, rfl, K25, hO26⟩
 have O27 := own_base hO26 K0.size
 clear hO26
 have hL22 := uv_length_10 (n := p.rows.length) (by omega)
 replace K0 := K0.t0 K25
 replace H4 := H4.keep K25 (fun h => h)
 replace O15 := own_keep0 O15 K25
 replace O21 := own_keep0 O21 K25
 refine ⟨_, _, rfl, rfl, K25, ?_⟩
 refine Dr.strong (S' := (fun wz => Keeps none_ w24 wz)) (Keeps.refl w24) (fun wz hx => K25.trans hx (fun i _ h => h) (fun _ _ h => h)) ?_
 clear K25
 refine Dr.takes (fuel' := 0) (is' := [12, 11, 6, 3, 10, 9, 8, 7, 5, 4, 2, 1, 0]) [12] [(0, v23), (3, (ptr b1)), (4, (Value.slice none 0 0))] (by kernel_rfl) rfl (by kernel_rfl) ?_
 refine Dr.done (by kernel_rfl) ?_
 refine qs ?_
 refine qs ?_
 refine qg ?_
 refine og 1 [(0, v23), (4, (Value.slice none 0 0)), (19, (Value.pointer (some ⟨b1, 2, none⟩)))] 1 ?_
 refine Ops.go (v := (Value.slice A p.rows.length c)) (by kernel_rfl) (Runs.load (t := 25) (a := ⟨b1, 2, none⟩) (by kernel_rfl) (H4.loads (by kernel_rfl))) (d := (some 20)) (by kernel_rfl) rfl ?_
 refine og 2 [(0, v23), (4, (Value.slice none 0 0)), (20, (Value.slice A p.rows.length c)), (21, (i64 ((p.rows.length : Nat) : Int))), (22, (i64 0))] 4 ?_
 refine od ?_
 refine q_block (id := 0) (by kernel_rfl) ?_
 refine q_keep (R := [(0, v23), (4, (Value.slice none 0 0)), (20, (Value.slice A p.rows.length c)), (21, (i64 ((p.rows.length : Nat) : Int))), (22, (i64 0))]) (by kernel_rfl) ?_
 refine q_loop (fun (gs : Value × Nat × (List UInt8)) L (wx : World) => match gs with | (u, i, ys) => L = [(0, u), (4, (Value.slice none 0 0)), (20, (Value.slice A p.rows.length c)), (21, (i64 ((p.rows.length : Nat) : Int))), (22, (i64 ((i : Nat) : Int)))] ∧ OwnB wx w.heap.size 5 u ys ∧ ys = xs ++ (iv p.why ++ (iv p.amount ++ (uv p.rows.length ++ rowsv (p.rows.take i)))) ∧ i ≤ p.rows.length ∧ Keeps none_ w wx ∧ Has wx b1 (rowL [(i64 p.why), (i64 p.amount), (Value.slice A p.rows.length c)] 27)) (fun (gs : Value × Nat × (List UInt8)) => match gs with | (u, i, ys) => p.rows.length - i) (v23, 0, xs ++ iv p.why ++ iv p.amount ++ uv p.rows.length) (by kernel_rfl) ⟨rfl, O27, (by simp [rowsv]), Nat.zero_le _, K0, H4⟩ ?_
 clear H4 O15 O21 O27 K0
 rintro ⟨u, i, ys⟩ _ w28 ⟨rfl, hU, hE, hi, K29, H30⟩
 have hyl := congrArg List.length hE
 simp only [List.length_append] at hyl
 have htl0 := rowsv_take_le p.rows i
 refine qs ?_
 refine qg ?_
 refine og 1 [(0, u), (4, (Value.slice none 0 0)), (20, (Value.slice A p.rows.length c)), (21, (i64 ((p.rows.length : Nat) : Int))), (22, (i64 ((i : Nat) : Int))), (23, (Value.bool (decide (((i : Nat) : Int) < ((p.rows.length : Nat) : Int)))))] 1 ?_
 refine od ?_
 refine qs ?_
 refine q_cond (o := .tmp 23) (b := (decide (((i : Nat) : Int) < ((p.rows.length : Nat) : Int)))) (by kernel_rfl) rfl (fun h31 => ?_) (fun h31 => ?_)
 ·rw [h31]
  have p32 : ((i : Nat) : Int) < ((p.rows.length : Nat) : Int) := of_decide_eq_true h31
  obtain ⟨rb33, ro34, x, hA35, hx36⟩ := RdT.open (Rd.keep0 (by omega) hp K29) rfl (k := i) (by omega)
  have hX := hx36
  have hxr := hpo.rows x (List.mem_of_getElem? hX)
  have htk := congrArg List.length (rowsv_take hX)
  simp only [List.length_append] at htk
  have htl := rowsv_take_le p.rows (i + 1)
  have htg := tv_ge x.name
  refine q_skip (by kernel_rfl) ?_
  refine qs ?_
  refine q_block (id := 1) (by kernel_rfl) ?_
  refine qs ?_
  refine qg ?_
  refine Ops.go (by kernel_rfl) (Runs.ixSliceE (k := IntKind.i64) (t := 25) (len := p.rows.length) (cap := c) (s := 2) (off' := ro34 + i * 2) (i := ((i : Nat) : Int)) hA35 (by kernel_rfl) (by kernel_rfl) (by omega) (by omega) (by omega)) (d := (some 24)) (by kernel_rfl) rfl ?_
  refine Ops.go (v := (agg [(Value.string (str x.name)), (i64 x.amount)])) (by kernel_rfl) (Runs.load (t := 59) (a := ⟨rb33, ro34 + i * 2, none⟩) (by kernel_rfl) (RdT.ld (f := RowM.cells) (x := x) RowM.two (Rd.keep0 (by omega) hp K29) (by kernel_rfl) (by kernel_rfl) hA35 hx36)) (d := (some 25)) (by kernel_rfl) rfl ?_
  refine Ops.new (o := rowL [(Value.string ByteArray.empty), (i64 0)] 59) (V := fun b => (ptr b)) (by kernel_rfl) (d := (some 6)) (by kernel_rfl) (fun b => rfl) (fun b37 w38 hb39 H40 K41 hs42 => ?_)
  have lb37 : b1 < b37 := by have := H30.lt; omega
  have nb37 : w.heap.size ≤ b37 := by have := K29.size; omega
  have ob43 : ∀ i, (u).ownBlock = some i → i < b37 := fun i hi => by have := (World.ownsRow.lt hU i hi).2; omega
  replace K29 := K29.trans K41 (U := none_) (fun i h1 h2 => h2) (fun i h1 h2 => by exact h2)
  replace H30 := H30.keep K41 (fun h => h)
  replace hU := own_keep0 hU K41
  clear K41 hs42
  refine Ops.put (t := 59) (b := b37) (off := 0) (v := (agg [(Value.string (str x.name)), (i64 x.amount)])) (ys := [(Value.string (str x.name)), (i64 x.amount)]) (by kernel_rfl) (by kernel_rfl) H40 (by kernel_rfl) (d := none) (by kernel_rfl) rfl (fun w44 H45 K46 => ?_)
  clear H40
  replace K29 := K29.trans K46 (U := none_) (fun i h1 h2 => h2) (fun i h1 h2 => by have h2 : i = b37 := h2; exfalso; omega)
  replace H30 := H30.keep K46 (by intro h; change b1 = b37 at h; omega)
  replace hU := own_keep hU K46 (fun i hi hs => by have hs : i = b37 := hs; have := ob43 i hi; omega)
  clear K46
  refine od ?_
  refine q_draw (fun wz => Keeps none_ w44 wz) 8 (by kernel_rfl) (by kernel_rfl) (by kernel_rfl) (fun w47 K48 _ _ => ⟨K48, ?_⟩)
  replace K29 := K29.trans K48 (U := none_) (fun i h1 h2 => h2) (fun i h1 h2 => by exact h2)
  replace H30 := H30.keep K48 (fun h => h)
  replace H45 := H45.keep K48 (fun h => h)
  replace hU := own_keep0 hU K48
  refine Dr.strong (S' := (fun wz => Keeps none_ w47 wz)) (Keeps.refl w47) (fun wz hx => K48.trans hx (fun i _ h => h) (fun _ _ h => h)) ?_
  clear K48
  refine Dr.takes (fuel' := 6) (is' := [1, 0]) [0, 1] [(0, u), (4, (Value.slice none 0 0)), (6, (ptr b37)), (20, (Value.slice A p.rows.length c)), (21, (i64 ((p.rows.length : Nat) : Int))), (22, (i64 ((i : Nat) : Int))), (23, (Value.bool true)), (26, u), (27, (ptr b37))] (by kernel_rfl) rfl (by kernel_rfl) ?_
  refine Dr.take (i := 2) (v := (Value.string (str x.name))) (by kernel_rfl) (by kernel_rfl) (fun wz hS => Runs.load (t := 9) (a := ⟨b37, 0, none⟩) (by kernel_rfl) ((H45.keep hS (fun h => h)).loads (by kernel_rfl))) (d := (some 28)) (by kernel_rfl) rfl ?_
  refine Dr.takes (fuel' := 4) (is' := [4, 2, 1, 0]) [4] [(0, u), (4, (Value.slice none 0 0)), (6, (ptr b37)), (20, (Value.slice A p.rows.length c)), (21, (i64 ((p.rows.length : Nat) : Int))), (22, (i64 ((i : Nat) : Int))), (23, (Value.bool true)), (26, u), (28, (Value.string (str x.name))), (30, (Value.pointer (some ⟨b37, 1, none⟩)))] (by kernel_rfl) rfl (by kernel_rfl) ?_
  refine Dr.take (i := 5) (v := (i64 x.amount)) (by kernel_rfl) (by kernel_rfl) (fun wz hS => Runs.load (t := 2) (a := ⟨b37, 1, none⟩) (by kernel_rfl) ((H45.keep hS (fun h => h)).loads (by kernel_rfl))) (d := (some 31)) (by kernel_rfl) rfl ?_
  refine Dr.call (i := 3) (by kernel_rfl) (by kernel_rfl) (d := (some 29)) (by kernel_rfl) (fun _ => Text_calls _ u ys x.name (OwnB.rd hU) (by first | omega | decide) (by (try simp only at *); (try simp only [List.length_append] at *); (try simp only [List.length_cons] at *); (try simp only [List.length_nil] at *); omega)) ?_
  rintro _ w52 ⟨v51, rfl, K53, hO54⟩
  have O55 := own_base hO54 K29.size
  clear hO54
  have hL49 := tv_ge x.name
  have hL50 := tv_le (s := x.name) (by first | omega | decide)
  replace K29 := K29.trans K53 (U := none_) (fun i h1 h2 => h2) (fun i h1 h2 => by exact h2)
  replace H30 := H30.keep K53 (fun h => h)
  replace H45 := H45.keep K53 (fun h => h)
  replace hU := own_keep0 hU K53
  refine ⟨_, _, rfl, rfl, K53, ?_⟩
  refine Dr.strong (S' := (fun wz => Keeps none_ w52 wz)) (Keeps.refl w52) (fun wz hx => K53.trans hx (fun i _ h => h) (fun _ _ h => h)) ?_
  clear K53
  refine Dr.call (i := 6) (by kernel_rfl) (by kernel_rfl) (d := (some 32)) (by kernel_rfl) (fun _ => Int_calls _ v51 (ys ++ tv x.name) x.amount (OwnB.rd O55) (by omega) (by (try simp only at *); (try simp only [List.length_append] at *); (try simp only [List.length_cons] at *); (try simp only [List.length_nil] at *); omega)) ?_
  rintro _ w58 ⟨v57, rfl, K59, hO60⟩
  have O61 := own_base hO60 K29.size
  clear hO60
  have hL56 := iv_length_10 (n := x.amount) (by omega)
  replace K29 := K29.trans K59 (U := none_) (fun i h1 h2 => h2) (fun i h1 h2 => by exact h2)
  replace H30 := H30.keep K59 (fun h => h)
  replace H45 := H45.keep K59 (fun h => h)
  replace hU := own_keep0 hU K59
  replace O55 := own_keep0 O55 K59
  refine ⟨_, _, rfl, rfl, K59, ?_⟩
  refine Dr.strong (S' := (fun wz => Keeps none_ w58 wz)) (Keeps.refl w58) (fun wz hx => K59.trans hx (fun i _ h => h) (fun _ _ h => h)) ?_
  clear K59
  refine Dr.takes (fuel' := 0) (is' := [7, 6, 3, 5, 4, 2, 1, 0]) [7] [(0, v57), (4, (Value.slice none 0 0)), (6, (ptr b37)), (20, (Value.slice A p.rows.length c)), (21, (i64 ((p.rows.length : Nat) : Int))), (22, (i64 ((i : Nat) : Int))), (23, (Value.bool true))] (by kernel_rfl) rfl (by kernel_rfl) ?_
  refine Dr.done (by kernel_rfl) ?_
  refine qg ?_
  refine og 1 [(0, v57), (4, (Value.slice none 0 0)), (6, (ptr b37)), (20, (Value.slice A p.rows.length c)), (21, (i64 ((p.rows.length : Nat) : Int))), (22, (i64 ((i : Nat) : Int))), (23, (Value.bool true)), (33, (i64 (IntKind.i64.wrap (((i : Nat) : Int) + 1))))] 1 ?_
  have e62 : IntKind.i64.wrap (((i : Nat) : Int) + 1) = ((i + 1 : Nat) : Int) := by rw [wrap_i64 (by omega) (by omega)]; omega
  rw [e62]
  clear e62
  refine og 1 [(0, v57), (4, (Value.slice none 0 0)), (6, (ptr b37)), (20, (Value.slice A p.rows.length c)), (21, (i64 ((p.rows.length : Nat) : Int))), (22, (i64 ((i + 1 : Nat) : Int))), (23, (Value.bool true))] 2 ?_
  refine Ops.keep (R := [(0, v57), (4, (Value.slice none 0 0)), (20, (Value.slice A p.rows.length c)), (21, (i64 ((p.rows.length : Nat) : Int))), (22, (i64 ((i + 1 : Nat) : Int)))]) (by kernel_rfl) ?_
  refine od ?_
  exact ⟨(v57, i + 1, ys ++ tv x.name ++ iv x.amount), ⟨rfl, O61, (by rw [hE, rowsv_take hX]; simp only [List.append_assoc]), (by omega), K29, H30⟩, (show p.rows.length - (i + 1) < p.rows.length - i from by omega)⟩
 ·rw [h31]
  have p63 : ¬ (((i : Nat) : Int) < ((p.rows.length : Nat) : Int)) := of_decide_eq_false h31
  refine q_exit (id := 0) (by kernel_rfl) ?_
  refine qs ?_
  refine qg ?_
  refine og 2 [(4, u)] 2 ?_
  refine od ?_
  refine q_ret (by kernel_rfl) ?_
  refine ⟨u, retv_tmp rfl rfl, ?_⟩
  have hfin : ys = xs ++ rpv p := by rw [hE, List.take_of_length_le (by omega)]; rfl
  rw [hfin] at hU
  exact ⟨_, rfl, K29, hU⟩
end Go.Proofs.Ytlnidnadpdpciaa
