/- the reference's letters are packed -/
import Derived.Test.YtlnidnadpdpciaaProg
import Derived.Test.YtlnidnadpdpciaaKG
import Derived.Test.YtlnidnadpdpciaaKB
import Derived.Test.YtlnidnadpdpciaaLX
set_option linter.unusedVariables false
namespace Go.Proofs.Ytlnidnadpdpciaa
open Go.Q Go.RowKit

theorem RBytesW_calls (w : World) (v : Value) (xs : List UInt8) (B : Option Addr) (d : Nat) (ss : List UInt8) (hv : RdB w v xs) (hp : RdB w (.slice B ss.length d) ss) (hs : ss.length ≤ 70368744173568) (hl : xs.length ≤ 70368744173568) : Calls Try.prog 44 ⟨[v, (Value.slice B ss.length d)]⟩ w (fun e w' => ∃ v', e = .returned v' ∧ Keeps none_ w w' ∧ OwnB w' w.heap.size 5 v' (xs ++ tv ss)) := by
 have K0 : Keeps none_ w w := Keeps.refl w
 refine q_calls Try.func44 (by kernel_rfl) (by kernel_rfl) ?_
 refine qs ?_
 refine qg ?_
 refine og 1 [(0, v), (1, (Value.slice B ss.length d)), (4, (Value.slice none 0 0))] 1 ?_
 refine od ?_
 refine qs ?_
 refine qg ?_
 refine og 4 [(1, (Value.slice B ss.length d)), (4, (Value.slice none 0 0)), (6, v), (9, (Value.int IntKind.u64 (IntKind.u64.wrap (((ss.length : Nat) : Int)))))] 4 ?_
 have e1 : IntKind.u64.wrap (((ss.length : Nat) : Int)) = ((ss.length : Nat) : Int) := wrap_u64 (by omega) (by omega)
 rw [e1]
 refine Ops.call (by kernel_rfl) (d := (some 10)) (by kernel_rfl) (RUint_calls _ v xs ss.length (hv.keep0 (by omega) K0) (by omega) (by (try simp only at *); (try simp only [List.length_append] at *); (try simp only [List.length_cons] at *); (try simp only [List.length_nil] at *); omega)) ?_
 rintro _ w4 ⟨v3, rfl, K5, hO6⟩
 have O7 := own_base hO6 K0.size
 clear hO6
 have hL2 := uv_length_10 (n := ss.length) (by omega)
 refine ⟨_, _, rfl, rfl, ?_⟩
 replace K0 := K0.t0 K5
 clear K5
 refine og 1 [(1, (Value.slice B ss.length d)), (4, (Value.slice none 0 0)), (5, v3)] 6 ?_
 refine od ?_
 refine qs ?_
 refine qg ?_
 refine og 2 [(4, (Value.slice none 0 0)), (5, v3), (11, v3), (12, (Value.slice B ss.length d))] 2 ?_
 obtain ⟨v8, w9, hr10, hO11, K12⟩ := OwnB.app (ty := 28) tyB O7 (hp.keep0 (by omega) K0) (by (try simp only at *); (try simp only [List.length_append] at *); (try simp only [List.length_cons] at *); (try simp only [List.length_nil] at *); omega) K0.size
 refine Ops.go (v := v8) (by kernel_rfl) (Runs.append (ts := #[28, 28]) (ty := 28) (vs := [v3, (Value.slice B ss.length d)]) (by kernel_rfl) hr10) (d := (some 13)) (by kernel_rfl) rfl ?_
 have K13 := Keeps.own2 K0 K12
 clear O7 K0 hr10 K12
 refine og 1 [(4, (Value.slice none 0 0)), (5, v8)] 4 ?_
 refine od ?_
 refine qs ?_
 refine qg ?_
 refine og 2 [(4, v8)] 2 ?_
 refine od ?_
 refine q_ret (by kernel_rfl) ?_
 refine ⟨v8, retv_tmp rfl rfl, ?_⟩
 have hfin : xs ++ uv ss.length ++ ss = xs ++ tv ss := by simp [tv]
 rw [hfin] at hO11
 exact ⟨_, rfl, K13, hO11⟩

theorem RText_calls (w : World) (v : Value) (xs : List UInt8) (ss : List UInt8) (hv : RdB w v xs) (hs : ss.length ≤ 70368744173568) (hl : xs.length ≤ 70368744173568) : Calls Try.prog 70 ⟨[v, (Value.string (str ss))]⟩ w (fun e w' => ∃ v', e = .returned v' ∧ Keeps none_ w w' ∧ OwnB w' w.heap.size 5 v' (xs ++ tv ss)) := by
 have K0 : Keeps none_ w w := Keeps.refl w
 refine q_calls Try.func70 (by kernel_rfl) (by kernel_rfl) ?_
 refine qs ?_
 refine qg ?_
 refine og 1 [(0, v), (1, (Value.string (str ss))), (4, (Value.slice none 0 0))] 1 ?_
 refine od ?_
 refine qs ?_
 refine qg ?_
 refine og 2 [(4, (Value.slice none 0 0)), (5, v), (6, (Value.string (str ss)))] 2 ?_
 obtain ⟨A1, c2, w3, hr4, K5, F6, hge7⟩ := run_s2b (P := Try.prog) (w := w) (src := 9) (dst := 28) (e := 5) (ss := ss) (by kernel_rfl) (by kernel_rfl) (by first | omega | decide)
 refine Ops.go (v := (Value.slice A1 ss.length c2)) (by kernel_rfl) (Runs.conv (by kernel_rfl) hr4) (d := (some 7)) (by kernel_rfl) rfl ?_
 replace K0 := K0.t0 K5
 clear K5 hr4 hge7
 refine Ops.call (by kernel_rfl) (d := (some 8)) (by kernel_rfl) (RBytesW_calls _ v xs A1 c2 ss (hv.keep0 (by omega) K0) F6 (by first | omega | decide) (by (try simp only at *); (try simp only [List.length_append] at *); (try simp only [List.length_cons] at *); (try simp only [List.length_nil] at *); omega)) ?_
 rintro _ w11 ⟨v10, rfl, K12, hO13⟩
 have O14 := own_base hO13 K0.size
 clear hO13
 have hL8 := tv_ge ss
 have hL9 := tv_le (s := ss) (by first | omega | decide)
 refine ⟨_, _, rfl, rfl, ?_⟩
 replace K0 := K0.t0 K12
 replace F6 := (Rd.keep0 (by omega) F6 K12)
 clear K12
 refine og 1 [(4, v10)] 5 ?_
 refine od ?_
 refine q_ret (by kernel_rfl) ?_
 refine ⟨v10, retv_tmp rfl rfl, ?_⟩
 exact ⟨_, rfl, K0, O14⟩

theorem RPutOp_calls (w : World) (v : Value) (xs : List UInt8) (o : Opm) (hv : RdB w v xs) (ho : o.Ok) (hl : xs.length + (opv o).length ≤ 70368744173568) : Calls Try.prog 45 ⟨[v, (agg [(i64 o.kind), (Value.string (str o.frm)), (Value.string (str o.to)), (i64 o.amount), (Value.string (str o.key)), (i64 o.slot), (i64 o.shard)])]⟩ w (fun e w' => ∃ v', e = .returned v' ∧ Keeps none_ w w' ∧ OwnB w' w.heap.size 5 v' (xs ++ opv o)) := by
 have hol := opv_len o
 have hi1 := ho.kind
 have hi2 := ho.amount
 have hi3 := ho.slot
 have hi4 := ho.shard
 have ht1 := tv_ge o.frm
 have ht2 := tv_ge o.to
 have ht3 := tv_ge o.key
 have K0 : Keeps none_ w w := Keeps.refl w
 refine q_calls Try.func45 (by kernel_rfl) (by kernel_rfl) ?_
 refine qs ?_
 refine qg ?_
 refine Ops.new (o := rowL [(i64 o.kind), (Value.string (str o.frm)), (Value.string (str o.to)), (i64 o.amount), (Value.string (str o.key)), (i64 o.slot), (i64 o.shard)] 23) (V := fun b => (ptr b)) (by kernel_rfl) (d := (some 3)) (by kernel_rfl) (fun b => rfl) (fun b1 w2 hb3 H4 K5 hs6 => ?_)
 have nb1 : w.heap.size ≤ b1 := by have := K0.size; omega
 replace K0 := K0.t0 K5
 clear K5 hs6
 refine og 1 [(0, v), (3, (ptr b1)), (4, (Value.slice none 0 0))] 2 ?_
 refine od ?_
 refine qs ?_
 refine qg ?_
 refine og 2 [(0, v), (3, (ptr b1)), (4, (Value.slice none 0 0)), (5, v), (6, (ptr b1))] 2 ?_
 refine Ops.go (v := (i64 o.kind)) (by kernel_rfl) (Runs.load (t := 3) (a := ⟨b1, 0, none⟩) (by kernel_rfl) (H4.loads (by kernel_rfl))) (d := (some 7)) (by kernel_rfl) rfl ?_
 refine Ops.call (by kernel_rfl) (d := (some 8)) (by kernel_rfl) (RInt_calls _ v xs o.kind (hv.keep0 (by omega) K0) (by omega) (by (try simp only at *); (try simp only [List.length_append] at *); (try simp only [List.length_cons] at *); (try simp only [List.length_nil] at *); omega)) ?_
 rintro _ w9 ⟨v8, rfl, K10, hO11⟩
 have O12 := own_base hO11 K0.size
 clear hO11
 have hL7 := iv_length_10 (n := o.kind) (by omega)
 refine ⟨_, _, rfl, rfl, ?_⟩
 replace K0 := K0.t0 K10
 replace H4 := H4.keep K10 (fun h => h)
 clear K10
 refine og 1 [(0, v8), (3, (ptr b1)), (4, (Value.slice none 0 0))] 5 ?_
 refine od ?_
 refine qs ?_
 refine qg ?_
 refine og 2 [(0, v8), (3, (ptr b1)), (4, (Value.slice none 0 0)), (9, v8), (10, (Value.pointer (some ⟨b1, 1, none⟩)))] 2 ?_
 refine Ops.go (v := (Value.string (str o.frm))) (by kernel_rfl) (Runs.load (t := 9) (a := ⟨b1, 1, none⟩) (by kernel_rfl) (H4.loads (by kernel_rfl))) (d := (some 11)) (by kernel_rfl) rfl ?_
 refine Ops.call (by kernel_rfl) (d := (some 12)) (by kernel_rfl) (RText_calls _ v8 (xs ++ iv o.kind) o.frm (OwnB.rd O12) (by first | omega | decide) (by (try simp only at *); (try simp only [List.length_append] at *); (try simp only [List.length_cons] at *); (try simp only [List.length_nil] at *); omega)) ?_
 rintro _ w16 ⟨v15, rfl, K17, hO18⟩
 have O19 := own_base hO18 K0.size
 clear hO18
 have hL13 := tv_ge o.frm
 have hL14 := tv_le (s := o.frm) (by first | omega | decide)
 refine ⟨_, _, rfl, rfl, ?_⟩
 replace K0 := K0.t0 K17
 replace H4 := H4.keep K17 (fun h => h)
 replace O12 := own_keep0 O12 K17
 clear K17
 refine og 1 [(0, v15), (3, (ptr b1)), (4, (Value.slice none 0 0))] 5 ?_
 refine od ?_
 refine qs ?_
 refine qg ?_
 refine og 2 [(0, v15), (3, (ptr b1)), (4, (Value.slice none 0 0)), (13, v15), (14, (Value.pointer (some ⟨b1, 2, none⟩)))] 2 ?_
 refine Ops.go (v := (Value.string (str o.to))) (by kernel_rfl) (Runs.load (t := 9) (a := ⟨b1, 2, none⟩) (by kernel_rfl) (H4.loads (by kernel_rfl))) (d := (some 15)) (by kernel_rfl) rfl ?_
 refine Ops.call (by kernel_rfl) (d := (some 16)) (by kernel_rfl) (RText_calls _ v15 (xs ++ iv o.kind ++ tv o.frm) o.to (OwnB.rd O19) (by first | omega | decide) (by (try simp only at *); (try simp only [List.length_append] at *); (try simp only [List.length_cons] at *); (try simp only [List.length_nil] at *); omega)) ?_
 rintro _ w23 ⟨v22, rfl, K24, hO25⟩
 have O26 := own_base hO25 K0.size
 clear hO25
 have hL20 := tv_ge o.to
 have hL21 := tv_le (s := o.to) (by first | omega | decide)
 refine ⟨_, _, rfl, rfl, ?_⟩
 replace K0 := K0.t0 K24
 replace H4 := H4.keep K24 (fun h => h)
 replace O12 := own_keep0 O12 K24
 replace O19 := own_keep0 O19 K24
 clear K24
 refine og 1 [(0, v22), (3, (ptr b1)), (4, (Value.slice none 0 0))] 5 ?_
 refine od ?_
 refine qs ?_
 refine qg ?_
 refine og 2 [(0, v22), (3, (ptr b1)), (4, (Value.slice none 0 0)), (17, v22), (18, (Value.pointer (some ⟨b1, 3, none⟩)))] 2 ?_
 refine Ops.go (v := (i64 o.amount)) (by kernel_rfl) (Runs.load (t := 2) (a := ⟨b1, 3, none⟩) (by kernel_rfl) (H4.loads (by kernel_rfl))) (d := (some 19)) (by kernel_rfl) rfl ?_
 refine Ops.call (by kernel_rfl) (d := (some 20)) (by kernel_rfl) (RInt_calls _ v22 (xs ++ iv o.kind ++ tv o.frm ++ tv o.to) o.amount (OwnB.rd O26) (by omega) (by (try simp only at *); (try simp only [List.length_append] at *); (try simp only [List.length_cons] at *); (try simp only [List.length_nil] at *); omega)) ?_
 rintro _ w29 ⟨v28, rfl, K30, hO31⟩
 have O32 := own_base hO31 K0.size
 clear hO31
 have hL27 := iv_length_10 (n := o.amount) (by omega)
 refine ⟨_, _, rfl, rfl, ?_⟩
 replace K0 := K0.t0 K30
 replace H4 := H4.keep K30 (fun h => h)
 replace O12 := own_keep0 O12 K30
 replace O19 := own_keep0 O19 K30
 replace O26 := own_keep0 O26 K30
 clear K30
 refine og 1 [(0, v28), (3, (ptr b1)), (4, (Value.slice none 0 0))] 5 ?_
 refine od ?_
 refine qs ?_
 refine qg ?_
 refine og 2 [(0, v28), (3, (ptr b1)), (4, (Value.slice none 0 0)), (21, v28), (22, (Value.pointer (some ⟨b1, 4, none⟩)))] 2 ?_
 refine Ops.go (v := (Value.string (str o.key))) (by kernel_rfl) (Runs.load (t := 9) (a := ⟨b1, 4, none⟩) (by kernel_rfl) (H4.loads (by kernel_rfl))) (d := (some 23)) (by kernel_rfl) rfl ?_
 refine Ops.call (by kernel_rfl) (d := (some 24)) (by kernel_rfl) (RText_calls _ v28 (xs ++ iv o.kind ++ tv o.frm ++ tv o.to ++ iv o.amount) o.key (OwnB.rd O32) (by first | omega | decide) (by (try simp only at *); (try simp only [List.length_append] at *); (try simp only [List.length_cons] at *); (try simp only [List.length_nil] at *); omega)) ?_
 rintro _ w36 ⟨v35, rfl, K37, hO38⟩
 have O39 := own_base hO38 K0.size
 clear hO38
 have hL33 := tv_ge o.key
 have hL34 := tv_le (s := o.key) (by first | omega | decide)
 refine ⟨_, _, rfl, rfl, ?_⟩
 replace K0 := K0.t0 K37
 replace H4 := H4.keep K37 (fun h => h)
 replace O12 := own_keep0 O12 K37
 replace O19 := own_keep0 O19 K37
 replace O26 := own_keep0 O26 K37
 replace O32 := own_keep0 O32 K37
 clear K37
 refine og 1 [(0, v35), (3, (ptr b1)), (4, (Value.slice none 0 0))] 5 ?_
 refine od ?_
 refine qs ?_
 refine qg ?_
 refine og 2 [(0, v35), (3, (ptr b1)), (4, (Value.slice none 0 0)), (25, v35), (26, (Value.pointer (some ⟨b1, 5, none⟩)))] 2 ?_
 refine Ops.go (v := (i64 o.slot)) (by kernel_rfl) (Runs.load (t := 3) (a := ⟨b1, 5, none⟩) (by kernel_rfl) (H4.loads (by kernel_rfl))) (d := (some 27)) (by kernel_rfl) rfl ?_
 refine Ops.call (by kernel_rfl) (d := (some 28)) (by kernel_rfl) (RInt_calls _ v35 (xs ++ iv o.kind ++ tv o.frm ++ tv o.to ++ iv o.amount ++ tv o.key) o.slot (OwnB.rd O39) (by omega) (by (try simp only at *); (try simp only [List.length_append] at *); (try simp only [List.length_cons] at *); (try simp only [List.length_nil] at *); omega)) ?_
 rintro _ w42 ⟨v41, rfl, K43, hO44⟩
 have O45 := own_base hO44 K0.size
 clear hO44
 have hL40 := iv_length_10 (n := o.slot) (by omega)
 refine ⟨_, _, rfl, rfl, ?_⟩
 replace K0 := K0.t0 K43
 replace H4 := H4.keep K43 (fun h => h)
 replace O12 := own_keep0 O12 K43
 replace O19 := own_keep0 O19 K43
 replace O26 := own_keep0 O26 K43
 replace O32 := own_keep0 O32 K43
 replace O39 := own_keep0 O39 K43
 clear K43
 refine og 1 [(0, v41), (3, (ptr b1)), (4, (Value.slice none 0 0))] 5 ?_
 refine od ?_
 refine qs ?_
 refine qg ?_
 refine og 2 [(4, (Value.slice none 0 0)), (29, v41), (30, (Value.pointer (some ⟨b1, 6, none⟩)))] 2 ?_
 refine Ops.go (v := (i64 o.shard)) (by kernel_rfl) (Runs.load (t := 3) (a := ⟨b1, 6, none⟩) (by kernel_rfl) (H4.loads (by kernel_rfl))) (d := (some 31)) (by kernel_rfl) rfl ?_
 refine Ops.call (by kernel_rfl) (d := (some 32)) (by kernel_rfl) (RInt_calls _ v41 (xs ++ iv o.kind ++ tv o.frm ++ tv o.to ++ iv o.amount ++ tv o.key ++ iv o.slot) o.shard (OwnB.rd O45) (by omega) (by (try simp only at *); (try simp only [List.length_append] at *); (try simp only [List.length_cons] at *); (try simp only [List.length_nil] at *); omega)) ?_
 rintro _ w48 ⟨v47, rfl, K49, hO50⟩
 have O51 := own_base hO50 K0.size
 clear hO50
 have hL46 := iv_length_10 (n := o.shard) (by omega)
 refine ⟨_, _, rfl, rfl, ?_⟩
 replace K0 := K0.t0 K49
 replace H4 := H4.keep K49 (fun h => h)
 replace O12 := own_keep0 O12 K49
 replace O19 := own_keep0 O19 K49
 replace O26 := own_keep0 O26 K49
 replace O32 := own_keep0 O32 K49
 replace O39 := own_keep0 O39 K49
 replace O45 := own_keep0 O45 K49
 clear K49
 refine og 1 [(4, v47)] 5 ?_
 refine od ?_
 refine q_ret (by kernel_rfl) ?_
 refine ⟨v47, retv_tmp rfl rfl, ?_⟩
 have hfin : xs ++ iv o.kind ++ tv o.frm ++ tv o.to ++ iv o.amount ++ tv o.key ++ iv o.slot ++ iv o.shard = xs ++ opv o := by simp only [opv, List.append_assoc]
 rw [hfin] at O51
 exact ⟨_, rfl, K0, O51⟩

theorem RPutReply_calls (w : World) (v : Value) (xs : List UInt8) (p : ReplyM) (A : Option Addr) (c : Nat) (hv : RdB w v xs) (hpo : p.Ok) (hp : RdR w (.slice A p.rows.length c) p.rows) (hl : xs.length + (rpv p).length ≤ 70368744173568) : Calls Try.prog 46 ⟨[v, (agg [(i64 p.why), (i64 p.amount), (Value.slice A p.rows.length c)])]⟩ w (fun e w' => ∃ v', e = .returned v' ∧ Keeps none_ w w' ∧ OwnB w' w.heap.size 5 v' (xs ++ rpv p)) := by
 have hpl := rpv_len p
 have hi1 := hpo.why
 have hi2 := hpo.amount
 have hrl := (RdT.len RowM.two (by decide) hp).2
 unfold maxLen at hrl
 have hge := rowsv_ge p.rows
 have K0 : Keeps none_ w w := Keeps.refl w
 refine q_calls Try.func46 (by kernel_rfl) (by kernel_rfl) ?_
 refine qs ?_
 refine qg ?_
 refine Ops.new (o := rowL [(i64 p.why), (i64 p.amount), (Value.slice A p.rows.length c)] 27) (V := fun b => (ptr b)) (by kernel_rfl) (d := (some 3)) (by kernel_rfl) (fun b => rfl) (fun b1 w2 hb3 H4 K5 hs6 => ?_)
 have nb1 : w.heap.size ≤ b1 := by have := K0.size; omega
 replace K0 := K0.t0 K5
 clear K5 hs6
 refine og 1 [(0, v), (3, (ptr b1)), (4, (Value.slice none 0 0))] 2 ?_
 refine od ?_
 refine qs ?_
 refine qg ?_
 refine og 2 [(0, v), (3, (ptr b1)), (4, (Value.slice none 0 0)), (6, v), (7, (ptr b1))] 2 ?_
 refine Ops.go (v := (i64 p.why)) (by kernel_rfl) (Runs.load (t := 24) (a := ⟨b1, 0, none⟩) (by kernel_rfl) (H4.loads (by kernel_rfl))) (d := (some 8)) (by kernel_rfl) rfl ?_
 refine Ops.call (by kernel_rfl) (d := (some 9)) (by kernel_rfl) (RInt_calls _ v xs p.why (hv.keep0 (by omega) K0) (by omega) (by (try simp only at *); (try simp only [List.length_append] at *); (try simp only [List.length_cons] at *); (try simp only [List.length_nil] at *); omega)) ?_
 rintro _ w9 ⟨v8, rfl, K10, hO11⟩
 have O12 := own_base hO11 K0.size
 clear hO11
 have hL7 := iv_length_10 (n := p.why) (by omega)
 refine ⟨_, _, rfl, rfl, ?_⟩
 replace K0 := K0.t0 K10
 replace H4 := H4.keep K10 (fun h => h)
 clear K10
 refine og 1 [(0, v8), (3, (ptr b1)), (4, (Value.slice none 0 0))] 5 ?_
 refine od ?_
 refine qs ?_
 refine qg ?_
 refine og 2 [(0, v8), (3, (ptr b1)), (4, (Value.slice none 0 0)), (10, v8), (11, (Value.pointer (some ⟨b1, 1, none⟩)))] 2 ?_
 refine Ops.go (v := (i64 p.amount)) (by kernel_rfl) (Runs.load (t := 2) (a := ⟨b1, 1, none⟩) (by kernel_rfl) (H4.loads (by kernel_rfl))) (d := (some 12)) (by kernel_rfl) rfl ?_
 refine Ops.call (by kernel_rfl) (d := (some 13)) (by kernel_rfl) (RInt_calls _ v8 (xs ++ iv p.why) p.amount (OwnB.rd O12) (by omega) (by (try simp only at *); (try simp only [List.length_append] at *); (try simp only [List.length_cons] at *); (try simp only [List.length_nil] at *); omega)) ?_
 rintro _ w15 ⟨v14, rfl, K16, hO17⟩
 have O18 := own_base hO17 K0.size
 clear hO17
 have hL13 := iv_length_10 (n := p.amount) (by omega)
 refine ⟨_, _, rfl, rfl, ?_⟩
 replace K0 := K0.t0 K16
 replace H4 := H4.keep K16 (fun h => h)
 replace O12 := own_keep0 O12 K16
 clear K16
 refine og 1 [(0, v14), (3, (ptr b1)), (4, (Value.slice none 0 0))] 5 ?_
 refine od ?_
 refine qs ?_
 refine qg ?_
 refine og 2 [(0, v14), (3, (ptr b1)), (4, (Value.slice none 0 0)), (14, v14), (15, (Value.pointer (some ⟨b1, 2, none⟩)))] 2 ?_
 refine Ops.go (v := (Value.slice A p.rows.length c)) (by kernel_rfl) (Runs.load (t := 25) (a := ⟨b1, 2, none⟩) (by kernel_rfl) (H4.loads (by kernel_rfl))) (d := (some 16)) (by kernel_rfl) rfl ?_
 refine og 2 [(0, v14), (3, (ptr b1)), (4, (Value.slice none 0 0)), (14, v14), (18, (Value.int IntKind.u64 (IntKind.u64.wrap (((p.rows.length : Nat) : Int)))))] 5 ?_
 have e19 : IntKind.u64.wrap (((p.rows.length : Nat) : Int)) = ((p.rows.length : Nat) : Int) := wrap_u64 (by omega) (by omega)
 rw [e19]
 refine Ops.call (by kernel_rfl) (d := (some 19)) (by kernel_rfl) (RUint_calls _ v14 (xs ++ iv p.why ++ iv p.amount) p.rows.length (OwnB.rd O18) (by omega) (by (try simp only at *); (try simp only [List.length_append] at *); (try simp only [List.length_cons] at *); (try simp only [List.length_nil] at *); omega)) ?_
 rintro _ w22 ⟨v21, rfl, K23, hO24⟩
 have O25 := own_base hO24 K0.size
 clear hO24
 have hL20 := uv_length_10 (n := p.rows.length) (by omega)
 refine ⟨_, _, rfl, rfl, ?_⟩
 replace K0 := K0.t0 K23
 replace H4 := H4.keep K23 (fun h => h)
 replace O12 := own_keep0 O12 K23
 replace O18 := own_keep0 O18 K23
 clear K23
 refine og 1 [(0, v21), (3, (ptr b1)), (4, (Value.slice none 0 0))] 7 ?_
 refine od ?_
 refine qs ?_
 refine qs ?_
 refine qg ?_
 refine og 1 [(0, v21), (3, (ptr b1)), (4, (Value.slice none 0 0)), (5, (i64 0))] 1 ?_
 refine od ?_
 refine q_block (id := 0) (by kernel_rfl) ?_
 refine q_keep (R := [(0, v21), (3, (ptr b1)), (4, (Value.slice none 0 0)), (5, (i64 0))]) (by kernel_rfl) ?_
 refine q_loop (fun (gs : Value × Nat × (List UInt8)) L (wx : World) => match gs with | (u, i, ys) => L = [(0, u), (3, (ptr b1)), (4, (Value.slice none 0 0)), (5, (i64 ((i : Nat) : Int)))] ∧ OwnB wx w.heap.size 5 u ys ∧ ys = xs ++ (iv p.why ++ (iv p.amount ++ (uv p.rows.length ++ rowsv (p.rows.take i)))) ∧ i ≤ p.rows.length ∧ Keeps none_ w wx ∧ Has wx b1 (rowL [(i64 p.why), (i64 p.amount), (Value.slice A p.rows.length c)] 27)) (fun (gs : Value × Nat × (List UInt8)) => match gs with | (u, i, ys) => p.rows.length - i) (v21, 0, xs ++ iv p.why ++ iv p.amount ++ uv p.rows.length) (by kernel_rfl) ⟨rfl, O25, (by simp [rowsv]), Nat.zero_le _, K0, H4⟩ ?_
 clear H4 O12 O18 O25 K0
 rintro ⟨u, i, ys⟩ _ w26 ⟨rfl, hU, hE, hi, K27, H28⟩
 have hyl := congrArg List.length hE
 simp only [List.length_append] at hyl
 have htl0 := rowsv_take_le p.rows i
 refine qs ?_
 refine qs ?_
 refine qg ?_
 refine og 2 [(0, u), (3, (ptr b1)), (4, (Value.slice none 0 0)), (5, (i64 ((i : Nat) : Int))), (20, (i64 ((i : Nat) : Int))), (21, (Value.pointer (some ⟨b1, 2, none⟩)))] 2 ?_
 refine Ops.go (v := (Value.slice A p.rows.length c)) (by kernel_rfl) (Runs.load (t := 25) (a := ⟨b1, 2, none⟩) (by kernel_rfl) (H28.loads (by kernel_rfl))) (d := (some 22)) (by kernel_rfl) rfl ?_
 refine og 2 [(0, u), (3, (ptr b1)), (4, (Value.slice none 0 0)), (5, (i64 ((i : Nat) : Int))), (24, (Value.bool (decide (((i : Nat) : Int) < ((p.rows.length : Nat) : Int)))))] 5 ?_
 refine od ?_
 refine q_cond (o := .tmp 24) (b := (decide (((i : Nat) : Int) < ((p.rows.length : Nat) : Int)))) (by kernel_rfl) rfl (fun h29 => ?_) (fun h29 => ?_)
 ·rw [h29]
  have p30 : ((i : Nat) : Int) < ((p.rows.length : Nat) : Int) := of_decide_eq_true h29
  obtain ⟨rb31, ro32, x, hA33, hx34⟩ := RdT.open (Rd.keep0 (by omega) hp K27) rfl (k := i) (by omega)
  have hX := hx34
  have hxr := hpo.rows x (List.mem_of_getElem? hX)
  have htk := congrArg List.length (rowsv_take hX)
  simp only [List.length_append] at htk
  have htl := rowsv_take_le p.rows (i + 1)
  have htg := tv_ge x.name
  refine q_skip (by kernel_rfl) ?_
  refine qs ?_
  refine q_block (id := 1) (by kernel_rfl) ?_
  refine qs ?_
  refine qg ?_
  refine og 2 [(0, u), (3, (ptr b1)), (4, (Value.slice none 0 0)), (5, (i64 ((i : Nat) : Int))), (24, (Value.bool true)), (27, u), (28, (Value.pointer (some ⟨b1, 2, none⟩)))] 2 ?_
  refine Ops.go (v := (Value.slice A p.rows.length c)) (by kernel_rfl) (Runs.load (t := 25) (a := ⟨b1, 2, none⟩) (by kernel_rfl) (H28.loads (by kernel_rfl))) (d := (some 29)) (by kernel_rfl) rfl ?_
  refine og 1 [(0, u), (3, (ptr b1)), (4, (Value.slice none 0 0)), (5, (i64 ((i : Nat) : Int))), (24, (Value.bool true)), (27, u), (29, (Value.slice A p.rows.length c)), (30, (i64 ((i : Nat) : Int)))] 4 ?_
  refine Ops.go (by kernel_rfl) (Runs.ixSliceE (k := IntKind.i64) (t := 25) (len := p.rows.length) (cap := c) (s := 2) (off' := ro32 + i * 2) (i := ((i : Nat) : Int)) hA33 (by kernel_rfl) (by kernel_rfl) (by omega) (by omega) (by omega)) (d := (some 31)) (by kernel_rfl) rfl ?_
  refine og 1 [(0, u), (3, (ptr b1)), (4, (Value.slice none 0 0)), (5, (i64 ((i : Nat) : Int))), (24, (Value.bool true)), (27, u), (32, (Value.pointer (some ⟨rb31, ro32 + i * 2, none⟩)))] 6 ?_
  refine Ops.go (v := (Value.string (str x.name))) (by kernel_rfl) (Runs.load (t := 9) (a := ⟨rb31, ro32 + i * 2, none⟩) (by kernel_rfl) (RdT.ldf (f := RowM.cells) (x := x) (o := 0) RowM.two (Rd.keep0 (by omega) hp K27) (by kernel_rfl) hA33 hx34 rfl)) (d := (some 33)) (by kernel_rfl) rfl ?_
  refine Ops.call (by kernel_rfl) (d := (some 34)) (by kernel_rfl) (RText_calls _ u ys x.name (OwnB.rd hU) (by first | omega | decide) (by (try simp only at *); (try simp only [List.length_append] at *); (try simp only [List.length_cons] at *); (try simp only [List.length_nil] at *); omega)) ?_
  rintro _ w38 ⟨v37, rfl, K39, hO40⟩
  have O41 := own_base hO40 K27.size
  clear hO40
  have hL35 := tv_ge x.name
  have hL36 := tv_le (s := x.name) (by first | omega | decide)
  refine ⟨_, _, rfl, rfl, ?_⟩
  replace K27 := K27.trans K39 (U := none_) (fun i h1 h2 => h2) (fun i h1 h2 => by exact h2)
  replace H28 := H28.keep K39 (fun h => h)
  replace hU := own_keep0 hU K39
  clear K39
  refine og 1 [(0, v37), (3, (ptr b1)), (4, (Value.slice none 0 0)), (5, (i64 ((i : Nat) : Int))), (24, (Value.bool true))] 9 ?_
  refine od ?_
  refine qg ?_
  refine og 2 [(0, v37), (3, (ptr b1)), (4, (Value.slice none 0 0)), (5, (i64 ((i : Nat) : Int))), (24, (Value.bool true)), (35, v37), (36, (Value.pointer (some ⟨b1, 2, none⟩)))] 2 ?_
  refine Ops.go (v := (Value.slice A p.rows.length c)) (by kernel_rfl) (Runs.load (t := 25) (a := ⟨b1, 2, none⟩) (by kernel_rfl) (H28.loads (by kernel_rfl))) (d := (some 37)) (by kernel_rfl) rfl ?_
  refine og 1 [(0, v37), (3, (ptr b1)), (4, (Value.slice none 0 0)), (5, (i64 ((i : Nat) : Int))), (24, (Value.bool true)), (35, v37), (37, (Value.slice A p.rows.length c)), (38, (i64 ((i : Nat) : Int)))] 4 ?_
  refine Ops.go (by kernel_rfl) (Runs.ixSliceE (k := IntKind.i64) (t := 25) (len := p.rows.length) (cap := c) (s := 2) (off' := ro32 + i * 2) (i := ((i : Nat) : Int)) hA33 (by kernel_rfl) (by kernel_rfl) (by omega) (by omega) (by omega)) (d := (some 39)) (by kernel_rfl) rfl ?_
  refine og 1 [(0, v37), (3, (ptr b1)), (4, (Value.slice none 0 0)), (5, (i64 ((i : Nat) : Int))), (24, (Value.bool true)), (35, v37), (40, (Value.pointer (some ⟨rb31, ro32 + i * 2 + 1, none⟩)))] 6 ?_
  refine Ops.go (v := (i64 x.amount)) (by kernel_rfl) (Runs.load (t := 2) (a := ⟨rb31, ro32 + i * 2 + 1, none⟩) (by kernel_rfl) (RdT.ldf (f := RowM.cells) (x := x) (o := 1) RowM.two (Rd.keep0 (by omega) hp K27) (by kernel_rfl) hA33 hx34 rfl)) (d := (some 41)) (by kernel_rfl) rfl ?_
  refine Ops.call (by kernel_rfl) (d := (some 42)) (by kernel_rfl) (RInt_calls _ v37 (ys ++ tv x.name) x.amount (OwnB.rd O41) (by omega) (by (try simp only at *); (try simp only [List.length_append] at *); (try simp only [List.length_cons] at *); (try simp only [List.length_nil] at *); omega)) ?_
  rintro _ w44 ⟨v43, rfl, K45, hO46⟩
  have O47 := own_base hO46 K27.size
  clear hO46
  have hL42 := iv_length_10 (n := x.amount) (by omega)
  refine ⟨_, _, rfl, rfl, ?_⟩
  replace K27 := K27.trans K45 (U := none_) (fun i h1 h2 => h2) (fun i h1 h2 => by exact h2)
  replace H28 := H28.keep K45 (fun h => h)
  replace hU := own_keep0 hU K45
  replace O41 := own_keep0 O41 K45
  clear K45
  refine og 1 [(0, v43), (3, (ptr b1)), (4, (Value.slice none 0 0)), (5, (i64 ((i : Nat) : Int))), (24, (Value.bool true))] 9 ?_
  refine od ?_
  refine qg ?_
  refine og 2 [(0, v43), (3, (ptr b1)), (4, (Value.slice none 0 0)), (5, (i64 ((i : Nat) : Int))), (24, (Value.bool true)), (26, (i64 (IntKind.i64.wrap (((i : Nat) : Int) + 1))))] 2 ?_
  have e48 : IntKind.i64.wrap (((i : Nat) : Int) + 1) = ((i + 1 : Nat) : Int) := by rw [wrap_i64 (by omega) (by omega)]; omega
  rw [e48]
  clear e48
  refine og 1 [(0, v43), (3, (ptr b1)), (4, (Value.slice none 0 0)), (5, (i64 ((i + 1 : Nat) : Int))), (24, (Value.bool true))] 3 ?_
  refine Ops.keep (R := [(0, v43), (3, (ptr b1)), (4, (Value.slice none 0 0)), (5, (i64 ((i + 1 : Nat) : Int)))]) (by kernel_rfl) ?_
  refine od ?_
  exact ⟨(v43, i + 1, ys ++ tv x.name ++ iv x.amount), ⟨rfl, O47, (by rw [hE, rowsv_take hX]; simp only [List.append_assoc]), (by omega), K27, H28⟩, (show p.rows.length - (i + 1) < p.rows.length - i from by omega)⟩
 ·rw [h29]
  have p49 : ¬ (((i : Nat) : Int) < ((p.rows.length : Nat) : Int)) := of_decide_eq_false h29
  refine q_exit (id := 0) (by kernel_rfl) ?_
  refine qs ?_
  refine qg ?_
  refine og 2 [(4, u)] 2 ?_
  refine od ?_
  refine q_ret (by kernel_rfl) ?_
  refine ⟨u, retv_tmp rfl rfl, ?_⟩
  have hfin : ys = xs ++ rpv p := by rw [hE, List.take_of_length_le (by omega)]; rfl
  rw [hfin] at hU
  exact ⟨_, rfl, K27, hU⟩

theorem long_next {l : List RowM} {i : Nat} {z : RowM} (hX : l[i]? = some z) (hbf : ¬ (600 < l.length ∨ ∃ y ∈ l.take i, 65536 < y.name.length)) : (decide (((z.name.length : Nat) : Int) > 65536) = true ↔ (600 < l.length ∨ ∃ y ∈ l.take (i + 1), 65536 < y.name.length)) := by
 obtain ⟨h1, h2⟩ := List.getElem?_eq_some_iff.1 hX
 rw [decide_eq_true_iff, List.take_succ_eq_append_getElem h1, h2]
 refine ⟨fun h => .inr ⟨z, by simp, by omega⟩, fun h => ?_⟩
 rcases h with h | ⟨y, hy, hl⟩
 ·exact absurd (.inl h) hbf
 ·rw [List.mem_append, List.mem_singleton] at hy
  rcases hy with hy | rfl
  ·exact absurd (.inr ⟨y, hy, hl⟩) hbf
  ·omega

theorem long_ref (w : World) (x : LetP) (V : Option Addr) (c : Nat) (D : Option Addr) (dc : Nat) (hV : RdR w (.slice V x.rep.rows.length c) x.rep.rows) : Calls Try.prog 42 ⟨[(agg [(i64 x.kind), (i64 x.n), (i64 x.group), (i64 x.op.kind), (Value.string (str x.op.frm)), (Value.string (str x.op.to)), (i64 x.op.amount), (Value.string (str x.op.key)), (i64 x.op.slot), (i64 x.op.shard), (i64 x.rep.why), (i64 x.rep.amount), (Value.slice V x.rep.rows.length c), (Value.slice D x.body.length dc)])]⟩ w (fun e w' => ∃ t, e = .returned (.bool t) ∧ (t = true ↔ ¬ x.Fits) ∧ Keeps none_ w w') := by
 have K0 : Keeps none_ w w := Keeps.refl w
 refine q_calls Try.func42 (by kernel_rfl) (by kernel_rfl) ?_
 refine qs ?_
 refine qg ?_
 refine Ops.new (o := rowL [(i64 x.kind), (i64 x.n), (i64 x.group), (i64 x.op.kind), (Value.string (str x.op.frm)), (Value.string (str x.op.to)), (i64 x.op.amount), (Value.string (str x.op.key)), (i64 x.op.slot), (i64 x.op.shard), (i64 x.rep.why), (i64 x.rep.amount), (Value.slice V x.rep.rows.length c), (Value.slice D x.body.length dc)] 30) (V := fun b => (ptr b)) (by kernel_rfl) (d := (some 1)) (by kernel_rfl) (fun b => rfl) (fun b1 w2 hb3 H4 K5 hs6 => ?_)
 have nb1 : w.heap.size ≤ b1 := by have := K0.size; omega
 replace K0 := K0.t0 K5
 clear K5 hs6
 refine og 1 [(1, (ptr b1)), (2, (Value.bool false))] 2 ?_
 refine od ?_
 refine qs ?_
 refine qs ?_
 refine qg ?_
 refine og 1 [(1, (ptr b1)), (2, (Value.bool false)), (5, (ptr b1))] 1 ?_
 refine Ops.go (v := (i64 x.kind)) (by kernel_rfl) (Runs.load (t := 3) (a := ⟨b1, 0, none⟩) (by kernel_rfl) (H4.loads (by kernel_rfl))) (d := (some 6)) (by kernel_rfl) rfl ?_
 refine od ?_
 refine q_block (id := 0) (by kernel_rfl) ?_
 refine qs ?_
 refine qg ?_
 refine og 2 [(1, (ptr b1)), (2, (Value.bool false)), (6, (i64 x.kind)), (7, (Value.bool (x.kind == 2)))] 2 ?_
 refine od ?_
 refine q_cond (o := .tmp 7) (b := (x.kind == 2)) (by kernel_rfl) rfl (fun h7 => ?_) (fun h7 => ?_)
 ·rw [h7]
  have p8 : x.kind = 2 := of_beq_t h7
  refine qs ?_
  refine qg ?_
  refine og 2 [(1, (ptr b1)), (2, (Value.bool false)), (6, (i64 x.kind)), (10, (Value.pointer (some ⟨b1, 4, none⟩)))] 2 ?_
  refine Ops.go (v := (Value.string (str x.op.frm))) (by kernel_rfl) (Runs.load (t := 9) (a := ⟨b1, 4, none⟩) (by kernel_rfl) (H4.loads (by kernel_rfl))) (d := (some 11)) (by kernel_rfl) rfl ?_
  refine og 3 [(1, (ptr b1)), (2, (Value.bool false)), (6, (i64 x.kind)), (14, (Value.bool (decide (((x.op.frm.length : Nat) : Int) > 65536))))] 6 ?_
  refine Ops.split (decide (((x.op.frm.length : Nat) : Int) > 65536)) (fun h9 => ?_) (fun h9 => ?_)
  ·rw [h9]
   have p10 : ((x.op.frm.length : Nat) : Int) > 65536 := of_decide_eq_true h9
   refine og 14 [(1, (ptr b1)), (2, (Value.bool true)), (6, (i64 x.kind))] 20 ?_
   refine od ?_
   refine q_ret (by kernel_rfl) ?_
   refine ⟨(Value.bool true), retv_tmp rfl rfl, ?_⟩
   exact ⟨_, rfl, ⟨fun _ h => by have := h.1 (by omega); omega, fun _ => rfl⟩, K0⟩
  ·rw [h9]
   have p11 : ¬ (((x.op.frm.length : Nat) : Int) > 65536) := of_decide_eq_false h9
   refine og 2 [(1, (ptr b1)), (2, (Value.bool false)), (6, (i64 x.kind)), (14, (Value.bool false)), (16, (Value.pointer (some ⟨b1, 5, none⟩)))] 8 ?_
   refine Ops.go (v := (Value.string (str x.op.to))) (by kernel_rfl) (Runs.load (t := 9) (a := ⟨b1, 5, none⟩) (by kernel_rfl) (H4.loads (by kernel_rfl))) (d := (some 17)) (by kernel_rfl) rfl ?_
   refine og 4 [(1, (ptr b1)), (2, (Value.bool false)), (6, (i64 x.kind)), (21, (Value.bool (decide (((x.op.to.length : Nat) : Int) > 65536))))] 13 ?_
   refine Ops.split (decide (((x.op.to.length : Nat) : Int) > 65536)) (fun h12 => ?_) (fun h12 => ?_)
   ·rw [h12]
    have p13 : ((x.op.to.length : Nat) : Int) > 65536 := of_decide_eq_true h12
    refine og 7 [(1, (ptr b1)), (2, (Value.bool true)), (6, (i64 x.kind))] 20 ?_
    refine od ?_
    refine q_ret (by kernel_rfl) ?_
    refine ⟨(Value.bool true), retv_tmp rfl rfl, ?_⟩
    exact ⟨_, rfl, ⟨fun _ h => by have := h.1 (by omega); omega, fun _ => rfl⟩, K0⟩
   ·rw [h12]
    have p14 : ¬ (((x.op.to.length : Nat) : Int) > 65536) := of_decide_eq_false h12
    refine og 2 [(1, (ptr b1)), (2, (Value.bool false)), (6, (i64 x.kind)), (21, (Value.bool false)), (23, (Value.pointer (some ⟨b1, 7, none⟩)))] 15 ?_
    refine Ops.go (v := (Value.string (str x.op.key))) (by kernel_rfl) (Runs.load (t := 9) (a := ⟨b1, 7, none⟩) (by kernel_rfl) (H4.loads (by kernel_rfl))) (d := (some 24)) (by kernel_rfl) rfl ?_
    refine og 4 [(1, (ptr b1)), (2, (Value.bool (decide (((x.op.key.length : Nat) : Int) > 65536)))), (6, (i64 x.kind))] 20 ?_
    refine od ?_
    refine q_ret (by kernel_rfl) ?_
    refine ⟨(Value.bool (decide (((x.op.key.length : Nat) : Int) > 65536))), retv_tmp rfl rfl, ?_⟩
    exact ⟨_, rfl, (by rw [decide_eq_true_iff]; exact ⟨fun h q => by first | (have := q.1 (by omega); omega) | (have := q.2.2 (by omega) (by omega); omega), fun h => Classical.byContradiction fun q => h ⟨fun e => by first | (exact absurd e (by omega)) | (exact ⟨by omega, by omega, by omega⟩), fun e => absurd e (by omega), fun e1 e2 => by first | (exact absurd e1 (not_not_intro (show x.kind = 2 by omega))) | omega⟩⟩), K0⟩
 ·rw [h7]
  have p15 : ¬ (x.kind = 2) := of_beq_f h7
  refine qs ?_
  refine qg ?_
  refine og 2 [(1, (ptr b1)), (2, (Value.bool false)), (28, (Value.bool (x.kind == 3)))] 2 ?_
  refine od ?_
  refine q_cond (o := .tmp 28) (b := (x.kind == 3)) (by kernel_rfl) rfl (fun h16 => ?_) (fun h16 => ?_)
  ·rw [h16]
   have p17 : x.kind = 3 := of_beq_t h16
   refine qs ?_
   refine qg ?_
   refine og 2 [(1, (ptr b1)), (2, (Value.bool false)), (31, (Value.pointer (some ⟨b1, 12, none⟩)))] 2 ?_
   refine Ops.go (v := (Value.slice V x.rep.rows.length c)) (by kernel_rfl) (Runs.load (t := 25) (a := ⟨b1, 12, none⟩) (by kernel_rfl) (H4.loads (by kernel_rfl))) (d := (some 32)) (by kernel_rfl) rfl ?_
   refine og 3 [(1, (ptr b1)), (2, (Value.bool false)), (3, (Value.bool (decide (((x.rep.rows.length : Nat) : Int) > 600))))] 6 ?_
   refine od ?_
   refine qs ?_
   refine qs ?_
   refine qg ?_
   refine og 1 [(1, (ptr b1)), (2, (Value.bool false)), (3, (Value.bool (decide (((x.rep.rows.length : Nat) : Int) > 600)))), (4, (i64 0))] 1 ?_
   refine od ?_
   refine q_block (id := 1) (by kernel_rfl) ?_
   refine q_keep (R := [(1, (ptr b1)), (2, (Value.bool false)), (3, (Value.bool (decide (((x.rep.rows.length : Nat) : Int) > 600)))), (4, (i64 0))]) (by kernel_rfl) ?_
   refine q_loop (fun (gs : Nat × Bool) L (wx : World) => match gs with | (i, bad) => L = [(1, (ptr b1)), (2, (Value.bool false)), (3, (Value.bool bad)), (4, (i64 ((i : Nat) : Int)))] ∧ (bad = true ↔ (600 < x.rep.rows.length ∨ ∃ y ∈ x.rep.rows.take i, 65536 < y.name.length)) ∧ i ≤ x.rep.rows.length ∧ Keeps none_ w wx ∧ Has wx b1 (rowL [(i64 x.kind), (i64 x.n), (i64 x.group), (i64 x.op.kind), (Value.string (str x.op.frm)), (Value.string (str x.op.to)), (i64 x.op.amount), (Value.string (str x.op.key)), (i64 x.op.slot), (i64 x.op.shard), (i64 x.rep.why), (i64 x.rep.amount), (Value.slice V x.rep.rows.length c), (Value.slice D x.body.length dc)] 30)) (fun (gs : Nat × Bool) => match gs with | (i, bad) => x.rep.rows.length - i) (0, (decide (((x.rep.rows.length : Nat) : Int) > 600))) (by kernel_rfl) ⟨rfl, (by rw [decide_eq_true_iff]; exact ⟨fun h => .inl (by omega), fun h => h.elim (fun q => by omega) (fun ⟨y, hy, _⟩ => by cases hy)⟩), Nat.zero_le _, K0, H4⟩ ?_
   clear H4 K0
   rintro ⟨i, bad⟩ _ w18 ⟨rfl, hb, hi, K19, H20⟩
   refine qs ?_
   refine qs ?_
   refine qg ?_
   refine og 3 [(1, (ptr b1)), (2, (Value.bool false)), (3, (Value.bool bad)), (4, (i64 ((i : Nat) : Int))), (35, (i64 ((i : Nat) : Int))), (37, (Value.pointer (some ⟨b1, 12, none⟩)))] 3 ?_
   refine Ops.go (v := (Value.slice V x.rep.rows.length c)) (by kernel_rfl) (Runs.load (t := 25) (a := ⟨b1, 12, none⟩) (by kernel_rfl) (H20.loads (by kernel_rfl))) (d := (some 38)) (by kernel_rfl) rfl ?_
   refine og 3 [(1, (ptr b1)), (2, (Value.bool false)), (3, (Value.bool bad)), (4, (i64 ((i : Nat) : Int))), (41, (Value.bool (decide (((i : Nat) : Int) < ((x.rep.rows.length : Nat) : Int)))))] 7 ?_
   refine Ops.split (decide (((i : Nat) : Int) < ((x.rep.rows.length : Nat) : Int))) (fun h21 => ?_) (fun h21 => ?_)
   ·rw [h21]
    have p22 : ((i : Nat) : Int) < ((x.rep.rows.length : Nat) : Int) := of_decide_eq_true h21
    obtain ⟨rb23, ro24, z, hA25, hx26⟩ := RdT.open (Rd.keep0 (by omega) hV K19) rfl (k := i) (by omega)
    have hX := hx26
    refine og 3 [(1, (ptr b1)), (2, (Value.bool false)), (3, (Value.bool bad)), (4, (i64 ((i : Nat) : Int))), (44, (Value.bool (!bad)))] 10 ?_
    refine od ?_
    refine q_cond (o := .tmp 44) (b := (!bad)) (by kernel_rfl) rfl (fun h27 => ?_) (fun h27 => ?_)
    ·rw [h27]
     have p28 : bad = false := (bnot_true h27)
     try rw [p28]
     have hbf : ¬ (600 < x.rep.rows.length ∨ ∃ y ∈ x.rep.rows.take i, 65536 < y.name.length) := fun q => by have q := hb.2 q; rw [(bnot_true h27)] at q; cases q
     refine q_skip (by kernel_rfl) ?_
     refine qs ?_
     refine q_block (id := 2) (by kernel_rfl) ?_
     refine qg ?_
     refine og 2 [(1, (ptr b1)), (2, (Value.bool false)), (3, (Value.bool false)), (4, (i64 ((i : Nat) : Int))), (44, (Value.bool true)), (48, (Value.pointer (some ⟨b1, 12, none⟩)))] 2 ?_
     refine Ops.go (v := (Value.slice V x.rep.rows.length c)) (by kernel_rfl) (Runs.load (t := 25) (a := ⟨b1, 12, none⟩) (by kernel_rfl) (H20.loads (by kernel_rfl))) (d := (some 49)) (by kernel_rfl) rfl ?_
     refine og 1 [(1, (ptr b1)), (2, (Value.bool false)), (3, (Value.bool false)), (4, (i64 ((i : Nat) : Int))), (44, (Value.bool true)), (49, (Value.slice V x.rep.rows.length c)), (50, (i64 ((i : Nat) : Int)))] 4 ?_
     refine Ops.go (by kernel_rfl) (Runs.ixSliceE (k := IntKind.i64) (t := 25) (len := x.rep.rows.length) (cap := c) (s := 2) (off' := ro24 + i * 2) (i := ((i : Nat) : Int)) hA25 (by kernel_rfl) (by kernel_rfl) (by omega) (by omega) (by omega)) (d := (some 51)) (by kernel_rfl) rfl ?_
     refine og 1 [(1, (ptr b1)), (2, (Value.bool false)), (3, (Value.bool false)), (4, (i64 ((i : Nat) : Int))), (44, (Value.bool true)), (52, (Value.pointer (some ⟨rb23, ro24 + i * 2, none⟩)))] 6 ?_
     refine Ops.go (v := (Value.string (str z.name))) (by kernel_rfl) (Runs.load (t := 9) (a := ⟨rb23, ro24 + i * 2, none⟩) (by kernel_rfl) (RdT.ldf (f := RowM.cells) (x := z) (o := 0) RowM.two (Rd.keep0 (by omega) hV K19) (by kernel_rfl) hA25 hx26 rfl)) (d := (some 53)) (by kernel_rfl) rfl ?_
     refine og 3 [(1, (ptr b1)), (2, (Value.bool false)), (3, (Value.bool (decide (((z.name.length : Nat) : Int) > 65536)))), (4, (i64 ((i : Nat) : Int))), (44, (Value.bool true))] 10 ?_
     refine od ?_
     refine qg ?_
     refine og 2 [(1, (ptr b1)), (2, (Value.bool false)), (3, (Value.bool (decide (((z.name.length : Nat) : Int) > 65536)))), (4, (i64 ((i : Nat) : Int))), (44, (Value.bool true)), (46, (i64 (IntKind.i64.wrap (((i : Nat) : Int) + 1))))] 2 ?_
     have e29 : IntKind.i64.wrap (((i : Nat) : Int) + 1) = ((i + 1 : Nat) : Int) := by rw [wrap_i64 (by omega) (by omega)]; omega
     rw [e29]
     clear e29
     refine og 1 [(1, (ptr b1)), (2, (Value.bool false)), (3, (Value.bool (decide (((z.name.length : Nat) : Int) > 65536)))), (4, (i64 ((i + 1 : Nat) : Int))), (44, (Value.bool true))] 3 ?_
     refine Ops.keep (R := [(1, (ptr b1)), (2, (Value.bool false)), (3, (Value.bool (decide (((z.name.length : Nat) : Int) > 65536)))), (4, (i64 ((i + 1 : Nat) : Int)))]) (by kernel_rfl) ?_
     refine od ?_
     exact ⟨(i + 1, (decide (((z.name.length : Nat) : Int) > 65536))), ⟨rfl, (long_next hX hbf), (by omega), K19, H20⟩, (show x.rep.rows.length - (i + 1) < x.rep.rows.length - i from by omega)⟩
    ·rw [h27]
     have p30 : bad = true := (bnot_false h27)
     try rw [p30]
     have hbt := hb.1 (bnot_false h27)
     refine q_exit (id := 1) (by kernel_rfl) ?_
     refine qs ?_
     refine qg ?_
     refine og 2 [(1, (ptr b1)), (2, (Value.bool true))] 2 ?_
     refine od ?_
     refine q_ret (by kernel_rfl) ?_
     refine ⟨(Value.bool true), retv_tmp rfl rfl, ?_⟩
     exact ⟨_, rfl, ⟨fun _ h => by have q := h.2.1 (by omega); rcases hbt with e | ⟨y, hy, e⟩; (omega); (have := q.2 y (List.mem_of_mem_take hy); omega), fun _ => rfl⟩, K19⟩
   ·rw [h21]
    have p31 : ¬ (((i : Nat) : Int) < ((x.rep.rows.length : Nat) : Int)) := of_decide_eq_false h21
    refine og 3 [(1, (ptr b1)), (2, (Value.bool false)), (3, (Value.bool bad)), (4, (i64 ((i : Nat) : Int))), (44, (Value.bool false))] 10 ?_
    refine od ?_
    refine q_else (o := .tmp 44) (by kernel_rfl) rfl ?_
    refine q_exit (id := 1) (by kernel_rfl) ?_
    refine qs ?_
    refine qg ?_
    refine og 2 [(1, (ptr b1)), (2, (Value.bool bad))] 2 ?_
    refine od ?_
    refine q_ret (by kernel_rfl) ?_
    refine ⟨(Value.bool bad), retv_tmp rfl rfl, ?_⟩
    exact ⟨_, rfl, hb.trans ⟨fun e h => by have q := h.2.1 (by omega); rcases e with e | ⟨y, hy, e⟩; (omega); (have := q.2 y (List.mem_of_mem_take hy); omega), fun h => Classical.byContradiction fun q => h ⟨fun e => absurd e (by omega), fun _ => ⟨Nat.le_of_not_lt fun z => q (.inl z), fun r hr => Nat.le_of_not_lt fun z => q (.inr ⟨r, by rw [List.take_of_length_le (by omega)]; exact hr, z⟩)⟩, fun _ e => absurd (show x.kind = 3 by omega) e⟩⟩, K19⟩
  ·rw [h16]
   have p32 : ¬ (x.kind = 3) := of_beq_f h16
   refine q_skip (by kernel_rfl) ?_
   refine qs ?_
   refine qg ?_
   refine og 1 [(2, (Value.bool false)), (57, (Value.pointer (some ⟨b1, 13, none⟩)))] 1 ?_
   refine Ops.go (v := (Value.slice D x.body.length dc)) (by kernel_rfl) (Runs.load (t := 28) (a := ⟨b1, 13, none⟩) (by kernel_rfl) (H4.loads (by kernel_rfl))) (d := (some 58)) (by kernel_rfl) rfl ?_
   refine og 3 [(2, (Value.bool (decide (((x.body.length : Nat) : Int) > 65536))))] 5 ?_
   refine od ?_
   refine q_ret (by kernel_rfl) ?_
   refine ⟨(Value.bool (decide (((x.body.length : Nat) : Int) > 65536))), retv_tmp rfl rfl, ?_⟩
   exact ⟨_, rfl, (by rw [decide_eq_true_iff]; exact ⟨fun h q => by first | (have := q.1 (by omega); omega) | (have := q.2.2 (by omega) (by omega); omega), fun h => Classical.byContradiction fun q => h ⟨fun e => by first | (exact absurd e (by omega)) | (exact ⟨by omega, by omega, by omega⟩), fun e => absurd e (by omega), fun e1 e2 => by first | (exact absurd e1 (not_not_intro (show x.kind = 2 by omega))) | omega⟩⟩), K0⟩

theorem RPack_calls (w : World) (x : LetP) (V : Option Addr) (c : Nat) (D : Option Addr) (dc : Nat) (hok : x.Ok) (hV : RdR w (.slice V x.rep.rows.length c) x.rep.rows) (hD : RdB w (.slice D x.body.length dc) x.body) : Calls Try.prog 23 ⟨[(agg [(i64 x.kind), (i64 x.n), (i64 x.group), (i64 x.op.kind), (Value.string (str x.op.frm)), (Value.string (str x.op.to)), (i64 x.op.amount), (Value.string (str x.op.key)), (i64 x.op.slot), (i64 x.op.shard), (i64 x.rep.why), (i64 x.rep.amount), (Value.slice V x.rep.rows.length c), (Value.slice D x.body.length dc)])]⟩ w (fun e w' => ∃ v', e = .returned (.tuple #[v', i64 (packB x).2]) ∧ Keeps none_ w w' ∧ OwnB w' w.heap.size 5 v' (packB x).1) := by
 have hi0 := hok.kind
 have hi1 := hok.n
 have hi2 := hok.group
 have hil0 := iv_length_10 hi0
 have hil1 := iv_length_10 hi1
 have hil2 := iv_length_10 hi2
 have K0 : Keeps none_ w w := Keeps.refl w
 refine q_calls Try.func23 (by kernel_rfl) (by kernel_rfl) ?_
 refine qs ?_
 refine qg ?_
 refine Ops.new (o := rowL [(i64 x.kind), (i64 x.n), (i64 x.group), (i64 x.op.kind), (Value.string (str x.op.frm)), (Value.string (str x.op.to)), (i64 x.op.amount), (Value.string (str x.op.key)), (i64 x.op.slot), (i64 x.op.shard), (i64 x.rep.why), (i64 x.rep.amount), (Value.slice V x.rep.rows.length c), (Value.slice D x.body.length dc)] 30) (V := fun b => (ptr b)) (by kernel_rfl) (d := (some 1)) (by kernel_rfl) (fun b => rfl) (fun b1 w2 hb3 H4 K5 hs6 => ?_)
 have nb1 : w.heap.size ≤ b1 := by have := K0.size; omega
 replace K0 := K0.t0 K5
 clear K5 hs6
 refine og 2 [(1, (ptr b1)), (2, (Value.slice none 0 0)), (3, (i64 0))] 3 ?_
 refine od ?_
 refine qs ?_
 refine qs ?_
 refine qg ?_
 refine og 1 [(1, (ptr b1)), (2, (Value.slice none 0 0)), (3, (i64 0)), (5, (ptr b1))] 1 ?_
 refine Ops.go (v := (i64 x.kind)) (by kernel_rfl) (Runs.load (t := 3) (a := ⟨b1, 0, none⟩) (by kernel_rfl) (H4.loads (by kernel_rfl))) (d := (some 6)) (by kernel_rfl) rfl ?_
 refine og 2 [(1, (ptr b1)), (2, (Value.slice none 0 0)), (3, (i64 0)), (8, (Value.bool (decide (x.kind < 1))))] 4 ?_
 refine Ops.split (decide (x.kind < 1)) (fun h7 => ?_) (fun h7 => ?_)
 ·rw [h7]
  have p8 : x.kind < 1 := of_decide_eq_true h7
  refine og 4 [(1, (ptr b1)), (2, (Value.slice none 0 0)), (3, (i64 0)), (12, (Value.bool true))] 8 ?_
  refine od ?_
  refine q_then (o := .tmp 12) (by kernel_rfl) rfl ?_
  refine qs ?_
  refine qg ?_
  refine og 2 [(1, (ptr b1)), (2, (Value.slice none 0 0)), (3, (i64 1))] 2 ?_
  refine od ?_
  refine q_ret (by kernel_rfl) ?_
  refine ⟨(Value.tuple #[(Value.slice none 0 0), (i64 1)]), retv_tmp2 rfl rfl rfl, ?_⟩
  have e : packB x = ([], 1) := by unfold packB; first | (rw [if_pos (by omega)]; done) | (rw [if_neg (by omega), if_pos hf]; done)
  exact ⟨_, by rw [e], K0, by rw [e]; exact World.ownsRow_nil _ _ _ _⟩
 ·rw [h7]
  have p9 : ¬ (x.kind < 1) := of_decide_eq_false h7
  refine og 1 [(1, (ptr b1)), (2, (Value.slice none 0 0)), (3, (i64 0)), (8, (Value.bool false)), (9, (ptr b1))] 5 ?_
  refine Ops.go (v := (i64 x.kind)) (by kernel_rfl) (Runs.load (t := 3) (a := ⟨b1, 0, none⟩) (by kernel_rfl) (H4.loads (by kernel_rfl))) (d := (some 10)) (by kernel_rfl) rfl ?_
  refine og 2 [(1, (ptr b1)), (2, (Value.slice none 0 0)), (3, (i64 0)), (12, (Value.bool (decide (x.kind > 5))))] 8 ?_
  refine od ?_
  refine q_cond (o := .tmp 12) (b := (decide (x.kind > 5))) (by kernel_rfl) rfl (fun h10 => ?_) (fun h10 => ?_)
  ·rw [h10]
   have p11 : x.kind > 5 := of_decide_eq_true h10
   refine qs ?_
   refine qg ?_
   refine og 2 [(1, (ptr b1)), (2, (Value.slice none 0 0)), (3, (i64 1))] 2 ?_
   refine od ?_
   refine q_ret (by kernel_rfl) ?_
   refine ⟨(Value.tuple #[(Value.slice none 0 0), (i64 1)]), retv_tmp2 rfl rfl rfl, ?_⟩
   have e : packB x = ([], 1) := by unfold packB; first | (rw [if_pos (by omega)]; done) | (rw [if_neg (by omega), if_pos hf]; done)
   exact ⟨_, by rw [e], K0, by rw [e]; exact World.ownsRow_nil _ _ _ _⟩
  ·rw [h10]
   have p12 : ¬ (x.kind > 5) := of_decide_eq_false h10
   refine q_skip (by kernel_rfl) ?_
   refine qs ?_
   refine qs ?_
   refine qg ?_
   refine Ops.go (v := (agg [(i64 x.kind), (i64 x.n), (i64 x.group), (i64 x.op.kind), (Value.string (str x.op.frm)), (Value.string (str x.op.to)), (i64 x.op.amount), (Value.string (str x.op.key)), (i64 x.op.slot), (i64 x.op.shard), (i64 x.rep.why), (i64 x.rep.amount), (Value.slice V x.rep.rows.length c), (Value.slice D x.body.length dc)])) (by kernel_rfl) (Runs.load (t := 30) (a := ⟨b1, 0, none⟩) (by kernel_rfl) (H4.loads (by kernel_rfl))) (d := (some 13)) (by kernel_rfl) rfl ?_
   refine Ops.call (by kernel_rfl) (d := (some 14)) (by kernel_rfl) (long_ref _ x V c D dc (Rd.keep0 (by omega) hV K0)) ?_
   rintro _ w16 ⟨t13, rfl, ht14, K15⟩
   refine ⟨_, _, rfl, rfl, ?_⟩
   replace K0 := K0.t0 K15
   replace H4 := H4.keep K15 (fun h => h)
   clear K15
   refine od ?_
   refine q_cond (o := .tmp 14) (b := t13) (by kernel_rfl) rfl (fun h17 => ?_) (fun h17 => ?_)
   ·rw [h17]
    have p18 : t13 = true := h17
    have hf : ¬ x.Fits := ht14.1 h17
    refine qs ?_
    refine qg ?_
    refine og 2 [(1, (ptr b1)), (2, (Value.slice none 0 0)), (3, (i64 3))] 2 ?_
    refine od ?_
    refine q_ret (by kernel_rfl) ?_
    refine ⟨(Value.tuple #[(Value.slice none 0 0), (i64 3)]), retv_tmp2 rfl rfl rfl, ?_⟩
    have e : packB x = ([], 3) := by unfold packB; first | (rw [if_pos (by omega)]; done) | (rw [if_neg (by omega), if_pos hf]; done)
    exact ⟨_, by rw [e], K0, by rw [e]; exact World.ownsRow_nil _ _ _ _⟩
   ·rw [h17]
    have p19 : t13 = false := h17
    have hf : x.Fits := Classical.byContradiction fun q => by have := ht14.2 q; rw [h17] at this; cases this
    refine q_skip (by kernel_rfl) ?_
    refine qs ?_
    refine qg ?_
    refine og 1 [(1, (ptr b1)), (2, (Value.slice none 0 0)), (3, (i64 0)), (15, (ptr b1))] 1 ?_
    refine Ops.go (v := (i64 x.kind)) (by kernel_rfl) (Runs.load (t := 3) (a := ⟨b1, 0, none⟩) (by kernel_rfl) (H4.loads (by kernel_rfl))) (d := (some 16)) (by kernel_rfl) rfl ?_
    refine Ops.call (by kernel_rfl) (d := (some 17)) (by kernel_rfl) (RInt_calls _ (Value.slice none 0 0) [] x.kind (Rd.nil _ _) (by omega) (by (try simp only at *); (try simp only [List.length_append] at *); (try simp only [List.length_cons] at *); (try simp only [List.length_nil] at *); omega)) ?_
    rintro _ w22 ⟨v21, rfl, K23, hO24⟩
    have ob26 : ∀ i, (v21).ownBlock = some i → i ≠ b1 := fun i hi => by have := (World.ownsRow.lt hO24 i hi).1; have := H4.lt; omega
    have O25 : OwnB w22 w.heap.size _ v21 (iv x.kind) := own_base hO24 K0.size
    clear hO24
    have hL20 := iv_length_10 (n := x.kind) (by omega)
    refine ⟨_, _, rfl, rfl, ?_⟩
    replace K0 := K0.t0 K23
    replace H4 := H4.keep K23 (fun h => h)
    clear K23
    refine og 1 [(1, (ptr b1)), (2, (Value.slice none 0 0)), (3, (i64 0)), (4, v21)] 4 ?_
    refine od ?_
    refine qs ?_
    refine qs ?_
    refine qg ?_
    refine og 1 [(1, (ptr b1)), (2, (Value.slice none 0 0)), (3, (i64 0)), (4, v21), (18, (ptr b1))] 1 ?_
    refine Ops.go (v := (i64 x.kind)) (by kernel_rfl) (Runs.load (t := 3) (a := ⟨b1, 0, none⟩) (by kernel_rfl) (H4.loads (by kernel_rfl))) (d := (some 19)) (by kernel_rfl) rfl ?_
    refine od ?_
    refine q_block (id := 0) (by kernel_rfl) ?_
    refine qs ?_
    refine qg ?_
    refine og 2 [(1, (ptr b1)), (2, (Value.slice none 0 0)), (3, (i64 0)), (4, v21), (19, (i64 x.kind)), (20, (Value.bool (x.kind == 1)))] 2 ?_
    refine od ?_
    refine q_cond (o := .tmp 20) (b := (x.kind == 1)) (by kernel_rfl) rfl (fun h27 => ?_) (fun h27 => ?_)
    ·rw [h27]
     have p28 : x.kind = 1 := of_beq_t h27
     have hbl := let_body hf (by omega) (by omega)
     have htb := tv_le (s := x.body) (by omega)
     refine qg ?_
     refine og 2 [(1, (ptr b1)), (2, (Value.slice none 0 0)), (3, (i64 0)), (4, v21), (19, (i64 x.kind)), (22, v21), (23, (Value.pointer (some ⟨b1, 13, none⟩)))] 2 ?_
     refine Ops.go (v := (Value.slice D x.body.length dc)) (by kernel_rfl) (Runs.load (t := 28) (a := ⟨b1, 13, none⟩) (by kernel_rfl) (H4.loads (by kernel_rfl))) (d := (some 24)) (by kernel_rfl) rfl ?_
     refine Ops.call (by kernel_rfl) (d := (some 25)) (by kernel_rfl) (RBytesW_calls _ (Value.slice none 0 0) [] D dc x.body (Rd.nil _ _) (hD.keep0 (by omega) K0) (by first | omega | decide) (by (try simp only at *); (try simp only [List.length_append] at *); (try simp only [List.length_cons] at *); (try simp only [List.length_nil] at *); omega)) ?_
     rintro _ w32 ⟨v31, rfl, K33, hO34⟩
     have ob36 : ∀ i, (v31).ownBlock = some i → i ≠ b1 := fun i hi => by have := (World.ownsRow.lt hO34 i hi).1; have := H4.lt; omega
     have oo37 : ∀ i, (v21).ownBlock = some i → (v31).ownBlock = some i → False := fun i hi hs => by have := (World.ownsRow.lt hO34 i hs).1; have := (World.ownsRow.lt O25 i hi).2; omega
     have oo38 : ∀ i, (v31).ownBlock = some i → (v21).ownBlock = some i → False := fun i hi hs => oo37 i hs hi
     have O35 : OwnB w32 w.heap.size _ v31 (tv x.body) := own_base hO34 K0.size
     clear hO34
     have hL29 := tv_ge x.body
     have hL30 := tv_le (s := x.body) (by first | omega | decide)
     refine ⟨_, _, rfl, rfl, ?_⟩
     replace K0 := K0.t0 K33
     replace H4 := H4.keep K33 (fun h => h)
     replace O25 := own_keep0 O25 K33
     clear K33
     obtain ⟨v39, w40, hr41, hO42, K43, hg44⟩ := OwnB.app2 (ty := 28) tyB O25 (OwnB.rd O35) (by (try simp only [List.length_append]); (try simp only [List.length_nil]); omega) K0.size
     obtain ⟨A46, c47, hf45⟩ := RdB.form (OwnB.rd hO42)
     subst hf45
     have ob48 : ∀ i, ((Value.slice A46 ((iv x.kind ++ tv x.body).length) c47)).ownBlock = some i → i ≠ b1 := fun i hi => by rcases hg44 i hi with h | h; (have := ob26 i h; omega); (have := H4.lt; omega)
     have oo49 : ∀ i, (v31).ownBlock = some i → ((Value.slice A46 ((iv x.kind ++ tv x.body).length) c47)).ownBlock = some i → False := fun i hi hs => by rcases hg44 i hs with h | h; (exact oo38 i hi h); (have := (World.ownsRow.lt O35 i hi).2; omega)
     have oo50 : ∀ i, ((Value.slice A46 ((iv x.kind ++ tv x.body).length) c47)).ownBlock = some i → (v31).ownBlock = some i → False := fun i hi hs => oo49 i hs hi
     refine Ops.go (v := (Value.slice A46 ((iv x.kind ++ tv x.body).length) c47)) (by kernel_rfl) (Runs.append (ts := #[28, 28]) (ty := 28) (vs := [v21, v31]) (by kernel_rfl) hr41) (d := (some 26)) (by kernel_rfl) rfl ?_
     replace K0 := K0.trans K43 (U := none_) (fun i h1 h2 => h2) (fun i h1 h2 => by have h2 : (v21).ownBlock = some i := h2; exfalso; have := (World.ownsRow.lt O25 i h2).1; omega)
     replace H4 := H4.keep K43 (by intro h; change (v21).ownBlock = some b1 at h; have := ob26 b1 h; omega)
     clear O25
     replace O35 := own_keep O35 K43 (fun i hi hs => by have hs : (v21).ownBlock = some i := hs; exact oo38 i hi hs)
     clear K43 hr41 hg44
     refine og 1 [(1, (ptr b1)), (2, (Value.slice none 0 0)), (3, (i64 0)), (4, (Value.slice A46 ((iv x.kind ++ tv x.body).length) c47)), (19, (i64 x.kind))] 6 ?_
     refine od ?_
     refine qs ?_
     refine qs ?_
     refine qg ?_
     refine og 3 [(2, (Value.slice none 0 0)), (3, (i64 0)), (4, (Value.slice A46 ((iv x.kind ++ tv x.body).length) c47)), (75, (Value.bool (decide ((((iv x.kind ++ tv x.body).length : Nat) : Int) > 1048576))))] 3 ?_
     refine od ?_
     refine q_cond (o := .tmp 75) (b := (decide ((((iv x.kind ++ tv x.body).length : Nat) : Int) > 1048576))) (by kernel_rfl) rfl (fun h51 => ?_) (fun h51 => ?_)
     ·rw [h51]
      have p52 : (((iv x.kind ++ tv x.body).length : Nat) : Int) > 1048576 := of_decide_eq_true h51
      refine qs ?_
      refine qg ?_
      refine og 2 [(2, (Value.slice none 0 0)), (3, (i64 3)), (4, (Value.slice A46 ((iv x.kind ++ tv x.body).length) c47))] 2 ?_
      refine od ?_
      refine q_ret (by kernel_rfl) ?_
      refine ⟨(Value.tuple #[(Value.slice none 0 0), (i64 3)]), retv_tmp2 rfl rfl rfl, ?_⟩
      have hL : iv x.kind ++ tv x.body = letv x := by unfold letv; first | (rw [if_pos (by omega)] <;> (simp; done)) | (rw [if_neg (by omega), if_pos (by omega)] <;> (simp; done)) | (rw [if_neg (by omega), if_neg (by omega), if_pos (by omega)] <;> (simp; done)) | (rw [if_neg (by omega), if_neg (by omega), if_neg (by omega), if_pos (by omega)] <;> (simp; done)) | (rw [if_neg (by omega), if_neg (by omega), if_neg (by omega), if_neg (by omega)] <;> (simp; done))
      have hLl := congrArg List.length hL
      have e : packB x = ([], 3) := by unfold packB; rw [if_neg (by omega), if_neg (not_not_intro hf), if_pos (by omega)]
      exact ⟨_, by rw [e], K0, by rw [e]; exact World.ownsRow_nil _ _ _ _⟩
     ·rw [h51]
      have p53 : ¬ ((((iv x.kind ++ tv x.body).length : Nat) : Int) > 1048576) := of_decide_eq_false h51
      refine q_skip (by kernel_rfl) ?_
      refine qs ?_
      refine qg ?_
      refine og 3 [(2, (Value.slice A46 ((iv x.kind ++ tv x.body).length) c47)), (3, (i64 0))] 3 ?_
      refine od ?_
      refine q_ret (by kernel_rfl) ?_
      refine ⟨(Value.tuple #[(Value.slice A46 ((iv x.kind ++ tv x.body).length) c47), (i64 0)]), retv_tmp2 rfl rfl rfl, ?_⟩
      have hL : iv x.kind ++ tv x.body = letv x := by unfold letv; first | (rw [if_pos (by omega)] <;> (simp; done)) | (rw [if_neg (by omega), if_pos (by omega)] <;> (simp; done)) | (rw [if_neg (by omega), if_neg (by omega), if_pos (by omega)] <;> (simp; done)) | (rw [if_neg (by omega), if_neg (by omega), if_neg (by omega), if_pos (by omega)] <;> (simp; done)) | (rw [if_neg (by omega), if_neg (by omega), if_neg (by omega), if_neg (by omega)] <;> (simp; done))
      have hLl := congrArg List.length hL
      have e : packB x = (letv x, 0) := by unfold packB; rw [if_neg (by omega), if_neg (not_not_intro hf), if_neg (by omega)]
      exact ⟨_, by rw [e], K0, by rw [e, ← hL]; exact hO42⟩
    ·rw [h27]
     have p54 : ¬ (x.kind = 1) := of_beq_f h27
     refine qs ?_
     refine qg ?_
     refine og 2 [(1, (ptr b1)), (2, (Value.slice none 0 0)), (3, (i64 0)), (4, v21), (19, (i64 x.kind)), (27, (Value.bool (x.kind == 2)))] 2 ?_
     refine od ?_
     refine q_cond (o := .tmp 27) (b := (x.kind == 2)) (by kernel_rfl) rfl (fun h55 => ?_) (fun h55 => ?_)
     ·rw [h55]
      have p56 : x.kind = 2 := of_beq_t h55
      have hol := let_op hok hf (by omega)
      refine qs ?_
      refine qg ?_
      refine og 2 [(1, (ptr b1)), (2, (Value.slice none 0 0)), (3, (i64 0)), (4, v21), (19, (i64 x.kind)), (29, v21), (30, (Value.pointer (some ⟨b1, 1, none⟩)))] 2 ?_
      refine Ops.go (v := (i64 x.n)) (by kernel_rfl) (Runs.load (t := 2) (a := ⟨b1, 1, none⟩) (by kernel_rfl) (H4.loads (by kernel_rfl))) (d := (some 31)) (by kernel_rfl) rfl ?_
      refine Ops.call (by kernel_rfl) (d := (some 32)) (by kernel_rfl) (RInt_calls _ v21 (iv x.kind) x.n (OwnB.rd O25) (by omega) (by (try simp only at *); (try simp only [List.length_append] at *); (try simp only [List.length_cons] at *); (try simp only [List.length_nil] at *); omega)) ?_
      rintro _ w59 ⟨v58, rfl, K60, hO61⟩
      have ob63 : ∀ i, (v58).ownBlock = some i → i ≠ b1 := fun i hi => by have := (World.ownsRow.lt hO61 i hi).1; have := H4.lt; omega
      have oo64 : ∀ i, (v21).ownBlock = some i → (v58).ownBlock = some i → False := fun i hi hs => by have := (World.ownsRow.lt hO61 i hs).1; have := (World.ownsRow.lt O25 i hi).2; omega
      have oo65 : ∀ i, (v58).ownBlock = some i → (v21).ownBlock = some i → False := fun i hi hs => oo64 i hs hi
      have O62 := own_base hO61 K0.size
      clear hO61
      have hL57 := iv_length_10 (n := x.n) (by omega)
      refine ⟨_, _, rfl, rfl, ?_⟩
      replace K0 := K0.t0 K60
      replace H4 := H4.keep K60 (fun h => h)
      replace O25 := own_keep0 O25 K60
      clear K60
      refine og 1 [(1, (ptr b1)), (2, (Value.slice none 0 0)), (3, (i64 0)), (4, v58), (19, (i64 x.kind))] 5 ?_
      refine od ?_
      refine qg ?_
      refine og 2 [(1, (ptr b1)), (2, (Value.slice none 0 0)), (3, (i64 0)), (4, v58), (19, (i64 x.kind)), (33, v58), (34, (Value.pointer (some ⟨b1, 3, none⟩)))] 2 ?_
      refine Ops.go (v := (agg [(i64 x.op.kind), (Value.string (str x.op.frm)), (Value.string (str x.op.to)), (i64 x.op.amount), (Value.string (str x.op.key)), (i64 x.op.slot), (i64 x.op.shard)])) (by kernel_rfl) (Runs.load (t := 23) (a := ⟨b1, 3, none⟩) (by kernel_rfl) (H4.loads (by kernel_rfl))) (d := (some 35)) (by kernel_rfl) rfl ?_
      refine Ops.call (by kernel_rfl) (d := (some 36)) (by kernel_rfl) (RPutOp_calls _ v58 (iv x.kind ++ iv x.n) x.op (OwnB.rd O62) hok.op (by (try simp only at *); (try simp only [List.length_append] at *); (try simp only [List.length_cons] at *); (try simp only [List.length_nil] at *); omega)) ?_
      rintro _ w67 ⟨v66, rfl, K68, hO69⟩
      have ob71 : ∀ i, (v66).ownBlock = some i → i ≠ b1 := fun i hi => by have := (World.ownsRow.lt hO69 i hi).1; have := H4.lt; omega
      have oo72 : ∀ i, (v21).ownBlock = some i → (v66).ownBlock = some i → False := fun i hi hs => by have := (World.ownsRow.lt hO69 i hs).1; have := (World.ownsRow.lt O25 i hi).2; omega
      have oo73 : ∀ i, (v66).ownBlock = some i → (v21).ownBlock = some i → False := fun i hi hs => oo72 i hs hi
      have oo74 : ∀ i, (v58).ownBlock = some i → (v66).ownBlock = some i → False := fun i hi hs => by have := (World.ownsRow.lt hO69 i hs).1; have := (World.ownsRow.lt O62 i hi).2; omega
      have oo75 : ∀ i, (v66).ownBlock = some i → (v58).ownBlock = some i → False := fun i hi hs => oo74 i hs hi
      have O70 := own_base hO69 K0.size
      clear hO69
      refine ⟨_, _, rfl, rfl, ?_⟩
      replace K0 := K0.t0 K68
      replace H4 := H4.keep K68 (fun h => h)
      replace O25 := own_keep0 O25 K68
      replace O62 := own_keep0 O62 K68
      clear K68
      refine og 1 [(1, (ptr b1)), (2, (Value.slice none 0 0)), (3, (i64 0)), (4, v66), (19, (i64 x.kind))] 5 ?_
      refine od ?_
      refine qs ?_
      refine qs ?_
      refine qg ?_
      obtain ⟨A76, c77, hf78⟩ := RdB.form (OwnB.rd O70)
      subst hf78
      refine og 3 [(2, (Value.slice none 0 0)), (3, (i64 0)), (4, (Value.slice A76 ((iv x.kind ++ iv x.n ++ opv x.op).length) c77)), (75, (Value.bool (decide ((((iv x.kind ++ iv x.n ++ opv x.op).length : Nat) : Int) > 1048576))))] 3 ?_
      refine od ?_
      refine q_cond (o := .tmp 75) (b := (decide ((((iv x.kind ++ iv x.n ++ opv x.op).length : Nat) : Int) > 1048576))) (by kernel_rfl) rfl (fun h79 => ?_) (fun h79 => ?_)
      ·rw [h79]
       have p80 : (((iv x.kind ++ iv x.n ++ opv x.op).length : Nat) : Int) > 1048576 := of_decide_eq_true h79
       refine qs ?_
       refine qg ?_
       refine og 2 [(2, (Value.slice none 0 0)), (3, (i64 3)), (4, (Value.slice A76 ((iv x.kind ++ iv x.n ++ opv x.op).length) c77))] 2 ?_
       refine od ?_
       refine q_ret (by kernel_rfl) ?_
       refine ⟨(Value.tuple #[(Value.slice none 0 0), (i64 3)]), retv_tmp2 rfl rfl rfl, ?_⟩
       have hL : iv x.kind ++ iv x.n ++ opv x.op = letv x := by unfold letv; first | (rw [if_pos (by omega)] <;> (simp; done)) | (rw [if_neg (by omega), if_pos (by omega)] <;> (simp; done)) | (rw [if_neg (by omega), if_neg (by omega), if_pos (by omega)] <;> (simp; done)) | (rw [if_neg (by omega), if_neg (by omega), if_neg (by omega), if_pos (by omega)] <;> (simp; done)) | (rw [if_neg (by omega), if_neg (by omega), if_neg (by omega), if_neg (by omega)] <;> (simp; done))
       have hLl := congrArg List.length hL
       have e : packB x = ([], 3) := by unfold packB; rw [if_neg (by omega), if_neg (not_not_intro hf), if_pos (by omega)]
       exact ⟨_, by rw [e], K0, by rw [e]; exact World.ownsRow_nil _ _ _ _⟩
      ·rw [h79]
       have p81 : ¬ ((((iv x.kind ++ iv x.n ++ opv x.op).length : Nat) : Int) > 1048576) := of_decide_eq_false h79
       refine q_skip (by kernel_rfl) ?_
       refine qs ?_
       refine qg ?_
       refine og 3 [(2, (Value.slice A76 ((iv x.kind ++ iv x.n ++ opv x.op).length) c77)), (3, (i64 0))] 3 ?_
       refine od ?_
       refine q_ret (by kernel_rfl) ?_
       refine ⟨(Value.tuple #[(Value.slice A76 ((iv x.kind ++ iv x.n ++ opv x.op).length) c77), (i64 0)]), retv_tmp2 rfl rfl rfl, ?_⟩
       have hL : iv x.kind ++ iv x.n ++ opv x.op = letv x := by unfold letv; first | (rw [if_pos (by omega)] <;> (simp; done)) | (rw [if_neg (by omega), if_pos (by omega)] <;> (simp; done)) | (rw [if_neg (by omega), if_neg (by omega), if_pos (by omega)] <;> (simp; done)) | (rw [if_neg (by omega), if_neg (by omega), if_neg (by omega), if_pos (by omega)] <;> (simp; done)) | (rw [if_neg (by omega), if_neg (by omega), if_neg (by omega), if_neg (by omega)] <;> (simp; done))
       have hLl := congrArg List.length hL
       have e : packB x = (letv x, 0) := by unfold packB; rw [if_neg (by omega), if_neg (not_not_intro hf), if_neg (by omega)]
       exact ⟨_, by rw [e], K0, by rw [e, ← hL]; exact O70⟩
     ·rw [h55]
      have p82 : ¬ (x.kind = 2) := of_beq_f h55
      refine qs ?_
      refine qg ?_
      refine og 2 [(1, (ptr b1)), (2, (Value.slice none 0 0)), (3, (i64 0)), (4, v21), (19, (i64 x.kind)), (37, (Value.bool (x.kind == 3)))] 2 ?_
      refine od ?_
      refine q_cond (o := .tmp 37) (b := (x.kind == 3)) (by kernel_rfl) rfl (fun h83 => ?_) (fun h83 => ?_)
      ·rw [h83]
       have p84 : x.kind = 3 := of_beq_t h83
       have hrl := let_rep hok hf (by omega)
       refine qs ?_
       refine qg ?_
       refine og 2 [(1, (ptr b1)), (2, (Value.slice none 0 0)), (3, (i64 0)), (4, v21), (19, (i64 x.kind)), (39, v21), (40, (Value.pointer (some ⟨b1, 1, none⟩)))] 2 ?_
       refine Ops.go (v := (i64 x.n)) (by kernel_rfl) (Runs.load (t := 2) (a := ⟨b1, 1, none⟩) (by kernel_rfl) (H4.loads (by kernel_rfl))) (d := (some 41)) (by kernel_rfl) rfl ?_
       refine Ops.call (by kernel_rfl) (d := (some 42)) (by kernel_rfl) (RInt_calls _ v21 (iv x.kind) x.n (OwnB.rd O25) (by omega) (by (try simp only at *); (try simp only [List.length_append] at *); (try simp only [List.length_cons] at *); (try simp only [List.length_nil] at *); omega)) ?_
       rintro _ w87 ⟨v86, rfl, K88, hO89⟩
       have ob91 : ∀ i, (v86).ownBlock = some i → i ≠ b1 := fun i hi => by have := (World.ownsRow.lt hO89 i hi).1; have := H4.lt; omega
       have oo92 : ∀ i, (v21).ownBlock = some i → (v86).ownBlock = some i → False := fun i hi hs => by have := (World.ownsRow.lt hO89 i hs).1; have := (World.ownsRow.lt O25 i hi).2; omega
       have oo93 : ∀ i, (v86).ownBlock = some i → (v21).ownBlock = some i → False := fun i hi hs => oo92 i hs hi
       have O90 := own_base hO89 K0.size
       clear hO89
       have hL85 := iv_length_10 (n := x.n) (by omega)
       refine ⟨_, _, rfl, rfl, ?_⟩
       replace K0 := K0.t0 K88
       replace H4 := H4.keep K88 (fun h => h)
       replace O25 := own_keep0 O25 K88
       clear K88
       refine og 1 [(1, (ptr b1)), (2, (Value.slice none 0 0)), (3, (i64 0)), (4, v86), (19, (i64 x.kind))] 5 ?_
       refine od ?_
       refine qg ?_
       refine og 2 [(1, (ptr b1)), (2, (Value.slice none 0 0)), (3, (i64 0)), (4, v86), (19, (i64 x.kind)), (43, v86), (44, (Value.pointer (some ⟨b1, 10, none⟩)))] 2 ?_
       refine Ops.go (v := (agg [(i64 x.rep.why), (i64 x.rep.amount), (Value.slice V x.rep.rows.length c)])) (by kernel_rfl) (Runs.load (t := 27) (a := ⟨b1, 10, none⟩) (by kernel_rfl) (H4.loads (by kernel_rfl))) (d := (some 45)) (by kernel_rfl) rfl ?_
       refine Ops.call (by kernel_rfl) (d := (some 46)) (by kernel_rfl) (RPutReply_calls _ v86 (iv x.kind ++ iv x.n) x.rep V c (OwnB.rd O90) hok.rep (Rd.keep0 (by omega) hV K0) (by (try simp only at *); (try simp only [List.length_append] at *); (try simp only [List.length_cons] at *); (try simp only [List.length_nil] at *); omega)) ?_
       rintro _ w95 ⟨v94, rfl, K96, hO97⟩
       have ob99 : ∀ i, (v94).ownBlock = some i → i ≠ b1 := fun i hi => by have := (World.ownsRow.lt hO97 i hi).1; have := H4.lt; omega
       have oo100 : ∀ i, (v21).ownBlock = some i → (v94).ownBlock = some i → False := fun i hi hs => by have := (World.ownsRow.lt hO97 i hs).1; have := (World.ownsRow.lt O25 i hi).2; omega
       have oo101 : ∀ i, (v94).ownBlock = some i → (v21).ownBlock = some i → False := fun i hi hs => oo100 i hs hi
       have oo102 : ∀ i, (v86).ownBlock = some i → (v94).ownBlock = some i → False := fun i hi hs => by have := (World.ownsRow.lt hO97 i hs).1; have := (World.ownsRow.lt O90 i hi).2; omega
       have oo103 : ∀ i, (v94).ownBlock = some i → (v86).ownBlock = some i → False := fun i hi hs => oo102 i hs hi
       have O98 := own_base hO97 K0.size
       clear hO97
       refine ⟨_, _, rfl, rfl, ?_⟩
       replace K0 := K0.t0 K96
       replace H4 := H4.keep K96 (fun h => h)
       replace O25 := own_keep0 O25 K96
       replace O90 := own_keep0 O90 K96
       clear K96
       refine og 1 [(1, (ptr b1)), (2, (Value.slice none 0 0)), (3, (i64 0)), (4, v94), (19, (i64 x.kind))] 5 ?_
       refine od ?_
       refine qs ?_
       refine qs ?_
       refine qg ?_
       obtain ⟨A104, c105, hf106⟩ := RdB.form (OwnB.rd O98)
       subst hf106
       refine og 3 [(2, (Value.slice none 0 0)), (3, (i64 0)), (4, (Value.slice A104 ((iv x.kind ++ iv x.n ++ rpv x.rep).length) c105)), (75, (Value.bool (decide ((((iv x.kind ++ iv x.n ++ rpv x.rep).length : Nat) : Int) > 1048576))))] 3 ?_
       refine od ?_
       refine q_cond (o := .tmp 75) (b := (decide ((((iv x.kind ++ iv x.n ++ rpv x.rep).length : Nat) : Int) > 1048576))) (by kernel_rfl) rfl (fun h107 => ?_) (fun h107 => ?_)
       ·rw [h107]
        have p108 : (((iv x.kind ++ iv x.n ++ rpv x.rep).length : Nat) : Int) > 1048576 := of_decide_eq_true h107
        refine qs ?_
        refine qg ?_
        refine og 2 [(2, (Value.slice none 0 0)), (3, (i64 3)), (4, (Value.slice A104 ((iv x.kind ++ iv x.n ++ rpv x.rep).length) c105))] 2 ?_
        refine od ?_
        refine q_ret (by kernel_rfl) ?_
        refine ⟨(Value.tuple #[(Value.slice none 0 0), (i64 3)]), retv_tmp2 rfl rfl rfl, ?_⟩
        have hL : iv x.kind ++ iv x.n ++ rpv x.rep = letv x := by unfold letv; first | (rw [if_pos (by omega)] <;> (simp; done)) | (rw [if_neg (by omega), if_pos (by omega)] <;> (simp; done)) | (rw [if_neg (by omega), if_neg (by omega), if_pos (by omega)] <;> (simp; done)) | (rw [if_neg (by omega), if_neg (by omega), if_neg (by omega), if_pos (by omega)] <;> (simp; done)) | (rw [if_neg (by omega), if_neg (by omega), if_neg (by omega), if_neg (by omega)] <;> (simp; done))
        have hLl := congrArg List.length hL
        have e : packB x = ([], 3) := by unfold packB; rw [if_neg (by omega), if_neg (not_not_intro hf), if_pos (by omega)]
        exact ⟨_, by rw [e], K0, by rw [e]; exact World.ownsRow_nil _ _ _ _⟩
       ·rw [h107]
        have p109 : ¬ ((((iv x.kind ++ iv x.n ++ rpv x.rep).length : Nat) : Int) > 1048576) := of_decide_eq_false h107
        refine q_skip (by kernel_rfl) ?_
        refine qs ?_
        refine qg ?_
        refine og 3 [(2, (Value.slice A104 ((iv x.kind ++ iv x.n ++ rpv x.rep).length) c105)), (3, (i64 0))] 3 ?_
        refine od ?_
        refine q_ret (by kernel_rfl) ?_
        refine ⟨(Value.tuple #[(Value.slice A104 ((iv x.kind ++ iv x.n ++ rpv x.rep).length) c105), (i64 0)]), retv_tmp2 rfl rfl rfl, ?_⟩
        have hL : iv x.kind ++ iv x.n ++ rpv x.rep = letv x := by unfold letv; first | (rw [if_pos (by omega)] <;> (simp; done)) | (rw [if_neg (by omega), if_pos (by omega)] <;> (simp; done)) | (rw [if_neg (by omega), if_neg (by omega), if_pos (by omega)] <;> (simp; done)) | (rw [if_neg (by omega), if_neg (by omega), if_neg (by omega), if_pos (by omega)] <;> (simp; done)) | (rw [if_neg (by omega), if_neg (by omega), if_neg (by omega), if_neg (by omega)] <;> (simp; done))
        have hLl := congrArg List.length hL
        have e : packB x = (letv x, 0) := by unfold packB; rw [if_neg (by omega), if_neg (not_not_intro hf), if_neg (by omega)]
        exact ⟨_, by rw [e], K0, by rw [e, ← hL]; exact O98⟩
      ·rw [h83]
       have p110 : ¬ (x.kind = 3) := of_beq_f h83
       refine qs ?_
       refine qg ?_
       refine og 2 [(1, (ptr b1)), (2, (Value.slice none 0 0)), (3, (i64 0)), (4, v21), (19, (i64 x.kind)), (47, (Value.bool (x.kind == 4)))] 2 ?_
       refine od ?_
       refine q_cond (o := .tmp 47) (b := (x.kind == 4)) (by kernel_rfl) rfl (fun h111 => ?_) (fun h111 => ?_)
       ·rw [h111]
        have p112 : x.kind = 4 := of_beq_t h111
        have hbl := let_body hf (by omega) (by omega)
        have htb := tv_le (s := x.body) (by omega)
        refine qs ?_
        refine qg ?_
        refine og 2 [(1, (ptr b1)), (2, (Value.slice none 0 0)), (3, (i64 0)), (4, v21), (19, (i64 x.kind)), (49, v21), (50, (Value.pointer (some ⟨b1, 1, none⟩)))] 2 ?_
        refine Ops.go (v := (i64 x.n)) (by kernel_rfl) (Runs.load (t := 2) (a := ⟨b1, 1, none⟩) (by kernel_rfl) (H4.loads (by kernel_rfl))) (d := (some 51)) (by kernel_rfl) rfl ?_
        refine Ops.call (by kernel_rfl) (d := (some 52)) (by kernel_rfl) (RInt_calls _ v21 (iv x.kind) x.n (OwnB.rd O25) (by omega) (by (try simp only at *); (try simp only [List.length_append] at *); (try simp only [List.length_cons] at *); (try simp only [List.length_nil] at *); omega)) ?_
        rintro _ w115 ⟨v114, rfl, K116, hO117⟩
        have ob119 : ∀ i, (v114).ownBlock = some i → i ≠ b1 := fun i hi => by have := (World.ownsRow.lt hO117 i hi).1; have := H4.lt; omega
        have oo120 : ∀ i, (v21).ownBlock = some i → (v114).ownBlock = some i → False := fun i hi hs => by have := (World.ownsRow.lt hO117 i hs).1; have := (World.ownsRow.lt O25 i hi).2; omega
        have oo121 : ∀ i, (v114).ownBlock = some i → (v21).ownBlock = some i → False := fun i hi hs => oo120 i hs hi
        have O118 := own_base hO117 K0.size
        clear hO117
        have hL113 := iv_length_10 (n := x.n) (by omega)
        refine ⟨_, _, rfl, rfl, ?_⟩
        replace K0 := K0.t0 K116
        replace H4 := H4.keep K116 (fun h => h)
        replace O25 := own_keep0 O25 K116
        clear K116
        refine og 1 [(1, (ptr b1)), (2, (Value.slice none 0 0)), (3, (i64 0)), (4, v114), (19, (i64 x.kind))] 5 ?_
        refine od ?_
        refine qg ?_
        refine og 2 [(1, (ptr b1)), (2, (Value.slice none 0 0)), (3, (i64 0)), (4, v114), (19, (i64 x.kind)), (53, v114), (54, (Value.pointer (some ⟨b1, 13, none⟩)))] 2 ?_
        refine Ops.go (v := (Value.slice D x.body.length dc)) (by kernel_rfl) (Runs.load (t := 28) (a := ⟨b1, 13, none⟩) (by kernel_rfl) (H4.loads (by kernel_rfl))) (d := (some 55)) (by kernel_rfl) rfl ?_
        refine Ops.call (by kernel_rfl) (d := (some 56)) (by kernel_rfl) (RBytesW_calls _ (Value.slice none 0 0) [] D dc x.body (Rd.nil _ _) (hD.keep0 (by omega) K0) (by first | omega | decide) (by (try simp only at *); (try simp only [List.length_append] at *); (try simp only [List.length_cons] at *); (try simp only [List.length_nil] at *); omega)) ?_
        rintro _ w125 ⟨v124, rfl, K126, hO127⟩
        have ob129 : ∀ i, (v124).ownBlock = some i → i ≠ b1 := fun i hi => by have := (World.ownsRow.lt hO127 i hi).1; have := H4.lt; omega
        have oo130 : ∀ i, (v21).ownBlock = some i → (v124).ownBlock = some i → False := fun i hi hs => by have := (World.ownsRow.lt hO127 i hs).1; have := (World.ownsRow.lt O25 i hi).2; omega
        have oo131 : ∀ i, (v124).ownBlock = some i → (v21).ownBlock = some i → False := fun i hi hs => oo130 i hs hi
        have oo132 : ∀ i, (v114).ownBlock = some i → (v124).ownBlock = some i → False := fun i hi hs => by have := (World.ownsRow.lt hO127 i hs).1; have := (World.ownsRow.lt O118 i hi).2; omega
        have oo133 : ∀ i, (v124).ownBlock = some i → (v114).ownBlock = some i → False := fun i hi hs => oo132 i hs hi
        have O128 : OwnB w125 w.heap.size _ v124 (tv x.body) := own_base hO127 K0.size
        clear hO127
        have hL122 := tv_ge x.body
        have hL123 := tv_le (s := x.body) (by first | omega | decide)
        refine ⟨_, _, rfl, rfl, ?_⟩
        replace K0 := K0.t0 K126
        replace H4 := H4.keep K126 (fun h => h)
        replace O25 := own_keep0 O25 K126
        replace O118 := own_keep0 O118 K126
        clear K126
        obtain ⟨v134, w135, hr136, hO137, K138, hg139⟩ := OwnB.app2 (ty := 28) tyB O118 (OwnB.rd O128) (by (try simp only [List.length_append]); (try simp only [List.length_nil]); omega) K0.size
        obtain ⟨A141, c142, hf140⟩ := RdB.form (OwnB.rd hO137)
        subst hf140
        have ob143 : ∀ i, ((Value.slice A141 ((iv x.kind ++ iv x.n ++ tv x.body).length) c142)).ownBlock = some i → i ≠ b1 := fun i hi => by rcases hg139 i hi with h | h; (have := ob119 i h; omega); (have := H4.lt; omega)
        have oo144 : ∀ i, (v21).ownBlock = some i → ((Value.slice A141 ((iv x.kind ++ iv x.n ++ tv x.body).length) c142)).ownBlock = some i → False := fun i hi hs => by rcases hg139 i hs with h | h; (exact oo120 i hi h); (have := (World.ownsRow.lt O25 i hi).2; omega)
        have oo145 : ∀ i, ((Value.slice A141 ((iv x.kind ++ iv x.n ++ tv x.body).length) c142)).ownBlock = some i → (v21).ownBlock = some i → False := fun i hi hs => oo144 i hs hi
        have oo146 : ∀ i, (v124).ownBlock = some i → ((Value.slice A141 ((iv x.kind ++ iv x.n ++ tv x.body).length) c142)).ownBlock = some i → False := fun i hi hs => by rcases hg139 i hs with h | h; (exact oo133 i hi h); (have := (World.ownsRow.lt O128 i hi).2; omega)
        have oo147 : ∀ i, ((Value.slice A141 ((iv x.kind ++ iv x.n ++ tv x.body).length) c142)).ownBlock = some i → (v124).ownBlock = some i → False := fun i hi hs => oo146 i hs hi
        refine Ops.go (v := (Value.slice A141 ((iv x.kind ++ iv x.n ++ tv x.body).length) c142)) (by kernel_rfl) (Runs.append (ts := #[28, 28]) (ty := 28) (vs := [v114, v124]) (by kernel_rfl) hr136) (d := (some 57)) (by kernel_rfl) rfl ?_
        replace K0 := K0.trans K138 (U := none_) (fun i h1 h2 => h2) (fun i h1 h2 => by have h2 : (v114).ownBlock = some i := h2; exfalso; have := (World.ownsRow.lt O118 i h2).1; omega)
        replace H4 := H4.keep K138 (by intro h; change (v114).ownBlock = some b1 at h; have := ob119 b1 h; omega)
        replace O25 := own_keep O25 K138 (fun i hi hs => by have hs : (v114).ownBlock = some i := hs; exact oo120 i hi hs)
        clear O118
        replace O128 := own_keep O128 K138 (fun i hi hs => by have hs : (v114).ownBlock = some i := hs; exact oo133 i hi hs)
        clear K138 hr136 hg139
        refine og 1 [(1, (ptr b1)), (2, (Value.slice none 0 0)), (3, (i64 0)), (4, (Value.slice A141 ((iv x.kind ++ iv x.n ++ tv x.body).length) c142)), (19, (i64 x.kind))] 6 ?_
        refine od ?_
        refine qs ?_
        refine qs ?_
        refine qg ?_
        refine og 3 [(2, (Value.slice none 0 0)), (3, (i64 0)), (4, (Value.slice A141 ((iv x.kind ++ iv x.n ++ tv x.body).length) c142)), (75, (Value.bool (decide ((((iv x.kind ++ iv x.n ++ tv x.body).length : Nat) : Int) > 1048576))))] 3 ?_
        refine od ?_
        refine q_cond (o := .tmp 75) (b := (decide ((((iv x.kind ++ iv x.n ++ tv x.body).length : Nat) : Int) > 1048576))) (by kernel_rfl) rfl (fun h148 => ?_) (fun h148 => ?_)
        ·rw [h148]
         have p149 : (((iv x.kind ++ iv x.n ++ tv x.body).length : Nat) : Int) > 1048576 := of_decide_eq_true h148
         refine qs ?_
         refine qg ?_
         refine og 2 [(2, (Value.slice none 0 0)), (3, (i64 3)), (4, (Value.slice A141 ((iv x.kind ++ iv x.n ++ tv x.body).length) c142))] 2 ?_
         refine od ?_
         refine q_ret (by kernel_rfl) ?_
         refine ⟨(Value.tuple #[(Value.slice none 0 0), (i64 3)]), retv_tmp2 rfl rfl rfl, ?_⟩
         have hL : iv x.kind ++ iv x.n ++ tv x.body = letv x := by unfold letv; first | (rw [if_pos (by omega)] <;> (simp; done)) | (rw [if_neg (by omega), if_pos (by omega)] <;> (simp; done)) | (rw [if_neg (by omega), if_neg (by omega), if_pos (by omega)] <;> (simp; done)) | (rw [if_neg (by omega), if_neg (by omega), if_neg (by omega), if_pos (by omega)] <;> (simp; done)) | (rw [if_neg (by omega), if_neg (by omega), if_neg (by omega), if_neg (by omega)] <;> (simp; done))
         have hLl := congrArg List.length hL
         have e : packB x = ([], 3) := by unfold packB; rw [if_neg (by omega), if_neg (not_not_intro hf), if_pos (by omega)]
         exact ⟨_, by rw [e], K0, by rw [e]; exact World.ownsRow_nil _ _ _ _⟩
        ·rw [h148]
         have p150 : ¬ ((((iv x.kind ++ iv x.n ++ tv x.body).length : Nat) : Int) > 1048576) := of_decide_eq_false h148
         refine q_skip (by kernel_rfl) ?_
         refine qs ?_
         refine qg ?_
         refine og 3 [(2, (Value.slice A141 ((iv x.kind ++ iv x.n ++ tv x.body).length) c142)), (3, (i64 0))] 3 ?_
         refine od ?_
         refine q_ret (by kernel_rfl) ?_
         refine ⟨(Value.tuple #[(Value.slice A141 ((iv x.kind ++ iv x.n ++ tv x.body).length) c142), (i64 0)]), retv_tmp2 rfl rfl rfl, ?_⟩
         have hL : iv x.kind ++ iv x.n ++ tv x.body = letv x := by unfold letv; first | (rw [if_pos (by omega)] <;> (simp; done)) | (rw [if_neg (by omega), if_pos (by omega)] <;> (simp; done)) | (rw [if_neg (by omega), if_neg (by omega), if_pos (by omega)] <;> (simp; done)) | (rw [if_neg (by omega), if_neg (by omega), if_neg (by omega), if_pos (by omega)] <;> (simp; done)) | (rw [if_neg (by omega), if_neg (by omega), if_neg (by omega), if_neg (by omega)] <;> (simp; done))
         have hLl := congrArg List.length hL
         have e : packB x = (letv x, 0) := by unfold packB; rw [if_neg (by omega), if_neg (not_not_intro hf), if_neg (by omega)]
         exact ⟨_, by rw [e], K0, by rw [e, ← hL]; exact hO137⟩
       ·rw [h111]
        have p151 : ¬ (x.kind = 4) := of_beq_f h111
        have hbl := let_body hf (by omega) (by omega)
        have htb := tv_le (s := x.body) (by omega)
        refine qs ?_
        refine qg ?_
        refine og 2 [(1, (ptr b1)), (2, (Value.slice none 0 0)), (3, (i64 0)), (4, v21), (58, (Value.bool (x.kind == 5)))] 2 ?_
        refine od ?_
        have h152 : (x.kind == 5) = true := beq_t (by omega)
        rw [h152]
        refine q_then (o := .tmp 58) (by kernel_rfl) rfl ?_
        refine qs ?_
        refine qg ?_
        refine og 2 [(1, (ptr b1)), (2, (Value.slice none 0 0)), (3, (i64 0)), (4, v21), (60, v21), (61, (Value.pointer (some ⟨b1, 1, none⟩)))] 2 ?_
        refine Ops.go (v := (i64 x.n)) (by kernel_rfl) (Runs.load (t := 2) (a := ⟨b1, 1, none⟩) (by kernel_rfl) (H4.loads (by kernel_rfl))) (d := (some 62)) (by kernel_rfl) rfl ?_
        refine Ops.call (by kernel_rfl) (d := (some 63)) (by kernel_rfl) (RInt_calls _ v21 (iv x.kind) x.n (OwnB.rd O25) (by omega) (by (try simp only at *); (try simp only [List.length_append] at *); (try simp only [List.length_cons] at *); (try simp only [List.length_nil] at *); omega)) ?_
        rintro _ w155 ⟨v154, rfl, K156, hO157⟩
        have ob159 : ∀ i, (v154).ownBlock = some i → i ≠ b1 := fun i hi => by have := (World.ownsRow.lt hO157 i hi).1; have := H4.lt; omega
        have oo160 : ∀ i, (v21).ownBlock = some i → (v154).ownBlock = some i → False := fun i hi hs => by have := (World.ownsRow.lt hO157 i hs).1; have := (World.ownsRow.lt O25 i hi).2; omega
        have oo161 : ∀ i, (v154).ownBlock = some i → (v21).ownBlock = some i → False := fun i hi hs => oo160 i hs hi
        have O158 := own_base hO157 K0.size
        clear hO157
        have hL153 := iv_length_10 (n := x.n) (by omega)
        refine ⟨_, _, rfl, rfl, ?_⟩
        replace K0 := K0.t0 K156
        replace H4 := H4.keep K156 (fun h => h)
        replace O25 := own_keep0 O25 K156
        clear K156
        refine og 1 [(1, (ptr b1)), (2, (Value.slice none 0 0)), (3, (i64 0)), (4, v154)] 5 ?_
        refine od ?_
        refine qs ?_
        refine qg ?_
        refine og 2 [(1, (ptr b1)), (2, (Value.slice none 0 0)), (3, (i64 0)), (4, v154), (64, v154), (65, (Value.pointer (some ⟨b1, 2, none⟩)))] 2 ?_
        refine Ops.go (v := (i64 x.group)) (by kernel_rfl) (Runs.load (t := 3) (a := ⟨b1, 2, none⟩) (by kernel_rfl) (H4.loads (by kernel_rfl))) (d := (some 66)) (by kernel_rfl) rfl ?_
        refine Ops.call (by kernel_rfl) (d := (some 67)) (by kernel_rfl) (RInt_calls _ v154 (iv x.kind ++ iv x.n) x.group (OwnB.rd O158) (by omega) (by (try simp only at *); (try simp only [List.length_append] at *); (try simp only [List.length_cons] at *); (try simp only [List.length_nil] at *); omega)) ?_
        rintro _ w164 ⟨v163, rfl, K165, hO166⟩
        have ob168 : ∀ i, (v163).ownBlock = some i → i ≠ b1 := fun i hi => by have := (World.ownsRow.lt hO166 i hi).1; have := H4.lt; omega
        have oo169 : ∀ i, (v21).ownBlock = some i → (v163).ownBlock = some i → False := fun i hi hs => by have := (World.ownsRow.lt hO166 i hs).1; have := (World.ownsRow.lt O25 i hi).2; omega
        have oo170 : ∀ i, (v163).ownBlock = some i → (v21).ownBlock = some i → False := fun i hi hs => oo169 i hs hi
        have oo171 : ∀ i, (v154).ownBlock = some i → (v163).ownBlock = some i → False := fun i hi hs => by have := (World.ownsRow.lt hO166 i hs).1; have := (World.ownsRow.lt O158 i hi).2; omega
        have oo172 : ∀ i, (v163).ownBlock = some i → (v154).ownBlock = some i → False := fun i hi hs => oo171 i hs hi
        have O167 := own_base hO166 K0.size
        clear hO166
        have hL162 := iv_length_10 (n := x.group) (by omega)
        refine ⟨_, _, rfl, rfl, ?_⟩
        replace K0 := K0.t0 K165
        replace H4 := H4.keep K165 (fun h => h)
        replace O25 := own_keep0 O25 K165
        replace O158 := own_keep0 O158 K165
        clear K165
        refine og 1 [(1, (ptr b1)), (2, (Value.slice none 0 0)), (3, (i64 0)), (4, v163)] 5 ?_
        refine od ?_
        refine qg ?_
        refine og 2 [(2, (Value.slice none 0 0)), (3, (i64 0)), (4, v163), (68, v163), (69, (Value.pointer (some ⟨b1, 13, none⟩)))] 2 ?_
        refine Ops.go (v := (Value.slice D x.body.length dc)) (by kernel_rfl) (Runs.load (t := 28) (a := ⟨b1, 13, none⟩) (by kernel_rfl) (H4.loads (by kernel_rfl))) (d := (some 70)) (by kernel_rfl) rfl ?_
        refine Ops.call (by kernel_rfl) (d := (some 71)) (by kernel_rfl) (RBytesW_calls _ (Value.slice none 0 0) [] D dc x.body (Rd.nil _ _) (hD.keep0 (by omega) K0) (by first | omega | decide) (by (try simp only at *); (try simp only [List.length_append] at *); (try simp only [List.length_cons] at *); (try simp only [List.length_nil] at *); omega)) ?_
        rintro _ w176 ⟨v175, rfl, K177, hO178⟩
        have ob180 : ∀ i, (v175).ownBlock = some i → i ≠ b1 := fun i hi => by have := (World.ownsRow.lt hO178 i hi).1; have := H4.lt; omega
        have oo181 : ∀ i, (v21).ownBlock = some i → (v175).ownBlock = some i → False := fun i hi hs => by have := (World.ownsRow.lt hO178 i hs).1; have := (World.ownsRow.lt O25 i hi).2; omega
        have oo182 : ∀ i, (v175).ownBlock = some i → (v21).ownBlock = some i → False := fun i hi hs => oo181 i hs hi
        have oo183 : ∀ i, (v154).ownBlock = some i → (v175).ownBlock = some i → False := fun i hi hs => by have := (World.ownsRow.lt hO178 i hs).1; have := (World.ownsRow.lt O158 i hi).2; omega
        have oo184 : ∀ i, (v175).ownBlock = some i → (v154).ownBlock = some i → False := fun i hi hs => oo183 i hs hi
        have oo185 : ∀ i, (v163).ownBlock = some i → (v175).ownBlock = some i → False := fun i hi hs => by have := (World.ownsRow.lt hO178 i hs).1; have := (World.ownsRow.lt O167 i hi).2; omega
        have oo186 : ∀ i, (v175).ownBlock = some i → (v163).ownBlock = some i → False := fun i hi hs => oo185 i hs hi
        have O179 : OwnB w176 w.heap.size _ v175 (tv x.body) := own_base hO178 K0.size
        clear hO178
        have hL173 := tv_ge x.body
        have hL174 := tv_le (s := x.body) (by first | omega | decide)
        refine ⟨_, _, rfl, rfl, ?_⟩
        replace K0 := K0.t0 K177
        replace H4 := H4.keep K177 (fun h => h)
        replace O25 := own_keep0 O25 K177
        replace O158 := own_keep0 O158 K177
        replace O167 := own_keep0 O167 K177
        clear K177
        obtain ⟨v187, w188, hr189, hO190, K191, hg192⟩ := OwnB.app2 (ty := 28) tyB O167 (OwnB.rd O179) (by (try simp only [List.length_append]); (try simp only [List.length_nil]); omega) K0.size
        obtain ⟨A194, c195, hf193⟩ := RdB.form (OwnB.rd hO190)
        subst hf193
        have ob196 : ∀ i, ((Value.slice A194 ((iv x.kind ++ iv x.n ++ iv x.group ++ tv x.body).length) c195)).ownBlock = some i → i ≠ b1 := fun i hi => by rcases hg192 i hi with h | h; (have := ob168 i h; omega); (have := H4.lt; omega)
        have oo197 : ∀ i, (v21).ownBlock = some i → ((Value.slice A194 ((iv x.kind ++ iv x.n ++ iv x.group ++ tv x.body).length) c195)).ownBlock = some i → False := fun i hi hs => by rcases hg192 i hs with h | h; (exact oo169 i hi h); (have := (World.ownsRow.lt O25 i hi).2; omega)
        have oo198 : ∀ i, ((Value.slice A194 ((iv x.kind ++ iv x.n ++ iv x.group ++ tv x.body).length) c195)).ownBlock = some i → (v21).ownBlock = some i → False := fun i hi hs => oo197 i hs hi
        have oo199 : ∀ i, (v154).ownBlock = some i → ((Value.slice A194 ((iv x.kind ++ iv x.n ++ iv x.group ++ tv x.body).length) c195)).ownBlock = some i → False := fun i hi hs => by rcases hg192 i hs with h | h; (exact oo171 i hi h); (have := (World.ownsRow.lt O158 i hi).2; omega)
        have oo200 : ∀ i, ((Value.slice A194 ((iv x.kind ++ iv x.n ++ iv x.group ++ tv x.body).length) c195)).ownBlock = some i → (v154).ownBlock = some i → False := fun i hi hs => oo199 i hs hi
        have oo201 : ∀ i, (v175).ownBlock = some i → ((Value.slice A194 ((iv x.kind ++ iv x.n ++ iv x.group ++ tv x.body).length) c195)).ownBlock = some i → False := fun i hi hs => by rcases hg192 i hs with h | h; (exact oo186 i hi h); (have := (World.ownsRow.lt O179 i hi).2; omega)
        have oo202 : ∀ i, ((Value.slice A194 ((iv x.kind ++ iv x.n ++ iv x.group ++ tv x.body).length) c195)).ownBlock = some i → (v175).ownBlock = some i → False := fun i hi hs => oo201 i hs hi
        refine Ops.go (v := (Value.slice A194 ((iv x.kind ++ iv x.n ++ iv x.group ++ tv x.body).length) c195)) (by kernel_rfl) (Runs.append (ts := #[28, 28]) (ty := 28) (vs := [v163, v175]) (by kernel_rfl) hr189) (d := (some 72)) (by kernel_rfl) rfl ?_
        replace K0 := K0.trans K191 (U := none_) (fun i h1 h2 => h2) (fun i h1 h2 => by have h2 : (v163).ownBlock = some i := h2; exfalso; have := (World.ownsRow.lt O167 i h2).1; omega)
        replace H4 := H4.keep K191 (by intro h; change (v163).ownBlock = some b1 at h; have := ob168 b1 h; omega)
        replace O25 := own_keep O25 K191 (fun i hi hs => by have hs : (v163).ownBlock = some i := hs; exact oo169 i hi hs)
        replace O158 := own_keep O158 K191 (fun i hi hs => by have hs : (v163).ownBlock = some i := hs; exact oo171 i hi hs)
        clear O167
        replace O179 := own_keep O179 K191 (fun i hi hs => by have hs : (v163).ownBlock = some i := hs; exact oo186 i hi hs)
        clear K191 hr189 hg192
        refine og 1 [(2, (Value.slice none 0 0)), (3, (i64 0)), (4, (Value.slice A194 ((iv x.kind ++ iv x.n ++ iv x.group ++ tv x.body).length) c195))] 6 ?_
        refine od ?_
        refine qs ?_
        refine qs ?_
        refine qg ?_
        refine og 3 [(2, (Value.slice none 0 0)), (3, (i64 0)), (4, (Value.slice A194 ((iv x.kind ++ iv x.n ++ iv x.group ++ tv x.body).length) c195)), (75, (Value.bool (decide ((((iv x.kind ++ iv x.n ++ iv x.group ++ tv x.body).length : Nat) : Int) > 1048576))))] 3 ?_
        refine od ?_
        refine q_cond (o := .tmp 75) (b := (decide ((((iv x.kind ++ iv x.n ++ iv x.group ++ tv x.body).length : Nat) : Int) > 1048576))) (by kernel_rfl) rfl (fun h203 => ?_) (fun h203 => ?_)
        ·rw [h203]
         have p204 : (((iv x.kind ++ iv x.n ++ iv x.group ++ tv x.body).length : Nat) : Int) > 1048576 := of_decide_eq_true h203
         refine qs ?_
         refine qg ?_
         refine og 2 [(2, (Value.slice none 0 0)), (3, (i64 3)), (4, (Value.slice A194 ((iv x.kind ++ iv x.n ++ iv x.group ++ tv x.body).length) c195))] 2 ?_
         refine od ?_
         refine q_ret (by kernel_rfl) ?_
         refine ⟨(Value.tuple #[(Value.slice none 0 0), (i64 3)]), retv_tmp2 rfl rfl rfl, ?_⟩
         have hL : iv x.kind ++ iv x.n ++ iv x.group ++ tv x.body = letv x := by unfold letv; first | (rw [if_pos (by omega)] <;> (simp; done)) | (rw [if_neg (by omega), if_pos (by omega)] <;> (simp; done)) | (rw [if_neg (by omega), if_neg (by omega), if_pos (by omega)] <;> (simp; done)) | (rw [if_neg (by omega), if_neg (by omega), if_neg (by omega), if_pos (by omega)] <;> (simp; done)) | (rw [if_neg (by omega), if_neg (by omega), if_neg (by omega), if_neg (by omega)] <;> (simp; done))
         have hLl := congrArg List.length hL
         have e : packB x = ([], 3) := by unfold packB; rw [if_neg (by omega), if_neg (not_not_intro hf), if_pos (by omega)]
         exact ⟨_, by rw [e], K0, by rw [e]; exact World.ownsRow_nil _ _ _ _⟩
        ·rw [h203]
         have p205 : ¬ ((((iv x.kind ++ iv x.n ++ iv x.group ++ tv x.body).length : Nat) : Int) > 1048576) := of_decide_eq_false h203
         refine q_skip (by kernel_rfl) ?_
         refine qs ?_
         refine qg ?_
         refine og 3 [(2, (Value.slice A194 ((iv x.kind ++ iv x.n ++ iv x.group ++ tv x.body).length) c195)), (3, (i64 0))] 3 ?_
         refine od ?_
         refine q_ret (by kernel_rfl) ?_
         refine ⟨(Value.tuple #[(Value.slice A194 ((iv x.kind ++ iv x.n ++ iv x.group ++ tv x.body).length) c195), (i64 0)]), retv_tmp2 rfl rfl rfl, ?_⟩
         have hL : iv x.kind ++ iv x.n ++ iv x.group ++ tv x.body = letv x := by unfold letv; first | (rw [if_pos (by omega)] <;> (simp; done)) | (rw [if_neg (by omega), if_pos (by omega)] <;> (simp; done)) | (rw [if_neg (by omega), if_neg (by omega), if_pos (by omega)] <;> (simp; done)) | (rw [if_neg (by omega), if_neg (by omega), if_neg (by omega), if_pos (by omega)] <;> (simp; done)) | (rw [if_neg (by omega), if_neg (by omega), if_neg (by omega), if_neg (by omega)] <;> (simp; done))
         have hLl := congrArg List.length hL
         have e : packB x = (letv x, 0) := by unfold packB; rw [if_neg (by omega), if_neg (not_not_intro hf), if_neg (by omega)]
         exact ⟨_, by rw [e], K0, by rw [e, ← hL]; exact hO190⟩

theorem taken_calls (w : World) (x : LetP) (V : Option Addr) (c : Nat) (D : Option Addr) (dc : Nat)  : Calls Try.prog 24 ⟨[(agg [(i64 x.kind), (i64 x.n), (i64 x.group), (i64 x.op.kind), (Value.string (str x.op.frm)), (Value.string (str x.op.to)), (i64 x.op.amount), (Value.string (str x.op.key)), (i64 x.op.slot), (i64 x.op.shard), (i64 x.rep.why), (i64 x.rep.amount), (Value.slice V x.rep.rows.length c), (Value.slice D x.body.length dc)])]⟩ w (fun e w' => e = .returned (agg (x.cells V c D dc)) ∧ Keeps none_ w w') := by
 have K0 : Keeps none_ w w := Keeps.refl w
 refine q_calls Try.func24 (by kernel_rfl) (by kernel_rfl) ?_
 refine qs ?_
 refine qg ?_
 refine Ops.new (o := rowL [(i64 x.kind), (i64 x.n), (i64 x.group), (i64 x.op.kind), (Value.string (str x.op.frm)), (Value.string (str x.op.to)), (i64 x.op.amount), (Value.string (str x.op.key)), (i64 x.op.slot), (i64 x.op.shard), (i64 x.rep.why), (i64 x.rep.amount), (Value.slice V x.rep.rows.length c), (Value.slice D x.body.length dc)] 33) (V := fun b => (ptr b)) (by kernel_rfl) (d := (some 1)) (by kernel_rfl) (fun b => rfl) (fun b1 w2 hb3 H4 K5 hs6 => ?_)
 have nb1 : w.heap.size ≤ b1 := by have := K0.size; omega
 replace K0 := K0.t0 K5
 clear K5 hs6
 refine Ops.new (o := rowL [(i64 0), (i64 0), (i64 0), (i64 0), (Value.string ByteArray.empty), (Value.string ByteArray.empty), (i64 0), (Value.string ByteArray.empty), (i64 0), (i64 0), (i64 0), (i64 0), (Value.slice none 0 0), (Value.slice none 0 0)] 30) (V := fun b => (ptr b)) (by kernel_rfl) (d := (some 2)) (by kernel_rfl) (fun b => rfl) (fun b7 w8 hb9 H10 K11 hs12 => ?_)
 have lb7 : b1 < b7 := by have := H4.lt; omega
 have nb7 : w.heap.size ≤ b7 := by have := K0.size; omega
 replace K0 := K0.t0 K11
 replace H4 := H4.keep K11 (fun h => h)
 clear K11 hs12
 refine od ?_
 refine qs ?_
 refine qg ?_
 refine og 1 [(1, (ptr b1)), (2, (ptr b7)), (3, (ptr b1))] 1 ?_
 refine Ops.go (v := (i64 x.kind)) (by kernel_rfl) (Runs.load (t := 3) (a := ⟨b1, 0, none⟩) (by kernel_rfl) (H4.loads (by kernel_rfl))) (d := (some 4)) (by kernel_rfl) rfl ?_
 refine og 1 [(1, (ptr b1)), (2, (ptr b7)), (4, (i64 x.kind)), (5, (Value.pointer (some ⟨b1, 1, none⟩)))] 3 ?_
 refine Ops.go (v := (i64 x.n)) (by kernel_rfl) (Runs.load (t := 2) (a := ⟨b1, 1, none⟩) (by kernel_rfl) (H4.loads (by kernel_rfl))) (d := (some 6)) (by kernel_rfl) rfl ?_
 refine og 1 [(1, (ptr b1)), (2, (ptr b7)), (4, (i64 x.kind)), (6, (i64 x.n)), (7, (Value.pointer (some ⟨b1, 2, none⟩)))] 5 ?_
 refine Ops.go (v := (i64 x.group)) (by kernel_rfl) (Runs.load (t := 3) (a := ⟨b1, 2, none⟩) (by kernel_rfl) (H4.loads (by kernel_rfl))) (d := (some 8)) (by kernel_rfl) rfl ?_
 refine og 1 [(1, (ptr b1)), (2, (ptr b7)), (4, (i64 x.kind)), (6, (i64 x.n)), (8, (i64 x.group)), (9, (Value.pointer (some ⟨b1, 3, none⟩)))] 7 ?_
 refine Ops.go (v := (agg [(i64 x.op.kind), (Value.string (str x.op.frm)), (Value.string (str x.op.to)), (i64 x.op.amount), (Value.string (str x.op.key)), (i64 x.op.slot), (i64 x.op.shard)])) (by kernel_rfl) (Runs.load (t := 23) (a := ⟨b1, 3, none⟩) (by kernel_rfl) (H4.loads (by kernel_rfl))) (d := (some 10)) (by kernel_rfl) rfl ?_
 refine og 1 [(1, (ptr b1)), (2, (ptr b7)), (4, (i64 x.kind)), (6, (i64 x.n)), (8, (i64 x.group)), (10, (agg [(i64 x.op.kind), (Value.string (str x.op.frm)), (Value.string (str x.op.to)), (i64 x.op.amount), (Value.string (str x.op.key)), (i64 x.op.slot), (i64 x.op.shard)])), (11, (Value.pointer (some ⟨b1, 10, none⟩)))] 9 ?_
 refine Ops.go (v := (agg [(i64 x.rep.why), (i64 x.rep.amount), (Value.slice V x.rep.rows.length c)])) (by kernel_rfl) (Runs.load (t := 27) (a := ⟨b1, 10, none⟩) (by kernel_rfl) (H4.loads (by kernel_rfl))) (d := (some 12)) (by kernel_rfl) rfl ?_
 refine og 1 [(2, (ptr b7)), (4, (i64 x.kind)), (6, (i64 x.n)), (8, (i64 x.group)), (10, (agg [(i64 x.op.kind), (Value.string (str x.op.frm)), (Value.string (str x.op.to)), (i64 x.op.amount), (Value.string (str x.op.key)), (i64 x.op.slot), (i64 x.op.shard)])), (12, (agg [(i64 x.rep.why), (i64 x.rep.amount), (Value.slice V x.rep.rows.length c)])), (13, (Value.pointer (some ⟨b1, 13, none⟩)))] 11 ?_
 refine Ops.go (v := (Value.slice D x.body.length dc)) (by kernel_rfl) (Runs.load (t := 28) (a := ⟨b1, 13, none⟩) (by kernel_rfl) (H4.loads (by kernel_rfl))) (d := (some 14)) (by kernel_rfl) rfl ?_
 refine og 1 [(2, (ptr b7)), (15, (agg [(i64 x.kind), (i64 x.n), (i64 x.group), (i64 x.op.kind), (Value.string (str x.op.frm)), (Value.string (str x.op.to)), (i64 x.op.amount), (Value.string (str x.op.key)), (i64 x.op.slot), (i64 x.op.shard), (i64 x.rep.why), (i64 x.rep.amount), (Value.slice V x.rep.rows.length c), (Value.slice D x.body.length dc)]))] 13 ?_
 refine Ops.put (t := 30) (b := b7) (off := 0) (v := (agg [(i64 x.kind), (i64 x.n), (i64 x.group), (i64 x.op.kind), (Value.string (str x.op.frm)), (Value.string (str x.op.to)), (i64 x.op.amount), (Value.string (str x.op.key)), (i64 x.op.slot), (i64 x.op.shard), (i64 x.rep.why), (i64 x.rep.amount), (Value.slice V x.rep.rows.length c), (Value.slice D x.body.length dc)])) (ys := [(i64 x.kind), (i64 x.n), (i64 x.group), (i64 x.op.kind), (Value.string (str x.op.frm)), (Value.string (str x.op.to)), (i64 x.op.amount), (Value.string (str x.op.key)), (i64 x.op.slot), (i64 x.op.shard), (i64 x.rep.why), (i64 x.rep.amount), (Value.slice V x.rep.rows.length c), (Value.slice D x.body.length dc)]) (by kernel_rfl) (by kernel_rfl) H10 (by kernel_rfl) (d := none) (by kernel_rfl) rfl (fun w13 H14 K15 => ?_)
 clear H10
 replace K0 := K0.trans K15 (U := none_) (fun i h1 h2 => h2) (fun i h1 h2 => by have h2 : i = b7 := h2; exfalso; omega)
 replace H4 := H4.keep K15 (by intro h; change b1 = b7 at h; omega)
 clear K15
 refine od ?_
 refine q_ret (by kernel_rfl) ?_
 refine ⟨(agg [(i64 x.kind), (i64 x.n), (i64 x.group), (i64 x.op.kind), (Value.string (str x.op.frm)), (Value.string (str x.op.to)), (i64 x.op.amount), (Value.string (str x.op.key)), (i64 x.op.slot), (i64 x.op.shard), (i64 x.rep.why), (i64 x.rep.amount), (Value.slice V x.rep.rows.length c), (Value.slice D x.body.length dc)]), retv_cell rfl rfl (H14.loads (by kernel_rfl)), ?_⟩
 exact ⟨rfl, K0⟩
end Go.Proofs.Ytlnidnadpdpciaa
