/- letters are read -/
import Derived.Test.YtlnidnadpdpciaaProg
import Derived.Test.YtlnidnadpdpciaaKK
import Derived.Test.YtlnidnadpdpciaaKL
import Derived.Test.YtlnidnadpdpciaaLW
import Derived.Test.YtlnidnadpdpciaaLX
set_option linter.unusedVariables false
namespace Go.Proofs.Ytlnidnadpdpciaa
open Go.Q Go.RowKit

theorem At_calls (w : World) (b : Nat) (A : Option Addr) (c : Nat) (r : Rdr) (hok : r.Ok) (H0 : Has w b (rowL (rdrL A c r) 115)) (hR : RdO w A c r.bs) (hne : ∀ g o s, A = some ⟨g, o, s⟩ → g ≠ b) : Calls Try.prog 50 ⟨[(ptr b)]⟩ w (fun e w' => e = .returned (i64 ((r.pos : Nat) : Int)) ∧ Keeps none_ w w') := by
 have hpos := hok.pos
 have hlen := hok.len
 have hsc := r.scan_le
 have hdl : (r.bs.drop r.pos).length = r.bs.length - r.pos := List.length_drop
 have hcap := hR.1.slice
 have Hb := H0.lt
 have K0 : Keeps none_ w w := Keeps.refl w
 refine q_calls Try.func50 (by kernel_rfl) (by kernel_rfl) ?_
 refine qs ?_
 refine qg ?_
 refine og 1 [(0, (ptr b)), (2, (i64 0))] 1 ?_
 refine od ?_
 refine qs ?_
 refine qs ?_
 refine qg ?_
 refine og 2 [(0, (ptr b)), (2, (i64 0)), (4, (Value.bool false))] 2 ?_
 refine od ?_
 refine q_else (o := .tmp 4) (by kernel_rfl) rfl ?_
 refine q_skip (by kernel_rfl) ?_
 refine qs ?_
 refine qg ?_
 refine og 3 [(2, (i64 0)), (7, (Value.pointer (some ⟨b, 1, none⟩)))] 3 ?_
 refine Ops.go (v := (i64 ((r.pos : Nat) : Int))) (by kernel_rfl) (Runs.load (t := 3) (a := ⟨b, 1, none⟩) (by kernel_rfl) (H0.loads (by kernel_rfl))) (d := (some 8)) (by kernel_rfl) rfl ?_
 refine og 1 [(2, (i64 ((r.pos : Nat) : Int)))] 5 ?_
 refine od ?_
 refine q_ret (by kernel_rfl) ?_
 refine ⟨(i64 ((r.pos : Nat) : Int)), retv_tmp rfl rfl, ?_⟩
 exact ⟨rfl, K0⟩

theorem end_or (r : Rdr) : (r.why = 0 ∧ r.pos < r.bs.length ∧ r.end_ = 11) ∨ (r.why = 0 ∧ ¬ r.pos < r.bs.length ∧ r.end_ = 0) ∨ (r.why ≠ 0 ∧ r.end_ = r.why) := by
 unfold Rdr.end_
 by_cases h : r.why = 0
 ·by_cases h2 : r.pos < r.bs.length
  ·exact .inl ⟨h, h2, if_pos ⟨h, h2⟩⟩
  ·exact .inr (.inl ⟨h, h2, by rw [if_neg (fun q => h2 q.2), h]⟩)
 ·exact .inr (.inr ⟨h, if_neg (fun q => h q.1)⟩)

theorem RdBytesS_calls (w : World) (b : Nat) (A : Option Addr) (c : Nat) (r : Rdr) (hok : r.Ok) (H0 : Has w b (rowL (rdrL A c r) 115)) (hR : RdO w A c r.bs) (hne : ∀ g o s, A = some ⟨g, o, s⟩ → g ≠ b) : Calls Try.prog 53 ⟨[ptr b]⟩ w (fun e w' => ∃ A' c', e = .returned (.slice A' r.bytes.1.length c') ∧ Keeps (fun i => i = b) w w' ∧ OwnB w' w.heap.size 5 (.slice A' r.bytes.1.length c') r.bytes.1 ∧ Has w' b (rowL (rdrL A c r.bytes.2) 115)) := by
 refine (RdBytes_calls w b A c r hok H0 hR hne).mono ?_
 rintro _ w' ⟨v', rfl, hk, hO, H⟩
 obtain ⟨A', c', rfl⟩ := RdB.form (OwnB.rd hO)
 exact ⟨A', c', rfl, hk, hO, H⟩

theorem RRBytesS_calls (w : World) (b : Nat) (A : Option Addr) (c : Nat) (r : Rdr) (hok : r.Ok) (H0 : Has w b (rowL (rdrL A c r) 100)) (hR : RdO w A c r.bs) (hne : ∀ g o s, A = some ⟨g, o, s⟩ → g ≠ b) : Calls Try.prog 56 ⟨[ptr b]⟩ w (fun e w' => ∃ A' c', e = .returned (.slice A' r.bytes.1.length c') ∧ Keeps (fun i => i = b) w w' ∧ OwnB w' w.heap.size 5 (.slice A' r.bytes.1.length c') r.bytes.1 ∧ Has w' b (rowL (rdrL A c r.bytes.2) 100)) := by
 refine (RRBytes_calls w b A c r hok H0 hR hne).mono ?_
 rintro _ w' ⟨v', rfl, hk, hO, H⟩
 obtain ⟨A', c', rfl⟩ := RdB.form (OwnB.rd hO)
 exact ⟨A', c', rfl, hk, hO, H⟩

theorem Unpack_calls (w : World) (A : Option Addr) (c : Nat) (bs : List UInt8) (hv : RdB w (.slice A bs.length c) bs) (hbl : bs.length ≤ 140737488351232) : Calls Try.prog 28 ⟨[(Value.slice A bs.length c)]⟩ w (fun e w' => ∃ V c D dc, e = .returned (.tuple #[agg ((unpackB bs).1.cells V c D dc), i64 (unpackB bs).2]) ∧ Keeps none_ w w' ∧ OwnR w' w.heap.size 59 (.slice V (unpackB bs).1.rep.rows.length c) (unpackB bs).1.rep.rows ∧ OwnB w' w.heap.size 5 (.slice D (unpackB bs).1.body.length dc) (unpackB bs).1.body) := by
 have K0 : Keeps none_ w w := Keeps.refl w
 refine q_calls Try.func28 (by kernel_rfl) (by kernel_rfl) ?_
 refine qs ?_
 refine qg ?_
 refine Ops.new (o := rowL [(i64 0), (i64 0), (i64 0), (i64 0), (Value.string ByteArray.empty), (Value.string ByteArray.empty), (i64 0), (Value.string ByteArray.empty), (i64 0), (i64 0), (i64 0), (i64 0), (Value.slice none 0 0), (Value.slice none 0 0)] 33) (V := fun b => (ptr b)) (by kernel_rfl) (d := (some 2)) (by kernel_rfl) (fun b => rfl) (fun b1 w2 hb3 H4 K5 hs6 => ?_)
 have nb1 : w.heap.size ≤ b1 := by have := K0.size; omega
 replace K0 := K0.t0 K5
 clear K5 hs6
 refine og 1 [(0, (Value.slice A bs.length c)), (2, (ptr b1)), (3, (i64 0))] 2 ?_
 refine od ?_
 refine qs ?_
 refine qs ?_
 refine qg ?_
 refine og 3 [(0, (Value.slice A bs.length c)), (2, (ptr b1)), (3, (i64 0)), (10, (Value.bool (decide (((bs.length : Nat) : Int) > 1048576))))] 3 ?_
 refine od ?_
 refine q_cond (o := .tmp 10) (b := (decide (((bs.length : Nat) : Int) > 1048576))) (by kernel_rfl) rfl (fun h7 => ?_) (fun h7 => ?_)
 ·rw [h7]
  have p8 : ((bs.length : Nat) : Int) > 1048576 := of_decide_eq_true h7
  refine qs ?_
  refine qg ?_
  refine og 1 [(0, (Value.slice A bs.length c)), (2, (ptr b1)), (3, (i64 0)), (11, (agg [(i64 0), (i64 0), (i64 0), (i64 0), (Value.string ByteArray.empty), (Value.string ByteArray.empty), (i64 0), (Value.string ByteArray.empty), (i64 0), (i64 0), (i64 0), (i64 0), (Value.slice none 0 0), (Value.slice none 0 0)]))] 1 ?_
  refine Ops.put (t := 33) (b := b1) (off := 0) (v := (agg [(i64 0), (i64 0), (i64 0), (i64 0), (Value.string ByteArray.empty), (Value.string ByteArray.empty), (i64 0), (Value.string ByteArray.empty), (i64 0), (i64 0), (i64 0), (i64 0), (Value.slice none 0 0), (Value.slice none 0 0)])) (ys := [(i64 0), (i64 0), (i64 0), (i64 0), (Value.string ByteArray.empty), (Value.string ByteArray.empty), (i64 0), (Value.string ByteArray.empty), (i64 0), (i64 0), (i64 0), (i64 0), (Value.slice none 0 0), (Value.slice none 0 0)]) (by kernel_rfl) (by kernel_rfl) H4 (by kernel_rfl) (d := none) (by kernel_rfl) rfl (fun w9 H10 K11 => ?_)
  clear H4
  replace K0 := K0.trans K11 (U := none_) (fun i h1 h2 => h2) (fun i h1 h2 => by have h2 : i = b1 := h2; exfalso; omega)
  clear K11
  refine og 1 [(0, (Value.slice A bs.length c)), (2, (ptr b1)), (3, (i64 3))] 3 ?_
  refine od ?_
  refine q_ret (by kernel_rfl) ?_
  refine ⟨(Value.tuple #[(agg [(i64 0), (i64 0), (i64 0), (i64 0), (Value.string ByteArray.empty), (Value.string ByteArray.empty), (i64 0), (Value.string ByteArray.empty), (i64 0), (i64 0), (i64 0), (i64 0), (Value.slice none 0 0), (Value.slice none 0 0)]), (i64 3)]), retv_cell_tmp rfl rfl (H10.loads (by kernel_rfl)) rfl, ?_⟩
  have e : unpackB bs = (LetP.zero, 3) := by unfold unpackB; rw [if_pos (by omega)]
  exact ⟨none, 0, none, 0, by rw [e]; rfl, K0, by rw [e]; exact (OwnT.nil _ _ _ _ _), by rw [e]; exact (World.ownsRow_nil _ _ _ _)⟩
 ·rw [h7]
  have p12 : ¬ (((bs.length : Nat) : Int) > 1048576) := of_decide_eq_false h7
  have hs1 := (int_start bs).1
  have hs2 := (int_start bs).2
  have he0 := end_or (⟨bs, 0, 0⟩ : Rdr).int.2
  refine q_skip (by kernel_rfl) ?_
  refine qs ?_
  refine qg ?_
  refine og 1 [(2, (ptr b1)), (3, (i64 0)), (12, (Value.slice A bs.length c))] 1 ?_
  refine Ops.call (by kernel_rfl) (d := (some 13)) (by kernel_rfl) (NewReader_calls _ (Value.slice A bs.length c) bs (hv.keep0 (by omega) K0) (by first | omega | decide)) ?_
  rintro _ w17 ⟨b13, A14, c15, rfl, q16, K18, H19, hr20, hne21, hge22⟩
  have nb13 : w.heap.size ≤ b13 := by have := K0.size; omega
  have lb13b1 : b1 < b13 := by have := H4.lt; omega
  have ob24 : ∀ i o s, A14 = some ⟨i, o, s⟩ → i ≠ b1 := fun i o s hi => by have := hge22 i o s hi; have := H4.lt; omega
  have hok23 : Rdr.Ok (⟨bs, 0, 0⟩ : Rdr) := ⟨Nat.zero_le _, by show bs.length ≤ _; first | omega | decide⟩
  clear q16 hge22
  refine ⟨_, _, rfl, rfl, ?_⟩
  replace K0 := K0.t0 K18
  replace H4 := H4.keep K18 (fun h => h)
  clear K18
  refine og 1 [(2, (ptr b1)), (3, (i64 0)), (4, (ptr b13))] 3 ?_
  refine od ?_
  refine qs ?_
  refine qg ?_
  refine og 1 [(2, (ptr b1)), (3, (i64 0)), (4, (ptr b13)), (14, (ptr b13))] 1 ?_
  refine Ops.call (by kernel_rfl) (d := (some 15)) (by kernel_rfl) (RdInt_calls _ b13 A14 c15 (⟨bs, 0, 0⟩ : Rdr) hok23 H19 hr20 hne21 ) ?_
  rintro _ w25 ⟨rfl, K26, H27⟩
  have hok28 : ((⟨bs, 0, 0⟩ : Rdr).int).2.Ok := Rdr.Ok.int hok23
  have hu29 := Rdr.int_range (⟨bs, 0, 0⟩ : Rdr)
  refine ⟨_, _, rfl, rfl, ?_⟩
  replace K0 := K0.trans K26 (U := none_) (fun i h1 h2 => h2) (fun i h1 h2 => by have h2 : i = b13 := h2; exfalso; omega)
  replace H4 := H4.keep K26 (by intro h; change b1 = b13 at h; omega)
  replace hr20 := RdO.keep hr20 K26 (fun i _ _ hi hs => by have hs : i = b13 := hs; have := hne21 i _ _ hi; omega)
  clear K26
  have F30 : RdO w25 A14 c15 ((⟨bs, 0, 0⟩ : Rdr).int).2.bs := by rw [Rdr.int_bs]; exact hr20
  clear hr20
  refine og 1 [(2, (ptr b1)), (3, (i64 0)), (4, (ptr b13)), (16, (agg [(i64 (((⟨bs, 0, 0⟩ : Rdr).int).1)), (i64 0), (i64 0), (i64 0), (Value.string ByteArray.empty), (Value.string ByteArray.empty), (i64 0), (Value.string ByteArray.empty), (i64 0), (i64 0), (i64 0), (i64 0), (Value.slice none 0 0), (Value.slice none 0 0)]))] 3 ?_
  refine Ops.new (o := rowL [(i64 0), (i64 0), (i64 0), (i64 0), (Value.string ByteArray.empty), (Value.string ByteArray.empty), (i64 0), (Value.string ByteArray.empty), (i64 0), (i64 0), (i64 0), (i64 0), (Value.slice none 0 0), (Value.slice none 0 0)] 33) (V := fun b => (ptr b)) (by kernel_rfl) (d := (some 5)) (by kernel_rfl) (fun b => rfl) (fun b31 w32 hb33 H34 K35 hs36 => ?_)
  have lb31b1 : b1 < b31 := by have := H4.lt; omega
  have lb31b13 : b13 < b31 := by have := H27.lt; omega
  have nb31 : w.heap.size ≤ b31 := by have := K0.size; omega
  have ob37 : ∀ i o s, A14 = some ⟨i, o, s⟩ → i ≠ b31 := fun i o s hi => by have := F30.2 i o s hi; omega
  replace K0 := K0.t0 K35
  replace H4 := H4.keep K35 (fun h => h)
  replace H27 := H27.keep K35 (fun h => h)
  replace F30 := RdO.keep0 F30 K35
  clear K35 hs36
  refine Ops.put (t := 33) (b := b31) (off := 0) (v := (agg [(i64 (((⟨bs, 0, 0⟩ : Rdr).int).1)), (i64 0), (i64 0), (i64 0), (Value.string ByteArray.empty), (Value.string ByteArray.empty), (i64 0), (Value.string ByteArray.empty), (i64 0), (i64 0), (i64 0), (i64 0), (Value.slice none 0 0), (Value.slice none 0 0)])) (ys := [(i64 (((⟨bs, 0, 0⟩ : Rdr).int).1)), (i64 0), (i64 0), (i64 0), (Value.string ByteArray.empty), (Value.string ByteArray.empty), (i64 0), (Value.string ByteArray.empty), (i64 0), (i64 0), (i64 0), (i64 0), (Value.slice none 0 0), (Value.slice none 0 0)]) (by kernel_rfl) (by kernel_rfl) H34 (by kernel_rfl) (d := none) (by kernel_rfl) rfl (fun w38 H39 K40 => ?_)
  clear H34
  replace K0 := K0.trans K40 (U := none_) (fun i h1 h2 => h2) (fun i h1 h2 => by have h2 : i = b31 := h2; exfalso; omega)
  replace H4 := H4.keep K40 (by intro h; change b1 = b31 at h; omega)
  replace H27 := H27.keep K40 (by intro h; change b13 = b31 at h; omega)
  replace F30 := RdO.keep F30 K40 (fun i _ _ hi hs => by have hs : i = b31 := hs; have := ob37 i _ _ hi; omega)
  clear K40
  refine od ?_
  refine qs ?_
  refine qs ?_
  refine qg ?_
  refine og 1 [(2, (ptr b1)), (3, (i64 0)), (4, (ptr b13)), (5, (ptr b31)), (17, (ptr b13))] 1 ?_
  refine Ops.call (by kernel_rfl) (d := (some 18)) (by kernel_rfl) (RdEnd_calls _ b13 A14 c15 (((⟨bs, 0, 0⟩ : Rdr).int).2) hok28 H27 F30 hne21) ?_
  rintro _ w41 ⟨rfl, K42⟩
  refine ⟨_, _, rfl, rfl, ?_⟩
  replace K0 := K0.t0 K42
  replace H4 := H4.keep K42 (fun h => h)
  replace H27 := H27.keep K42 (fun h => h)
  replace H39 := H39.keep K42 (fun h => h)
  replace F30 := RdO.keep0 F30 K42
  clear K42
  refine og 1 [(2, (ptr b1)), (3, (i64 0)), (4, (ptr b13)), (5, (ptr b31)), (6, (i64 ((((⟨bs, 0, 0⟩ : Rdr).int).2).end_)))] 3 ?_
  refine od ?_
  refine qs ?_
  refine qg ?_
  refine og 3 [(2, (ptr b1)), (3, (i64 0)), (4, (ptr b13)), (5, (ptr b31)), (6, (i64 ((((⟨bs, 0, 0⟩ : Rdr).int).2).end_))), (21, (Value.bool (((((⟨bs, 0, 0⟩ : Rdr).int).2).end_) != 0)))] 3 ?_
  refine Ops.split (((((⟨bs, 0, 0⟩ : Rdr).int).2).end_) != 0) (fun h43 => ?_) (fun h43 => ?_)
  ·rw [h43]
   have p44 : ¬ ((((⟨bs, 0, 0⟩ : Rdr).int).2).end_ = 0) := of_bne_t h43
   have hecq45 := end_or (((⟨bs, 0, 0⟩ : Rdr).int).2)
   refine og 4 [(2, (ptr b1)), (3, (i64 0)), (4, (ptr b13)), (5, (ptr b31)), (6, (i64 ((((⟨bs, 0, 0⟩ : Rdr).int).2).end_))), (25, (Value.bool (((((⟨bs, 0, 0⟩ : Rdr).int).2).end_) != 11)))] 7 ?_
   refine Ops.split (((((⟨bs, 0, 0⟩ : Rdr).int).2).end_) != 11) (fun h46 => ?_) (fun h46 => ?_)
   ·rw [h46]
    have p47 : ¬ ((((⟨bs, 0, 0⟩ : Rdr).int).2).end_ = 11) := of_bne_t h46
    have hecq48 := end_or (((⟨bs, 0, 0⟩ : Rdr).int).2)
    refine og 4 [(2, (ptr b1)), (3, (i64 0)), (4, (ptr b13)), (5, (ptr b31)), (6, (i64 ((((⟨bs, 0, 0⟩ : Rdr).int).2).end_))), (29, (Value.bool true))] 11 ?_
    refine od ?_
    refine q_then (o := .tmp 29) (by kernel_rfl) rfl ?_
    refine qs ?_
    refine qg ?_
    refine og 2 [(2, (ptr b1)), (3, (i64 0)), (4, (ptr b13)), (5, (ptr b31)), (30, (agg [(i64 0), (i64 0), (i64 0), (i64 0), (Value.string ByteArray.empty), (Value.string ByteArray.empty), (i64 0), (Value.string ByteArray.empty), (i64 0), (i64 0), (i64 0), (i64 0), (Value.slice none 0 0), (Value.slice none 0 0)])), (31, (i64 ((((⟨bs, 0, 0⟩ : Rdr).int).2).end_)))] 2 ?_
    refine Ops.put (t := 33) (b := b1) (off := 0) (v := (agg [(i64 0), (i64 0), (i64 0), (i64 0), (Value.string ByteArray.empty), (Value.string ByteArray.empty), (i64 0), (Value.string ByteArray.empty), (i64 0), (i64 0), (i64 0), (i64 0), (Value.slice none 0 0), (Value.slice none 0 0)])) (ys := [(i64 0), (i64 0), (i64 0), (i64 0), (Value.string ByteArray.empty), (Value.string ByteArray.empty), (i64 0), (Value.string ByteArray.empty), (i64 0), (i64 0), (i64 0), (i64 0), (Value.slice none 0 0), (Value.slice none 0 0)]) (by kernel_rfl) (by kernel_rfl) H4 (by kernel_rfl) (d := none) (by kernel_rfl) rfl (fun w49 H50 K51 => ?_)
    clear H4
    replace K0 := K0.trans K51 (U := none_) (fun i h1 h2 => h2) (fun i h1 h2 => by have h2 : i = b1 := h2; exfalso; omega)
    replace H27 := H27.keep K51 (by intro h; change b13 = b1 at h; omega)
    replace H39 := H39.keep K51 (by intro h; change b31 = b1 at h; omega)
    replace F30 := RdO.keep F30 K51 (fun i _ _ hi hs => by have hs : i = b1 := hs; have := ob24 i _ _ hi; omega)
    clear K51
    refine og 1 [(2, (ptr b1)), (3, (i64 ((((⟨bs, 0, 0⟩ : Rdr).int).2).end_))), (4, (ptr b13)), (5, (ptr b31))] 4 ?_
    refine od ?_
    refine q_ret (by kernel_rfl) ?_
    refine ⟨(Value.tuple #[(agg [(i64 0), (i64 0), (i64 0), (i64 0), (Value.string ByteArray.empty), (Value.string ByteArray.empty), (i64 0), (Value.string ByteArray.empty), (i64 0), (i64 0), (i64 0), (i64 0), (Value.slice none 0 0), (Value.slice none 0 0)]), (i64 ((((⟨bs, 0, 0⟩ : Rdr).int).2).end_))]), retv_cell_tmp rfl rfl (H50.loads (by kernel_rfl)) rfl, ?_⟩
    have e : unpackB bs = (LetP.zero, (((⟨bs, 0, 0⟩ : Rdr).int).2).end_) := by unfold unpackB; rw [if_neg (by omega), if_pos (by omega), show (⟨bs, 0, 0⟩ : Rdr).int.2.why = (((⟨bs, 0, 0⟩ : Rdr).int).2).end_ from by omega]
    exact ⟨none, 0, none, 0, by rw [e]; rfl, K0, by rw [e]; exact (OwnT.nil _ _ _ _ _), by rw [e]; exact (World.ownsRow_nil _ _ _ _)⟩
   ·rw [h46]
    have p52 : (((⟨bs, 0, 0⟩ : Rdr).int).2).end_ = 11 := of_bne_f h46
    have hecq53 := end_or (((⟨bs, 0, 0⟩ : Rdr).int).2)
    refine og 1 [(2, (ptr b1)), (3, (i64 0)), (4, (ptr b13)), (5, (ptr b31)), (6, (i64 ((((⟨bs, 0, 0⟩ : Rdr).int).2).end_))), (25, (Value.bool false)), (26, (ptr b13))] 8 ?_
    refine Ops.call (by kernel_rfl) (d := (some 27)) (by kernel_rfl) (At_calls _ b13 A14 c15 (((⟨bs, 0, 0⟩ : Rdr).int).2) hok28 H27 F30 hne21) ?_
    rintro _ w54 ⟨rfl, K55⟩
    refine ⟨_, _, rfl, rfl, ?_⟩
    replace K0 := K0.t0 K55
    replace H4 := H4.keep K55 (fun h => h)
    replace H27 := H27.keep K55 (fun h => h)
    replace H39 := H39.keep K55 (fun h => h)
    replace F30 := RdO.keep0 F30 K55
    clear K55
    refine og 2 [(2, (ptr b1)), (3, (i64 0)), (4, (ptr b13)), (5, (ptr b31)), (6, (i64 ((((⟨bs, 0, 0⟩ : Rdr).int).2).end_))), (29, (Value.bool ((((((⟨bs, 0, 0⟩ : Rdr).int).2).pos : Nat) : Int) == 0)))] 11 ?_
    refine od ?_
    refine q_cond (o := .tmp 29) (b := ((((((⟨bs, 0, 0⟩ : Rdr).int).2).pos : Nat) : Int) == 0)) (by kernel_rfl) rfl (fun h56 => ?_) (fun h56 => ?_)
    ·rw [h56]
     have p57 : (((((⟨bs, 0, 0⟩ : Rdr).int).2).pos : Nat) : Int) = 0 := of_beq_t h56
     refine qs ?_
     refine qg ?_
     refine og 2 [(2, (ptr b1)), (3, (i64 0)), (4, (ptr b13)), (5, (ptr b31)), (30, (agg [(i64 0), (i64 0), (i64 0), (i64 0), (Value.string ByteArray.empty), (Value.string ByteArray.empty), (i64 0), (Value.string ByteArray.empty), (i64 0), (i64 0), (i64 0), (i64 0), (Value.slice none 0 0), (Value.slice none 0 0)])), (31, (i64 ((((⟨bs, 0, 0⟩ : Rdr).int).2).end_)))] 2 ?_
     refine Ops.put (t := 33) (b := b1) (off := 0) (v := (agg [(i64 0), (i64 0), (i64 0), (i64 0), (Value.string ByteArray.empty), (Value.string ByteArray.empty), (i64 0), (Value.string ByteArray.empty), (i64 0), (i64 0), (i64 0), (i64 0), (Value.slice none 0 0), (Value.slice none 0 0)])) (ys := [(i64 0), (i64 0), (i64 0), (i64 0), (Value.string ByteArray.empty), (Value.string ByteArray.empty), (i64 0), (Value.string ByteArray.empty), (i64 0), (i64 0), (i64 0), (i64 0), (Value.slice none 0 0), (Value.slice none 0 0)]) (by kernel_rfl) (by kernel_rfl) H4 (by kernel_rfl) (d := none) (by kernel_rfl) rfl (fun w58 H59 K60 => ?_)
     clear H4
     replace K0 := K0.trans K60 (U := none_) (fun i h1 h2 => h2) (fun i h1 h2 => by have h2 : i = b1 := h2; exfalso; omega)
     replace H27 := H27.keep K60 (by intro h; change b13 = b1 at h; omega)
     replace H39 := H39.keep K60 (by intro h; change b31 = b1 at h; omega)
     replace F30 := RdO.keep F30 K60 (fun i _ _ hi hs => by have hs : i = b1 := hs; have := ob24 i _ _ hi; omega)
     clear K60
     refine og 1 [(2, (ptr b1)), (3, (i64 ((((⟨bs, 0, 0⟩ : Rdr).int).2).end_))), (4, (ptr b13)), (5, (ptr b31))] 4 ?_
     refine od ?_
     refine q_ret (by kernel_rfl) ?_
     refine ⟨(Value.tuple #[(agg [(i64 0), (i64 0), (i64 0), (i64 0), (Value.string ByteArray.empty), (Value.string ByteArray.empty), (i64 0), (Value.string ByteArray.empty), (i64 0), (i64 0), (i64 0), (i64 0), (Value.slice none 0 0), (Value.slice none 0 0)]), (i64 ((((⟨bs, 0, 0⟩ : Rdr).int).2).end_))]), retv_cell_tmp rfl rfl (H59.loads (by kernel_rfl)) rfl, ?_⟩
     have e : unpackB bs = (LetP.zero, (((⟨bs, 0, 0⟩ : Rdr).int).2).end_) := by unfold unpackB; rw [if_neg (by omega), if_pos (by omega), show (⟨bs, 0, 0⟩ : Rdr).int.2.why = (((⟨bs, 0, 0⟩ : Rdr).int).2).end_ from by omega]
     exact ⟨none, 0, none, 0, by rw [e]; rfl, K0, by rw [e]; exact (OwnT.nil _ _ _ _ _), by rw [e]; exact (World.ownsRow_nil _ _ _ _)⟩
    ·rw [h56]
     have p61 : ¬ ((((((⟨bs, 0, 0⟩ : Rdr).int).2).pos : Nat) : Int) = 0) := of_beq_f h56
     refine q_skip (by kernel_rfl) ?_
     refine qs ?_
     refine qs ?_
     refine qg ?_
     refine og 1 [(2, (ptr b1)), (3, (i64 0)), (4, (ptr b13)), (5, (ptr b31)), (32, (ptr b31))] 1 ?_
     refine Ops.go (v := (i64 (((⟨bs, 0, 0⟩ : Rdr).int).1))) (by kernel_rfl) (Runs.load (t := 3) (a := ⟨b31, 0, none⟩) (by kernel_rfl) (H39.loads (by kernel_rfl))) (d := (some 33)) (by kernel_rfl) rfl ?_
     refine og 1 [(2, (ptr b1)), (3, (i64 0)), (4, (ptr b13)), (5, (ptr b31)), (34, (Value.bool ((((⟨bs, 0, 0⟩ : Rdr).int).1) != 1)))] 3 ?_
     refine od ?_
     refine q_cond (o := .tmp 34) (b := ((((⟨bs, 0, 0⟩ : Rdr).int).1) != 1)) (by kernel_rfl) rfl (fun h62 => ?_) (fun h62 => ?_)
     ·rw [h62]
      have p63 : ¬ (((⟨bs, 0, 0⟩ : Rdr).int).1 = 1) := of_bne_t h62
      refine qg ?_
      refine og 1 [(2, (ptr b1)), (3, (i64 0)), (4, (ptr b13)), (5, (ptr b31)), (35, (ptr b13))] 1 ?_
      refine Ops.call (by kernel_rfl) (d := (some 36)) (by kernel_rfl) (RdInt_calls _ b13 A14 c15 (((⟨bs, 0, 0⟩ : Rdr).int).2) hok28 H27 F30 hne21 ) ?_
      rintro _ w64 ⟨rfl, K65, H66⟩
      have hok67 : ((((⟨bs, 0, 0⟩ : Rdr).int).2).int).2.Ok := Rdr.Ok.int hok28
      have hu68 := Rdr.int_range (((⟨bs, 0, 0⟩ : Rdr).int).2)
      refine ⟨_, _, rfl, rfl, ?_⟩
      replace K0 := K0.trans K65 (U := none_) (fun i h1 h2 => h2) (fun i h1 h2 => by have h2 : i = b13 := h2; exfalso; omega)
      replace H4 := H4.keep K65 (by intro h; change b1 = b13 at h; omega)
      replace H39 := H39.keep K65 (by intro h; change b31 = b13 at h; omega)
      replace F30 := RdO.keep F30 K65 (fun i _ _ hi hs => by have hs : i = b13 := hs; have := hne21 i _ _ hi; omega)
      clear K65
      have F69 : RdO w64 A14 c15 ((((⟨bs, 0, 0⟩ : Rdr).int).2).int).2.bs := by rw [Rdr.int_bs]; exact F30
      clear F30
      refine og 1 [(2, (ptr b1)), (3, (i64 0)), (4, (ptr b13)), (5, (ptr b31)), (36, (i64 (((((⟨bs, 0, 0⟩ : Rdr).int).2).int).1))), (37, (Value.pointer (some ⟨b31, 1, none⟩)))] 3 ?_
      refine Ops.put (t := 2) (b := b31) (off := 1) (v := (i64 (((((⟨bs, 0, 0⟩ : Rdr).int).2).int).1))) (ys := [(i64 (((⟨bs, 0, 0⟩ : Rdr).int).1)), (i64 (((((⟨bs, 0, 0⟩ : Rdr).int).2).int).1)), (i64 0), (i64 0), (Value.string ByteArray.empty), (Value.string ByteArray.empty), (i64 0), (Value.string ByteArray.empty), (i64 0), (i64 0), (i64 0), (i64 0), (Value.slice none 0 0), (Value.slice none 0 0)]) (by kernel_rfl) (by kernel_rfl) H39 (by kernel_rfl) (d := none) (by kernel_rfl) rfl (fun w70 H71 K72 => ?_)
      clear H39
      replace K0 := K0.trans K72 (U := none_) (fun i h1 h2 => h2) (fun i h1 h2 => by have h2 : i = b31 := h2; exfalso; omega)
      replace H4 := H4.keep K72 (by intro h; change b1 = b31 at h; omega)
      replace H66 := H66.keep K72 (by intro h; change b13 = b31 at h; omega)
      replace F69 := RdO.keep F69 K72 (fun i _ _ hi hs => by have hs : i = b31 := hs; have := ob37 i _ _ hi; omega)
      clear K72
      refine od ?_
      refine qs ?_
      refine qs ?_
      refine qg ?_
      refine og 1 [(2, (ptr b1)), (3, (i64 0)), (4, (ptr b13)), (5, (ptr b31)), (38, (ptr b31))] 1 ?_
      refine Ops.go (v := (i64 (((⟨bs, 0, 0⟩ : Rdr).int).1))) (by kernel_rfl) (Runs.load (t := 3) (a := ⟨b31, 0, none⟩) (by kernel_rfl) (H71.loads (by kernel_rfl))) (d := (some 39)) (by kernel_rfl) rfl ?_
      refine od ?_
      refine q_block (id := 0) (by kernel_rfl) ?_
      refine qs ?_
      refine q_block (id := 5) (by kernel_rfl) ?_
      refine qs ?_
      refine q_block (id := 4) (by kernel_rfl) ?_
      refine qs ?_
      refine q_block (id := 3) (by kernel_rfl) ?_
      refine qs ?_
      refine q_block (id := 2) (by kernel_rfl) ?_
      refine qs ?_
      refine q_block (id := 1) (by kernel_rfl) ?_
      refine qs ?_
      refine qs ?_
      refine qs ?_
      refine qg ?_
      refine og 2 [(2, (ptr b1)), (3, (i64 0)), (4, (ptr b13)), (5, (ptr b31)), (39, (i64 (((⟨bs, 0, 0⟩ : Rdr).int).1))), (40, (Value.bool ((((⟨bs, 0, 0⟩ : Rdr).int).1) == 2)))] 2 ?_
      refine od ?_
      refine q_cond (o := .tmp 40) (b := ((((⟨bs, 0, 0⟩ : Rdr).int).1) == 2)) (by kernel_rfl) rfl (fun h73 => ?_) (fun h73 => ?_)
      ·rw [h73]
       have p74 : ((⟨bs, 0, 0⟩ : Rdr).int).1 = 2 := of_beq_t h73
       refine q_exit (id := 1) (by kernel_rfl) ?_
       refine qs ?_
       refine qg ?_
       refine og 1 [(2, (ptr b1)), (3, (i64 0)), (4, (ptr b13)), (5, (ptr b31)), (49, (ptr b13))] 1 ?_
       refine Ops.call (by kernel_rfl) (d := (some 50)) (by kernel_rfl) (GetOp_calls _ b13 A14 c15 (((((⟨bs, 0, 0⟩ : Rdr).int).2).int).2) hok67 H66 F69 hne21 ) ?_
       rintro _ w75 ⟨rfl, K76, H77⟩
       have hok78 : ((((((⟨bs, 0, 0⟩ : Rdr).int).2).int).2).op).2.Ok := Rdr.Ok.op hok67
       refine ⟨_, _, rfl, rfl, ?_⟩
       replace K0 := K0.trans K76 (U := none_) (fun i h1 h2 => h2) (fun i h1 h2 => by have h2 : i = b13 := h2; exfalso; omega)
       replace H4 := H4.keep K76 (by intro h; change b1 = b13 at h; omega)
       replace H71 := H71.keep K76 (by intro h; change b31 = b13 at h; omega)
       replace F69 := RdO.keep F69 K76 (fun i _ _ hi hs => by have hs : i = b13 := hs; have := hne21 i _ _ hi; omega)
       clear K76
       have F79 : RdO w75 A14 c15 ((((((⟨bs, 0, 0⟩ : Rdr).int).2).int).2).op).2.bs := by rw [Rdr.op_bs]; exact F69
       clear F69
       refine og 1 [(2, (ptr b1)), (3, (i64 0)), (4, (ptr b13)), (5, (ptr b31)), (50, (agg [(i64 (((((((⟨bs, 0, 0⟩ : Rdr).int).2).int).2).op).1.kind)), (Value.string (str ((((((⟨bs, 0, 0⟩ : Rdr).int).2).int).2).op).1.frm)), (Value.string (str ((((((⟨bs, 0, 0⟩ : Rdr).int).2).int).2).op).1.to)), (i64 (((((((⟨bs, 0, 0⟩ : Rdr).int).2).int).2).op).1.amount)), (Value.string (str ((((((⟨bs, 0, 0⟩ : Rdr).int).2).int).2).op).1.key)), (i64 (((((((⟨bs, 0, 0⟩ : Rdr).int).2).int).2).op).1.slot)), (i64 (((((((⟨bs, 0, 0⟩ : Rdr).int).2).int).2).op).1.shard))])), (51, (Value.pointer (some ⟨b31, 3, none⟩)))] 3 ?_
       refine Ops.put (t := 23) (b := b31) (off := 3) (v := (agg [(i64 (((((((⟨bs, 0, 0⟩ : Rdr).int).2).int).2).op).1.kind)), (Value.string (str ((((((⟨bs, 0, 0⟩ : Rdr).int).2).int).2).op).1.frm)), (Value.string (str ((((((⟨bs, 0, 0⟩ : Rdr).int).2).int).2).op).1.to)), (i64 (((((((⟨bs, 0, 0⟩ : Rdr).int).2).int).2).op).1.amount)), (Value.string (str ((((((⟨bs, 0, 0⟩ : Rdr).int).2).int).2).op).1.key)), (i64 (((((((⟨bs, 0, 0⟩ : Rdr).int).2).int).2).op).1.slot)), (i64 (((((((⟨bs, 0, 0⟩ : Rdr).int).2).int).2).op).1.shard))])) (ys := [(i64 (((⟨bs, 0, 0⟩ : Rdr).int).1)), (i64 (((((⟨bs, 0, 0⟩ : Rdr).int).2).int).1)), (i64 0), (i64 (((((((⟨bs, 0, 0⟩ : Rdr).int).2).int).2).op).1.kind)), (Value.string (str ((((((⟨bs, 0, 0⟩ : Rdr).int).2).int).2).op).1.frm)), (Value.string (str ((((((⟨bs, 0, 0⟩ : Rdr).int).2).int).2).op).1.to)), (i64 (((((((⟨bs, 0, 0⟩ : Rdr).int).2).int).2).op).1.amount)), (Value.string (str ((((((⟨bs, 0, 0⟩ : Rdr).int).2).int).2).op).1.key)), (i64 (((((((⟨bs, 0, 0⟩ : Rdr).int).2).int).2).op).1.slot)), (i64 (((((((⟨bs, 0, 0⟩ : Rdr).int).2).int).2).op).1.shard)), (i64 0), (i64 0), (Value.slice none 0 0), (Value.slice none 0 0)]) (by kernel_rfl) (by kernel_rfl) H71 (by kernel_rfl) (d := none) (by kernel_rfl) rfl (fun w80 H81 K82 => ?_)
       clear H71
       replace K0 := K0.trans K82 (U := none_) (fun i h1 h2 => h2) (fun i h1 h2 => by have h2 : i = b31 := h2; exfalso; omega)
       replace H4 := H4.keep K82 (by intro h; change b1 = b31 at h; omega)
       replace H77 := H77.keep K82 (by intro h; change b13 = b31 at h; omega)
       replace F79 := RdO.keep F79 K82 (fun i _ _ hi hs => by have hs : i = b31 := hs; have := ob37 i _ _ hi; omega)
       clear K82
       refine od ?_
       refine q_exit (id := 0) (by kernel_rfl) ?_
       refine qs ?_
       refine qs ?_
       refine qg ?_
       refine og 1 [(2, (ptr b1)), (3, (i64 0)), (5, (ptr b31)), (62, (ptr b13))] 1 ?_
       refine Ops.call (by kernel_rfl) (d := (some 63)) (by kernel_rfl) (RdEnd_calls _ b13 A14 c15 (((((((⟨bs, 0, 0⟩ : Rdr).int).2).int).2).op).2) hok78 H77 F79 hne21) ?_
       rintro _ w83 ⟨rfl, K84⟩
       refine ⟨_, _, rfl, rfl, ?_⟩
       replace K0 := K0.t0 K84
       replace H4 := H4.keep K84 (fun h => h)
       replace H77 := H77.keep K84 (fun h => h)
       replace H81 := H81.keep K84 (fun h => h)
       replace F79 := RdO.keep0 F79 K84
       clear K84
       refine og 1 [(2, (ptr b1)), (3, (i64 0)), (5, (ptr b31)), (7, (i64 ((((((((⟨bs, 0, 0⟩ : Rdr).int).2).int).2).op).2).end_)))] 3 ?_
       refine od ?_
       refine qs ?_
       refine qg ?_
       refine og 2 [(2, (ptr b1)), (3, (i64 0)), (5, (ptr b31)), (7, (i64 ((((((((⟨bs, 0, 0⟩ : Rdr).int).2).int).2).op).2).end_))), (65, (Value.bool (((((((((⟨bs, 0, 0⟩ : Rdr).int).2).int).2).op).2).end_) != 0)))] 2 ?_
       refine od ?_
       refine q_cond (o := .tmp 65) (b := (((((((((⟨bs, 0, 0⟩ : Rdr).int).2).int).2).op).2).end_) != 0)) (by kernel_rfl) rfl (fun h85 => ?_) (fun h85 => ?_)
       ·rw [h85]
        have p86 : ¬ ((((((((⟨bs, 0, 0⟩ : Rdr).int).2).int).2).op).2).end_ = 0) := of_bne_t h85
        have hecq87 := end_or (((((((⟨bs, 0, 0⟩ : Rdr).int).2).int).2).op).2)
        refine qs ?_
        refine qg ?_
        refine og 2 [(2, (ptr b1)), (3, (i64 0)), (5, (ptr b31)), (66, (agg [(i64 0), (i64 0), (i64 0), (i64 0), (Value.string ByteArray.empty), (Value.string ByteArray.empty), (i64 0), (Value.string ByteArray.empty), (i64 0), (i64 0), (i64 0), (i64 0), (Value.slice none 0 0), (Value.slice none 0 0)])), (67, (i64 ((((((((⟨bs, 0, 0⟩ : Rdr).int).2).int).2).op).2).end_)))] 2 ?_
        refine Ops.put (t := 33) (b := b1) (off := 0) (v := (agg [(i64 0), (i64 0), (i64 0), (i64 0), (Value.string ByteArray.empty), (Value.string ByteArray.empty), (i64 0), (Value.string ByteArray.empty), (i64 0), (i64 0), (i64 0), (i64 0), (Value.slice none 0 0), (Value.slice none 0 0)])) (ys := [(i64 0), (i64 0), (i64 0), (i64 0), (Value.string ByteArray.empty), (Value.string ByteArray.empty), (i64 0), (Value.string ByteArray.empty), (i64 0), (i64 0), (i64 0), (i64 0), (Value.slice none 0 0), (Value.slice none 0 0)]) (by kernel_rfl) (by kernel_rfl) H4 (by kernel_rfl) (d := none) (by kernel_rfl) rfl (fun w88 H89 K90 => ?_)
        clear H4
        replace K0 := K0.trans K90 (U := none_) (fun i h1 h2 => h2) (fun i h1 h2 => by have h2 : i = b1 := h2; exfalso; omega)
        replace H77 := H77.keep K90 (by intro h; change b13 = b1 at h; omega)
        replace H81 := H81.keep K90 (by intro h; change b31 = b1 at h; omega)
        replace F79 := RdO.keep F79 K90 (fun i _ _ hi hs => by have hs : i = b1 := hs; have := ob24 i _ _ hi; omega)
        clear K90
        refine og 1 [(2, (ptr b1)), (3, (i64 ((((((((⟨bs, 0, 0⟩ : Rdr).int).2).int).2).op).2).end_))), (5, (ptr b31))] 4 ?_
        refine od ?_
        refine q_ret (by kernel_rfl) ?_
        refine ⟨(Value.tuple #[(agg [(i64 0), (i64 0), (i64 0), (i64 0), (Value.string ByteArray.empty), (Value.string ByteArray.empty), (i64 0), (Value.string ByteArray.empty), (i64 0), (i64 0), (i64 0), (i64 0), (Value.slice none 0 0), (Value.slice none 0 0)]), (i64 ((((((((⟨bs, 0, 0⟩ : Rdr).int).2).int).2).op).2).end_))]), retv_cell_tmp rfl rfl (H89.loads (by kernel_rfl)) rfl, ?_⟩
        have hl2 : (letR (⟨bs, 0, 0⟩ : Rdr).int.1 (⟨bs, 0, 0⟩ : Rdr).int.2).2 = ((((((⟨bs, 0, 0⟩ : Rdr).int).2).int).2).op).2 := by unfold letR; first | (rw [if_pos (by omega)] <;> rfl) | (rw [if_neg (by omega), if_pos (by omega)] <;> rfl) | (rw [if_neg (by omega), if_neg (by omega), if_pos (by omega)] <;> rfl) | (rw [if_neg (by omega), if_neg (by omega), if_neg (by omega), if_pos (by omega)] <;> rfl) | (rw [if_neg (by omega), if_neg (by omega), if_neg (by omega), if_neg (by omega)] <;> rfl)
        have e : unpackB bs = (LetP.zero, (((((((⟨bs, 0, 0⟩ : Rdr).int).2).int).2).op).2).end_) := by unfold unpackB; rw [if_neg (by omega), if_neg (by omega), if_neg (by omega), if_pos (by rw [hl2]; omega), hl2]
        exact ⟨none, 0, none, 0, by rw [e]; rfl, K0, by rw [e]; exact (OwnT.nil _ _ _ _ _), by rw [e]; exact (World.ownsRow_nil _ _ _ _)⟩
       ·rw [h85]
        have p91 : (((((((⟨bs, 0, 0⟩ : Rdr).int).2).int).2).op).2).end_ = 0 := of_bne_f h85
        have hecq92 := end_or (((((((⟨bs, 0, 0⟩ : Rdr).int).2).int).2).op).2)
        refine q_skip (by kernel_rfl) ?_
        refine qs ?_
        refine qg ?_
        refine Ops.go (v := (agg [(i64 (((⟨bs, 0, 0⟩ : Rdr).int).1)), (i64 (((((⟨bs, 0, 0⟩ : Rdr).int).2).int).1)), (i64 0), (i64 (((((((⟨bs, 0, 0⟩ : Rdr).int).2).int).2).op).1.kind)), (Value.string (str ((((((⟨bs, 0, 0⟩ : Rdr).int).2).int).2).op).1.frm)), (Value.string (str ((((((⟨bs, 0, 0⟩ : Rdr).int).2).int).2).op).1.to)), (i64 (((((((⟨bs, 0, 0⟩ : Rdr).int).2).int).2).op).1.amount)), (Value.string (str ((((((⟨bs, 0, 0⟩ : Rdr).int).2).int).2).op).1.key)), (i64 (((((((⟨bs, 0, 0⟩ : Rdr).int).2).int).2).op).1.slot)), (i64 (((((((⟨bs, 0, 0⟩ : Rdr).int).2).int).2).op).1.shard)), (i64 0), (i64 0), (Value.slice none 0 0), (Value.slice none 0 0)])) (by kernel_rfl) (Runs.load (t := 33) (a := ⟨b31, 0, none⟩) (by kernel_rfl) (H81.loads (by kernel_rfl))) (d := (some 68)) (by kernel_rfl) rfl ?_
        refine Ops.put (t := 33) (b := b1) (off := 0) (v := (agg [(i64 (((⟨bs, 0, 0⟩ : Rdr).int).1)), (i64 (((((⟨bs, 0, 0⟩ : Rdr).int).2).int).1)), (i64 0), (i64 (((((((⟨bs, 0, 0⟩ : Rdr).int).2).int).2).op).1.kind)), (Value.string (str ((((((⟨bs, 0, 0⟩ : Rdr).int).2).int).2).op).1.frm)), (Value.string (str ((((((⟨bs, 0, 0⟩ : Rdr).int).2).int).2).op).1.to)), (i64 (((((((⟨bs, 0, 0⟩ : Rdr).int).2).int).2).op).1.amount)), (Value.string (str ((((((⟨bs, 0, 0⟩ : Rdr).int).2).int).2).op).1.key)), (i64 (((((((⟨bs, 0, 0⟩ : Rdr).int).2).int).2).op).1.slot)), (i64 (((((((⟨bs, 0, 0⟩ : Rdr).int).2).int).2).op).1.shard)), (i64 0), (i64 0), (Value.slice none 0 0), (Value.slice none 0 0)])) (ys := [(i64 (((⟨bs, 0, 0⟩ : Rdr).int).1)), (i64 (((((⟨bs, 0, 0⟩ : Rdr).int).2).int).1)), (i64 0), (i64 (((((((⟨bs, 0, 0⟩ : Rdr).int).2).int).2).op).1.kind)), (Value.string (str ((((((⟨bs, 0, 0⟩ : Rdr).int).2).int).2).op).1.frm)), (Value.string (str ((((((⟨bs, 0, 0⟩ : Rdr).int).2).int).2).op).1.to)), (i64 (((((((⟨bs, 0, 0⟩ : Rdr).int).2).int).2).op).1.amount)), (Value.string (str ((((((⟨bs, 0, 0⟩ : Rdr).int).2).int).2).op).1.key)), (i64 (((((((⟨bs, 0, 0⟩ : Rdr).int).2).int).2).op).1.slot)), (i64 (((((((⟨bs, 0, 0⟩ : Rdr).int).2).int).2).op).1.shard)), (i64 0), (i64 0), (Value.slice none 0 0), (Value.slice none 0 0)]) (by kernel_rfl) (by kernel_rfl) H4 (by kernel_rfl) (d := none) (by kernel_rfl) rfl (fun w93 H94 K95 => ?_)
        clear H4
        replace K0 := K0.trans K95 (U := none_) (fun i h1 h2 => h2) (fun i h1 h2 => by have h2 : i = b1 := h2; exfalso; omega)
        replace H77 := H77.keep K95 (by intro h; change b13 = b1 at h; omega)
        replace H81 := H81.keep K95 (by intro h; change b31 = b1 at h; omega)
        replace F79 := RdO.keep F79 K95 (fun i _ _ hi hs => by have hs : i = b1 := hs; have := ob24 i _ _ hi; omega)
        clear K95
        refine og 1 [(2, (ptr b1)), (3, (i64 0))] 3 ?_
        refine od ?_
        refine q_ret (by kernel_rfl) ?_
        refine ⟨(Value.tuple #[(agg [(i64 (((⟨bs, 0, 0⟩ : Rdr).int).1)), (i64 (((((⟨bs, 0, 0⟩ : Rdr).int).2).int).1)), (i64 0), (i64 (((((((⟨bs, 0, 0⟩ : Rdr).int).2).int).2).op).1.kind)), (Value.string (str ((((((⟨bs, 0, 0⟩ : Rdr).int).2).int).2).op).1.frm)), (Value.string (str ((((((⟨bs, 0, 0⟩ : Rdr).int).2).int).2).op).1.to)), (i64 (((((((⟨bs, 0, 0⟩ : Rdr).int).2).int).2).op).1.amount)), (Value.string (str ((((((⟨bs, 0, 0⟩ : Rdr).int).2).int).2).op).1.key)), (i64 (((((((⟨bs, 0, 0⟩ : Rdr).int).2).int).2).op).1.slot)), (i64 (((((((⟨bs, 0, 0⟩ : Rdr).int).2).int).2).op).1.shard)), (i64 0), (i64 0), (Value.slice none 0 0), (Value.slice none 0 0)]), (i64 0)]), retv_cell_tmp rfl rfl (H94.loads (by kernel_rfl)) rfl, ?_⟩
        have hl : letR (⟨bs, 0, 0⟩ : Rdr).int.1 (⟨bs, 0, 0⟩ : Rdr).int.2 = ((⟨((⟨bs, 0, 0⟩ : Rdr).int).1, ((((⟨bs, 0, 0⟩ : Rdr).int).2).int).1, 0, ⟨((((((⟨bs, 0, 0⟩ : Rdr).int).2).int).2).op).1.kind, ((((((⟨bs, 0, 0⟩ : Rdr).int).2).int).2).op).1.frm, ((((((⟨bs, 0, 0⟩ : Rdr).int).2).int).2).op).1.to, ((((((⟨bs, 0, 0⟩ : Rdr).int).2).int).2).op).1.amount, ((((((⟨bs, 0, 0⟩ : Rdr).int).2).int).2).op).1.key, ((((((⟨bs, 0, 0⟩ : Rdr).int).2).int).2).op).1.slot, ((((((⟨bs, 0, 0⟩ : Rdr).int).2).int).2).op).1.shard⟩, ⟨0, 0, []⟩, []⟩ : LetP), ((((((⟨bs, 0, 0⟩ : Rdr).int).2).int).2).op).2) := by unfold letR; first | (rw [if_pos (by omega)] <;> rfl) | (rw [if_neg (by omega), if_pos (by omega)] <;> rfl) | (rw [if_neg (by omega), if_neg (by omega), if_pos (by omega)] <;> rfl) | (rw [if_neg (by omega), if_neg (by omega), if_neg (by omega), if_pos (by omega)] <;> rfl) | (rw [if_neg (by omega), if_neg (by omega), if_neg (by omega), if_neg (by omega)] <;> rfl)
        have e : unpackB bs = ((⟨((⟨bs, 0, 0⟩ : Rdr).int).1, ((((⟨bs, 0, 0⟩ : Rdr).int).2).int).1, 0, ⟨((((((⟨bs, 0, 0⟩ : Rdr).int).2).int).2).op).1.kind, ((((((⟨bs, 0, 0⟩ : Rdr).int).2).int).2).op).1.frm, ((((((⟨bs, 0, 0⟩ : Rdr).int).2).int).2).op).1.to, ((((((⟨bs, 0, 0⟩ : Rdr).int).2).int).2).op).1.amount, ((((((⟨bs, 0, 0⟩ : Rdr).int).2).int).2).op).1.key, ((((((⟨bs, 0, 0⟩ : Rdr).int).2).int).2).op).1.slot, ((((((⟨bs, 0, 0⟩ : Rdr).int).2).int).2).op).1.shard⟩, ⟨0, 0, []⟩, []⟩ : LetP), 0) := by unfold unpackB; rw [if_neg (by omega), if_neg (by omega), if_neg (by omega), if_neg (by rw [hl]; show ¬ ((((((((⟨bs, 0, 0⟩ : Rdr).int).2).int).2).op).2).end_ ≠ 0); omega), hl]
        exact ⟨none, 0, none, 0, by rw [e]; rfl, K0, by rw [e]; exact (OwnT.nil _ _ _ _ _), by rw [e]; exact (World.ownsRow_nil _ _ _ _)⟩
      ·rw [h73]
       have p96 : ¬ (((⟨bs, 0, 0⟩ : Rdr).int).1 = 2) := of_beq_f h73
       refine q_skip (by kernel_rfl) ?_
       refine qs ?_
       refine qs ?_
       refine qg ?_
       refine og 2 [(2, (ptr b1)), (3, (i64 0)), (4, (ptr b13)), (5, (ptr b31)), (39, (i64 (((⟨bs, 0, 0⟩ : Rdr).int).1))), (42, (Value.bool ((((⟨bs, 0, 0⟩ : Rdr).int).1) == 3)))] 2 ?_
       refine od ?_
       refine q_cond (o := .tmp 42) (b := ((((⟨bs, 0, 0⟩ : Rdr).int).1) == 3)) (by kernel_rfl) rfl (fun h97 => ?_) (fun h97 => ?_)
       ·rw [h97]
        have p98 : ((⟨bs, 0, 0⟩ : Rdr).int).1 = 3 := of_beq_t h97
        refine q_exit (id := 2) (by kernel_rfl) ?_
        refine qs ?_
        refine qg ?_
        refine og 1 [(2, (ptr b1)), (3, (i64 0)), (4, (ptr b13)), (5, (ptr b31)), (52, (ptr b13))] 1 ?_
        refine Ops.call (by kernel_rfl) (d := (some 53)) (by kernel_rfl) (GetReply_calls _ b13 A14 c15 (((((⟨bs, 0, 0⟩ : Rdr).int).2).int).2) hok67 H66 F69 hne21 ) ?_
        rintro _ w99 ⟨A111, c112, rfl, K100, hO104, H101⟩
        have hok102 : ((((((⟨bs, 0, 0⟩ : Rdr).int).2).int).2).reply).2.Ok := Rdr.Ok.reply hok67
        have ob106 : ∀ i, ((Value.slice A111 (((((((⟨bs, 0, 0⟩ : Rdr).int).2).int).2).reply).1.rows.length) c112)).ownBlock = some i → i ≠ b1 := fun i hi => by have := (World.ownsRow.lt hO104 i hi).1; have := H4.lt; omega
        have ob107 : ∀ i, ((Value.slice A111 (((((((⟨bs, 0, 0⟩ : Rdr).int).2).int).2).reply).1.rows.length) c112)).ownBlock = some i → i ≠ b13 := fun i hi => by have := (World.ownsRow.lt hO104 i hi).1; have := H66.lt; omega
        have ob108 : ∀ i, ((Value.slice A111 (((((((⟨bs, 0, 0⟩ : Rdr).int).2).int).2).reply).1.rows.length) c112)).ownBlock = some i → i ≠ b31 := fun i hi => by have := (World.ownsRow.lt hO104 i hi).1; have := H71.lt; omega
        have oo109 : ∀ i o s, A14 = some ⟨i, o, s⟩ → ((Value.slice A111 (((((((⟨bs, 0, 0⟩ : Rdr).int).2).int).2).reply).1.rows.length) c112)).ownBlock = some i → False := fun i o s hi hs => by have := (World.ownsRow.lt hO104 i hs).1; have := F69.2 i o s hi; omega
        have O105 := own_base hO104 K0.size
        clear hO104
        refine ⟨_, _, rfl, rfl, ?_⟩
        replace K0 := K0.trans K100 (U := none_) (fun i h1 h2 => h2) (fun i h1 h2 => by have h2 : i = b13 := h2; exfalso; omega)
        replace H4 := H4.keep K100 (by intro h; change b1 = b13 at h; omega)
        replace H71 := H71.keep K100 (by intro h; change b31 = b13 at h; omega)
        replace F69 := RdO.keep F69 K100 (fun i _ _ hi hs => by have hs : i = b13 := hs; have := hne21 i _ _ hi; omega)
        clear K100
        have F113 : RdO w99 A14 c15 ((((((⟨bs, 0, 0⟩ : Rdr).int).2).int).2).reply).2.bs := by rw [Rdr.reply_bs]; exact F69
        clear F69
        refine og 1 [(2, (ptr b1)), (3, (i64 0)), (4, (ptr b13)), (5, (ptr b31)), (53, (agg [(i64 (((((((⟨bs, 0, 0⟩ : Rdr).int).2).int).2).reply).1.why)), (i64 (((((((⟨bs, 0, 0⟩ : Rdr).int).2).int).2).reply).1.amount)), (Value.slice A111 (((((((⟨bs, 0, 0⟩ : Rdr).int).2).int).2).reply).1.rows.length) c112)])), (54, (Value.pointer (some ⟨b31, 10, none⟩)))] 3 ?_
        refine Ops.put (t := 27) (b := b31) (off := 10) (v := (agg [(i64 (((((((⟨bs, 0, 0⟩ : Rdr).int).2).int).2).reply).1.why)), (i64 (((((((⟨bs, 0, 0⟩ : Rdr).int).2).int).2).reply).1.amount)), (Value.slice A111 (((((((⟨bs, 0, 0⟩ : Rdr).int).2).int).2).reply).1.rows.length) c112)])) (ys := [(i64 (((⟨bs, 0, 0⟩ : Rdr).int).1)), (i64 (((((⟨bs, 0, 0⟩ : Rdr).int).2).int).1)), (i64 0), (i64 0), (Value.string ByteArray.empty), (Value.string ByteArray.empty), (i64 0), (Value.string ByteArray.empty), (i64 0), (i64 0), (i64 (((((((⟨bs, 0, 0⟩ : Rdr).int).2).int).2).reply).1.why)), (i64 (((((((⟨bs, 0, 0⟩ : Rdr).int).2).int).2).reply).1.amount)), (Value.slice A111 (((((((⟨bs, 0, 0⟩ : Rdr).int).2).int).2).reply).1.rows.length) c112), (Value.slice none 0 0)]) (by kernel_rfl) (by kernel_rfl) H71 (by kernel_rfl) (d := none) (by kernel_rfl) rfl (fun w114 H115 K116 => ?_)
        clear H71
        replace K0 := K0.trans K116 (U := none_) (fun i h1 h2 => h2) (fun i h1 h2 => by have h2 : i = b31 := h2; exfalso; omega)
        replace H4 := H4.keep K116 (by intro h; change b1 = b31 at h; omega)
        replace H101 := H101.keep K116 (by intro h; change b13 = b31 at h; omega)
        replace F113 := RdO.keep F113 K116 (fun i _ _ hi hs => by have hs : i = b31 := hs; have := ob37 i _ _ hi; omega)
        replace O105 := own_keep O105 K116 (fun i hi hs => by have hs : i = b31 := hs; have := ob108 i hi; omega)
        clear K116
        refine od ?_
        refine q_exit (id := 0) (by kernel_rfl) ?_
        refine qs ?_
        refine qs ?_
        refine qg ?_
        refine og 1 [(2, (ptr b1)), (3, (i64 0)), (5, (ptr b31)), (62, (ptr b13))] 1 ?_
        refine Ops.call (by kernel_rfl) (d := (some 63)) (by kernel_rfl) (RdEnd_calls _ b13 A14 c15 (((((((⟨bs, 0, 0⟩ : Rdr).int).2).int).2).reply).2) hok102 H101 F113 hne21) ?_
        rintro _ w117 ⟨rfl, K118⟩
        refine ⟨_, _, rfl, rfl, ?_⟩
        replace K0 := K0.t0 K118
        replace H4 := H4.keep K118 (fun h => h)
        replace H101 := H101.keep K118 (fun h => h)
        replace H115 := H115.keep K118 (fun h => h)
        replace F113 := RdO.keep0 F113 K118
        replace O105 := own_keep0 O105 K118
        clear K118
        refine og 1 [(2, (ptr b1)), (3, (i64 0)), (5, (ptr b31)), (7, (i64 ((((((((⟨bs, 0, 0⟩ : Rdr).int).2).int).2).reply).2).end_)))] 3 ?_
        refine od ?_
        refine qs ?_
        refine qg ?_
        refine og 2 [(2, (ptr b1)), (3, (i64 0)), (5, (ptr b31)), (7, (i64 ((((((((⟨bs, 0, 0⟩ : Rdr).int).2).int).2).reply).2).end_))), (65, (Value.bool (((((((((⟨bs, 0, 0⟩ : Rdr).int).2).int).2).reply).2).end_) != 0)))] 2 ?_
        refine od ?_
        refine q_cond (o := .tmp 65) (b := (((((((((⟨bs, 0, 0⟩ : Rdr).int).2).int).2).reply).2).end_) != 0)) (by kernel_rfl) rfl (fun h119 => ?_) (fun h119 => ?_)
        ·rw [h119]
         have p120 : ¬ ((((((((⟨bs, 0, 0⟩ : Rdr).int).2).int).2).reply).2).end_ = 0) := of_bne_t h119
         have hecq121 := end_or (((((((⟨bs, 0, 0⟩ : Rdr).int).2).int).2).reply).2)
         refine qs ?_
         refine qg ?_
         refine og 2 [(2, (ptr b1)), (3, (i64 0)), (5, (ptr b31)), (66, (agg [(i64 0), (i64 0), (i64 0), (i64 0), (Value.string ByteArray.empty), (Value.string ByteArray.empty), (i64 0), (Value.string ByteArray.empty), (i64 0), (i64 0), (i64 0), (i64 0), (Value.slice none 0 0), (Value.slice none 0 0)])), (67, (i64 ((((((((⟨bs, 0, 0⟩ : Rdr).int).2).int).2).reply).2).end_)))] 2 ?_
         refine Ops.put (t := 33) (b := b1) (off := 0) (v := (agg [(i64 0), (i64 0), (i64 0), (i64 0), (Value.string ByteArray.empty), (Value.string ByteArray.empty), (i64 0), (Value.string ByteArray.empty), (i64 0), (i64 0), (i64 0), (i64 0), (Value.slice none 0 0), (Value.slice none 0 0)])) (ys := [(i64 0), (i64 0), (i64 0), (i64 0), (Value.string ByteArray.empty), (Value.string ByteArray.empty), (i64 0), (Value.string ByteArray.empty), (i64 0), (i64 0), (i64 0), (i64 0), (Value.slice none 0 0), (Value.slice none 0 0)]) (by kernel_rfl) (by kernel_rfl) H4 (by kernel_rfl) (d := none) (by kernel_rfl) rfl (fun w122 H123 K124 => ?_)
         clear H4
         replace K0 := K0.trans K124 (U := none_) (fun i h1 h2 => h2) (fun i h1 h2 => by have h2 : i = b1 := h2; exfalso; omega)
         replace H101 := H101.keep K124 (by intro h; change b13 = b1 at h; omega)
         replace H115 := H115.keep K124 (by intro h; change b31 = b1 at h; omega)
         replace F113 := RdO.keep F113 K124 (fun i _ _ hi hs => by have hs : i = b1 := hs; have := ob24 i _ _ hi; omega)
         replace O105 := own_keep O105 K124 (fun i hi hs => by have hs : i = b1 := hs; have := ob106 i hi; omega)
         clear K124
         refine og 1 [(2, (ptr b1)), (3, (i64 ((((((((⟨bs, 0, 0⟩ : Rdr).int).2).int).2).reply).2).end_))), (5, (ptr b31))] 4 ?_
         refine od ?_
         refine q_ret (by kernel_rfl) ?_
         refine ⟨(Value.tuple #[(agg [(i64 0), (i64 0), (i64 0), (i64 0), (Value.string ByteArray.empty), (Value.string ByteArray.empty), (i64 0), (Value.string ByteArray.empty), (i64 0), (i64 0), (i64 0), (i64 0), (Value.slice none 0 0), (Value.slice none 0 0)]), (i64 ((((((((⟨bs, 0, 0⟩ : Rdr).int).2).int).2).reply).2).end_))]), retv_cell_tmp rfl rfl (H123.loads (by kernel_rfl)) rfl, ?_⟩
         have hl2 : (letR (⟨bs, 0, 0⟩ : Rdr).int.1 (⟨bs, 0, 0⟩ : Rdr).int.2).2 = ((((((⟨bs, 0, 0⟩ : Rdr).int).2).int).2).reply).2 := by unfold letR; first | (rw [if_pos (by omega)] <;> rfl) | (rw [if_neg (by omega), if_pos (by omega)] <;> rfl) | (rw [if_neg (by omega), if_neg (by omega), if_pos (by omega)] <;> rfl) | (rw [if_neg (by omega), if_neg (by omega), if_neg (by omega), if_pos (by omega)] <;> rfl) | (rw [if_neg (by omega), if_neg (by omega), if_neg (by omega), if_neg (by omega)] <;> rfl)
         have e : unpackB bs = (LetP.zero, (((((((⟨bs, 0, 0⟩ : Rdr).int).2).int).2).reply).2).end_) := by unfold unpackB; rw [if_neg (by omega), if_neg (by omega), if_neg (by omega), if_pos (by rw [hl2]; omega), hl2]
         exact ⟨none, 0, none, 0, by rw [e]; rfl, K0, by rw [e]; exact (OwnT.nil _ _ _ _ _), by rw [e]; exact (World.ownsRow_nil _ _ _ _)⟩
        ·rw [h119]
         have p125 : (((((((⟨bs, 0, 0⟩ : Rdr).int).2).int).2).reply).2).end_ = 0 := of_bne_f h119
         have hecq126 := end_or (((((((⟨bs, 0, 0⟩ : Rdr).int).2).int).2).reply).2)
         refine q_skip (by kernel_rfl) ?_
         refine qs ?_
         refine qg ?_
         refine Ops.go (v := (agg [(i64 (((⟨bs, 0, 0⟩ : Rdr).int).1)), (i64 (((((⟨bs, 0, 0⟩ : Rdr).int).2).int).1)), (i64 0), (i64 0), (Value.string ByteArray.empty), (Value.string ByteArray.empty), (i64 0), (Value.string ByteArray.empty), (i64 0), (i64 0), (i64 (((((((⟨bs, 0, 0⟩ : Rdr).int).2).int).2).reply).1.why)), (i64 (((((((⟨bs, 0, 0⟩ : Rdr).int).2).int).2).reply).1.amount)), (Value.slice A111 (((((((⟨bs, 0, 0⟩ : Rdr).int).2).int).2).reply).1.rows.length) c112), (Value.slice none 0 0)])) (by kernel_rfl) (Runs.load (t := 33) (a := ⟨b31, 0, none⟩) (by kernel_rfl) (H115.loads (by kernel_rfl))) (d := (some 68)) (by kernel_rfl) rfl ?_
         refine Ops.put (t := 33) (b := b1) (off := 0) (v := (agg [(i64 (((⟨bs, 0, 0⟩ : Rdr).int).1)), (i64 (((((⟨bs, 0, 0⟩ : Rdr).int).2).int).1)), (i64 0), (i64 0), (Value.string ByteArray.empty), (Value.string ByteArray.empty), (i64 0), (Value.string ByteArray.empty), (i64 0), (i64 0), (i64 (((((((⟨bs, 0, 0⟩ : Rdr).int).2).int).2).reply).1.why)), (i64 (((((((⟨bs, 0, 0⟩ : Rdr).int).2).int).2).reply).1.amount)), (Value.slice A111 (((((((⟨bs, 0, 0⟩ : Rdr).int).2).int).2).reply).1.rows.length) c112), (Value.slice none 0 0)])) (ys := [(i64 (((⟨bs, 0, 0⟩ : Rdr).int).1)), (i64 (((((⟨bs, 0, 0⟩ : Rdr).int).2).int).1)), (i64 0), (i64 0), (Value.string ByteArray.empty), (Value.string ByteArray.empty), (i64 0), (Value.string ByteArray.empty), (i64 0), (i64 0), (i64 (((((((⟨bs, 0, 0⟩ : Rdr).int).2).int).2).reply).1.why)), (i64 (((((((⟨bs, 0, 0⟩ : Rdr).int).2).int).2).reply).1.amount)), (Value.slice A111 (((((((⟨bs, 0, 0⟩ : Rdr).int).2).int).2).reply).1.rows.length) c112), (Value.slice none 0 0)]) (by kernel_rfl) (by kernel_rfl) H4 (by kernel_rfl) (d := none) (by kernel_rfl) rfl (fun w127 H128 K129 => ?_)
         clear H4
         replace K0 := K0.trans K129 (U := none_) (fun i h1 h2 => h2) (fun i h1 h2 => by have h2 : i = b1 := h2; exfalso; omega)
         replace H101 := H101.keep K129 (by intro h; change b13 = b1 at h; omega)
         replace H115 := H115.keep K129 (by intro h; change b31 = b1 at h; omega)
         replace F113 := RdO.keep F113 K129 (fun i _ _ hi hs => by have hs : i = b1 := hs; have := ob24 i _ _ hi; omega)
         replace O105 := own_keep O105 K129 (fun i hi hs => by have hs : i = b1 := hs; have := ob106 i hi; omega)
         clear K129
         refine og 1 [(2, (ptr b1)), (3, (i64 0))] 3 ?_
         refine od ?_
         refine q_ret (by kernel_rfl) ?_
         refine ⟨(Value.tuple #[(agg [(i64 (((⟨bs, 0, 0⟩ : Rdr).int).1)), (i64 (((((⟨bs, 0, 0⟩ : Rdr).int).2).int).1)), (i64 0), (i64 0), (Value.string ByteArray.empty), (Value.string ByteArray.empty), (i64 0), (Value.string ByteArray.empty), (i64 0), (i64 0), (i64 (((((((⟨bs, 0, 0⟩ : Rdr).int).2).int).2).reply).1.why)), (i64 (((((((⟨bs, 0, 0⟩ : Rdr).int).2).int).2).reply).1.amount)), (Value.slice A111 (((((((⟨bs, 0, 0⟩ : Rdr).int).2).int).2).reply).1.rows.length) c112), (Value.slice none 0 0)]), (i64 0)]), retv_cell_tmp rfl rfl (H128.loads (by kernel_rfl)) rfl, ?_⟩
         have hl : letR (⟨bs, 0, 0⟩ : Rdr).int.1 (⟨bs, 0, 0⟩ : Rdr).int.2 = ((⟨((⟨bs, 0, 0⟩ : Rdr).int).1, ((((⟨bs, 0, 0⟩ : Rdr).int).2).int).1, 0, ⟨0, [], [], 0, [], 0, 0⟩, ⟨((((((⟨bs, 0, 0⟩ : Rdr).int).2).int).2).reply).1.why, ((((((⟨bs, 0, 0⟩ : Rdr).int).2).int).2).reply).1.amount, ((((((⟨bs, 0, 0⟩ : Rdr).int).2).int).2).reply).1.rows⟩, []⟩ : LetP), ((((((⟨bs, 0, 0⟩ : Rdr).int).2).int).2).reply).2) := by unfold letR; first | (rw [if_pos (by omega)] <;> rfl) | (rw [if_neg (by omega), if_pos (by omega)] <;> rfl) | (rw [if_neg (by omega), if_neg (by omega), if_pos (by omega)] <;> rfl) | (rw [if_neg (by omega), if_neg (by omega), if_neg (by omega), if_pos (by omega)] <;> rfl) | (rw [if_neg (by omega), if_neg (by omega), if_neg (by omega), if_neg (by omega)] <;> rfl)
         have e : unpackB bs = ((⟨((⟨bs, 0, 0⟩ : Rdr).int).1, ((((⟨bs, 0, 0⟩ : Rdr).int).2).int).1, 0, ⟨0, [], [], 0, [], 0, 0⟩, ⟨((((((⟨bs, 0, 0⟩ : Rdr).int).2).int).2).reply).1.why, ((((((⟨bs, 0, 0⟩ : Rdr).int).2).int).2).reply).1.amount, ((((((⟨bs, 0, 0⟩ : Rdr).int).2).int).2).reply).1.rows⟩, []⟩ : LetP), 0) := by unfold unpackB; rw [if_neg (by omega), if_neg (by omega), if_neg (by omega), if_neg (by rw [hl]; show ¬ ((((((((⟨bs, 0, 0⟩ : Rdr).int).2).int).2).reply).2).end_ ≠ 0); omega), hl]
         exact ⟨A111, c112, none, 0, by rw [e]; rfl, K0, by rw [e]; exact O105, by rw [e]; exact (World.ownsRow_nil _ _ _ _)⟩
       ·rw [h97]
        have p130 : ¬ (((⟨bs, 0, 0⟩ : Rdr).int).1 = 3) := of_beq_f h97
        refine q_skip (by kernel_rfl) ?_
        refine qs ?_
        refine qs ?_
        refine qg ?_
        refine og 2 [(2, (ptr b1)), (3, (i64 0)), (4, (ptr b13)), (5, (ptr b31)), (39, (i64 (((⟨bs, 0, 0⟩ : Rdr).int).1))), (44, (Value.bool ((((⟨bs, 0, 0⟩ : Rdr).int).1) == 5)))] 2 ?_
        refine od ?_
        refine q_cond (o := .tmp 44) (b := ((((⟨bs, 0, 0⟩ : Rdr).int).1) == 5)) (by kernel_rfl) rfl (fun h131 => ?_) (fun h131 => ?_)
        ·rw [h131]
         have p132 : ((⟨bs, 0, 0⟩ : Rdr).int).1 = 5 := of_beq_t h131
         refine q_exit (id := 3) (by kernel_rfl) ?_
         refine qg ?_
         refine og 1 [(2, (ptr b1)), (3, (i64 0)), (4, (ptr b13)), (5, (ptr b31)), (55, (ptr b13))] 1 ?_
         refine Ops.call (by kernel_rfl) (d := (some 56)) (by kernel_rfl) (RdInt_calls _ b13 A14 c15 (((((⟨bs, 0, 0⟩ : Rdr).int).2).int).2) hok67 H66 F69 hne21 ) ?_
         rintro _ w133 ⟨rfl, K134, H135⟩
         have hok136 : ((((((⟨bs, 0, 0⟩ : Rdr).int).2).int).2).int).2.Ok := Rdr.Ok.int hok67
         have hu137 := Rdr.int_range (((((⟨bs, 0, 0⟩ : Rdr).int).2).int).2)
         refine ⟨_, _, rfl, rfl, ?_⟩
         replace K0 := K0.trans K134 (U := none_) (fun i h1 h2 => h2) (fun i h1 h2 => by have h2 : i = b13 := h2; exfalso; omega)
         replace H4 := H4.keep K134 (by intro h; change b1 = b13 at h; omega)
         replace H71 := H71.keep K134 (by intro h; change b31 = b13 at h; omega)
         replace F69 := RdO.keep F69 K134 (fun i _ _ hi hs => by have hs : i = b13 := hs; have := hne21 i _ _ hi; omega)
         clear K134
         have F138 : RdO w133 A14 c15 ((((((⟨bs, 0, 0⟩ : Rdr).int).2).int).2).int).2.bs := by rw [Rdr.int_bs]; exact F69
         clear F69
         refine og 1 [(2, (ptr b1)), (3, (i64 0)), (4, (ptr b13)), (5, (ptr b31)), (56, (i64 (((((((⟨bs, 0, 0⟩ : Rdr).int).2).int).2).int).1))), (57, (Value.pointer (some ⟨b31, 2, none⟩)))] 3 ?_
         refine Ops.put (t := 3) (b := b31) (off := 2) (v := (i64 (((((((⟨bs, 0, 0⟩ : Rdr).int).2).int).2).int).1))) (ys := [(i64 (((⟨bs, 0, 0⟩ : Rdr).int).1)), (i64 (((((⟨bs, 0, 0⟩ : Rdr).int).2).int).1)), (i64 (((((((⟨bs, 0, 0⟩ : Rdr).int).2).int).2).int).1)), (i64 0), (Value.string ByteArray.empty), (Value.string ByteArray.empty), (i64 0), (Value.string ByteArray.empty), (i64 0), (i64 0), (i64 0), (i64 0), (Value.slice none 0 0), (Value.slice none 0 0)]) (by kernel_rfl) (by kernel_rfl) H71 (by kernel_rfl) (d := none) (by kernel_rfl) rfl (fun w139 H140 K141 => ?_)
         clear H71
         replace K0 := K0.trans K141 (U := none_) (fun i h1 h2 => h2) (fun i h1 h2 => by have h2 : i = b31 := h2; exfalso; omega)
         replace H4 := H4.keep K141 (by intro h; change b1 = b31 at h; omega)
         replace H135 := H135.keep K141 (by intro h; change b13 = b31 at h; omega)
         replace F138 := RdO.keep F138 K141 (fun i _ _ hi hs => by have hs : i = b31 := hs; have := ob37 i _ _ hi; omega)
         clear K141
         refine od ?_
         refine qs ?_
         refine qg ?_
         refine og 1 [(2, (ptr b1)), (3, (i64 0)), (4, (ptr b13)), (5, (ptr b31)), (58, (ptr b13))] 1 ?_
         refine Ops.call (by kernel_rfl) (d := (some 59)) (by kernel_rfl) (RdBytesS_calls _ b13 A14 c15 (((((((⟨bs, 0, 0⟩ : Rdr).int).2).int).2).int).2) hok136 H135 F138 hne21 ) ?_
         rintro _ w142 ⟨A155, c156, rfl, K143, hO148, H144⟩
         have hok145 : ((((((((⟨bs, 0, 0⟩ : Rdr).int).2).int).2).int).2).bytes).2.Ok := Rdr.Ok.bytes hok136
         have hu146 := Rdr.bytes_le hok136
         have ob150 : ∀ i, ((Value.slice A155 (((((((((⟨bs, 0, 0⟩ : Rdr).int).2).int).2).int).2).bytes).1.length) c156)).ownBlock = some i → i ≠ b1 := fun i hi => by have := (World.ownsRow.lt hO148 i hi).1; have := H4.lt; omega
         have ob151 : ∀ i, ((Value.slice A155 (((((((((⟨bs, 0, 0⟩ : Rdr).int).2).int).2).int).2).bytes).1.length) c156)).ownBlock = some i → i ≠ b13 := fun i hi => by have := (World.ownsRow.lt hO148 i hi).1; have := H135.lt; omega
         have ob152 : ∀ i, ((Value.slice A155 (((((((((⟨bs, 0, 0⟩ : Rdr).int).2).int).2).int).2).bytes).1.length) c156)).ownBlock = some i → i ≠ b31 := fun i hi => by have := (World.ownsRow.lt hO148 i hi).1; have := H140.lt; omega
         have oo153 : ∀ i o s, A14 = some ⟨i, o, s⟩ → ((Value.slice A155 (((((((((⟨bs, 0, 0⟩ : Rdr).int).2).int).2).int).2).bytes).1.length) c156)).ownBlock = some i → False := fun i o s hi hs => by have := (World.ownsRow.lt hO148 i hs).1; have := F138.2 i o s hi; omega
         have O149 := own_base hO148 K0.size
         clear hO148
         refine ⟨_, _, rfl, rfl, ?_⟩
         replace K0 := K0.trans K143 (U := none_) (fun i h1 h2 => h2) (fun i h1 h2 => by have h2 : i = b13 := h2; exfalso; omega)
         replace H4 := H4.keep K143 (by intro h; change b1 = b13 at h; omega)
         replace H140 := H140.keep K143 (by intro h; change b31 = b13 at h; omega)
         replace F138 := RdO.keep F138 K143 (fun i _ _ hi hs => by have hs : i = b13 := hs; have := hne21 i _ _ hi; omega)
         clear K143
         have F157 : RdO w142 A14 c15 ((((((((⟨bs, 0, 0⟩ : Rdr).int).2).int).2).int).2).bytes).2.bs := by rw [Rdr.bytes_bs]; exact F138
         clear F138
         refine og 1 [(2, (ptr b1)), (3, (i64 0)), (4, (ptr b13)), (5, (ptr b31)), (59, (Value.slice A155 (((((((((⟨bs, 0, 0⟩ : Rdr).int).2).int).2).int).2).bytes).1.length) c156)), (60, (Value.pointer (some ⟨b31, 13, none⟩)))] 3 ?_
         refine Ops.put (t := 28) (b := b31) (off := 13) (v := (Value.slice A155 (((((((((⟨bs, 0, 0⟩ : Rdr).int).2).int).2).int).2).bytes).1.length) c156)) (ys := [(i64 (((⟨bs, 0, 0⟩ : Rdr).int).1)), (i64 (((((⟨bs, 0, 0⟩ : Rdr).int).2).int).1)), (i64 (((((((⟨bs, 0, 0⟩ : Rdr).int).2).int).2).int).1)), (i64 0), (Value.string ByteArray.empty), (Value.string ByteArray.empty), (i64 0), (Value.string ByteArray.empty), (i64 0), (i64 0), (i64 0), (i64 0), (Value.slice none 0 0), (Value.slice A155 (((((((((⟨bs, 0, 0⟩ : Rdr).int).2).int).2).int).2).bytes).1.length) c156)]) (by kernel_rfl) (by kernel_rfl) H140 (by kernel_rfl) (d := none) (by kernel_rfl) rfl (fun w158 H159 K160 => ?_)
         clear H140
         replace K0 := K0.trans K160 (U := none_) (fun i h1 h2 => h2) (fun i h1 h2 => by have h2 : i = b31 := h2; exfalso; omega)
         replace H4 := H4.keep K160 (by intro h; change b1 = b31 at h; omega)
         replace H144 := H144.keep K160 (by intro h; change b13 = b31 at h; omega)
         replace F157 := RdO.keep F157 K160 (fun i _ _ hi hs => by have hs : i = b31 := hs; have := ob37 i _ _ hi; omega)
         replace O149 := own_keep O149 K160 (fun i hi hs => by have hs : i = b31 := hs; have := ob152 i hi; omega)
         clear K160
         refine od ?_
         refine q_exit (id := 0) (by kernel_rfl) ?_
         refine qs ?_
         refine qs ?_
         refine qg ?_
         refine og 1 [(2, (ptr b1)), (3, (i64 0)), (5, (ptr b31)), (62, (ptr b13))] 1 ?_
         refine Ops.call (by kernel_rfl) (d := (some 63)) (by kernel_rfl) (RdEnd_calls _ b13 A14 c15 (((((((((⟨bs, 0, 0⟩ : Rdr).int).2).int).2).int).2).bytes).2) hok145 H144 F157 hne21) ?_
         rintro _ w161 ⟨rfl, K162⟩
         refine ⟨_, _, rfl, rfl, ?_⟩
         replace K0 := K0.t0 K162
         replace H4 := H4.keep K162 (fun h => h)
         replace H144 := H144.keep K162 (fun h => h)
         replace H159 := H159.keep K162 (fun h => h)
         replace F157 := RdO.keep0 F157 K162
         replace O149 := own_keep0 O149 K162
         clear K162
         refine og 1 [(2, (ptr b1)), (3, (i64 0)), (5, (ptr b31)), (7, (i64 ((((((((((⟨bs, 0, 0⟩ : Rdr).int).2).int).2).int).2).bytes).2).end_)))] 3 ?_
         refine od ?_
         refine qs ?_
         refine qg ?_
         refine og 2 [(2, (ptr b1)), (3, (i64 0)), (5, (ptr b31)), (7, (i64 ((((((((((⟨bs, 0, 0⟩ : Rdr).int).2).int).2).int).2).bytes).2).end_))), (65, (Value.bool (((((((((((⟨bs, 0, 0⟩ : Rdr).int).2).int).2).int).2).bytes).2).end_) != 0)))] 2 ?_
         refine od ?_
         refine q_cond (o := .tmp 65) (b := (((((((((((⟨bs, 0, 0⟩ : Rdr).int).2).int).2).int).2).bytes).2).end_) != 0)) (by kernel_rfl) rfl (fun h163 => ?_) (fun h163 => ?_)
         ·rw [h163]
          have p164 : ¬ ((((((((((⟨bs, 0, 0⟩ : Rdr).int).2).int).2).int).2).bytes).2).end_ = 0) := of_bne_t h163
          have hecq165 := end_or (((((((((⟨bs, 0, 0⟩ : Rdr).int).2).int).2).int).2).bytes).2)
          refine qs ?_
          refine qg ?_
          refine og 2 [(2, (ptr b1)), (3, (i64 0)), (5, (ptr b31)), (66, (agg [(i64 0), (i64 0), (i64 0), (i64 0), (Value.string ByteArray.empty), (Value.string ByteArray.empty), (i64 0), (Value.string ByteArray.empty), (i64 0), (i64 0), (i64 0), (i64 0), (Value.slice none 0 0), (Value.slice none 0 0)])), (67, (i64 ((((((((((⟨bs, 0, 0⟩ : Rdr).int).2).int).2).int).2).bytes).2).end_)))] 2 ?_
          refine Ops.put (t := 33) (b := b1) (off := 0) (v := (agg [(i64 0), (i64 0), (i64 0), (i64 0), (Value.string ByteArray.empty), (Value.string ByteArray.empty), (i64 0), (Value.string ByteArray.empty), (i64 0), (i64 0), (i64 0), (i64 0), (Value.slice none 0 0), (Value.slice none 0 0)])) (ys := [(i64 0), (i64 0), (i64 0), (i64 0), (Value.string ByteArray.empty), (Value.string ByteArray.empty), (i64 0), (Value.string ByteArray.empty), (i64 0), (i64 0), (i64 0), (i64 0), (Value.slice none 0 0), (Value.slice none 0 0)]) (by kernel_rfl) (by kernel_rfl) H4 (by kernel_rfl) (d := none) (by kernel_rfl) rfl (fun w166 H167 K168 => ?_)
          clear H4
          replace K0 := K0.trans K168 (U := none_) (fun i h1 h2 => h2) (fun i h1 h2 => by have h2 : i = b1 := h2; exfalso; omega)
          replace H144 := H144.keep K168 (by intro h; change b13 = b1 at h; omega)
          replace H159 := H159.keep K168 (by intro h; change b31 = b1 at h; omega)
          replace F157 := RdO.keep F157 K168 (fun i _ _ hi hs => by have hs : i = b1 := hs; have := ob24 i _ _ hi; omega)
          replace O149 := own_keep O149 K168 (fun i hi hs => by have hs : i = b1 := hs; have := ob150 i hi; omega)
          clear K168
          refine og 1 [(2, (ptr b1)), (3, (i64 ((((((((((⟨bs, 0, 0⟩ : Rdr).int).2).int).2).int).2).bytes).2).end_))), (5, (ptr b31))] 4 ?_
          refine od ?_
          refine q_ret (by kernel_rfl) ?_
          refine ⟨(Value.tuple #[(agg [(i64 0), (i64 0), (i64 0), (i64 0), (Value.string ByteArray.empty), (Value.string ByteArray.empty), (i64 0), (Value.string ByteArray.empty), (i64 0), (i64 0), (i64 0), (i64 0), (Value.slice none 0 0), (Value.slice none 0 0)]), (i64 ((((((((((⟨bs, 0, 0⟩ : Rdr).int).2).int).2).int).2).bytes).2).end_))]), retv_cell_tmp rfl rfl (H167.loads (by kernel_rfl)) rfl, ?_⟩
          have hl2 : (letR (⟨bs, 0, 0⟩ : Rdr).int.1 (⟨bs, 0, 0⟩ : Rdr).int.2).2 = ((((((((⟨bs, 0, 0⟩ : Rdr).int).2).int).2).int).2).bytes).2 := by unfold letR; first | (rw [if_pos (by omega)] <;> rfl) | (rw [if_neg (by omega), if_pos (by omega)] <;> rfl) | (rw [if_neg (by omega), if_neg (by omega), if_pos (by omega)] <;> rfl) | (rw [if_neg (by omega), if_neg (by omega), if_neg (by omega), if_pos (by omega)] <;> rfl) | (rw [if_neg (by omega), if_neg (by omega), if_neg (by omega), if_neg (by omega)] <;> rfl)
          have e : unpackB bs = (LetP.zero, (((((((((⟨bs, 0, 0⟩ : Rdr).int).2).int).2).int).2).bytes).2).end_) := by unfold unpackB; rw [if_neg (by omega), if_neg (by omega), if_neg (by omega), if_pos (by rw [hl2]; omega), hl2]
          exact ⟨none, 0, none, 0, by rw [e]; rfl, K0, by rw [e]; exact (OwnT.nil _ _ _ _ _), by rw [e]; exact (World.ownsRow_nil _ _ _ _)⟩
         ·rw [h163]
          have p169 : (((((((((⟨bs, 0, 0⟩ : Rdr).int).2).int).2).int).2).bytes).2).end_ = 0 := of_bne_f h163
          have hecq170 := end_or (((((((((⟨bs, 0, 0⟩ : Rdr).int).2).int).2).int).2).bytes).2)
          refine q_skip (by kernel_rfl) ?_
          refine qs ?_
          refine qg ?_
          refine Ops.go (v := (agg [(i64 (((⟨bs, 0, 0⟩ : Rdr).int).1)), (i64 (((((⟨bs, 0, 0⟩ : Rdr).int).2).int).1)), (i64 (((((((⟨bs, 0, 0⟩ : Rdr).int).2).int).2).int).1)), (i64 0), (Value.string ByteArray.empty), (Value.string ByteArray.empty), (i64 0), (Value.string ByteArray.empty), (i64 0), (i64 0), (i64 0), (i64 0), (Value.slice none 0 0), (Value.slice A155 (((((((((⟨bs, 0, 0⟩ : Rdr).int).2).int).2).int).2).bytes).1.length) c156)])) (by kernel_rfl) (Runs.load (t := 33) (a := ⟨b31, 0, none⟩) (by kernel_rfl) (H159.loads (by kernel_rfl))) (d := (some 68)) (by kernel_rfl) rfl ?_
          refine Ops.put (t := 33) (b := b1) (off := 0) (v := (agg [(i64 (((⟨bs, 0, 0⟩ : Rdr).int).1)), (i64 (((((⟨bs, 0, 0⟩ : Rdr).int).2).int).1)), (i64 (((((((⟨bs, 0, 0⟩ : Rdr).int).2).int).2).int).1)), (i64 0), (Value.string ByteArray.empty), (Value.string ByteArray.empty), (i64 0), (Value.string ByteArray.empty), (i64 0), (i64 0), (i64 0), (i64 0), (Value.slice none 0 0), (Value.slice A155 (((((((((⟨bs, 0, 0⟩ : Rdr).int).2).int).2).int).2).bytes).1.length) c156)])) (ys := [(i64 (((⟨bs, 0, 0⟩ : Rdr).int).1)), (i64 (((((⟨bs, 0, 0⟩ : Rdr).int).2).int).1)), (i64 (((((((⟨bs, 0, 0⟩ : Rdr).int).2).int).2).int).1)), (i64 0), (Value.string ByteArray.empty), (Value.string ByteArray.empty), (i64 0), (Value.string ByteArray.empty), (i64 0), (i64 0), (i64 0), (i64 0), (Value.slice none 0 0), (Value.slice A155 (((((((((⟨bs, 0, 0⟩ : Rdr).int).2).int).2).int).2).bytes).1.length) c156)]) (by kernel_rfl) (by kernel_rfl) H4 (by kernel_rfl) (d := none) (by kernel_rfl) rfl (fun w171 H172 K173 => ?_)
          clear H4
          replace K0 := K0.trans K173 (U := none_) (fun i h1 h2 => h2) (fun i h1 h2 => by have h2 : i = b1 := h2; exfalso; omega)
          replace H144 := H144.keep K173 (by intro h; change b13 = b1 at h; omega)
          replace H159 := H159.keep K173 (by intro h; change b31 = b1 at h; omega)
          replace F157 := RdO.keep F157 K173 (fun i _ _ hi hs => by have hs : i = b1 := hs; have := ob24 i _ _ hi; omega)
          replace O149 := own_keep O149 K173 (fun i hi hs => by have hs : i = b1 := hs; have := ob150 i hi; omega)
          clear K173
          refine og 1 [(2, (ptr b1)), (3, (i64 0))] 3 ?_
          refine od ?_
          refine q_ret (by kernel_rfl) ?_
          refine ⟨(Value.tuple #[(agg [(i64 (((⟨bs, 0, 0⟩ : Rdr).int).1)), (i64 (((((⟨bs, 0, 0⟩ : Rdr).int).2).int).1)), (i64 (((((((⟨bs, 0, 0⟩ : Rdr).int).2).int).2).int).1)), (i64 0), (Value.string ByteArray.empty), (Value.string ByteArray.empty), (i64 0), (Value.string ByteArray.empty), (i64 0), (i64 0), (i64 0), (i64 0), (Value.slice none 0 0), (Value.slice A155 (((((((((⟨bs, 0, 0⟩ : Rdr).int).2).int).2).int).2).bytes).1.length) c156)]), (i64 0)]), retv_cell_tmp rfl rfl (H172.loads (by kernel_rfl)) rfl, ?_⟩
          have hl : letR (⟨bs, 0, 0⟩ : Rdr).int.1 (⟨bs, 0, 0⟩ : Rdr).int.2 = ((⟨((⟨bs, 0, 0⟩ : Rdr).int).1, ((((⟨bs, 0, 0⟩ : Rdr).int).2).int).1, ((((((⟨bs, 0, 0⟩ : Rdr).int).2).int).2).int).1, ⟨0, [], [], 0, [], 0, 0⟩, ⟨0, 0, []⟩, ((((((((⟨bs, 0, 0⟩ : Rdr).int).2).int).2).int).2).bytes).1⟩ : LetP), ((((((((⟨bs, 0, 0⟩ : Rdr).int).2).int).2).int).2).bytes).2) := by unfold letR; first | (rw [if_pos (by omega)] <;> rfl) | (rw [if_neg (by omega), if_pos (by omega)] <;> rfl) | (rw [if_neg (by omega), if_neg (by omega), if_pos (by omega)] <;> rfl) | (rw [if_neg (by omega), if_neg (by omega), if_neg (by omega), if_pos (by omega)] <;> rfl) | (rw [if_neg (by omega), if_neg (by omega), if_neg (by omega), if_neg (by omega)] <;> rfl)
          have e : unpackB bs = ((⟨((⟨bs, 0, 0⟩ : Rdr).int).1, ((((⟨bs, 0, 0⟩ : Rdr).int).2).int).1, ((((((⟨bs, 0, 0⟩ : Rdr).int).2).int).2).int).1, ⟨0, [], [], 0, [], 0, 0⟩, ⟨0, 0, []⟩, ((((((((⟨bs, 0, 0⟩ : Rdr).int).2).int).2).int).2).bytes).1⟩ : LetP), 0) := by unfold unpackB; rw [if_neg (by omega), if_neg (by omega), if_neg (by omega), if_neg (by rw [hl]; show ¬ ((((((((((⟨bs, 0, 0⟩ : Rdr).int).2).int).2).int).2).bytes).2).end_ ≠ 0); omega), hl]
          exact ⟨none, 0, A155, c156, by rw [e]; rfl, K0, by rw [e]; exact (OwnT.nil _ _ _ _ _), by rw [e]; exact O149⟩
        ·rw [h131]
         have p174 : ¬ (((⟨bs, 0, 0⟩ : Rdr).int).1 = 5) := of_beq_f h131
         refine q_skip (by kernel_rfl) ?_
         refine qs ?_
         refine qs ?_
         refine qg ?_
         refine og 2 [(2, (ptr b1)), (3, (i64 0)), (4, (ptr b13)), (5, (ptr b31)), (39, (i64 (((⟨bs, 0, 0⟩ : Rdr).int).1))), (46, (Value.bool ((((⟨bs, 0, 0⟩ : Rdr).int).1) == 1)))] 2 ?_
         refine od ?_
         refine q_cond (o := .tmp 46) (b := ((((⟨bs, 0, 0⟩ : Rdr).int).1) == 1)) (by kernel_rfl) rfl (fun h175 => ?_) (fun h175 => ?_)
         ·rw [h175]
          have p176 : ((⟨bs, 0, 0⟩ : Rdr).int).1 = 1 := of_beq_t h175
          refine q_skip (by kernel_rfl) ?_
          refine q_then (o := .tmp 46) (by kernel_rfl) rfl ?_
          refine q_exit (id := 4) (by kernel_rfl) ?_
          refine qs ?_
          refine qg ?_
          refine og 1 [(2, (ptr b1)), (3, (i64 0)), (4, (ptr b13)), (5, (ptr b31)), (58, (ptr b13))] 1 ?_
          refine Ops.call (by kernel_rfl) (d := (some 59)) (by kernel_rfl) (RdBytesS_calls _ b13 A14 c15 (((((⟨bs, 0, 0⟩ : Rdr).int).2).int).2) hok67 H66 F69 hne21 ) ?_
          rintro _ w177 ⟨A190, c191, rfl, K178, hO183, H179⟩
          have hok180 : ((((((⟨bs, 0, 0⟩ : Rdr).int).2).int).2).bytes).2.Ok := Rdr.Ok.bytes hok67
          have hu181 := Rdr.bytes_le hok67
          have ob185 : ∀ i, ((Value.slice A190 (((((((⟨bs, 0, 0⟩ : Rdr).int).2).int).2).bytes).1.length) c191)).ownBlock = some i → i ≠ b1 := fun i hi => by have := (World.ownsRow.lt hO183 i hi).1; have := H4.lt; omega
          have ob186 : ∀ i, ((Value.slice A190 (((((((⟨bs, 0, 0⟩ : Rdr).int).2).int).2).bytes).1.length) c191)).ownBlock = some i → i ≠ b13 := fun i hi => by have := (World.ownsRow.lt hO183 i hi).1; have := H66.lt; omega
          have ob187 : ∀ i, ((Value.slice A190 (((((((⟨bs, 0, 0⟩ : Rdr).int).2).int).2).bytes).1.length) c191)).ownBlock = some i → i ≠ b31 := fun i hi => by have := (World.ownsRow.lt hO183 i hi).1; have := H71.lt; omega
          have oo188 : ∀ i o s, A14 = some ⟨i, o, s⟩ → ((Value.slice A190 (((((((⟨bs, 0, 0⟩ : Rdr).int).2).int).2).bytes).1.length) c191)).ownBlock = some i → False := fun i o s hi hs => by have := (World.ownsRow.lt hO183 i hs).1; have := F69.2 i o s hi; omega
          have O184 := own_base hO183 K0.size
          clear hO183
          refine ⟨_, _, rfl, rfl, ?_⟩
          replace K0 := K0.trans K178 (U := none_) (fun i h1 h2 => h2) (fun i h1 h2 => by have h2 : i = b13 := h2; exfalso; omega)
          replace H4 := H4.keep K178 (by intro h; change b1 = b13 at h; omega)
          replace H71 := H71.keep K178 (by intro h; change b31 = b13 at h; omega)
          replace F69 := RdO.keep F69 K178 (fun i _ _ hi hs => by have hs : i = b13 := hs; have := hne21 i _ _ hi; omega)
          clear K178
          have F192 : RdO w177 A14 c15 ((((((⟨bs, 0, 0⟩ : Rdr).int).2).int).2).bytes).2.bs := by rw [Rdr.bytes_bs]; exact F69
          clear F69
          refine og 1 [(2, (ptr b1)), (3, (i64 0)), (4, (ptr b13)), (5, (ptr b31)), (59, (Value.slice A190 (((((((⟨bs, 0, 0⟩ : Rdr).int).2).int).2).bytes).1.length) c191)), (60, (Value.pointer (some ⟨b31, 13, none⟩)))] 3 ?_
          refine Ops.put (t := 28) (b := b31) (off := 13) (v := (Value.slice A190 (((((((⟨bs, 0, 0⟩ : Rdr).int).2).int).2).bytes).1.length) c191)) (ys := [(i64 (((⟨bs, 0, 0⟩ : Rdr).int).1)), (i64 (((((⟨bs, 0, 0⟩ : Rdr).int).2).int).1)), (i64 0), (i64 0), (Value.string ByteArray.empty), (Value.string ByteArray.empty), (i64 0), (Value.string ByteArray.empty), (i64 0), (i64 0), (i64 0), (i64 0), (Value.slice none 0 0), (Value.slice A190 (((((((⟨bs, 0, 0⟩ : Rdr).int).2).int).2).bytes).1.length) c191)]) (by kernel_rfl) (by kernel_rfl) H71 (by kernel_rfl) (d := none) (by kernel_rfl) rfl (fun w193 H194 K195 => ?_)
          clear H71
          replace K0 := K0.trans K195 (U := none_) (fun i h1 h2 => h2) (fun i h1 h2 => by have h2 : i = b31 := h2; exfalso; omega)
          replace H4 := H4.keep K195 (by intro h; change b1 = b31 at h; omega)
          replace H179 := H179.keep K195 (by intro h; change b13 = b31 at h; omega)
          replace F192 := RdO.keep F192 K195 (fun i _ _ hi hs => by have hs : i = b31 := hs; have := ob37 i _ _ hi; omega)
          replace O184 := own_keep O184 K195 (fun i hi hs => by have hs : i = b31 := hs; have := ob187 i hi; omega)
          clear K195
          refine od ?_
          refine q_exit (id := 0) (by kernel_rfl) ?_
          refine qs ?_
          refine qs ?_
          refine qg ?_
          refine og 1 [(2, (ptr b1)), (3, (i64 0)), (5, (ptr b31)), (62, (ptr b13))] 1 ?_
          refine Ops.call (by kernel_rfl) (d := (some 63)) (by kernel_rfl) (RdEnd_calls _ b13 A14 c15 (((((((⟨bs, 0, 0⟩ : Rdr).int).2).int).2).bytes).2) hok180 H179 F192 hne21) ?_
          rintro _ w196 ⟨rfl, K197⟩
          refine ⟨_, _, rfl, rfl, ?_⟩
          replace K0 := K0.t0 K197
          replace H4 := H4.keep K197 (fun h => h)
          replace H179 := H179.keep K197 (fun h => h)
          replace H194 := H194.keep K197 (fun h => h)
          replace F192 := RdO.keep0 F192 K197
          replace O184 := own_keep0 O184 K197
          clear K197
          refine og 1 [(2, (ptr b1)), (3, (i64 0)), (5, (ptr b31)), (7, (i64 ((((((((⟨bs, 0, 0⟩ : Rdr).int).2).int).2).bytes).2).end_)))] 3 ?_
          refine od ?_
          refine qs ?_
          refine qg ?_
          refine og 2 [(2, (ptr b1)), (3, (i64 0)), (5, (ptr b31)), (7, (i64 ((((((((⟨bs, 0, 0⟩ : Rdr).int).2).int).2).bytes).2).end_))), (65, (Value.bool (((((((((⟨bs, 0, 0⟩ : Rdr).int).2).int).2).bytes).2).end_) != 0)))] 2 ?_
          refine od ?_
          refine q_cond (o := .tmp 65) (b := (((((((((⟨bs, 0, 0⟩ : Rdr).int).2).int).2).bytes).2).end_) != 0)) (by kernel_rfl) rfl (fun h198 => ?_) (fun h198 => ?_)
          ·rw [h198]
           have p199 : ¬ ((((((((⟨bs, 0, 0⟩ : Rdr).int).2).int).2).bytes).2).end_ = 0) := of_bne_t h198
           have hecq200 := end_or (((((((⟨bs, 0, 0⟩ : Rdr).int).2).int).2).bytes).2)
           refine qs ?_
           refine qg ?_
           refine og 2 [(2, (ptr b1)), (3, (i64 0)), (5, (ptr b31)), (66, (agg [(i64 0), (i64 0), (i64 0), (i64 0), (Value.string ByteArray.empty), (Value.string ByteArray.empty), (i64 0), (Value.string ByteArray.empty), (i64 0), (i64 0), (i64 0), (i64 0), (Value.slice none 0 0), (Value.slice none 0 0)])), (67, (i64 ((((((((⟨bs, 0, 0⟩ : Rdr).int).2).int).2).bytes).2).end_)))] 2 ?_
           refine Ops.put (t := 33) (b := b1) (off := 0) (v := (agg [(i64 0), (i64 0), (i64 0), (i64 0), (Value.string ByteArray.empty), (Value.string ByteArray.empty), (i64 0), (Value.string ByteArray.empty), (i64 0), (i64 0), (i64 0), (i64 0), (Value.slice none 0 0), (Value.slice none 0 0)])) (ys := [(i64 0), (i64 0), (i64 0), (i64 0), (Value.string ByteArray.empty), (Value.string ByteArray.empty), (i64 0), (Value.string ByteArray.empty), (i64 0), (i64 0), (i64 0), (i64 0), (Value.slice none 0 0), (Value.slice none 0 0)]) (by kernel_rfl) (by kernel_rfl) H4 (by kernel_rfl) (d := none) (by kernel_rfl) rfl (fun w201 H202 K203 => ?_)
           clear H4
           replace K0 := K0.trans K203 (U := none_) (fun i h1 h2 => h2) (fun i h1 h2 => by have h2 : i = b1 := h2; exfalso; omega)
           replace H179 := H179.keep K203 (by intro h; change b13 = b1 at h; omega)
           replace H194 := H194.keep K203 (by intro h; change b31 = b1 at h; omega)
           replace F192 := RdO.keep F192 K203 (fun i _ _ hi hs => by have hs : i = b1 := hs; have := ob24 i _ _ hi; omega)
           replace O184 := own_keep O184 K203 (fun i hi hs => by have hs : i = b1 := hs; have := ob185 i hi; omega)
           clear K203
           refine og 1 [(2, (ptr b1)), (3, (i64 ((((((((⟨bs, 0, 0⟩ : Rdr).int).2).int).2).bytes).2).end_))), (5, (ptr b31))] 4 ?_
           refine od ?_
           refine q_ret (by kernel_rfl) ?_
           refine ⟨(Value.tuple #[(agg [(i64 0), (i64 0), (i64 0), (i64 0), (Value.string ByteArray.empty), (Value.string ByteArray.empty), (i64 0), (Value.string ByteArray.empty), (i64 0), (i64 0), (i64 0), (i64 0), (Value.slice none 0 0), (Value.slice none 0 0)]), (i64 ((((((((⟨bs, 0, 0⟩ : Rdr).int).2).int).2).bytes).2).end_))]), retv_cell_tmp rfl rfl (H202.loads (by kernel_rfl)) rfl, ?_⟩
           have hl2 : (letR (⟨bs, 0, 0⟩ : Rdr).int.1 (⟨bs, 0, 0⟩ : Rdr).int.2).2 = ((((((⟨bs, 0, 0⟩ : Rdr).int).2).int).2).bytes).2 := by unfold letR; first | (rw [if_pos (by omega)] <;> rfl) | (rw [if_neg (by omega), if_pos (by omega)] <;> rfl) | (rw [if_neg (by omega), if_neg (by omega), if_pos (by omega)] <;> rfl) | (rw [if_neg (by omega), if_neg (by omega), if_neg (by omega), if_pos (by omega)] <;> rfl) | (rw [if_neg (by omega), if_neg (by omega), if_neg (by omega), if_neg (by omega)] <;> rfl)
           have e : unpackB bs = (LetP.zero, (((((((⟨bs, 0, 0⟩ : Rdr).int).2).int).2).bytes).2).end_) := by unfold unpackB; rw [if_neg (by omega), if_neg (by omega), if_neg (by omega), if_pos (by rw [hl2]; omega), hl2]
           exact ⟨none, 0, none, 0, by rw [e]; rfl, K0, by rw [e]; exact (OwnT.nil _ _ _ _ _), by rw [e]; exact (World.ownsRow_nil _ _ _ _)⟩
          ·rw [h198]
           have p204 : (((((((⟨bs, 0, 0⟩ : Rdr).int).2).int).2).bytes).2).end_ = 0 := of_bne_f h198
           have hecq205 := end_or (((((((⟨bs, 0, 0⟩ : Rdr).int).2).int).2).bytes).2)
           refine q_skip (by kernel_rfl) ?_
           refine qs ?_
           refine qg ?_
           refine Ops.go (v := (agg [(i64 (((⟨bs, 0, 0⟩ : Rdr).int).1)), (i64 (((((⟨bs, 0, 0⟩ : Rdr).int).2).int).1)), (i64 0), (i64 0), (Value.string ByteArray.empty), (Value.string ByteArray.empty), (i64 0), (Value.string ByteArray.empty), (i64 0), (i64 0), (i64 0), (i64 0), (Value.slice none 0 0), (Value.slice A190 (((((((⟨bs, 0, 0⟩ : Rdr).int).2).int).2).bytes).1.length) c191)])) (by kernel_rfl) (Runs.load (t := 33) (a := ⟨b31, 0, none⟩) (by kernel_rfl) (H194.loads (by kernel_rfl))) (d := (some 68)) (by kernel_rfl) rfl ?_
           refine Ops.put (t := 33) (b := b1) (off := 0) (v := (agg [(i64 (((⟨bs, 0, 0⟩ : Rdr).int).1)), (i64 (((((⟨bs, 0, 0⟩ : Rdr).int).2).int).1)), (i64 0), (i64 0), (Value.string ByteArray.empty), (Value.string ByteArray.empty), (i64 0), (Value.string ByteArray.empty), (i64 0), (i64 0), (i64 0), (i64 0), (Value.slice none 0 0), (Value.slice A190 (((((((⟨bs, 0, 0⟩ : Rdr).int).2).int).2).bytes).1.length) c191)])) (ys := [(i64 (((⟨bs, 0, 0⟩ : Rdr).int).1)), (i64 (((((⟨bs, 0, 0⟩ : Rdr).int).2).int).1)), (i64 0), (i64 0), (Value.string ByteArray.empty), (Value.string ByteArray.empty), (i64 0), (Value.string ByteArray.empty), (i64 0), (i64 0), (i64 0), (i64 0), (Value.slice none 0 0), (Value.slice A190 (((((((⟨bs, 0, 0⟩ : Rdr).int).2).int).2).bytes).1.length) c191)]) (by kernel_rfl) (by kernel_rfl) H4 (by kernel_rfl) (d := none) (by kernel_rfl) rfl (fun w206 H207 K208 => ?_)
           clear H4
           replace K0 := K0.trans K208 (U := none_) (fun i h1 h2 => h2) (fun i h1 h2 => by have h2 : i = b1 := h2; exfalso; omega)
           replace H179 := H179.keep K208 (by intro h; change b13 = b1 at h; omega)
           replace H194 := H194.keep K208 (by intro h; change b31 = b1 at h; omega)
           replace F192 := RdO.keep F192 K208 (fun i _ _ hi hs => by have hs : i = b1 := hs; have := ob24 i _ _ hi; omega)
           replace O184 := own_keep O184 K208 (fun i hi hs => by have hs : i = b1 := hs; have := ob185 i hi; omega)
           clear K208
           refine og 1 [(2, (ptr b1)), (3, (i64 0))] 3 ?_
           refine od ?_
           refine q_ret (by kernel_rfl) ?_
           refine ⟨(Value.tuple #[(agg [(i64 (((⟨bs, 0, 0⟩ : Rdr).int).1)), (i64 (((((⟨bs, 0, 0⟩ : Rdr).int).2).int).1)), (i64 0), (i64 0), (Value.string ByteArray.empty), (Value.string ByteArray.empty), (i64 0), (Value.string ByteArray.empty), (i64 0), (i64 0), (i64 0), (i64 0), (Value.slice none 0 0), (Value.slice A190 (((((((⟨bs, 0, 0⟩ : Rdr).int).2).int).2).bytes).1.length) c191)]), (i64 0)]), retv_cell_tmp rfl rfl (H207.loads (by kernel_rfl)) rfl, ?_⟩
           have hl : letR (⟨bs, 0, 0⟩ : Rdr).int.1 (⟨bs, 0, 0⟩ : Rdr).int.2 = ((⟨((⟨bs, 0, 0⟩ : Rdr).int).1, ((((⟨bs, 0, 0⟩ : Rdr).int).2).int).1, 0, ⟨0, [], [], 0, [], 0, 0⟩, ⟨0, 0, []⟩, ((((((⟨bs, 0, 0⟩ : Rdr).int).2).int).2).bytes).1⟩ : LetP), ((((((⟨bs, 0, 0⟩ : Rdr).int).2).int).2).bytes).2) := by unfold letR; first | (rw [if_pos (by omega)] <;> rfl) | (rw [if_neg (by omega), if_pos (by omega)] <;> rfl) | (rw [if_neg (by omega), if_neg (by omega), if_pos (by omega)] <;> rfl) | (rw [if_neg (by omega), if_neg (by omega), if_neg (by omega), if_pos (by omega)] <;> rfl) | (rw [if_neg (by omega), if_neg (by omega), if_neg (by omega), if_neg (by omega)] <;> rfl)
           have e : unpackB bs = ((⟨((⟨bs, 0, 0⟩ : Rdr).int).1, ((((⟨bs, 0, 0⟩ : Rdr).int).2).int).1, 0, ⟨0, [], [], 0, [], 0, 0⟩, ⟨0, 0, []⟩, ((((((⟨bs, 0, 0⟩ : Rdr).int).2).int).2).bytes).1⟩ : LetP), 0) := by unfold unpackB; rw [if_neg (by omega), if_neg (by omega), if_neg (by omega), if_neg (by rw [hl]; show ¬ ((((((((⟨bs, 0, 0⟩ : Rdr).int).2).int).2).bytes).2).end_ ≠ 0); omega), hl]
           exact ⟨none, 0, A190, c191, by rw [e]; rfl, K0, by rw [e]; exact (OwnT.nil _ _ _ _ _), by rw [e]; exact O184⟩
         ·rw [h175]
          have p209 : ¬ (((⟨bs, 0, 0⟩ : Rdr).int).1 = 1) := of_beq_f h175
          refine qg ?_
          refine og 2 [(2, (ptr b1)), (3, (i64 0)), (4, (ptr b13)), (5, (ptr b31)), (46, (Value.bool ((((⟨bs, 0, 0⟩ : Rdr).int).1) == 4)))] 2 ?_
          refine od ?_
          refine q_cond (o := .tmp 46) (b := ((((⟨bs, 0, 0⟩ : Rdr).int).1) == 4)) (by kernel_rfl) rfl (fun h210 => ?_) (fun h210 => ?_)
          ·rw [h210]
           have p211 : ((⟨bs, 0, 0⟩ : Rdr).int).1 = 4 := of_beq_t h210
           refine q_exit (id := 4) (by kernel_rfl) ?_
           refine qs ?_
           refine qg ?_
           refine og 1 [(2, (ptr b1)), (3, (i64 0)), (4, (ptr b13)), (5, (ptr b31)), (58, (ptr b13))] 1 ?_
           refine Ops.call (by kernel_rfl) (d := (some 59)) (by kernel_rfl) (RdBytesS_calls _ b13 A14 c15 (((((⟨bs, 0, 0⟩ : Rdr).int).2).int).2) hok67 H66 F69 hne21 ) ?_
           rintro _ w212 ⟨A225, c226, rfl, K213, hO218, H214⟩
           have hok215 : ((((((⟨bs, 0, 0⟩ : Rdr).int).2).int).2).bytes).2.Ok := Rdr.Ok.bytes hok67
           have hu216 := Rdr.bytes_le hok67
           have ob220 : ∀ i, ((Value.slice A225 (((((((⟨bs, 0, 0⟩ : Rdr).int).2).int).2).bytes).1.length) c226)).ownBlock = some i → i ≠ b1 := fun i hi => by have := (World.ownsRow.lt hO218 i hi).1; have := H4.lt; omega
           have ob221 : ∀ i, ((Value.slice A225 (((((((⟨bs, 0, 0⟩ : Rdr).int).2).int).2).bytes).1.length) c226)).ownBlock = some i → i ≠ b13 := fun i hi => by have := (World.ownsRow.lt hO218 i hi).1; have := H66.lt; omega
           have ob222 : ∀ i, ((Value.slice A225 (((((((⟨bs, 0, 0⟩ : Rdr).int).2).int).2).bytes).1.length) c226)).ownBlock = some i → i ≠ b31 := fun i hi => by have := (World.ownsRow.lt hO218 i hi).1; have := H71.lt; omega
           have oo223 : ∀ i o s, A14 = some ⟨i, o, s⟩ → ((Value.slice A225 (((((((⟨bs, 0, 0⟩ : Rdr).int).2).int).2).bytes).1.length) c226)).ownBlock = some i → False := fun i o s hi hs => by have := (World.ownsRow.lt hO218 i hs).1; have := F69.2 i o s hi; omega
           have O219 := own_base hO218 K0.size
           clear hO218
           refine ⟨_, _, rfl, rfl, ?_⟩
           replace K0 := K0.trans K213 (U := none_) (fun i h1 h2 => h2) (fun i h1 h2 => by have h2 : i = b13 := h2; exfalso; omega)
           replace H4 := H4.keep K213 (by intro h; change b1 = b13 at h; omega)
           replace H71 := H71.keep K213 (by intro h; change b31 = b13 at h; omega)
           replace F69 := RdO.keep F69 K213 (fun i _ _ hi hs => by have hs : i = b13 := hs; have := hne21 i _ _ hi; omega)
           clear K213
           have F227 : RdO w212 A14 c15 ((((((⟨bs, 0, 0⟩ : Rdr).int).2).int).2).bytes).2.bs := by rw [Rdr.bytes_bs]; exact F69
           clear F69
           refine og 1 [(2, (ptr b1)), (3, (i64 0)), (4, (ptr b13)), (5, (ptr b31)), (59, (Value.slice A225 (((((((⟨bs, 0, 0⟩ : Rdr).int).2).int).2).bytes).1.length) c226)), (60, (Value.pointer (some ⟨b31, 13, none⟩)))] 3 ?_
           refine Ops.put (t := 28) (b := b31) (off := 13) (v := (Value.slice A225 (((((((⟨bs, 0, 0⟩ : Rdr).int).2).int).2).bytes).1.length) c226)) (ys := [(i64 (((⟨bs, 0, 0⟩ : Rdr).int).1)), (i64 (((((⟨bs, 0, 0⟩ : Rdr).int).2).int).1)), (i64 0), (i64 0), (Value.string ByteArray.empty), (Value.string ByteArray.empty), (i64 0), (Value.string ByteArray.empty), (i64 0), (i64 0), (i64 0), (i64 0), (Value.slice none 0 0), (Value.slice A225 (((((((⟨bs, 0, 0⟩ : Rdr).int).2).int).2).bytes).1.length) c226)]) (by kernel_rfl) (by kernel_rfl) H71 (by kernel_rfl) (d := none) (by kernel_rfl) rfl (fun w228 H229 K230 => ?_)
           clear H71
           replace K0 := K0.trans K230 (U := none_) (fun i h1 h2 => h2) (fun i h1 h2 => by have h2 : i = b31 := h2; exfalso; omega)
           replace H4 := H4.keep K230 (by intro h; change b1 = b31 at h; omega)
           replace H214 := H214.keep K230 (by intro h; change b13 = b31 at h; omega)
           replace F227 := RdO.keep F227 K230 (fun i _ _ hi hs => by have hs : i = b31 := hs; have := ob37 i _ _ hi; omega)
           replace O219 := own_keep O219 K230 (fun i hi hs => by have hs : i = b31 := hs; have := ob222 i hi; omega)
           clear K230
           refine od ?_
           refine q_exit (id := 0) (by kernel_rfl) ?_
           refine qs ?_
           refine qs ?_
           refine qg ?_
           refine og 1 [(2, (ptr b1)), (3, (i64 0)), (5, (ptr b31)), (62, (ptr b13))] 1 ?_
           refine Ops.call (by kernel_rfl) (d := (some 63)) (by kernel_rfl) (RdEnd_calls _ b13 A14 c15 (((((((⟨bs, 0, 0⟩ : Rdr).int).2).int).2).bytes).2) hok215 H214 F227 hne21) ?_
           rintro _ w231 ⟨rfl, K232⟩
           refine ⟨_, _, rfl, rfl, ?_⟩
           replace K0 := K0.t0 K232
           replace H4 := H4.keep K232 (fun h => h)
           replace H214 := H214.keep K232 (fun h => h)
           replace H229 := H229.keep K232 (fun h => h)
           replace F227 := RdO.keep0 F227 K232
           replace O219 := own_keep0 O219 K232
           clear K232
           refine og 1 [(2, (ptr b1)), (3, (i64 0)), (5, (ptr b31)), (7, (i64 ((((((((⟨bs, 0, 0⟩ : Rdr).int).2).int).2).bytes).2).end_)))] 3 ?_
           refine od ?_
           refine qs ?_
           refine qg ?_
           refine og 2 [(2, (ptr b1)), (3, (i64 0)), (5, (ptr b31)), (7, (i64 ((((((((⟨bs, 0, 0⟩ : Rdr).int).2).int).2).bytes).2).end_))), (65, (Value.bool (((((((((⟨bs, 0, 0⟩ : Rdr).int).2).int).2).bytes).2).end_) != 0)))] 2 ?_
           refine od ?_
           refine q_cond (o := .tmp 65) (b := (((((((((⟨bs, 0, 0⟩ : Rdr).int).2).int).2).bytes).2).end_) != 0)) (by kernel_rfl) rfl (fun h233 => ?_) (fun h233 => ?_)
           ·rw [h233]
            have p234 : ¬ ((((((((⟨bs, 0, 0⟩ : Rdr).int).2).int).2).bytes).2).end_ = 0) := of_bne_t h233
            have hecq235 := end_or (((((((⟨bs, 0, 0⟩ : Rdr).int).2).int).2).bytes).2)
            refine qs ?_
            refine qg ?_
            refine og 2 [(2, (ptr b1)), (3, (i64 0)), (5, (ptr b31)), (66, (agg [(i64 0), (i64 0), (i64 0), (i64 0), (Value.string ByteArray.empty), (Value.string ByteArray.empty), (i64 0), (Value.string ByteArray.empty), (i64 0), (i64 0), (i64 0), (i64 0), (Value.slice none 0 0), (Value.slice none 0 0)])), (67, (i64 ((((((((⟨bs, 0, 0⟩ : Rdr).int).2).int).2).bytes).2).end_)))] 2 ?_
            refine Ops.put (t := 33) (b := b1) (off := 0) (v := (agg [(i64 0), (i64 0), (i64 0), (i64 0), (Value.string ByteArray.empty), (Value.string ByteArray.empty), (i64 0), (Value.string ByteArray.empty), (i64 0), (i64 0), (i64 0), (i64 0), (Value.slice none 0 0), (Value.slice none 0 0)])) (ys := [(i64 0), (i64 0), (i64 0), (i64 0), (Value.string ByteArray.empty), (Value.string ByteArray.empty), (i64 0), (Value.string ByteArray.empty), (i64 0), (i64 0), (i64 0), (i64 0), (Value.slice none 0 0), (Value.slice none 0 0)]) (by kernel_rfl) (by kernel_rfl) H4 (by kernel_rfl) (d := none) (by kernel_rfl) rfl (fun w236 H237 K238 => ?_)
            clear H4
            replace K0 := K0.trans K238 (U := none_) (fun i h1 h2 => h2) (fun i h1 h2 => by have h2 : i = b1 := h2; exfalso; omega)
            replace H214 := H214.keep K238 (by intro h; change b13 = b1 at h; omega)
            replace H229 := H229.keep K238 (by intro h; change b31 = b1 at h; omega)
            replace F227 := RdO.keep F227 K238 (fun i _ _ hi hs => by have hs : i = b1 := hs; have := ob24 i _ _ hi; omega)
            replace O219 := own_keep O219 K238 (fun i hi hs => by have hs : i = b1 := hs; have := ob220 i hi; omega)
            clear K238
            refine og 1 [(2, (ptr b1)), (3, (i64 ((((((((⟨bs, 0, 0⟩ : Rdr).int).2).int).2).bytes).2).end_))), (5, (ptr b31))] 4 ?_
            refine od ?_
            refine q_ret (by kernel_rfl) ?_
            refine ⟨(Value.tuple #[(agg [(i64 0), (i64 0), (i64 0), (i64 0), (Value.string ByteArray.empty), (Value.string ByteArray.empty), (i64 0), (Value.string ByteArray.empty), (i64 0), (i64 0), (i64 0), (i64 0), (Value.slice none 0 0), (Value.slice none 0 0)]), (i64 ((((((((⟨bs, 0, 0⟩ : Rdr).int).2).int).2).bytes).2).end_))]), retv_cell_tmp rfl rfl (H237.loads (by kernel_rfl)) rfl, ?_⟩
            have hl2 : (letR (⟨bs, 0, 0⟩ : Rdr).int.1 (⟨bs, 0, 0⟩ : Rdr).int.2).2 = ((((((⟨bs, 0, 0⟩ : Rdr).int).2).int).2).bytes).2 := by unfold letR; first | (rw [if_pos (by omega)] <;> rfl) | (rw [if_neg (by omega), if_pos (by omega)] <;> rfl) | (rw [if_neg (by omega), if_neg (by omega), if_pos (by omega)] <;> rfl) | (rw [if_neg (by omega), if_neg (by omega), if_neg (by omega), if_pos (by omega)] <;> rfl) | (rw [if_neg (by omega), if_neg (by omega), if_neg (by omega), if_neg (by omega)] <;> rfl)
            have e : unpackB bs = (LetP.zero, (((((((⟨bs, 0, 0⟩ : Rdr).int).2).int).2).bytes).2).end_) := by unfold unpackB; rw [if_neg (by omega), if_neg (by omega), if_neg (by omega), if_pos (by rw [hl2]; omega), hl2]
            exact ⟨none, 0, none, 0, by rw [e]; rfl, K0, by rw [e]; exact (OwnT.nil _ _ _ _ _), by rw [e]; exact (World.ownsRow_nil _ _ _ _)⟩
           ·rw [h233]
            have p239 : (((((((⟨bs, 0, 0⟩ : Rdr).int).2).int).2).bytes).2).end_ = 0 := of_bne_f h233
            have hecq240 := end_or (((((((⟨bs, 0, 0⟩ : Rdr).int).2).int).2).bytes).2)
            refine q_skip (by kernel_rfl) ?_
            refine qs ?_
            refine qg ?_
            refine Ops.go (v := (agg [(i64 (((⟨bs, 0, 0⟩ : Rdr).int).1)), (i64 (((((⟨bs, 0, 0⟩ : Rdr).int).2).int).1)), (i64 0), (i64 0), (Value.string ByteArray.empty), (Value.string ByteArray.empty), (i64 0), (Value.string ByteArray.empty), (i64 0), (i64 0), (i64 0), (i64 0), (Value.slice none 0 0), (Value.slice A225 (((((((⟨bs, 0, 0⟩ : Rdr).int).2).int).2).bytes).1.length) c226)])) (by kernel_rfl) (Runs.load (t := 33) (a := ⟨b31, 0, none⟩) (by kernel_rfl) (H229.loads (by kernel_rfl))) (d := (some 68)) (by kernel_rfl) rfl ?_
            refine Ops.put (t := 33) (b := b1) (off := 0) (v := (agg [(i64 (((⟨bs, 0, 0⟩ : Rdr).int).1)), (i64 (((((⟨bs, 0, 0⟩ : Rdr).int).2).int).1)), (i64 0), (i64 0), (Value.string ByteArray.empty), (Value.string ByteArray.empty), (i64 0), (Value.string ByteArray.empty), (i64 0), (i64 0), (i64 0), (i64 0), (Value.slice none 0 0), (Value.slice A225 (((((((⟨bs, 0, 0⟩ : Rdr).int).2).int).2).bytes).1.length) c226)])) (ys := [(i64 (((⟨bs, 0, 0⟩ : Rdr).int).1)), (i64 (((((⟨bs, 0, 0⟩ : Rdr).int).2).int).1)), (i64 0), (i64 0), (Value.string ByteArray.empty), (Value.string ByteArray.empty), (i64 0), (Value.string ByteArray.empty), (i64 0), (i64 0), (i64 0), (i64 0), (Value.slice none 0 0), (Value.slice A225 (((((((⟨bs, 0, 0⟩ : Rdr).int).2).int).2).bytes).1.length) c226)]) (by kernel_rfl) (by kernel_rfl) H4 (by kernel_rfl) (d := none) (by kernel_rfl) rfl (fun w241 H242 K243 => ?_)
            clear H4
            replace K0 := K0.trans K243 (U := none_) (fun i h1 h2 => h2) (fun i h1 h2 => by have h2 : i = b1 := h2; exfalso; omega)
            replace H214 := H214.keep K243 (by intro h; change b13 = b1 at h; omega)
            replace H229 := H229.keep K243 (by intro h; change b31 = b1 at h; omega)
            replace F227 := RdO.keep F227 K243 (fun i _ _ hi hs => by have hs : i = b1 := hs; have := ob24 i _ _ hi; omega)
            replace O219 := own_keep O219 K243 (fun i hi hs => by have hs : i = b1 := hs; have := ob220 i hi; omega)
            clear K243
            refine og 1 [(2, (ptr b1)), (3, (i64 0))] 3 ?_
            refine od ?_
            refine q_ret (by kernel_rfl) ?_
            refine ⟨(Value.tuple #[(agg [(i64 (((⟨bs, 0, 0⟩ : Rdr).int).1)), (i64 (((((⟨bs, 0, 0⟩ : Rdr).int).2).int).1)), (i64 0), (i64 0), (Value.string ByteArray.empty), (Value.string ByteArray.empty), (i64 0), (Value.string ByteArray.empty), (i64 0), (i64 0), (i64 0), (i64 0), (Value.slice none 0 0), (Value.slice A225 (((((((⟨bs, 0, 0⟩ : Rdr).int).2).int).2).bytes).1.length) c226)]), (i64 0)]), retv_cell_tmp rfl rfl (H242.loads (by kernel_rfl)) rfl, ?_⟩
            have hl : letR (⟨bs, 0, 0⟩ : Rdr).int.1 (⟨bs, 0, 0⟩ : Rdr).int.2 = ((⟨((⟨bs, 0, 0⟩ : Rdr).int).1, ((((⟨bs, 0, 0⟩ : Rdr).int).2).int).1, 0, ⟨0, [], [], 0, [], 0, 0⟩, ⟨0, 0, []⟩, ((((((⟨bs, 0, 0⟩ : Rdr).int).2).int).2).bytes).1⟩ : LetP), ((((((⟨bs, 0, 0⟩ : Rdr).int).2).int).2).bytes).2) := by unfold letR; first | (rw [if_pos (by omega)] <;> rfl) | (rw [if_neg (by omega), if_pos (by omega)] <;> rfl) | (rw [if_neg (by omega), if_neg (by omega), if_pos (by omega)] <;> rfl) | (rw [if_neg (by omega), if_neg (by omega), if_neg (by omega), if_pos (by omega)] <;> rfl) | (rw [if_neg (by omega), if_neg (by omega), if_neg (by omega), if_neg (by omega)] <;> rfl)
            have e : unpackB bs = ((⟨((⟨bs, 0, 0⟩ : Rdr).int).1, ((((⟨bs, 0, 0⟩ : Rdr).int).2).int).1, 0, ⟨0, [], [], 0, [], 0, 0⟩, ⟨0, 0, []⟩, ((((((⟨bs, 0, 0⟩ : Rdr).int).2).int).2).bytes).1⟩ : LetP), 0) := by unfold unpackB; rw [if_neg (by omega), if_neg (by omega), if_neg (by omega), if_neg (by rw [hl]; show ¬ ((((((((⟨bs, 0, 0⟩ : Rdr).int).2).int).2).bytes).2).end_ ≠ 0); omega), hl]
            exact ⟨none, 0, A225, c226, by rw [e]; rfl, K0, by rw [e]; exact (OwnT.nil _ _ _ _ _), by rw [e]; exact O219⟩
          ·rw [h210]
           have p244 : ¬ (((⟨bs, 0, 0⟩ : Rdr).int).1 = 4) := of_beq_f h210
           refine q_skip (by kernel_rfl) ?_
           refine q_exit (id := 5) (by kernel_rfl) ?_
           refine qs ?_
           refine qs ?_
           refine qg ?_
           refine og 1 [(2, (ptr b1)), (3, (i64 0)), (4, (ptr b13)), (5, (ptr b31)), (61, (agg [(i64 0), (i64 0), (i64 0), (i64 0), (Value.string ByteArray.empty), (Value.string ByteArray.empty), (i64 0), (Value.string ByteArray.empty), (i64 0), (i64 0), (i64 0), (i64 0), (Value.slice none 0 0), (Value.slice none 0 0)]))] 1 ?_
           refine Ops.put (t := 33) (b := b1) (off := 0) (v := (agg [(i64 0), (i64 0), (i64 0), (i64 0), (Value.string ByteArray.empty), (Value.string ByteArray.empty), (i64 0), (Value.string ByteArray.empty), (i64 0), (i64 0), (i64 0), (i64 0), (Value.slice none 0 0), (Value.slice none 0 0)])) (ys := [(i64 0), (i64 0), (i64 0), (i64 0), (Value.string ByteArray.empty), (Value.string ByteArray.empty), (i64 0), (Value.string ByteArray.empty), (i64 0), (i64 0), (i64 0), (i64 0), (Value.slice none 0 0), (Value.slice none 0 0)]) (by kernel_rfl) (by kernel_rfl) H4 (by kernel_rfl) (d := none) (by kernel_rfl) rfl (fun w245 H246 K247 => ?_)
           clear H4
           replace K0 := K0.trans K247 (U := none_) (fun i h1 h2 => h2) (fun i h1 h2 => by have h2 : i = b1 := h2; exfalso; omega)
           replace H66 := H66.keep K247 (by intro h; change b13 = b1 at h; omega)
           replace H71 := H71.keep K247 (by intro h; change b31 = b1 at h; omega)
           replace F69 := RdO.keep F69 K247 (fun i _ _ hi hs => by have hs : i = b1 := hs; have := ob24 i _ _ hi; omega)
           clear K247
           refine og 1 [(2, (ptr b1)), (3, (i64 1)), (4, (ptr b13)), (5, (ptr b31))] 3 ?_
           refine od ?_
           refine q_ret (by kernel_rfl) ?_
           refine ⟨(Value.tuple #[(agg [(i64 0), (i64 0), (i64 0), (i64 0), (Value.string ByteArray.empty), (Value.string ByteArray.empty), (i64 0), (Value.string ByteArray.empty), (i64 0), (i64 0), (i64 0), (i64 0), (Value.slice none 0 0), (Value.slice none 0 0)]), (i64 1)]), retv_cell_tmp rfl rfl (H246.loads (by kernel_rfl)) rfl, ?_⟩
           have e : unpackB bs = (LetP.zero, 1) := by unfold unpackB; rw [if_neg (by omega), if_neg (by omega), if_pos (by omega)]
           exact ⟨none, 0, none, 0, by rw [e]; rfl, K0, by rw [e]; exact (OwnT.nil _ _ _ _ _), by rw [e]; exact (World.ownsRow_nil _ _ _ _)⟩
     ·rw [h62]
      have p248 : ((⟨bs, 0, 0⟩ : Rdr).int).1 = 1 := of_bne_f h62
      refine q_skip (by kernel_rfl) ?_
      refine qs ?_
      refine qs ?_
      refine qg ?_
      refine og 1 [(2, (ptr b1)), (3, (i64 0)), (4, (ptr b13)), (5, (ptr b31)), (38, (ptr b31))] 1 ?_
      refine Ops.go (v := (i64 (((⟨bs, 0, 0⟩ : Rdr).int).1))) (by kernel_rfl) (Runs.load (t := 3) (a := ⟨b31, 0, none⟩) (by kernel_rfl) (H39.loads (by kernel_rfl))) (d := (some 39)) (by kernel_rfl) rfl ?_
      refine od ?_
      refine q_block (id := 0) (by kernel_rfl) ?_
      refine qs ?_
      refine q_block (id := 5) (by kernel_rfl) ?_
      refine qs ?_
      refine q_block (id := 4) (by kernel_rfl) ?_
      refine qs ?_
      refine q_block (id := 3) (by kernel_rfl) ?_
      refine qs ?_
      refine q_block (id := 2) (by kernel_rfl) ?_
      refine qs ?_
      refine q_block (id := 1) (by kernel_rfl) ?_
      refine qs ?_
      refine qs ?_
      refine qs ?_
      refine qg ?_
      refine og 2 [(2, (ptr b1)), (3, (i64 0)), (4, (ptr b13)), (5, (ptr b31)), (39, (i64 (((⟨bs, 0, 0⟩ : Rdr).int).1))), (40, (Value.bool ((((⟨bs, 0, 0⟩ : Rdr).int).1) == 2)))] 2 ?_
      refine od ?_
      have h249 : ((((⟨bs, 0, 0⟩ : Rdr).int).1) == 2) = false := beq_f (by omega)
      rw [h249]
      refine q_else (o := .tmp 40) (by kernel_rfl) rfl ?_
      refine q_skip (by kernel_rfl) ?_
      refine qs ?_
      refine qs ?_
      refine qg ?_
      refine og 2 [(2, (ptr b1)), (3, (i64 0)), (4, (ptr b13)), (5, (ptr b31)), (39, (i64 (((⟨bs, 0, 0⟩ : Rdr).int).1))), (42, (Value.bool ((((⟨bs, 0, 0⟩ : Rdr).int).1) == 3)))] 2 ?_
      refine od ?_
      have h250 : ((((⟨bs, 0, 0⟩ : Rdr).int).1) == 3) = false := beq_f (by omega)
      rw [h250]
      refine q_else (o := .tmp 42) (by kernel_rfl) rfl ?_
      refine q_skip (by kernel_rfl) ?_
      refine qs ?_
      refine qs ?_
      refine qg ?_
      refine og 2 [(2, (ptr b1)), (3, (i64 0)), (4, (ptr b13)), (5, (ptr b31)), (39, (i64 (((⟨bs, 0, 0⟩ : Rdr).int).1))), (44, (Value.bool ((((⟨bs, 0, 0⟩ : Rdr).int).1) == 5)))] 2 ?_
      refine od ?_
      have h251 : ((((⟨bs, 0, 0⟩ : Rdr).int).1) == 5) = false := beq_f (by omega)
      rw [h251]
      refine q_else (o := .tmp 44) (by kernel_rfl) rfl ?_
      refine q_skip (by kernel_rfl) ?_
      refine qs ?_
      refine qs ?_
      refine qg ?_
      refine og 2 [(2, (ptr b1)), (3, (i64 0)), (4, (ptr b13)), (5, (ptr b31)), (39, (i64 (((⟨bs, 0, 0⟩ : Rdr).int).1))), (46, (Value.bool ((((⟨bs, 0, 0⟩ : Rdr).int).1) == 1)))] 2 ?_
      refine od ?_
      have h252 : ((((⟨bs, 0, 0⟩ : Rdr).int).1) == 1) = true := beq_t (by omega)
      rw [h252]
      refine q_then (o := .tmp 46) (by kernel_rfl) rfl ?_
      refine q_skip (by kernel_rfl) ?_
      refine q_then (o := .tmp 46) (by kernel_rfl) rfl ?_
      refine q_exit (id := 4) (by kernel_rfl) ?_
      refine qs ?_
      refine qg ?_
      refine og 1 [(2, (ptr b1)), (3, (i64 0)), (4, (ptr b13)), (5, (ptr b31)), (58, (ptr b13))] 1 ?_
      refine Ops.call (by kernel_rfl) (d := (some 59)) (by kernel_rfl) (RdBytesS_calls _ b13 A14 c15 (((⟨bs, 0, 0⟩ : Rdr).int).2) hok28 H27 F30 hne21 ) ?_
      rintro _ w253 ⟨A266, c267, rfl, K254, hO259, H255⟩
      have hok256 : ((((⟨bs, 0, 0⟩ : Rdr).int).2).bytes).2.Ok := Rdr.Ok.bytes hok28
      have hu257 := Rdr.bytes_le hok28
      have ob261 : ∀ i, ((Value.slice A266 (((((⟨bs, 0, 0⟩ : Rdr).int).2).bytes).1.length) c267)).ownBlock = some i → i ≠ b1 := fun i hi => by have := (World.ownsRow.lt hO259 i hi).1; have := H4.lt; omega
      have ob262 : ∀ i, ((Value.slice A266 (((((⟨bs, 0, 0⟩ : Rdr).int).2).bytes).1.length) c267)).ownBlock = some i → i ≠ b13 := fun i hi => by have := (World.ownsRow.lt hO259 i hi).1; have := H27.lt; omega
      have ob263 : ∀ i, ((Value.slice A266 (((((⟨bs, 0, 0⟩ : Rdr).int).2).bytes).1.length) c267)).ownBlock = some i → i ≠ b31 := fun i hi => by have := (World.ownsRow.lt hO259 i hi).1; have := H39.lt; omega
      have oo264 : ∀ i o s, A14 = some ⟨i, o, s⟩ → ((Value.slice A266 (((((⟨bs, 0, 0⟩ : Rdr).int).2).bytes).1.length) c267)).ownBlock = some i → False := fun i o s hi hs => by have := (World.ownsRow.lt hO259 i hs).1; have := F30.2 i o s hi; omega
      have O260 := own_base hO259 K0.size
      clear hO259
      refine ⟨_, _, rfl, rfl, ?_⟩
      replace K0 := K0.trans K254 (U := none_) (fun i h1 h2 => h2) (fun i h1 h2 => by have h2 : i = b13 := h2; exfalso; omega)
      replace H4 := H4.keep K254 (by intro h; change b1 = b13 at h; omega)
      replace H39 := H39.keep K254 (by intro h; change b31 = b13 at h; omega)
      replace F30 := RdO.keep F30 K254 (fun i _ _ hi hs => by have hs : i = b13 := hs; have := hne21 i _ _ hi; omega)
      clear K254
      have F268 : RdO w253 A14 c15 ((((⟨bs, 0, 0⟩ : Rdr).int).2).bytes).2.bs := by rw [Rdr.bytes_bs]; exact F30
      clear F30
      refine og 1 [(2, (ptr b1)), (3, (i64 0)), (4, (ptr b13)), (5, (ptr b31)), (59, (Value.slice A266 (((((⟨bs, 0, 0⟩ : Rdr).int).2).bytes).1.length) c267)), (60, (Value.pointer (some ⟨b31, 13, none⟩)))] 3 ?_
      refine Ops.put (t := 28) (b := b31) (off := 13) (v := (Value.slice A266 (((((⟨bs, 0, 0⟩ : Rdr).int).2).bytes).1.length) c267)) (ys := [(i64 (((⟨bs, 0, 0⟩ : Rdr).int).1)), (i64 0), (i64 0), (i64 0), (Value.string ByteArray.empty), (Value.string ByteArray.empty), (i64 0), (Value.string ByteArray.empty), (i64 0), (i64 0), (i64 0), (i64 0), (Value.slice none 0 0), (Value.slice A266 (((((⟨bs, 0, 0⟩ : Rdr).int).2).bytes).1.length) c267)]) (by kernel_rfl) (by kernel_rfl) H39 (by kernel_rfl) (d := none) (by kernel_rfl) rfl (fun w269 H270 K271 => ?_)
      clear H39
      replace K0 := K0.trans K271 (U := none_) (fun i h1 h2 => h2) (fun i h1 h2 => by have h2 : i = b31 := h2; exfalso; omega)
      replace H4 := H4.keep K271 (by intro h; change b1 = b31 at h; omega)
      replace H255 := H255.keep K271 (by intro h; change b13 = b31 at h; omega)
      replace F268 := RdO.keep F268 K271 (fun i _ _ hi hs => by have hs : i = b31 := hs; have := ob37 i _ _ hi; omega)
      replace O260 := own_keep O260 K271 (fun i hi hs => by have hs : i = b31 := hs; have := ob263 i hi; omega)
      clear K271
      refine od ?_
      refine q_exit (id := 0) (by kernel_rfl) ?_
      refine qs ?_
      refine qs ?_
      refine qg ?_
      refine og 1 [(2, (ptr b1)), (3, (i64 0)), (5, (ptr b31)), (62, (ptr b13))] 1 ?_
      refine Ops.call (by kernel_rfl) (d := (some 63)) (by kernel_rfl) (RdEnd_calls _ b13 A14 c15 (((((⟨bs, 0, 0⟩ : Rdr).int).2).bytes).2) hok256 H255 F268 hne21) ?_
      rintro _ w272 ⟨rfl, K273⟩
      refine ⟨_, _, rfl, rfl, ?_⟩
      replace K0 := K0.t0 K273
      replace H4 := H4.keep K273 (fun h => h)
      replace H255 := H255.keep K273 (fun h => h)
      replace H270 := H270.keep K273 (fun h => h)
      replace F268 := RdO.keep0 F268 K273
      replace O260 := own_keep0 O260 K273
      clear K273
      refine og 1 [(2, (ptr b1)), (3, (i64 0)), (5, (ptr b31)), (7, (i64 ((((((⟨bs, 0, 0⟩ : Rdr).int).2).bytes).2).end_)))] 3 ?_
      refine od ?_
      refine qs ?_
      refine qg ?_
      refine og 2 [(2, (ptr b1)), (3, (i64 0)), (5, (ptr b31)), (7, (i64 ((((((⟨bs, 0, 0⟩ : Rdr).int).2).bytes).2).end_))), (65, (Value.bool (((((((⟨bs, 0, 0⟩ : Rdr).int).2).bytes).2).end_) != 0)))] 2 ?_
      refine od ?_
      refine q_cond (o := .tmp 65) (b := (((((((⟨bs, 0, 0⟩ : Rdr).int).2).bytes).2).end_) != 0)) (by kernel_rfl) rfl (fun h274 => ?_) (fun h274 => ?_)
      ·rw [h274]
       have p275 : ¬ ((((((⟨bs, 0, 0⟩ : Rdr).int).2).bytes).2).end_ = 0) := of_bne_t h274
       have hecq276 := end_or (((((⟨bs, 0, 0⟩ : Rdr).int).2).bytes).2)
       refine qs ?_
       refine qg ?_
       refine og 2 [(2, (ptr b1)), (3, (i64 0)), (5, (ptr b31)), (66, (agg [(i64 0), (i64 0), (i64 0), (i64 0), (Value.string ByteArray.empty), (Value.string ByteArray.empty), (i64 0), (Value.string ByteArray.empty), (i64 0), (i64 0), (i64 0), (i64 0), (Value.slice none 0 0), (Value.slice none 0 0)])), (67, (i64 ((((((⟨bs, 0, 0⟩ : Rdr).int).2).bytes).2).end_)))] 2 ?_
       refine Ops.put (t := 33) (b := b1) (off := 0) (v := (agg [(i64 0), (i64 0), (i64 0), (i64 0), (Value.string ByteArray.empty), (Value.string ByteArray.empty), (i64 0), (Value.string ByteArray.empty), (i64 0), (i64 0), (i64 0), (i64 0), (Value.slice none 0 0), (Value.slice none 0 0)])) (ys := [(i64 0), (i64 0), (i64 0), (i64 0), (Value.string ByteArray.empty), (Value.string ByteArray.empty), (i64 0), (Value.string ByteArray.empty), (i64 0), (i64 0), (i64 0), (i64 0), (Value.slice none 0 0), (Value.slice none 0 0)]) (by kernel_rfl) (by kernel_rfl) H4 (by kernel_rfl) (d := none) (by kernel_rfl) rfl (fun w277 H278 K279 => ?_)
       clear H4
       replace K0 := K0.trans K279 (U := none_) (fun i h1 h2 => h2) (fun i h1 h2 => by have h2 : i = b1 := h2; exfalso; omega)
       replace H255 := H255.keep K279 (by intro h; change b13 = b1 at h; omega)
       replace H270 := H270.keep K279 (by intro h; change b31 = b1 at h; omega)
       replace F268 := RdO.keep F268 K279 (fun i _ _ hi hs => by have hs : i = b1 := hs; have := ob24 i _ _ hi; omega)
       replace O260 := own_keep O260 K279 (fun i hi hs => by have hs : i = b1 := hs; have := ob261 i hi; omega)
       clear K279
       refine og 1 [(2, (ptr b1)), (3, (i64 ((((((⟨bs, 0, 0⟩ : Rdr).int).2).bytes).2).end_))), (5, (ptr b31))] 4 ?_
       refine od ?_
       refine q_ret (by kernel_rfl) ?_
       refine ⟨(Value.tuple #[(agg [(i64 0), (i64 0), (i64 0), (i64 0), (Value.string ByteArray.empty), (Value.string ByteArray.empty), (i64 0), (Value.string ByteArray.empty), (i64 0), (i64 0), (i64 0), (i64 0), (Value.slice none 0 0), (Value.slice none 0 0)]), (i64 ((((((⟨bs, 0, 0⟩ : Rdr).int).2).bytes).2).end_))]), retv_cell_tmp rfl rfl (H278.loads (by kernel_rfl)) rfl, ?_⟩
       have hl2 : (letR (⟨bs, 0, 0⟩ : Rdr).int.1 (⟨bs, 0, 0⟩ : Rdr).int.2).2 = ((((⟨bs, 0, 0⟩ : Rdr).int).2).bytes).2 := by unfold letR; first | (rw [if_pos (by omega)] <;> rfl) | (rw [if_neg (by omega), if_pos (by omega)] <;> rfl) | (rw [if_neg (by omega), if_neg (by omega), if_pos (by omega)] <;> rfl) | (rw [if_neg (by omega), if_neg (by omega), if_neg (by omega), if_pos (by omega)] <;> rfl) | (rw [if_neg (by omega), if_neg (by omega), if_neg (by omega), if_neg (by omega)] <;> rfl)
       have e : unpackB bs = (LetP.zero, (((((⟨bs, 0, 0⟩ : Rdr).int).2).bytes).2).end_) := by unfold unpackB; rw [if_neg (by omega), if_neg (by omega), if_neg (by omega), if_pos (by rw [hl2]; omega), hl2]
       exact ⟨none, 0, none, 0, by rw [e]; rfl, K0, by rw [e]; exact (OwnT.nil _ _ _ _ _), by rw [e]; exact (World.ownsRow_nil _ _ _ _)⟩
      ·rw [h274]
       have p280 : (((((⟨bs, 0, 0⟩ : Rdr).int).2).bytes).2).end_ = 0 := of_bne_f h274
       have hecq281 := end_or (((((⟨bs, 0, 0⟩ : Rdr).int).2).bytes).2)
       refine q_skip (by kernel_rfl) ?_
       refine qs ?_
       refine qg ?_
       refine Ops.go (v := (agg [(i64 (((⟨bs, 0, 0⟩ : Rdr).int).1)), (i64 0), (i64 0), (i64 0), (Value.string ByteArray.empty), (Value.string ByteArray.empty), (i64 0), (Value.string ByteArray.empty), (i64 0), (i64 0), (i64 0), (i64 0), (Value.slice none 0 0), (Value.slice A266 (((((⟨bs, 0, 0⟩ : Rdr).int).2).bytes).1.length) c267)])) (by kernel_rfl) (Runs.load (t := 33) (a := ⟨b31, 0, none⟩) (by kernel_rfl) (H270.loads (by kernel_rfl))) (d := (some 68)) (by kernel_rfl) rfl ?_
       refine Ops.put (t := 33) (b := b1) (off := 0) (v := (agg [(i64 (((⟨bs, 0, 0⟩ : Rdr).int).1)), (i64 0), (i64 0), (i64 0), (Value.string ByteArray.empty), (Value.string ByteArray.empty), (i64 0), (Value.string ByteArray.empty), (i64 0), (i64 0), (i64 0), (i64 0), (Value.slice none 0 0), (Value.slice A266 (((((⟨bs, 0, 0⟩ : Rdr).int).2).bytes).1.length) c267)])) (ys := [(i64 (((⟨bs, 0, 0⟩ : Rdr).int).1)), (i64 0), (i64 0), (i64 0), (Value.string ByteArray.empty), (Value.string ByteArray.empty), (i64 0), (Value.string ByteArray.empty), (i64 0), (i64 0), (i64 0), (i64 0), (Value.slice none 0 0), (Value.slice A266 (((((⟨bs, 0, 0⟩ : Rdr).int).2).bytes).1.length) c267)]) (by kernel_rfl) (by kernel_rfl) H4 (by kernel_rfl) (d := none) (by kernel_rfl) rfl (fun w282 H283 K284 => ?_)
       clear H4
       replace K0 := K0.trans K284 (U := none_) (fun i h1 h2 => h2) (fun i h1 h2 => by have h2 : i = b1 := h2; exfalso; omega)
       replace H255 := H255.keep K284 (by intro h; change b13 = b1 at h; omega)
       replace H270 := H270.keep K284 (by intro h; change b31 = b1 at h; omega)
       replace F268 := RdO.keep F268 K284 (fun i _ _ hi hs => by have hs : i = b1 := hs; have := ob24 i _ _ hi; omega)
       replace O260 := own_keep O260 K284 (fun i hi hs => by have hs : i = b1 := hs; have := ob261 i hi; omega)
       clear K284
       refine og 1 [(2, (ptr b1)), (3, (i64 0))] 3 ?_
       refine od ?_
       refine q_ret (by kernel_rfl) ?_
       refine ⟨(Value.tuple #[(agg [(i64 (((⟨bs, 0, 0⟩ : Rdr).int).1)), (i64 0), (i64 0), (i64 0), (Value.string ByteArray.empty), (Value.string ByteArray.empty), (i64 0), (Value.string ByteArray.empty), (i64 0), (i64 0), (i64 0), (i64 0), (Value.slice none 0 0), (Value.slice A266 (((((⟨bs, 0, 0⟩ : Rdr).int).2).bytes).1.length) c267)]), (i64 0)]), retv_cell_tmp rfl rfl (H283.loads (by kernel_rfl)) rfl, ?_⟩
       have hl : letR (⟨bs, 0, 0⟩ : Rdr).int.1 (⟨bs, 0, 0⟩ : Rdr).int.2 = ((⟨((⟨bs, 0, 0⟩ : Rdr).int).1, 0, 0, ⟨0, [], [], 0, [], 0, 0⟩, ⟨0, 0, []⟩, ((((⟨bs, 0, 0⟩ : Rdr).int).2).bytes).1⟩ : LetP), ((((⟨bs, 0, 0⟩ : Rdr).int).2).bytes).2) := by unfold letR; first | (rw [if_pos (by omega)] <;> rfl) | (rw [if_neg (by omega), if_pos (by omega)] <;> rfl) | (rw [if_neg (by omega), if_neg (by omega), if_pos (by omega)] <;> rfl) | (rw [if_neg (by omega), if_neg (by omega), if_neg (by omega), if_pos (by omega)] <;> rfl) | (rw [if_neg (by omega), if_neg (by omega), if_neg (by omega), if_neg (by omega)] <;> rfl)
       have e : unpackB bs = ((⟨((⟨bs, 0, 0⟩ : Rdr).int).1, 0, 0, ⟨0, [], [], 0, [], 0, 0⟩, ⟨0, 0, []⟩, ((((⟨bs, 0, 0⟩ : Rdr).int).2).bytes).1⟩ : LetP), 0) := by unfold unpackB; rw [if_neg (by omega), if_neg (by omega), if_neg (by omega), if_neg (by rw [hl]; show ¬ ((((((⟨bs, 0, 0⟩ : Rdr).int).2).bytes).2).end_ ≠ 0); omega), hl]
       exact ⟨none, 0, A266, c267, by rw [e]; rfl, K0, by rw [e]; exact (OwnT.nil _ _ _ _ _), by rw [e]; exact O260⟩
  ·rw [h43]
   have p285 : (((⟨bs, 0, 0⟩ : Rdr).int).2).end_ = 0 := of_bne_f h43
   have hecq286 := end_or (((⟨bs, 0, 0⟩ : Rdr).int).2)
   refine og 5 [(2, (ptr b1)), (3, (i64 0)), (4, (ptr b13)), (5, (ptr b31)), (6, (i64 ((((⟨bs, 0, 0⟩ : Rdr).int).2).end_))), (25, (Value.bool false)), (26, (ptr b13))] 8 ?_
   refine Ops.call (by kernel_rfl) (d := (some 27)) (by kernel_rfl) (At_calls _ b13 A14 c15 (((⟨bs, 0, 0⟩ : Rdr).int).2) hok28 H27 F30 hne21) ?_
   rintro _ w287 ⟨rfl, K288⟩
   refine ⟨_, _, rfl, rfl, ?_⟩
   replace K0 := K0.t0 K288
   replace H4 := H4.keep K288 (fun h => h)
   replace H27 := H27.keep K288 (fun h => h)
   replace H39 := H39.keep K288 (fun h => h)
   replace F30 := RdO.keep0 F30 K288
   clear K288
   refine og 2 [(2, (ptr b1)), (3, (i64 0)), (4, (ptr b13)), (5, (ptr b31)), (6, (i64 ((((⟨bs, 0, 0⟩ : Rdr).int).2).end_))), (29, (Value.bool ((((((⟨bs, 0, 0⟩ : Rdr).int).2).pos : Nat) : Int) == 0)))] 11 ?_
   refine od ?_
   refine q_cond (o := .tmp 29) (b := ((((((⟨bs, 0, 0⟩ : Rdr).int).2).pos : Nat) : Int) == 0)) (by kernel_rfl) rfl (fun h289 => ?_) (fun h289 => ?_)
   ·rw [h289]
    have p290 : (((((⟨bs, 0, 0⟩ : Rdr).int).2).pos : Nat) : Int) = 0 := of_beq_t h289
    refine qs ?_
    refine qg ?_
    refine og 2 [(2, (ptr b1)), (3, (i64 0)), (4, (ptr b13)), (5, (ptr b31)), (30, (agg [(i64 0), (i64 0), (i64 0), (i64 0), (Value.string ByteArray.empty), (Value.string ByteArray.empty), (i64 0), (Value.string ByteArray.empty), (i64 0), (i64 0), (i64 0), (i64 0), (Value.slice none 0 0), (Value.slice none 0 0)])), (31, (i64 ((((⟨bs, 0, 0⟩ : Rdr).int).2).end_)))] 2 ?_
    refine Ops.put (t := 33) (b := b1) (off := 0) (v := (agg [(i64 0), (i64 0), (i64 0), (i64 0), (Value.string ByteArray.empty), (Value.string ByteArray.empty), (i64 0), (Value.string ByteArray.empty), (i64 0), (i64 0), (i64 0), (i64 0), (Value.slice none 0 0), (Value.slice none 0 0)])) (ys := [(i64 0), (i64 0), (i64 0), (i64 0), (Value.string ByteArray.empty), (Value.string ByteArray.empty), (i64 0), (Value.string ByteArray.empty), (i64 0), (i64 0), (i64 0), (i64 0), (Value.slice none 0 0), (Value.slice none 0 0)]) (by kernel_rfl) (by kernel_rfl) H4 (by kernel_rfl) (d := none) (by kernel_rfl) rfl (fun w291 H292 K293 => ?_)
    clear H4
    replace K0 := K0.trans K293 (U := none_) (fun i h1 h2 => h2) (fun i h1 h2 => by have h2 : i = b1 := h2; exfalso; omega)
    replace H27 := H27.keep K293 (by intro h; change b13 = b1 at h; omega)
    replace H39 := H39.keep K293 (by intro h; change b31 = b1 at h; omega)
    replace F30 := RdO.keep F30 K293 (fun i _ _ hi hs => by have hs : i = b1 := hs; have := ob24 i _ _ hi; omega)
    clear K293
    refine og 1 [(2, (ptr b1)), (3, (i64 ((((⟨bs, 0, 0⟩ : Rdr).int).2).end_))), (4, (ptr b13)), (5, (ptr b31))] 4 ?_
    refine od ?_
    refine q_ret (by kernel_rfl) ?_
    refine ⟨(Value.tuple #[(agg [(i64 0), (i64 0), (i64 0), (i64 0), (Value.string ByteArray.empty), (Value.string ByteArray.empty), (i64 0), (Value.string ByteArray.empty), (i64 0), (i64 0), (i64 0), (i64 0), (Value.slice none 0 0), (Value.slice none 0 0)]), (i64 ((((⟨bs, 0, 0⟩ : Rdr).int).2).end_))]), retv_cell_tmp rfl rfl (H292.loads (by kernel_rfl)) rfl, ?_⟩
    have e : unpackB bs = (LetP.zero, (((⟨bs, 0, 0⟩ : Rdr).int).2).end_) := by unfold unpackB; rw [if_neg (by omega), if_pos (by omega), show (⟨bs, 0, 0⟩ : Rdr).int.2.why = (((⟨bs, 0, 0⟩ : Rdr).int).2).end_ from by omega]
    exact ⟨none, 0, none, 0, by rw [e]; rfl, K0, by rw [e]; exact (OwnT.nil _ _ _ _ _), by rw [e]; exact (World.ownsRow_nil _ _ _ _)⟩
   ·rw [h289]
    have p294 : ¬ ((((((⟨bs, 0, 0⟩ : Rdr).int).2).pos : Nat) : Int) = 0) := of_beq_f h289
    refine q_skip (by kernel_rfl) ?_
    refine qs ?_
    refine qs ?_
    refine qg ?_
    refine og 1 [(2, (ptr b1)), (3, (i64 0)), (4, (ptr b13)), (5, (ptr b31)), (32, (ptr b31))] 1 ?_
    refine Ops.go (v := (i64 (((⟨bs, 0, 0⟩ : Rdr).int).1))) (by kernel_rfl) (Runs.load (t := 3) (a := ⟨b31, 0, none⟩) (by kernel_rfl) (H39.loads (by kernel_rfl))) (d := (some 33)) (by kernel_rfl) rfl ?_
    refine og 1 [(2, (ptr b1)), (3, (i64 0)), (4, (ptr b13)), (5, (ptr b31)), (34, (Value.bool ((((⟨bs, 0, 0⟩ : Rdr).int).1) != 1)))] 3 ?_
    refine od ?_
    refine q_cond (o := .tmp 34) (b := ((((⟨bs, 0, 0⟩ : Rdr).int).1) != 1)) (by kernel_rfl) rfl (fun h295 => ?_) (fun h295 => ?_)
    ·rw [h295]
     have p296 : ¬ (((⟨bs, 0, 0⟩ : Rdr).int).1 = 1) := of_bne_t h295
     refine qg ?_
     refine og 1 [(2, (ptr b1)), (3, (i64 0)), (4, (ptr b13)), (5, (ptr b31)), (35, (ptr b13))] 1 ?_
     refine Ops.call (by kernel_rfl) (d := (some 36)) (by kernel_rfl) (RdInt_calls _ b13 A14 c15 (((⟨bs, 0, 0⟩ : Rdr).int).2) hok28 H27 F30 hne21 ) ?_
     rintro _ w297 ⟨rfl, K298, H299⟩
     have hok300 : ((((⟨bs, 0, 0⟩ : Rdr).int).2).int).2.Ok := Rdr.Ok.int hok28
     have hu301 := Rdr.int_range (((⟨bs, 0, 0⟩ : Rdr).int).2)
     refine ⟨_, _, rfl, rfl, ?_⟩
     replace K0 := K0.trans K298 (U := none_) (fun i h1 h2 => h2) (fun i h1 h2 => by have h2 : i = b13 := h2; exfalso; omega)
     replace H4 := H4.keep K298 (by intro h; change b1 = b13 at h; omega)
     replace H39 := H39.keep K298 (by intro h; change b31 = b13 at h; omega)
     replace F30 := RdO.keep F30 K298 (fun i _ _ hi hs => by have hs : i = b13 := hs; have := hne21 i _ _ hi; omega)
     clear K298
     have F302 : RdO w297 A14 c15 ((((⟨bs, 0, 0⟩ : Rdr).int).2).int).2.bs := by rw [Rdr.int_bs]; exact F30
     clear F30
     refine og 1 [(2, (ptr b1)), (3, (i64 0)), (4, (ptr b13)), (5, (ptr b31)), (36, (i64 (((((⟨bs, 0, 0⟩ : Rdr).int).2).int).1))), (37, (Value.pointer (some ⟨b31, 1, none⟩)))] 3 ?_
     refine Ops.put (t := 2) (b := b31) (off := 1) (v := (i64 (((((⟨bs, 0, 0⟩ : Rdr).int).2).int).1))) (ys := [(i64 (((⟨bs, 0, 0⟩ : Rdr).int).1)), (i64 (((((⟨bs, 0, 0⟩ : Rdr).int).2).int).1)), (i64 0), (i64 0), (Value.string ByteArray.empty), (Value.string ByteArray.empty), (i64 0), (Value.string ByteArray.empty), (i64 0), (i64 0), (i64 0), (i64 0), (Value.slice none 0 0), (Value.slice none 0 0)]) (by kernel_rfl) (by kernel_rfl) H39 (by kernel_rfl) (d := none) (by kernel_rfl) rfl (fun w303 H304 K305 => ?_)
     clear H39
     replace K0 := K0.trans K305 (U := none_) (fun i h1 h2 => h2) (fun i h1 h2 => by have h2 : i = b31 := h2; exfalso; omega)
     replace H4 := H4.keep K305 (by intro h; change b1 = b31 at h; omega)
     replace H299 := H299.keep K305 (by intro h; change b13 = b31 at h; omega)
     replace F302 := RdO.keep F302 K305 (fun i _ _ hi hs => by have hs : i = b31 := hs; have := ob37 i _ _ hi; omega)
     clear K305
     refine od ?_
     refine qs ?_
     refine qs ?_
     refine qg ?_
     refine og 1 [(2, (ptr b1)), (3, (i64 0)), (4, (ptr b13)), (5, (ptr b31)), (38, (ptr b31))] 1 ?_
     refine Ops.go (v := (i64 (((⟨bs, 0, 0⟩ : Rdr).int).1))) (by kernel_rfl) (Runs.load (t := 3) (a := ⟨b31, 0, none⟩) (by kernel_rfl) (H304.loads (by kernel_rfl))) (d := (some 39)) (by kernel_rfl) rfl ?_
     refine od ?_
     refine q_block (id := 0) (by kernel_rfl) ?_
     refine qs ?_
     refine q_block (id := 5) (by kernel_rfl) ?_
     refine qs ?_
     refine q_block (id := 4) (by kernel_rfl) ?_
     refine qs ?_
     refine q_block (id := 3) (by kernel_rfl) ?_
     refine qs ?_
     refine q_block (id := 2) (by kernel_rfl) ?_
     refine qs ?_
     refine q_block (id := 1) (by kernel_rfl) ?_
     refine qs ?_
     refine qs ?_
     refine qs ?_
     refine qg ?_
     refine og 2 [(2, (ptr b1)), (3, (i64 0)), (4, (ptr b13)), (5, (ptr b31)), (39, (i64 (((⟨bs, 0, 0⟩ : Rdr).int).1))), (40, (Value.bool ((((⟨bs, 0, 0⟩ : Rdr).int).1) == 2)))] 2 ?_
     refine od ?_
     refine q_cond (o := .tmp 40) (b := ((((⟨bs, 0, 0⟩ : Rdr).int).1) == 2)) (by kernel_rfl) rfl (fun h306 => ?_) (fun h306 => ?_)
     ·rw [h306]
      have p307 : ((⟨bs, 0, 0⟩ : Rdr).int).1 = 2 := of_beq_t h306
      refine q_exit (id := 1) (by kernel_rfl) ?_
      refine qs ?_
      refine qg ?_
      refine og 1 [(2, (ptr b1)), (3, (i64 0)), (4, (ptr b13)), (5, (ptr b31)), (49, (ptr b13))] 1 ?_
      refine Ops.call (by kernel_rfl) (d := (some 50)) (by kernel_rfl) (GetOp_calls _ b13 A14 c15 (((((⟨bs, 0, 0⟩ : Rdr).int).2).int).2) hok300 H299 F302 hne21 ) ?_
      rintro _ w308 ⟨rfl, K309, H310⟩
      have hok311 : ((((((⟨bs, 0, 0⟩ : Rdr).int).2).int).2).op).2.Ok := Rdr.Ok.op hok300
      refine ⟨_, _, rfl, rfl, ?_⟩
      replace K0 := K0.trans K309 (U := none_) (fun i h1 h2 => h2) (fun i h1 h2 => by have h2 : i = b13 := h2; exfalso; omega)
      replace H4 := H4.keep K309 (by intro h; change b1 = b13 at h; omega)
      replace H304 := H304.keep K309 (by intro h; change b31 = b13 at h; omega)
      replace F302 := RdO.keep F302 K309 (fun i _ _ hi hs => by have hs : i = b13 := hs; have := hne21 i _ _ hi; omega)
      clear K309
      have F312 : RdO w308 A14 c15 ((((((⟨bs, 0, 0⟩ : Rdr).int).2).int).2).op).2.bs := by rw [Rdr.op_bs]; exact F302
      clear F302
      refine og 1 [(2, (ptr b1)), (3, (i64 0)), (4, (ptr b13)), (5, (ptr b31)), (50, (agg [(i64 (((((((⟨bs, 0, 0⟩ : Rdr).int).2).int).2).op).1.kind)), (Value.string (str ((((((⟨bs, 0, 0⟩ : Rdr).int).2).int).2).op).1.frm)), (Value.string (str ((((((⟨bs, 0, 0⟩ : Rdr).int).2).int).2).op).1.to)), (i64 (((((((⟨bs, 0, 0⟩ : Rdr).int).2).int).2).op).1.amount)), (Value.string (str ((((((⟨bs, 0, 0⟩ : Rdr).int).2).int).2).op).1.key)), (i64 (((((((⟨bs, 0, 0⟩ : Rdr).int).2).int).2).op).1.slot)), (i64 (((((((⟨bs, 0, 0⟩ : Rdr).int).2).int).2).op).1.shard))])), (51, (Value.pointer (some ⟨b31, 3, none⟩)))] 3 ?_
      refine Ops.put (t := 23) (b := b31) (off := 3) (v := (agg [(i64 (((((((⟨bs, 0, 0⟩ : Rdr).int).2).int).2).op).1.kind)), (Value.string (str ((((((⟨bs, 0, 0⟩ : Rdr).int).2).int).2).op).1.frm)), (Value.string (str ((((((⟨bs, 0, 0⟩ : Rdr).int).2).int).2).op).1.to)), (i64 (((((((⟨bs, 0, 0⟩ : Rdr).int).2).int).2).op).1.amount)), (Value.string (str ((((((⟨bs, 0, 0⟩ : Rdr).int).2).int).2).op).1.key)), (i64 (((((((⟨bs, 0, 0⟩ : Rdr).int).2).int).2).op).1.slot)), (i64 (((((((⟨bs, 0, 0⟩ : Rdr).int).2).int).2).op).1.shard))])) (ys := [(i64 (((⟨bs, 0, 0⟩ : Rdr).int).1)), (i64 (((((⟨bs, 0, 0⟩ : Rdr).int).2).int).1)), (i64 0), (i64 (((((((⟨bs, 0, 0⟩ : Rdr).int).2).int).2).op).1.kind)), (Value.string (str ((((((⟨bs, 0, 0⟩ : Rdr).int).2).int).2).op).1.frm)), (Value.string (str ((((((⟨bs, 0, 0⟩ : Rdr).int).2).int).2).op).1.to)), (i64 (((((((⟨bs, 0, 0⟩ : Rdr).int).2).int).2).op).1.amount)), (Value.string (str ((((((⟨bs, 0, 0⟩ : Rdr).int).2).int).2).op).1.key)), (i64 (((((((⟨bs, 0, 0⟩ : Rdr).int).2).int).2).op).1.slot)), (i64 (((((((⟨bs, 0, 0⟩ : Rdr).int).2).int).2).op).1.shard)), (i64 0), (i64 0), (Value.slice none 0 0), (Value.slice none 0 0)]) (by kernel_rfl) (by kernel_rfl) H304 (by kernel_rfl) (d := none) (by kernel_rfl) rfl (fun w313 H314 K315 => ?_)
      clear H304
      replace K0 := K0.trans K315 (U := none_) (fun i h1 h2 => h2) (fun i h1 h2 => by have h2 : i = b31 := h2; exfalso; omega)
      replace H4 := H4.keep K315 (by intro h; change b1 = b31 at h; omega)
      replace H310 := H310.keep K315 (by intro h; change b13 = b31 at h; omega)
      replace F312 := RdO.keep F312 K315 (fun i _ _ hi hs => by have hs : i = b31 := hs; have := ob37 i _ _ hi; omega)
      clear K315
      refine od ?_
      refine q_exit (id := 0) (by kernel_rfl) ?_
      refine qs ?_
      refine qs ?_
      refine qg ?_
      refine og 1 [(2, (ptr b1)), (3, (i64 0)), (5, (ptr b31)), (62, (ptr b13))] 1 ?_
      refine Ops.call (by kernel_rfl) (d := (some 63)) (by kernel_rfl) (RdEnd_calls _ b13 A14 c15 (((((((⟨bs, 0, 0⟩ : Rdr).int).2).int).2).op).2) hok311 H310 F312 hne21) ?_
      rintro _ w316 ⟨rfl, K317⟩
      refine ⟨_, _, rfl, rfl, ?_⟩
      replace K0 := K0.t0 K317
      replace H4 := H4.keep K317 (fun h => h)
      replace H310 := H310.keep K317 (fun h => h)
      replace H314 := H314.keep K317 (fun h => h)
      replace F312 := RdO.keep0 F312 K317
      clear K317
      refine og 1 [(2, (ptr b1)), (3, (i64 0)), (5, (ptr b31)), (7, (i64 ((((((((⟨bs, 0, 0⟩ : Rdr).int).2).int).2).op).2).end_)))] 3 ?_
      refine od ?_
      refine qs ?_
      refine qg ?_
      refine og 2 [(2, (ptr b1)), (3, (i64 0)), (5, (ptr b31)), (7, (i64 ((((((((⟨bs, 0, 0⟩ : Rdr).int).2).int).2).op).2).end_))), (65, (Value.bool (((((((((⟨bs, 0, 0⟩ : Rdr).int).2).int).2).op).2).end_) != 0)))] 2 ?_
      refine od ?_
      refine q_cond (o := .tmp 65) (b := (((((((((⟨bs, 0, 0⟩ : Rdr).int).2).int).2).op).2).end_) != 0)) (by kernel_rfl) rfl (fun h318 => ?_) (fun h318 => ?_)
      ·rw [h318]
       have p319 : ¬ ((((((((⟨bs, 0, 0⟩ : Rdr).int).2).int).2).op).2).end_ = 0) := of_bne_t h318
       have hecq320 := end_or (((((((⟨bs, 0, 0⟩ : Rdr).int).2).int).2).op).2)
       refine qs ?_
       refine qg ?_
       refine og 2 [(2, (ptr b1)), (3, (i64 0)), (5, (ptr b31)), (66, (agg [(i64 0), (i64 0), (i64 0), (i64 0), (Value.string ByteArray.empty), (Value.string ByteArray.empty), (i64 0), (Value.string ByteArray.empty), (i64 0), (i64 0), (i64 0), (i64 0), (Value.slice none 0 0), (Value.slice none 0 0)])), (67, (i64 ((((((((⟨bs, 0, 0⟩ : Rdr).int).2).int).2).op).2).end_)))] 2 ?_
       refine Ops.put (t := 33) (b := b1) (off := 0) (v := (agg [(i64 0), (i64 0), (i64 0), (i64 0), (Value.string ByteArray.empty), (Value.string ByteArray.empty), (i64 0), (Value.string ByteArray.empty), (i64 0), (i64 0), (i64 0), (i64 0), (Value.slice none 0 0), (Value.slice none 0 0)])) (ys := [(i64 0), (i64 0), (i64 0), (i64 0), (Value.string ByteArray.empty), (Value.string ByteArray.empty), (i64 0), (Value.string ByteArray.empty), (i64 0), (i64 0), (i64 0), (i64 0), (Value.slice none 0 0), (Value.slice none 0 0)]) (by kernel_rfl) (by kernel_rfl) H4 (by kernel_rfl) (d := none) (by kernel_rfl) rfl (fun w321 H322 K323 => ?_)
       clear H4
       replace K0 := K0.trans K323 (U := none_) (fun i h1 h2 => h2) (fun i h1 h2 => by have h2 : i = b1 := h2; exfalso; omega)
       replace H310 := H310.keep K323 (by intro h; change b13 = b1 at h; omega)
       replace H314 := H314.keep K323 (by intro h; change b31 = b1 at h; omega)
       replace F312 := RdO.keep F312 K323 (fun i _ _ hi hs => by have hs : i = b1 := hs; have := ob24 i _ _ hi; omega)
       clear K323
       refine og 1 [(2, (ptr b1)), (3, (i64 ((((((((⟨bs, 0, 0⟩ : Rdr).int).2).int).2).op).2).end_))), (5, (ptr b31))] 4 ?_
       refine od ?_
       refine q_ret (by kernel_rfl) ?_
       refine ⟨(Value.tuple #[(agg [(i64 0), (i64 0), (i64 0), (i64 0), (Value.string ByteArray.empty), (Value.string ByteArray.empty), (i64 0), (Value.string ByteArray.empty), (i64 0), (i64 0), (i64 0), (i64 0), (Value.slice none 0 0), (Value.slice none 0 0)]), (i64 ((((((((⟨bs, 0, 0⟩ : Rdr).int).2).int).2).op).2).end_))]), retv_cell_tmp rfl rfl (H322.loads (by kernel_rfl)) rfl, ?_⟩
       have hl2 : (letR (⟨bs, 0, 0⟩ : Rdr).int.1 (⟨bs, 0, 0⟩ : Rdr).int.2).2 = ((((((⟨bs, 0, 0⟩ : Rdr).int).2).int).2).op).2 := by unfold letR; first | (rw [if_pos (by omega)] <;> rfl) | (rw [if_neg (by omega), if_pos (by omega)] <;> rfl) | (rw [if_neg (by omega), if_neg (by omega), if_pos (by omega)] <;> rfl) | (rw [if_neg (by omega), if_neg (by omega), if_neg (by omega), if_pos (by omega)] <;> rfl) | (rw [if_neg (by omega), if_neg (by omega), if_neg (by omega), if_neg (by omega)] <;> rfl)
       have e : unpackB bs = (LetP.zero, (((((((⟨bs, 0, 0⟩ : Rdr).int).2).int).2).op).2).end_) := by unfold unpackB; rw [if_neg (by omega), if_neg (by omega), if_neg (by omega), if_pos (by rw [hl2]; omega), hl2]
       exact ⟨none, 0, none, 0, by rw [e]; rfl, K0, by rw [e]; exact (OwnT.nil _ _ _ _ _), by rw [e]; exact (World.ownsRow_nil _ _ _ _)⟩
      ·rw [h318]
       have p324 : (((((((⟨bs, 0, 0⟩ : Rdr).int).2).int).2).op).2).end_ = 0 := of_bne_f h318
       have hecq325 := end_or (((((((⟨bs, 0, 0⟩ : Rdr).int).2).int).2).op).2)
       refine q_skip (by kernel_rfl) ?_
       refine qs ?_
       refine qg ?_
       refine Ops.go (v := (agg [(i64 (((⟨bs, 0, 0⟩ : Rdr).int).1)), (i64 (((((⟨bs, 0, 0⟩ : Rdr).int).2).int).1)), (i64 0), (i64 (((((((⟨bs, 0, 0⟩ : Rdr).int).2).int).2).op).1.kind)), (Value.string (str ((((((⟨bs, 0, 0⟩ : Rdr).int).2).int).2).op).1.frm)), (Value.string (str ((((((⟨bs, 0, 0⟩ : Rdr).int).2).int).2).op).1.to)), (i64 (((((((⟨bs, 0, 0⟩ : Rdr).int).2).int).2).op).1.amount)), (Value.string (str ((((((⟨bs, 0, 0⟩ : Rdr).int).2).int).2).op).1.key)), (i64 (((((((⟨bs, 0, 0⟩ : Rdr).int).2).int).2).op).1.slot)), (i64 (((((((⟨bs, 0, 0⟩ : Rdr).int).2).int).2).op).1.shard)), (i64 0), (i64 0), (Value.slice none 0 0), (Value.slice none 0 0)])) (by kernel_rfl) (Runs.load (t := 33) (a := ⟨b31, 0, none⟩) (by kernel_rfl) (H314.loads (by kernel_rfl))) (d := (some 68)) (by kernel_rfl) rfl ?_
       refine Ops.put (t := 33) (b := b1) (off := 0) (v := (agg [(i64 (((⟨bs, 0, 0⟩ : Rdr).int).1)), (i64 (((((⟨bs, 0, 0⟩ : Rdr).int).2).int).1)), (i64 0), (i64 (((((((⟨bs, 0, 0⟩ : Rdr).int).2).int).2).op).1.kind)), (Value.string (str ((((((⟨bs, 0, 0⟩ : Rdr).int).2).int).2).op).1.frm)), (Value.string (str ((((((⟨bs, 0, 0⟩ : Rdr).int).2).int).2).op).1.to)), (i64 (((((((⟨bs, 0, 0⟩ : Rdr).int).2).int).2).op).1.amount)), (Value.string (str ((((((⟨bs, 0, 0⟩ : Rdr).int).2).int).2).op).1.key)), (i64 (((((((⟨bs, 0, 0⟩ : Rdr).int).2).int).2).op).1.slot)), (i64 (((((((⟨bs, 0, 0⟩ : Rdr).int).2).int).2).op).1.shard)), (i64 0), (i64 0), (Value.slice none 0 0), (Value.slice none 0 0)])) (ys := [(i64 (((⟨bs, 0, 0⟩ : Rdr).int).1)), (i64 (((((⟨bs, 0, 0⟩ : Rdr).int).2).int).1)), (i64 0), (i64 (((((((⟨bs, 0, 0⟩ : Rdr).int).2).int).2).op).1.kind)), (Value.string (str ((((((⟨bs, 0, 0⟩ : Rdr).int).2).int).2).op).1.frm)), (Value.string (str ((((((⟨bs, 0, 0⟩ : Rdr).int).2).int).2).op).1.to)), (i64 (((((((⟨bs, 0, 0⟩ : Rdr).int).2).int).2).op).1.amount)), (Value.string (str ((((((⟨bs, 0, 0⟩ : Rdr).int).2).int).2).op).1.key)), (i64 (((((((⟨bs, 0, 0⟩ : Rdr).int).2).int).2).op).1.slot)), (i64 (((((((⟨bs, 0, 0⟩ : Rdr).int).2).int).2).op).1.shard)), (i64 0), (i64 0), (Value.slice none 0 0), (Value.slice none 0 0)]) (by kernel_rfl) (by kernel_rfl) H4 (by kernel_rfl) (d := none) (by kernel_rfl) rfl (fun w326 H327 K328 => ?_)
       clear H4
       replace K0 := K0.trans K328 (U := none_) (fun i h1 h2 => h2) (fun i h1 h2 => by have h2 : i = b1 := h2; exfalso; omega)
       replace H310 := H310.keep K328 (by intro h; change b13 = b1 at h; omega)
       replace H314 := H314.keep K328 (by intro h; change b31 = b1 at h; omega)
       replace F312 := RdO.keep F312 K328 (fun i _ _ hi hs => by have hs : i = b1 := hs; have := ob24 i _ _ hi; omega)
       clear K328
       refine og 1 [(2, (ptr b1)), (3, (i64 0))] 3 ?_
       refine od ?_
       refine q_ret (by kernel_rfl) ?_
       refine ⟨(Value.tuple #[(agg [(i64 (((⟨bs, 0, 0⟩ : Rdr).int).1)), (i64 (((((⟨bs, 0, 0⟩ : Rdr).int).2).int).1)), (i64 0), (i64 (((((((⟨bs, 0, 0⟩ : Rdr).int).2).int).2).op).1.kind)), (Value.string (str ((((((⟨bs, 0, 0⟩ : Rdr).int).2).int).2).op).1.frm)), (Value.string (str ((((((⟨bs, 0, 0⟩ : Rdr).int).2).int).2).op).1.to)), (i64 (((((((⟨bs, 0, 0⟩ : Rdr).int).2).int).2).op).1.amount)), (Value.string (str ((((((⟨bs, 0, 0⟩ : Rdr).int).2).int).2).op).1.key)), (i64 (((((((⟨bs, 0, 0⟩ : Rdr).int).2).int).2).op).1.slot)), (i64 (((((((⟨bs, 0, 0⟩ : Rdr).int).2).int).2).op).1.shard)), (i64 0), (i64 0), (Value.slice none 0 0), (Value.slice none 0 0)]), (i64 0)]), retv_cell_tmp rfl rfl (H327.loads (by kernel_rfl)) rfl, ?_⟩
       have hl : letR (⟨bs, 0, 0⟩ : Rdr).int.1 (⟨bs, 0, 0⟩ : Rdr).int.2 = ((⟨((⟨bs, 0, 0⟩ : Rdr).int).1, ((((⟨bs, 0, 0⟩ : Rdr).int).2).int).1, 0, ⟨((((((⟨bs, 0, 0⟩ : Rdr).int).2).int).2).op).1.kind, ((((((⟨bs, 0, 0⟩ : Rdr).int).2).int).2).op).1.frm, ((((((⟨bs, 0, 0⟩ : Rdr).int).2).int).2).op).1.to, ((((((⟨bs, 0, 0⟩ : Rdr).int).2).int).2).op).1.amount, ((((((⟨bs, 0, 0⟩ : Rdr).int).2).int).2).op).1.key, ((((((⟨bs, 0, 0⟩ : Rdr).int).2).int).2).op).1.slot, ((((((⟨bs, 0, 0⟩ : Rdr).int).2).int).2).op).1.shard⟩, ⟨0, 0, []⟩, []⟩ : LetP), ((((((⟨bs, 0, 0⟩ : Rdr).int).2).int).2).op).2) := by unfold letR; first | (rw [if_pos (by omega)] <;> rfl) | (rw [if_neg (by omega), if_pos (by omega)] <;> rfl) | (rw [if_neg (by omega), if_neg (by omega), if_pos (by omega)] <;> rfl) | (rw [if_neg (by omega), if_neg (by omega), if_neg (by omega), if_pos (by omega)] <;> rfl) | (rw [if_neg (by omega), if_neg (by omega), if_neg (by omega), if_neg (by omega)] <;> rfl)
       have e : unpackB bs = ((⟨((⟨bs, 0, 0⟩ : Rdr).int).1, ((((⟨bs, 0, 0⟩ : Rdr).int).2).int).1, 0, ⟨((((((⟨bs, 0, 0⟩ : Rdr).int).2).int).2).op).1.kind, ((((((⟨bs, 0, 0⟩ : Rdr).int).2).int).2).op).1.frm, ((((((⟨bs, 0, 0⟩ : Rdr).int).2).int).2).op).1.to, ((((((⟨bs, 0, 0⟩ : Rdr).int).2).int).2).op).1.amount, ((((((⟨bs, 0, 0⟩ : Rdr).int).2).int).2).op).1.key, ((((((⟨bs, 0, 0⟩ : Rdr).int).2).int).2).op).1.slot, ((((((⟨bs, 0, 0⟩ : Rdr).int).2).int).2).op).1.shard⟩, ⟨0, 0, []⟩, []⟩ : LetP), 0) := by unfold unpackB; rw [if_neg (by omega), if_neg (by omega), if_neg (by omega), if_neg (by rw [hl]; show ¬ ((((((((⟨bs, 0, 0⟩ : Rdr).int).2).int).2).op).2).end_ ≠ 0); omega), hl]
       exact ⟨none, 0, none, 0, by rw [e]; rfl, K0, by rw [e]; exact (OwnT.nil _ _ _ _ _), by rw [e]; exact (World.ownsRow_nil _ _ _ _)⟩
     ·rw [h306]
      have p329 : ¬ (((⟨bs, 0, 0⟩ : Rdr).int).1 = 2) := of_beq_f h306
      refine q_skip (by kernel_rfl) ?_
      refine qs ?_
      refine qs ?_
      refine qg ?_
      refine og 2 [(2, (ptr b1)), (3, (i64 0)), (4, (ptr b13)), (5, (ptr b31)), (39, (i64 (((⟨bs, 0, 0⟩ : Rdr).int).1))), (42, (Value.bool ((((⟨bs, 0, 0⟩ : Rdr).int).1) == 3)))] 2 ?_
      refine od ?_
      refine q_cond (o := .tmp 42) (b := ((((⟨bs, 0, 0⟩ : Rdr).int).1) == 3)) (by kernel_rfl) rfl (fun h330 => ?_) (fun h330 => ?_)
      ·rw [h330]
       have p331 : ((⟨bs, 0, 0⟩ : Rdr).int).1 = 3 := of_beq_t h330
       refine q_exit (id := 2) (by kernel_rfl) ?_
       refine qs ?_
       refine qg ?_
       refine og 1 [(2, (ptr b1)), (3, (i64 0)), (4, (ptr b13)), (5, (ptr b31)), (52, (ptr b13))] 1 ?_
       refine Ops.call (by kernel_rfl) (d := (some 53)) (by kernel_rfl) (GetReply_calls _ b13 A14 c15 (((((⟨bs, 0, 0⟩ : Rdr).int).2).int).2) hok300 H299 F302 hne21 ) ?_
       rintro _ w332 ⟨A344, c345, rfl, K333, hO337, H334⟩
       have hok335 : ((((((⟨bs, 0, 0⟩ : Rdr).int).2).int).2).reply).2.Ok := Rdr.Ok.reply hok300
       have ob339 : ∀ i, ((Value.slice A344 (((((((⟨bs, 0, 0⟩ : Rdr).int).2).int).2).reply).1.rows.length) c345)).ownBlock = some i → i ≠ b1 := fun i hi => by have := (World.ownsRow.lt hO337 i hi).1; have := H4.lt; omega
       have ob340 : ∀ i, ((Value.slice A344 (((((((⟨bs, 0, 0⟩ : Rdr).int).2).int).2).reply).1.rows.length) c345)).ownBlock = some i → i ≠ b13 := fun i hi => by have := (World.ownsRow.lt hO337 i hi).1; have := H299.lt; omega
       have ob341 : ∀ i, ((Value.slice A344 (((((((⟨bs, 0, 0⟩ : Rdr).int).2).int).2).reply).1.rows.length) c345)).ownBlock = some i → i ≠ b31 := fun i hi => by have := (World.ownsRow.lt hO337 i hi).1; have := H304.lt; omega
       have oo342 : ∀ i o s, A14 = some ⟨i, o, s⟩ → ((Value.slice A344 (((((((⟨bs, 0, 0⟩ : Rdr).int).2).int).2).reply).1.rows.length) c345)).ownBlock = some i → False := fun i o s hi hs => by have := (World.ownsRow.lt hO337 i hs).1; have := F302.2 i o s hi; omega
       have O338 := own_base hO337 K0.size
       clear hO337
       refine ⟨_, _, rfl, rfl, ?_⟩
       replace K0 := K0.trans K333 (U := none_) (fun i h1 h2 => h2) (fun i h1 h2 => by have h2 : i = b13 := h2; exfalso; omega)
       replace H4 := H4.keep K333 (by intro h; change b1 = b13 at h; omega)
       replace H304 := H304.keep K333 (by intro h; change b31 = b13 at h; omega)
       replace F302 := RdO.keep F302 K333 (fun i _ _ hi hs => by have hs : i = b13 := hs; have := hne21 i _ _ hi; omega)
       clear K333
       have F346 : RdO w332 A14 c15 ((((((⟨bs, 0, 0⟩ : Rdr).int).2).int).2).reply).2.bs := by rw [Rdr.reply_bs]; exact F302
       clear F302
       refine og 1 [(2, (ptr b1)), (3, (i64 0)), (4, (ptr b13)), (5, (ptr b31)), (53, (agg [(i64 (((((((⟨bs, 0, 0⟩ : Rdr).int).2).int).2).reply).1.why)), (i64 (((((((⟨bs, 0, 0⟩ : Rdr).int).2).int).2).reply).1.amount)), (Value.slice A344 (((((((⟨bs, 0, 0⟩ : Rdr).int).2).int).2).reply).1.rows.length) c345)])), (54, (Value.pointer (some ⟨b31, 10, none⟩)))] 3 ?_
       refine Ops.put (t := 27) (b := b31) (off := 10) (v := (agg [(i64 (((((((⟨bs, 0, 0⟩ : Rdr).int).2).int).2).reply).1.why)), (i64 (((((((⟨bs, 0, 0⟩ : Rdr).int).2).int).2).reply).1.amount)), (Value.slice A344 (((((((⟨bs, 0, 0⟩ : Rdr).int).2).int).2).reply).1.rows.length) c345)])) (ys := [(i64 (((⟨bs, 0, 0⟩ : Rdr).int).1)), (i64 (((((⟨bs, 0, 0⟩ : Rdr).int).2).int).1)), (i64 0), (i64 0), (Value.string ByteArray.empty), (Value.string ByteArray.empty), (i64 0), (Value.string ByteArray.empty), (i64 0), (i64 0), (i64 (((((((⟨bs, 0, 0⟩ : Rdr).int).2).int).2).reply).1.why)), (i64 (((((((⟨bs, 0, 0⟩ : Rdr).int).2).int).2).reply).1.amount)), (Value.slice A344 (((((((⟨bs, 0, 0⟩ : Rdr).int).2).int).2).reply).1.rows.length) c345), (Value.slice none 0 0)]) (by kernel_rfl) (by kernel_rfl) H304 (by kernel_rfl) (d := none) (by kernel_rfl) rfl (fun w347 H348 K349 => ?_)
       clear H304
       replace K0 := K0.trans K349 (U := none_) (fun i h1 h2 => h2) (fun i h1 h2 => by have h2 : i = b31 := h2; exfalso; omega)
       replace H4 := H4.keep K349 (by intro h; change b1 = b31 at h; omega)
       replace H334 := H334.keep K349 (by intro h; change b13 = b31 at h; omega)
       replace F346 := RdO.keep F346 K349 (fun i _ _ hi hs => by have hs : i = b31 := hs; have := ob37 i _ _ hi; omega)
       replace O338 := own_keep O338 K349 (fun i hi hs => by have hs : i = b31 := hs; have := ob341 i hi; omega)
       clear K349
       refine od ?_
       refine q_exit (id := 0) (by kernel_rfl) ?_
       refine qs ?_
       refine qs ?_
       refine qg ?_
       refine og 1 [(2, (ptr b1)), (3, (i64 0)), (5, (ptr b31)), (62, (ptr b13))] 1 ?_
       refine Ops.call (by kernel_rfl) (d := (some 63)) (by kernel_rfl) (RdEnd_calls _ b13 A14 c15 (((((((⟨bs, 0, 0⟩ : Rdr).int).2).int).2).reply).2) hok335 H334 F346 hne21) ?_
       rintro _ w350 ⟨rfl, K351⟩
       refine ⟨_, _, rfl, rfl, ?_⟩
       replace K0 := K0.t0 K351
       replace H4 := H4.keep K351 (fun h => h)
       replace H334 := H334.keep K351 (fun h => h)
       replace H348 := H348.keep K351 (fun h => h)
       replace F346 := RdO.keep0 F346 K351
       replace O338 := own_keep0 O338 K351
       clear K351
       refine og 1 [(2, (ptr b1)), (3, (i64 0)), (5, (ptr b31)), (7, (i64 ((((((((⟨bs, 0, 0⟩ : Rdr).int).2).int).2).reply).2).end_)))] 3 ?_
       refine od ?_
       refine qs ?_
       refine qg ?_
       refine og 2 [(2, (ptr b1)), (3, (i64 0)), (5, (ptr b31)), (7, (i64 ((((((((⟨bs, 0, 0⟩ : Rdr).int).2).int).2).reply).2).end_))), (65, (Value.bool (((((((((⟨bs, 0, 0⟩ : Rdr).int).2).int).2).reply).2).end_) != 0)))] 2 ?_
       refine od ?_
       refine q_cond (o := .tmp 65) (b := (((((((((⟨bs, 0, 0⟩ : Rdr).int).2).int).2).reply).2).end_) != 0)) (by kernel_rfl) rfl (fun h352 => ?_) (fun h352 => ?_)
       ·rw [h352]
        have p353 : ¬ ((((((((⟨bs, 0, 0⟩ : Rdr).int).2).int).2).reply).2).end_ = 0) := of_bne_t h352
        have hecq354 := end_or (((((((⟨bs, 0, 0⟩ : Rdr).int).2).int).2).reply).2)
        refine qs ?_
        refine qg ?_
        refine og 2 [(2, (ptr b1)), (3, (i64 0)), (5, (ptr b31)), (66, (agg [(i64 0), (i64 0), (i64 0), (i64 0), (Value.string ByteArray.empty), (Value.string ByteArray.empty), (i64 0), (Value.string ByteArray.empty), (i64 0), (i64 0), (i64 0), (i64 0), (Value.slice none 0 0), (Value.slice none 0 0)])), (67, (i64 ((((((((⟨bs, 0, 0⟩ : Rdr).int).2).int).2).reply).2).end_)))] 2 ?_
        refine Ops.put (t := 33) (b := b1) (off := 0) (v := (agg [(i64 0), (i64 0), (i64 0), (i64 0), (Value.string ByteArray.empty), (Value.string ByteArray.empty), (i64 0), (Value.string ByteArray.empty), (i64 0), (i64 0), (i64 0), (i64 0), (Value.slice none 0 0), (Value.slice none 0 0)])) (ys := [(i64 0), (i64 0), (i64 0), (i64 0), (Value.string ByteArray.empty), (Value.string ByteArray.empty), (i64 0), (Value.string ByteArray.empty), (i64 0), (i64 0), (i64 0), (i64 0), (Value.slice none 0 0), (Value.slice none 0 0)]) (by kernel_rfl) (by kernel_rfl) H4 (by kernel_rfl) (d := none) (by kernel_rfl) rfl (fun w355 H356 K357 => ?_)
        clear H4
        replace K0 := K0.trans K357 (U := none_) (fun i h1 h2 => h2) (fun i h1 h2 => by have h2 : i = b1 := h2; exfalso; omega)
        replace H334 := H334.keep K357 (by intro h; change b13 = b1 at h; omega)
        replace H348 := H348.keep K357 (by intro h; change b31 = b1 at h; omega)
        replace F346 := RdO.keep F346 K357 (fun i _ _ hi hs => by have hs : i = b1 := hs; have := ob24 i _ _ hi; omega)
        replace O338 := own_keep O338 K357 (fun i hi hs => by have hs : i = b1 := hs; have := ob339 i hi; omega)
        clear K357
        refine og 1 [(2, (ptr b1)), (3, (i64 ((((((((⟨bs, 0, 0⟩ : Rdr).int).2).int).2).reply).2).end_))), (5, (ptr b31))] 4 ?_
        refine od ?_
        refine q_ret (by kernel_rfl) ?_
        refine ⟨(Value.tuple #[(agg [(i64 0), (i64 0), (i64 0), (i64 0), (Value.string ByteArray.empty), (Value.string ByteArray.empty), (i64 0), (Value.string ByteArray.empty), (i64 0), (i64 0), (i64 0), (i64 0), (Value.slice none 0 0), (Value.slice none 0 0)]), (i64 ((((((((⟨bs, 0, 0⟩ : Rdr).int).2).int).2).reply).2).end_))]), retv_cell_tmp rfl rfl (H356.loads (by kernel_rfl)) rfl, ?_⟩
        have hl2 : (letR (⟨bs, 0, 0⟩ : Rdr).int.1 (⟨bs, 0, 0⟩ : Rdr).int.2).2 = ((((((⟨bs, 0, 0⟩ : Rdr).int).2).int).2).reply).2 := by unfold letR; first | (rw [if_pos (by omega)] <;> rfl) | (rw [if_neg (by omega), if_pos (by omega)] <;> rfl) | (rw [if_neg (by omega), if_neg (by omega), if_pos (by omega)] <;> rfl) | (rw [if_neg (by omega), if_neg (by omega), if_neg (by omega), if_pos (by omega)] <;> rfl) | (rw [if_neg (by omega), if_neg (by omega), if_neg (by omega), if_neg (by omega)] <;> rfl)
        have e : unpackB bs = (LetP.zero, (((((((⟨bs, 0, 0⟩ : Rdr).int).2).int).2).reply).2).end_) := by unfold unpackB; rw [if_neg (by omega), if_neg (by omega), if_neg (by omega), if_pos (by rw [hl2]; omega), hl2]
        exact ⟨none, 0, none, 0, by rw [e]; rfl, K0, by rw [e]; exact (OwnT.nil _ _ _ _ _), by rw [e]; exact (World.ownsRow_nil _ _ _ _)⟩
       ·rw [h352]
        have p358 : (((((((⟨bs, 0, 0⟩ : Rdr).int).2).int).2).reply).2).end_ = 0 := of_bne_f h352
        have hecq359 := end_or (((((((⟨bs, 0, 0⟩ : Rdr).int).2).int).2).reply).2)
        refine q_skip (by kernel_rfl) ?_
        refine qs ?_
        refine qg ?_
        refine Ops.go (v := (agg [(i64 (((⟨bs, 0, 0⟩ : Rdr).int).1)), (i64 (((((⟨bs, 0, 0⟩ : Rdr).int).2).int).1)), (i64 0), (i64 0), (Value.string ByteArray.empty), (Value.string ByteArray.empty), (i64 0), (Value.string ByteArray.empty), (i64 0), (i64 0), (i64 (((((((⟨bs, 0, 0⟩ : Rdr).int).2).int).2).reply).1.why)), (i64 (((((((⟨bs, 0, 0⟩ : Rdr).int).2).int).2).reply).1.amount)), (Value.slice A344 (((((((⟨bs, 0, 0⟩ : Rdr).int).2).int).2).reply).1.rows.length) c345), (Value.slice none 0 0)])) (by kernel_rfl) (Runs.load (t := 33) (a := ⟨b31, 0, none⟩) (by kernel_rfl) (H348.loads (by kernel_rfl))) (d := (some 68)) (by kernel_rfl) rfl ?_
        refine Ops.put (t := 33) (b := b1) (off := 0) (v := (agg [(i64 (((⟨bs, 0, 0⟩ : Rdr).int).1)), (i64 (((((⟨bs, 0, 0⟩ : Rdr).int).2).int).1)), (i64 0), (i64 0), (Value.string ByteArray.empty), (Value.string ByteArray.empty), (i64 0), (Value.string ByteArray.empty), (i64 0), (i64 0), (i64 (((((((⟨bs, 0, 0⟩ : Rdr).int).2).int).2).reply).1.why)), (i64 (((((((⟨bs, 0, 0⟩ : Rdr).int).2).int).2).reply).1.amount)), (Value.slice A344 (((((((⟨bs, 0, 0⟩ : Rdr).int).2).int).2).reply).1.rows.length) c345), (Value.slice none 0 0)])) (ys := [(i64 (((⟨bs, 0, 0⟩ : Rdr).int).1)), (i64 (((((⟨bs, 0, 0⟩ : Rdr).int).2).int).1)), (i64 0), (i64 0), (Value.string ByteArray.empty), (Value.string ByteArray.empty), (i64 0), (Value.string ByteArray.empty), (i64 0), (i64 0), (i64 (((((((⟨bs, 0, 0⟩ : Rdr).int).2).int).2).reply).1.why)), (i64 (((((((⟨bs, 0, 0⟩ : Rdr).int).2).int).2).reply).1.amount)), (Value.slice A344 (((((((⟨bs, 0, 0⟩ : Rdr).int).2).int).2).reply).1.rows.length) c345), (Value.slice none 0 0)]) (by kernel_rfl) (by kernel_rfl) H4 (by kernel_rfl) (d := none) (by kernel_rfl) rfl (fun w360 H361 K362 => ?_)
        clear H4
        replace K0 := K0.trans K362 (U := none_) (fun i h1 h2 => h2) (fun i h1 h2 => by have h2 : i = b1 := h2; exfalso; omega)
        replace H334 := H334.keep K362 (by intro h; change b13 = b1 at h; omega)
        replace H348 := H348.keep K362 (by intro h; change b31 = b1 at h; omega)
        replace F346 := RdO.keep F346 K362 (fun i _ _ hi hs => by have hs : i = b1 := hs; have := ob24 i _ _ hi; omega)
        replace O338 := own_keep O338 K362 (fun i hi hs => by have hs : i = b1 := hs; have := ob339 i hi; omega)
        clear K362
        refine og 1 [(2, (ptr b1)), (3, (i64 0))] 3 ?_
        refine od ?_
        refine q_ret (by kernel_rfl) ?_
        refine ⟨(Value.tuple #[(agg [(i64 (((⟨bs, 0, 0⟩ : Rdr).int).1)), (i64 (((((⟨bs, 0, 0⟩ : Rdr).int).2).int).1)), (i64 0), (i64 0), (Value.string ByteArray.empty), (Value.string ByteArray.empty), (i64 0), (Value.string ByteArray.empty), (i64 0), (i64 0), (i64 (((((((⟨bs, 0, 0⟩ : Rdr).int).2).int).2).reply).1.why)), (i64 (((((((⟨bs, 0, 0⟩ : Rdr).int).2).int).2).reply).1.amount)), (Value.slice A344 (((((((⟨bs, 0, 0⟩ : Rdr).int).2).int).2).reply).1.rows.length) c345), (Value.slice none 0 0)]), (i64 0)]), retv_cell_tmp rfl rfl (H361.loads (by kernel_rfl)) rfl, ?_⟩
        have hl : letR (⟨bs, 0, 0⟩ : Rdr).int.1 (⟨bs, 0, 0⟩ : Rdr).int.2 = ((⟨((⟨bs, 0, 0⟩ : Rdr).int).1, ((((⟨bs, 0, 0⟩ : Rdr).int).2).int).1, 0, ⟨0, [], [], 0, [], 0, 0⟩, ⟨((((((⟨bs, 0, 0⟩ : Rdr).int).2).int).2).reply).1.why, ((((((⟨bs, 0, 0⟩ : Rdr).int).2).int).2).reply).1.amount, ((((((⟨bs, 0, 0⟩ : Rdr).int).2).int).2).reply).1.rows⟩, []⟩ : LetP), ((((((⟨bs, 0, 0⟩ : Rdr).int).2).int).2).reply).2) := by unfold letR; first | (rw [if_pos (by omega)] <;> rfl) | (rw [if_neg (by omega), if_pos (by omega)] <;> rfl) | (rw [if_neg (by omega), if_neg (by omega), if_pos (by omega)] <;> rfl) | (rw [if_neg (by omega), if_neg (by omega), if_neg (by omega), if_pos (by omega)] <;> rfl) | (rw [if_neg (by omega), if_neg (by omega), if_neg (by omega), if_neg (by omega)] <;> rfl)
        have e : unpackB bs = ((⟨((⟨bs, 0, 0⟩ : Rdr).int).1, ((((⟨bs, 0, 0⟩ : Rdr).int).2).int).1, 0, ⟨0, [], [], 0, [], 0, 0⟩, ⟨((((((⟨bs, 0, 0⟩ : Rdr).int).2).int).2).reply).1.why, ((((((⟨bs, 0, 0⟩ : Rdr).int).2).int).2).reply).1.amount, ((((((⟨bs, 0, 0⟩ : Rdr).int).2).int).2).reply).1.rows⟩, []⟩ : LetP), 0) := by unfold unpackB; rw [if_neg (by omega), if_neg (by omega), if_neg (by omega), if_neg (by rw [hl]; show ¬ ((((((((⟨bs, 0, 0⟩ : Rdr).int).2).int).2).reply).2).end_ ≠ 0); omega), hl]
        exact ⟨A344, c345, none, 0, by rw [e]; rfl, K0, by rw [e]; exact O338, by rw [e]; exact (World.ownsRow_nil _ _ _ _)⟩
      ·rw [h330]
       have p363 : ¬ (((⟨bs, 0, 0⟩ : Rdr).int).1 = 3) := of_beq_f h330
       refine q_skip (by kernel_rfl) ?_
       refine qs ?_
       refine qs ?_
       refine qg ?_
       refine og 2 [(2, (ptr b1)), (3, (i64 0)), (4, (ptr b13)), (5, (ptr b31)), (39, (i64 (((⟨bs, 0, 0⟩ : Rdr).int).1))), (44, (Value.bool ((((⟨bs, 0, 0⟩ : Rdr).int).1) == 5)))] 2 ?_
       refine od ?_
       refine q_cond (o := .tmp 44) (b := ((((⟨bs, 0, 0⟩ : Rdr).int).1) == 5)) (by kernel_rfl) rfl (fun h364 => ?_) (fun h364 => ?_)
       ·rw [h364]
        have p365 : ((⟨bs, 0, 0⟩ : Rdr).int).1 = 5 := of_beq_t h364
        refine q_exit (id := 3) (by kernel_rfl) ?_
        refine qg ?_
        refine og 1 [(2, (ptr b1)), (3, (i64 0)), (4, (ptr b13)), (5, (ptr b31)), (55, (ptr b13))] 1 ?_
        refine Ops.call (by kernel_rfl) (d := (some 56)) (by kernel_rfl) (RdInt_calls _ b13 A14 c15 (((((⟨bs, 0, 0⟩ : Rdr).int).2).int).2) hok300 H299 F302 hne21 ) ?_
        rintro _ w366 ⟨rfl, K367, H368⟩
        have hok369 : ((((((⟨bs, 0, 0⟩ : Rdr).int).2).int).2).int).2.Ok := Rdr.Ok.int hok300
        have hu370 := Rdr.int_range (((((⟨bs, 0, 0⟩ : Rdr).int).2).int).2)
        refine ⟨_, _, rfl, rfl, ?_⟩
        replace K0 := K0.trans K367 (U := none_) (fun i h1 h2 => h2) (fun i h1 h2 => by have h2 : i = b13 := h2; exfalso; omega)
        replace H4 := H4.keep K367 (by intro h; change b1 = b13 at h; omega)
        replace H304 := H304.keep K367 (by intro h; change b31 = b13 at h; omega)
        replace F302 := RdO.keep F302 K367 (fun i _ _ hi hs => by have hs : i = b13 := hs; have := hne21 i _ _ hi; omega)
        clear K367
        have F371 : RdO w366 A14 c15 ((((((⟨bs, 0, 0⟩ : Rdr).int).2).int).2).int).2.bs := by rw [Rdr.int_bs]; exact F302
        clear F302
        refine og 1 [(2, (ptr b1)), (3, (i64 0)), (4, (ptr b13)), (5, (ptr b31)), (56, (i64 (((((((⟨bs, 0, 0⟩ : Rdr).int).2).int).2).int).1))), (57, (Value.pointer (some ⟨b31, 2, none⟩)))] 3 ?_
        refine Ops.put (t := 3) (b := b31) (off := 2) (v := (i64 (((((((⟨bs, 0, 0⟩ : Rdr).int).2).int).2).int).1))) (ys := [(i64 (((⟨bs, 0, 0⟩ : Rdr).int).1)), (i64 (((((⟨bs, 0, 0⟩ : Rdr).int).2).int).1)), (i64 (((((((⟨bs, 0, 0⟩ : Rdr).int).2).int).2).int).1)), (i64 0), (Value.string ByteArray.empty), (Value.string ByteArray.empty), (i64 0), (Value.string ByteArray.empty), (i64 0), (i64 0), (i64 0), (i64 0), (Value.slice none 0 0), (Value.slice none 0 0)]) (by kernel_rfl) (by kernel_rfl) H304 (by kernel_rfl) (d := none) (by kernel_rfl) rfl (fun w372 H373 K374 => ?_)
        clear H304
        replace K0 := K0.trans K374 (U := none_) (fun i h1 h2 => h2) (fun i h1 h2 => by have h2 : i = b31 := h2; exfalso; omega)
        replace H4 := H4.keep K374 (by intro h; change b1 = b31 at h; omega)
        replace H368 := H368.keep K374 (by intro h; change b13 = b31 at h; omega)
        replace F371 := RdO.keep F371 K374 (fun i _ _ hi hs => by have hs : i = b31 := hs; have := ob37 i _ _ hi; omega)
        clear K374
        refine od ?_
        refine qs ?_
        refine qg ?_
        refine og 1 [(2, (ptr b1)), (3, (i64 0)), (4, (ptr b13)), (5, (ptr b31)), (58, (ptr b13))] 1 ?_
        refine Ops.call (by kernel_rfl) (d := (some 59)) (by kernel_rfl) (RdBytesS_calls _ b13 A14 c15 (((((((⟨bs, 0, 0⟩ : Rdr).int).2).int).2).int).2) hok369 H368 F371 hne21 ) ?_
        rintro _ w375 ⟨A388, c389, rfl, K376, hO381, H377⟩
        have hok378 : ((((((((⟨bs, 0, 0⟩ : Rdr).int).2).int).2).int).2).bytes).2.Ok := Rdr.Ok.bytes hok369
        have hu379 := Rdr.bytes_le hok369
        have ob383 : ∀ i, ((Value.slice A388 (((((((((⟨bs, 0, 0⟩ : Rdr).int).2).int).2).int).2).bytes).1.length) c389)).ownBlock = some i → i ≠ b1 := fun i hi => by have := (World.ownsRow.lt hO381 i hi).1; have := H4.lt; omega
        have ob384 : ∀ i, ((Value.slice A388 (((((((((⟨bs, 0, 0⟩ : Rdr).int).2).int).2).int).2).bytes).1.length) c389)).ownBlock = some i → i ≠ b13 := fun i hi => by have := (World.ownsRow.lt hO381 i hi).1; have := H368.lt; omega
        have ob385 : ∀ i, ((Value.slice A388 (((((((((⟨bs, 0, 0⟩ : Rdr).int).2).int).2).int).2).bytes).1.length) c389)).ownBlock = some i → i ≠ b31 := fun i hi => by have := (World.ownsRow.lt hO381 i hi).1; have := H373.lt; omega
        have oo386 : ∀ i o s, A14 = some ⟨i, o, s⟩ → ((Value.slice A388 (((((((((⟨bs, 0, 0⟩ : Rdr).int).2).int).2).int).2).bytes).1.length) c389)).ownBlock = some i → False := fun i o s hi hs => by have := (World.ownsRow.lt hO381 i hs).1; have := F371.2 i o s hi; omega
        have O382 := own_base hO381 K0.size
        clear hO381
        refine ⟨_, _, rfl, rfl, ?_⟩
        replace K0 := K0.trans K376 (U := none_) (fun i h1 h2 => h2) (fun i h1 h2 => by have h2 : i = b13 := h2; exfalso; omega)
        replace H4 := H4.keep K376 (by intro h; change b1 = b13 at h; omega)
        replace H373 := H373.keep K376 (by intro h; change b31 = b13 at h; omega)
        replace F371 := RdO.keep F371 K376 (fun i _ _ hi hs => by have hs : i = b13 := hs; have := hne21 i _ _ hi; omega)
        clear K376
        have F390 : RdO w375 A14 c15 ((((((((⟨bs, 0, 0⟩ : Rdr).int).2).int).2).int).2).bytes).2.bs := by rw [Rdr.bytes_bs]; exact F371
        clear F371
        refine og 1 [(2, (ptr b1)), (3, (i64 0)), (4, (ptr b13)), (5, (ptr b31)), (59, (Value.slice A388 (((((((((⟨bs, 0, 0⟩ : Rdr).int).2).int).2).int).2).bytes).1.length) c389)), (60, (Value.pointer (some ⟨b31, 13, none⟩)))] 3 ?_
        refine Ops.put (t := 28) (b := b31) (off := 13) (v := (Value.slice A388 (((((((((⟨bs, 0, 0⟩ : Rdr).int).2).int).2).int).2).bytes).1.length) c389)) (ys := [(i64 (((⟨bs, 0, 0⟩ : Rdr).int).1)), (i64 (((((⟨bs, 0, 0⟩ : Rdr).int).2).int).1)), (i64 (((((((⟨bs, 0, 0⟩ : Rdr).int).2).int).2).int).1)), (i64 0), (Value.string ByteArray.empty), (Value.string ByteArray.empty), (i64 0), (Value.string ByteArray.empty), (i64 0), (i64 0), (i64 0), (i64 0), (Value.slice none 0 0), (Value.slice A388 (((((((((⟨bs, 0, 0⟩ : Rdr).int).2).int).2).int).2).bytes).1.length) c389)]) (by kernel_rfl) (by kernel_rfl) H373 (by kernel_rfl) (d := none) (by kernel_rfl) rfl (fun w391 H392 K393 => ?_)
        clear H373
        replace K0 := K0.trans K393 (U := none_) (fun i h1 h2 => h2) (fun i h1 h2 => by have h2 : i = b31 := h2; exfalso; omega)
        replace H4 := H4.keep K393 (by intro h; change b1 = b31 at h; omega)
        replace H377 := H377.keep K393 (by intro h; change b13 = b31 at h; omega)
        replace F390 := RdO.keep F390 K393 (fun i _ _ hi hs => by have hs : i = b31 := hs; have := ob37 i _ _ hi; omega)
        replace O382 := own_keep O382 K393 (fun i hi hs => by have hs : i = b31 := hs; have := ob385 i hi; omega)
        clear K393
        refine od ?_
        refine q_exit (id := 0) (by kernel_rfl) ?_
        refine qs ?_
        refine qs ?_
        refine qg ?_
        refine og 1 [(2, (ptr b1)), (3, (i64 0)), (5, (ptr b31)), (62, (ptr b13))] 1 ?_
        refine Ops.call (by kernel_rfl) (d := (some 63)) (by kernel_rfl) (RdEnd_calls _ b13 A14 c15 (((((((((⟨bs, 0, 0⟩ : Rdr).int).2).int).2).int).2).bytes).2) hok378 H377 F390 hne21) ?_
        rintro _ w394 ⟨rfl, K395⟩
        refine ⟨_, _, rfl, rfl, ?_⟩
        replace K0 := K0.t0 K395
        replace H4 := H4.keep K395 (fun h => h)
        replace H377 := H377.keep K395 (fun h => h)
        replace H392 := H392.keep K395 (fun h => h)
        replace F390 := RdO.keep0 F390 K395
        replace O382 := own_keep0 O382 K395
        clear K395
        refine og 1 [(2, (ptr b1)), (3, (i64 0)), (5, (ptr b31)), (7, (i64 ((((((((((⟨bs, 0, 0⟩ : Rdr).int).2).int).2).int).2).bytes).2).end_)))] 3 ?_
        refine od ?_
        refine qs ?_
        refine qg ?_
        refine og 2 [(2, (ptr b1)), (3, (i64 0)), (5, (ptr b31)), (7, (i64 ((((((((((⟨bs, 0, 0⟩ : Rdr).int).2).int).2).int).2).bytes).2).end_))), (65, (Value.bool (((((((((((⟨bs, 0, 0⟩ : Rdr).int).2).int).2).int).2).bytes).2).end_) != 0)))] 2 ?_
        refine od ?_
        refine q_cond (o := .tmp 65) (b := (((((((((((⟨bs, 0, 0⟩ : Rdr).int).2).int).2).int).2).bytes).2).end_) != 0)) (by kernel_rfl) rfl (fun h396 => ?_) (fun h396 => ?_)
        ·rw [h396]
         have p397 : ¬ ((((((((((⟨bs, 0, 0⟩ : Rdr).int).2).int).2).int).2).bytes).2).end_ = 0) := of_bne_t h396
         have hecq398 := end_or (((((((((⟨bs, 0, 0⟩ : Rdr).int).2).int).2).int).2).bytes).2)
         refine qs ?_
         refine qg ?_
         refine og 2 [(2, (ptr b1)), (3, (i64 0)), (5, (ptr b31)), (66, (agg [(i64 0), (i64 0), (i64 0), (i64 0), (Value.string ByteArray.empty), (Value.string ByteArray.empty), (i64 0), (Value.string ByteArray.empty), (i64 0), (i64 0), (i64 0), (i64 0), (Value.slice none 0 0), (Value.slice none 0 0)])), (67, (i64 ((((((((((⟨bs, 0, 0⟩ : Rdr).int).2).int).2).int).2).bytes).2).end_)))] 2 ?_
         refine Ops.put (t := 33) (b := b1) (off := 0) (v := (agg [(i64 0), (i64 0), (i64 0), (i64 0), (Value.string ByteArray.empty), (Value.string ByteArray.empty), (i64 0), (Value.string ByteArray.empty), (i64 0), (i64 0), (i64 0), (i64 0), (Value.slice none 0 0), (Value.slice none 0 0)])) (ys := [(i64 0), (i64 0), (i64 0), (i64 0), (Value.string ByteArray.empty), (Value.string ByteArray.empty), (i64 0), (Value.string ByteArray.empty), (i64 0), (i64 0), (i64 0), (i64 0), (Value.slice none 0 0), (Value.slice none 0 0)]) (by kernel_rfl) (by kernel_rfl) H4 (by kernel_rfl) (d := none) (by kernel_rfl) rfl (fun w399 H400 K401 => ?_)
         clear H4
         replace K0 := K0.trans K401 (U := none_) (fun i h1 h2 => h2) (fun i h1 h2 => by have h2 : i = b1 := h2; exfalso; omega)
         replace H377 := H377.keep K401 (by intro h; change b13 = b1 at h; omega)
         replace H392 := H392.keep K401 (by intro h; change b31 = b1 at h; omega)
         replace F390 := RdO.keep F390 K401 (fun i _ _ hi hs => by have hs : i = b1 := hs; have := ob24 i _ _ hi; omega)
         replace O382 := own_keep O382 K401 (fun i hi hs => by have hs : i = b1 := hs; have := ob383 i hi; omega)
         clear K401
         refine og 1 [(2, (ptr b1)), (3, (i64 ((((((((((⟨bs, 0, 0⟩ : Rdr).int).2).int).2).int).2).bytes).2).end_))), (5, (ptr b31))] 4 ?_
         refine od ?_
         refine q_ret (by kernel_rfl) ?_
         refine ⟨(Value.tuple #[(agg [(i64 0), (i64 0), (i64 0), (i64 0), (Value.string ByteArray.empty), (Value.string ByteArray.empty), (i64 0), (Value.string ByteArray.empty), (i64 0), (i64 0), (i64 0), (i64 0), (Value.slice none 0 0), (Value.slice none 0 0)]), (i64 ((((((((((⟨bs, 0, 0⟩ : Rdr).int).2).int).2).int).2).bytes).2).end_))]), retv_cell_tmp rfl rfl (H400.loads (by kernel_rfl)) rfl, ?_⟩
         have hl2 : (letR (⟨bs, 0, 0⟩ : Rdr).int.1 (⟨bs, 0, 0⟩ : Rdr).int.2).2 = ((((((((⟨bs, 0, 0⟩ : Rdr).int).2).int).2).int).2).bytes).2 := by unfold letR; first | (rw [if_pos (by omega)] <;> rfl) | (rw [if_neg (by omega), if_pos (by omega)] <;> rfl) | (rw [if_neg (by omega), if_neg (by omega), if_pos (by omega)] <;> rfl) | (rw [if_neg (by omega), if_neg (by omega), if_neg (by omega), if_pos (by omega)] <;> rfl) | (rw [if_neg (by omega), if_neg (by omega), if_neg (by omega), if_neg (by omega)] <;> rfl)
         have e : unpackB bs = (LetP.zero, (((((((((⟨bs, 0, 0⟩ : Rdr).int).2).int).2).int).2).bytes).2).end_) := by unfold unpackB; rw [if_neg (by omega), if_neg (by omega), if_neg (by omega), if_pos (by rw [hl2]; omega), hl2]
         exact ⟨none, 0, none, 0, by rw [e]; rfl, K0, by rw [e]; exact (OwnT.nil _ _ _ _ _), by rw [e]; exact (World.ownsRow_nil _ _ _ _)⟩
        ·rw [h396]
         have p402 : (((((((((⟨bs, 0, 0⟩ : Rdr).int).2).int).2).int).2).bytes).2).end_ = 0 := of_bne_f h396
         have hecq403 := end_or (((((((((⟨bs, 0, 0⟩ : Rdr).int).2).int).2).int).2).bytes).2)
         refine q_skip (by kernel_rfl) ?_
         refine qs ?_
         refine qg ?_
         refine Ops.go (v := (agg [(i64 (((⟨bs, 0, 0⟩ : Rdr).int).1)), (i64 (((((⟨bs, 0, 0⟩ : Rdr).int).2).int).1)), (i64 (((((((⟨bs, 0, 0⟩ : Rdr).int).2).int).2).int).1)), (i64 0), (Value.string ByteArray.empty), (Value.string ByteArray.empty), (i64 0), (Value.string ByteArray.empty), (i64 0), (i64 0), (i64 0), (i64 0), (Value.slice none 0 0), (Value.slice A388 (((((((((⟨bs, 0, 0⟩ : Rdr).int).2).int).2).int).2).bytes).1.length) c389)])) (by kernel_rfl) (Runs.load (t := 33) (a := ⟨b31, 0, none⟩) (by kernel_rfl) (H392.loads (by kernel_rfl))) (d := (some 68)) (by kernel_rfl) rfl ?_
         refine Ops.put (t := 33) (b := b1) (off := 0) (v := (agg [(i64 (((⟨bs, 0, 0⟩ : Rdr).int).1)), (i64 (((((⟨bs, 0, 0⟩ : Rdr).int).2).int).1)), (i64 (((((((⟨bs, 0, 0⟩ : Rdr).int).2).int).2).int).1)), (i64 0), (Value.string ByteArray.empty), (Value.string ByteArray.empty), (i64 0), (Value.string ByteArray.empty), (i64 0), (i64 0), (i64 0), (i64 0), (Value.slice none 0 0), (Value.slice A388 (((((((((⟨bs, 0, 0⟩ : Rdr).int).2).int).2).int).2).bytes).1.length) c389)])) (ys := [(i64 (((⟨bs, 0, 0⟩ : Rdr).int).1)), (i64 (((((⟨bs, 0, 0⟩ : Rdr).int).2).int).1)), (i64 (((((((⟨bs, 0, 0⟩ : Rdr).int).2).int).2).int).1)), (i64 0), (Value.string ByteArray.empty), (Value.string ByteArray.empty), (i64 0), (Value.string ByteArray.empty), (i64 0), (i64 0), (i64 0), (i64 0), (Value.slice none 0 0), (Value.slice A388 (((((((((⟨bs, 0, 0⟩ : Rdr).int).2).int).2).int).2).bytes).1.length) c389)]) (by kernel_rfl) (by kernel_rfl) H4 (by kernel_rfl) (d := none) (by kernel_rfl) rfl (fun w404 H405 K406 => ?_)
         clear H4
         replace K0 := K0.trans K406 (U := none_) (fun i h1 h2 => h2) (fun i h1 h2 => by have h2 : i = b1 := h2; exfalso; omega)
         replace H377 := H377.keep K406 (by intro h; change b13 = b1 at h; omega)
         replace H392 := H392.keep K406 (by intro h; change b31 = b1 at h; omega)
         replace F390 := RdO.keep F390 K406 (fun i _ _ hi hs => by have hs : i = b1 := hs; have := ob24 i _ _ hi; omega)
         replace O382 := own_keep O382 K406 (fun i hi hs => by have hs : i = b1 := hs; have := ob383 i hi; omega)
         clear K406
         refine og 1 [(2, (ptr b1)), (3, (i64 0))] 3 ?_
         refine od ?_
         refine q_ret (by kernel_rfl) ?_
         refine ⟨(Value.tuple #[(agg [(i64 (((⟨bs, 0, 0⟩ : Rdr).int).1)), (i64 (((((⟨bs, 0, 0⟩ : Rdr).int).2).int).1)), (i64 (((((((⟨bs, 0, 0⟩ : Rdr).int).2).int).2).int).1)), (i64 0), (Value.string ByteArray.empty), (Value.string ByteArray.empty), (i64 0), (Value.string ByteArray.empty), (i64 0), (i64 0), (i64 0), (i64 0), (Value.slice none 0 0), (Value.slice A388 (((((((((⟨bs, 0, 0⟩ : Rdr).int).2).int).2).int).2).bytes).1.length) c389)]), (i64 0)]), retv_cell_tmp rfl rfl (H405.loads (by kernel_rfl)) rfl, ?_⟩
         have hl : letR (⟨bs, 0, 0⟩ : Rdr).int.1 (⟨bs, 0, 0⟩ : Rdr).int.2 = ((⟨((⟨bs, 0, 0⟩ : Rdr).int).1, ((((⟨bs, 0, 0⟩ : Rdr).int).2).int).1, ((((((⟨bs, 0, 0⟩ : Rdr).int).2).int).2).int).1, ⟨0, [], [], 0, [], 0, 0⟩, ⟨0, 0, []⟩, ((((((((⟨bs, 0, 0⟩ : Rdr).int).2).int).2).int).2).bytes).1⟩ : LetP), ((((((((⟨bs, 0, 0⟩ : Rdr).int).2).int).2).int).2).bytes).2) := by unfold letR; first | (rw [if_pos (by omega)] <;> rfl) | (rw [if_neg (by omega), if_pos (by omega)] <;> rfl) | (rw [if_neg (by omega), if_neg (by omega), if_pos (by omega)] <;> rfl) | (rw [if_neg (by omega), if_neg (by omega), if_neg (by omega), if_pos (by omega)] <;> rfl) | (rw [if_neg (by omega), if_neg (by omega), if_neg (by omega), if_neg (by omega)] <;> rfl)
         have e : unpackB bs = ((⟨((⟨bs, 0, 0⟩ : Rdr).int).1, ((((⟨bs, 0, 0⟩ : Rdr).int).2).int).1, ((((((⟨bs, 0, 0⟩ : Rdr).int).2).int).2).int).1, ⟨0, [], [], 0, [], 0, 0⟩, ⟨0, 0, []⟩, ((((((((⟨bs, 0, 0⟩ : Rdr).int).2).int).2).int).2).bytes).1⟩ : LetP), 0) := by unfold unpackB; rw [if_neg (by omega), if_neg (by omega), if_neg (by omega), if_neg (by rw [hl]; show ¬ ((((((((((⟨bs, 0, 0⟩ : Rdr).int).2).int).2).int).2).bytes).2).end_ ≠ 0); omega), hl]
         exact ⟨none, 0, A388, c389, by rw [e]; rfl, K0, by rw [e]; exact (OwnT.nil _ _ _ _ _), by rw [e]; exact O382⟩
       ·rw [h364]
        have p407 : ¬ (((⟨bs, 0, 0⟩ : Rdr).int).1 = 5) := of_beq_f h364
        refine q_skip (by kernel_rfl) ?_
        refine qs ?_
        refine qs ?_
        refine qg ?_
        refine og 2 [(2, (ptr b1)), (3, (i64 0)), (4, (ptr b13)), (5, (ptr b31)), (39, (i64 (((⟨bs, 0, 0⟩ : Rdr).int).1))), (46, (Value.bool ((((⟨bs, 0, 0⟩ : Rdr).int).1) == 1)))] 2 ?_
        refine od ?_
        refine q_cond (o := .tmp 46) (b := ((((⟨bs, 0, 0⟩ : Rdr).int).1) == 1)) (by kernel_rfl) rfl (fun h408 => ?_) (fun h408 => ?_)
        ·rw [h408]
         have p409 : ((⟨bs, 0, 0⟩ : Rdr).int).1 = 1 := of_beq_t h408
         refine q_skip (by kernel_rfl) ?_
         refine q_then (o := .tmp 46) (by kernel_rfl) rfl ?_
         refine q_exit (id := 4) (by kernel_rfl) ?_
         refine qs ?_
         refine qg ?_
         refine og 1 [(2, (ptr b1)), (3, (i64 0)), (4, (ptr b13)), (5, (ptr b31)), (58, (ptr b13))] 1 ?_
         refine Ops.call (by kernel_rfl) (d := (some 59)) (by kernel_rfl) (RdBytesS_calls _ b13 A14 c15 (((((⟨bs, 0, 0⟩ : Rdr).int).2).int).2) hok300 H299 F302 hne21 ) ?_
         rintro _ w410 ⟨A423, c424, rfl, K411, hO416, H412⟩
         have hok413 : ((((((⟨bs, 0, 0⟩ : Rdr).int).2).int).2).bytes).2.Ok := Rdr.Ok.bytes hok300
         have hu414 := Rdr.bytes_le hok300
         have ob418 : ∀ i, ((Value.slice A423 (((((((⟨bs, 0, 0⟩ : Rdr).int).2).int).2).bytes).1.length) c424)).ownBlock = some i → i ≠ b1 := fun i hi => by have := (World.ownsRow.lt hO416 i hi).1; have := H4.lt; omega
         have ob419 : ∀ i, ((Value.slice A423 (((((((⟨bs, 0, 0⟩ : Rdr).int).2).int).2).bytes).1.length) c424)).ownBlock = some i → i ≠ b13 := fun i hi => by have := (World.ownsRow.lt hO416 i hi).1; have := H299.lt; omega
         have ob420 : ∀ i, ((Value.slice A423 (((((((⟨bs, 0, 0⟩ : Rdr).int).2).int).2).bytes).1.length) c424)).ownBlock = some i → i ≠ b31 := fun i hi => by have := (World.ownsRow.lt hO416 i hi).1; have := H304.lt; omega
         have oo421 : ∀ i o s, A14 = some ⟨i, o, s⟩ → ((Value.slice A423 (((((((⟨bs, 0, 0⟩ : Rdr).int).2).int).2).bytes).1.length) c424)).ownBlock = some i → False := fun i o s hi hs => by have := (World.ownsRow.lt hO416 i hs).1; have := F302.2 i o s hi; omega
         have O417 := own_base hO416 K0.size
         clear hO416
         refine ⟨_, _, rfl, rfl, ?_⟩
         replace K0 := K0.trans K411 (U := none_) (fun i h1 h2 => h2) (fun i h1 h2 => by have h2 : i = b13 := h2; exfalso; omega)
         replace H4 := H4.keep K411 (by intro h; change b1 = b13 at h; omega)
         replace H304 := H304.keep K411 (by intro h; change b31 = b13 at h; omega)
         replace F302 := RdO.keep F302 K411 (fun i _ _ hi hs => by have hs : i = b13 := hs; have := hne21 i _ _ hi; omega)
         clear K411
         have F425 : RdO w410 A14 c15 ((((((⟨bs, 0, 0⟩ : Rdr).int).2).int).2).bytes).2.bs := by rw [Rdr.bytes_bs]; exact F302
         clear F302
         refine og 1 [(2, (ptr b1)), (3, (i64 0)), (4, (ptr b13)), (5, (ptr b31)), (59, (Value.slice A423 (((((((⟨bs, 0, 0⟩ : Rdr).int).2).int).2).bytes).1.length) c424)), (60, (Value.pointer (some ⟨b31, 13, none⟩)))] 3 ?_
         refine Ops.put (t := 28) (b := b31) (off := 13) (v := (Value.slice A423 (((((((⟨bs, 0, 0⟩ : Rdr).int).2).int).2).bytes).1.length) c424)) (ys := [(i64 (((⟨bs, 0, 0⟩ : Rdr).int).1)), (i64 (((((⟨bs, 0, 0⟩ : Rdr).int).2).int).1)), (i64 0), (i64 0), (Value.string ByteArray.empty), (Value.string ByteArray.empty), (i64 0), (Value.string ByteArray.empty), (i64 0), (i64 0), (i64 0), (i64 0), (Value.slice none 0 0), (Value.slice A423 (((((((⟨bs, 0, 0⟩ : Rdr).int).2).int).2).bytes).1.length) c424)]) (by kernel_rfl) (by kernel_rfl) H304 (by kernel_rfl) (d := none) (by kernel_rfl) rfl (fun w426 H427 K428 => ?_)
         clear H304
         replace K0 := K0.trans K428 (U := none_) (fun i h1 h2 => h2) (fun i h1 h2 => by have h2 : i = b31 := h2; exfalso; omega)
         replace H4 := H4.keep K428 (by intro h; change b1 = b31 at h; omega)
         replace H412 := H412.keep K428 (by intro h; change b13 = b31 at h; omega)
         replace F425 := RdO.keep F425 K428 (fun i _ _ hi hs => by have hs : i = b31 := hs; have := ob37 i _ _ hi; omega)
         replace O417 := own_keep O417 K428 (fun i hi hs => by have hs : i = b31 := hs; have := ob420 i hi; omega)
         clear K428
         refine od ?_
         refine q_exit (id := 0) (by kernel_rfl) ?_
         refine qs ?_
         refine qs ?_
         refine qg ?_
         refine og 1 [(2, (ptr b1)), (3, (i64 0)), (5, (ptr b31)), (62, (ptr b13))] 1 ?_
         refine Ops.call (by kernel_rfl) (d := (some 63)) (by kernel_rfl) (RdEnd_calls _ b13 A14 c15 (((((((⟨bs, 0, 0⟩ : Rdr).int).2).int).2).bytes).2) hok413 H412 F425 hne21) ?_
         rintro _ w429 ⟨rfl, K430⟩
         refine ⟨_, _, rfl, rfl, ?_⟩
         replace K0 := K0.t0 K430
         replace H4 := H4.keep K430 (fun h => h)
         replace H412 := H412.keep K430 (fun h => h)
         replace H427 := H427.keep K430 (fun h => h)
         replace F425 := RdO.keep0 F425 K430
         replace O417 := own_keep0 O417 K430
         clear K430
         refine og 1 [(2, (ptr b1)), (3, (i64 0)), (5, (ptr b31)), (7, (i64 ((((((((⟨bs, 0, 0⟩ : Rdr).int).2).int).2).bytes).2).end_)))] 3 ?_
         refine od ?_
         refine qs ?_
         refine qg ?_
         refine og 2 [(2, (ptr b1)), (3, (i64 0)), (5, (ptr b31)), (7, (i64 ((((((((⟨bs, 0, 0⟩ : Rdr).int).2).int).2).bytes).2).end_))), (65, (Value.bool (((((((((⟨bs, 0, 0⟩ : Rdr).int).2).int).2).bytes).2).end_) != 0)))] 2 ?_
         refine od ?_
         refine q_cond (o := .tmp 65) (b := (((((((((⟨bs, 0, 0⟩ : Rdr).int).2).int).2).bytes).2).end_) != 0)) (by kernel_rfl) rfl (fun h431 => ?_) (fun h431 => ?_)
         ·rw [h431]
          have p432 : ¬ ((((((((⟨bs, 0, 0⟩ : Rdr).int).2).int).2).bytes).2).end_ = 0) := of_bne_t h431
          have hecq433 := end_or (((((((⟨bs, 0, 0⟩ : Rdr).int).2).int).2).bytes).2)
          refine qs ?_
          refine qg ?_
          refine og 2 [(2, (ptr b1)), (3, (i64 0)), (5, (ptr b31)), (66, (agg [(i64 0), (i64 0), (i64 0), (i64 0), (Value.string ByteArray.empty), (Value.string ByteArray.empty), (i64 0), (Value.string ByteArray.empty), (i64 0), (i64 0), (i64 0), (i64 0), (Value.slice none 0 0), (Value.slice none 0 0)])), (67, (i64 ((((((((⟨bs, 0, 0⟩ : Rdr).int).2).int).2).bytes).2).end_)))] 2 ?_
          refine Ops.put (t := 33) (b := b1) (off := 0) (v := (agg [(i64 0), (i64 0), (i64 0), (i64 0), (Value.string ByteArray.empty), (Value.string ByteArray.empty), (i64 0), (Value.string ByteArray.empty), (i64 0), (i64 0), (i64 0), (i64 0), (Value.slice none 0 0), (Value.slice none 0 0)])) (ys := [(i64 0), (i64 0), (i64 0), (i64 0), (Value.string ByteArray.empty), (Value.string ByteArray.empty), (i64 0), (Value.string ByteArray.empty), (i64 0), (i64 0), (i64 0), (i64 0), (Value.slice none 0 0), (Value.slice none 0 0)]) (by kernel_rfl) (by kernel_rfl) H4 (by kernel_rfl) (d := none) (by kernel_rfl) rfl (fun w434 H435 K436 => ?_)
          clear H4
          replace K0 := K0.trans K436 (U := none_) (fun i h1 h2 => h2) (fun i h1 h2 => by have h2 : i = b1 := h2; exfalso; omega)
          replace H412 := H412.keep K436 (by intro h; change b13 = b1 at h; omega)
          replace H427 := H427.keep K436 (by intro h; change b31 = b1 at h; omega)
          replace F425 := RdO.keep F425 K436 (fun i _ _ hi hs => by have hs : i = b1 := hs; have := ob24 i _ _ hi; omega)
          replace O417 := own_keep O417 K436 (fun i hi hs => by have hs : i = b1 := hs; have := ob418 i hi; omega)
          clear K436
          refine og 1 [(2, (ptr b1)), (3, (i64 ((((((((⟨bs, 0, 0⟩ : Rdr).int).2).int).2).bytes).2).end_))), (5, (ptr b31))] 4 ?_
          refine od ?_
          refine q_ret (by kernel_rfl) ?_
          refine ⟨(Value.tuple #[(agg [(i64 0), (i64 0), (i64 0), (i64 0), (Value.string ByteArray.empty), (Value.string ByteArray.empty), (i64 0), (Value.string ByteArray.empty), (i64 0), (i64 0), (i64 0), (i64 0), (Value.slice none 0 0), (Value.slice none 0 0)]), (i64 ((((((((⟨bs, 0, 0⟩ : Rdr).int).2).int).2).bytes).2).end_))]), retv_cell_tmp rfl rfl (H435.loads (by kernel_rfl)) rfl, ?_⟩
          have hl2 : (letR (⟨bs, 0, 0⟩ : Rdr).int.1 (⟨bs, 0, 0⟩ : Rdr).int.2).2 = ((((((⟨bs, 0, 0⟩ : Rdr).int).2).int).2).bytes).2 := by unfold letR; first | (rw [if_pos (by omega)] <;> rfl) | (rw [if_neg (by omega), if_pos (by omega)] <;> rfl) | (rw [if_neg (by omega), if_neg (by omega), if_pos (by omega)] <;> rfl) | (rw [if_neg (by omega), if_neg (by omega), if_neg (by omega), if_pos (by omega)] <;> rfl) | (rw [if_neg (by omega), if_neg (by omega), if_neg (by omega), if_neg (by omega)] <;> rfl)
          have e : unpackB bs = (LetP.zero, (((((((⟨bs, 0, 0⟩ : Rdr).int).2).int).2).bytes).2).end_) := by unfold unpackB; rw [if_neg (by omega), if_neg (by omega), if_neg (by omega), if_pos (by rw [hl2]; omega), hl2]
          exact ⟨none, 0, none, 0, by rw [e]; rfl, K0, by rw [e]; exact (OwnT.nil _ _ _ _ _), by rw [e]; exact (World.ownsRow_nil _ _ _ _)⟩
         ·rw [h431]
          have p437 : (((((((⟨bs, 0, 0⟩ : Rdr).int).2).int).2).bytes).2).end_ = 0 := of_bne_f h431
          have hecq438 := end_or (((((((⟨bs, 0, 0⟩ : Rdr).int).2).int).2).bytes).2)
          refine q_skip (by kernel_rfl) ?_
          refine qs ?_
          refine qg ?_
          refine Ops.go (v := (agg [(i64 (((⟨bs, 0, 0⟩ : Rdr).int).1)), (i64 (((((⟨bs, 0, 0⟩ : Rdr).int).2).int).1)), (i64 0), (i64 0), (Value.string ByteArray.empty), (Value.string ByteArray.empty), (i64 0), (Value.string ByteArray.empty), (i64 0), (i64 0), (i64 0), (i64 0), (Value.slice none 0 0), (Value.slice A423 (((((((⟨bs, 0, 0⟩ : Rdr).int).2).int).2).bytes).1.length) c424)])) (by kernel_rfl) (Runs.load (t := 33) (a := ⟨b31, 0, none⟩) (by kernel_rfl) (H427.loads (by kernel_rfl))) (d := (some 68)) (by kernel_rfl) rfl ?_
          refine Ops.put (t := 33) (b := b1) (off := 0) (v := (agg [(i64 (((⟨bs, 0, 0⟩ : Rdr).int).1)), (i64 (((((⟨bs, 0, 0⟩ : Rdr).int).2).int).1)), (i64 0), (i64 0), (Value.string ByteArray.empty), (Value.string ByteArray.empty), (i64 0), (Value.string ByteArray.empty), (i64 0), (i64 0), (i64 0), (i64 0), (Value.slice none 0 0), (Value.slice A423 (((((((⟨bs, 0, 0⟩ : Rdr).int).2).int).2).bytes).1.length) c424)])) (ys := [(i64 (((⟨bs, 0, 0⟩ : Rdr).int).1)), (i64 (((((⟨bs, 0, 0⟩ : Rdr).int).2).int).1)), (i64 0), (i64 0), (Value.string ByteArray.empty), (Value.string ByteArray.empty), (i64 0), (Value.string ByteArray.empty), (i64 0), (i64 0), (i64 0), (i64 0), (Value.slice none 0 0), (Value.slice A423 (((((((⟨bs, 0, 0⟩ : Rdr).int).2).int).2).bytes).1.length) c424)]) (by kernel_rfl) (by kernel_rfl) H4 (by kernel_rfl) (d := none) (by kernel_rfl) rfl (fun w439 H440 K441 => ?_)
          clear H4
          replace K0 := K0.trans K441 (U := none_) (fun i h1 h2 => h2) (fun i h1 h2 => by have h2 : i = b1 := h2; exfalso; omega)
          replace H412 := H412.keep K441 (by intro h; change b13 = b1 at h; omega)
          replace H427 := H427.keep K441 (by intro h; change b31 = b1 at h; omega)
          replace F425 := RdO.keep F425 K441 (fun i _ _ hi hs => by have hs : i = b1 := hs; have := ob24 i _ _ hi; omega)
          replace O417 := own_keep O417 K441 (fun i hi hs => by have hs : i = b1 := hs; have := ob418 i hi; omega)
          clear K441
          refine og 1 [(2, (ptr b1)), (3, (i64 0))] 3 ?_
          refine od ?_
          refine q_ret (by kernel_rfl) ?_
          refine ⟨(Value.tuple #[(agg [(i64 (((⟨bs, 0, 0⟩ : Rdr).int).1)), (i64 (((((⟨bs, 0, 0⟩ : Rdr).int).2).int).1)), (i64 0), (i64 0), (Value.string ByteArray.empty), (Value.string ByteArray.empty), (i64 0), (Value.string ByteArray.empty), (i64 0), (i64 0), (i64 0), (i64 0), (Value.slice none 0 0), (Value.slice A423 (((((((⟨bs, 0, 0⟩ : Rdr).int).2).int).2).bytes).1.length) c424)]), (i64 0)]), retv_cell_tmp rfl rfl (H440.loads (by kernel_rfl)) rfl, ?_⟩
          have hl : letR (⟨bs, 0, 0⟩ : Rdr).int.1 (⟨bs, 0, 0⟩ : Rdr).int.2 = ((⟨((⟨bs, 0, 0⟩ : Rdr).int).1, ((((⟨bs, 0, 0⟩ : Rdr).int).2).int).1, 0, ⟨0, [], [], 0, [], 0, 0⟩, ⟨0, 0, []⟩, ((((((⟨bs, 0, 0⟩ : Rdr).int).2).int).2).bytes).1⟩ : LetP), ((((((⟨bs, 0, 0⟩ : Rdr).int).2).int).2).bytes).2) := by unfold letR; first | (rw [if_pos (by omega)] <;> rfl) | (rw [if_neg (by omega), if_pos (by omega)] <;> rfl) | (rw [if_neg (by omega), if_neg (by omega), if_pos (by omega)] <;> rfl) | (rw [if_neg (by omega), if_neg (by omega), if_neg (by omega), if_pos (by omega)] <;> rfl) | (rw [if_neg (by omega), if_neg (by omega), if_neg (by omega), if_neg (by omega)] <;> rfl)
          have e : unpackB bs = ((⟨((⟨bs, 0, 0⟩ : Rdr).int).1, ((((⟨bs, 0, 0⟩ : Rdr).int).2).int).1, 0, ⟨0, [], [], 0, [], 0, 0⟩, ⟨0, 0, []⟩, ((((((⟨bs, 0, 0⟩ : Rdr).int).2).int).2).bytes).1⟩ : LetP), 0) := by unfold unpackB; rw [if_neg (by omega), if_neg (by omega), if_neg (by omega), if_neg (by rw [hl]; show ¬ ((((((((⟨bs, 0, 0⟩ : Rdr).int).2).int).2).bytes).2).end_ ≠ 0); omega), hl]
          exact ⟨none, 0, A423, c424, by rw [e]; rfl, K0, by rw [e]; exact (OwnT.nil _ _ _ _ _), by rw [e]; exact O417⟩
        ·rw [h408]
         have p442 : ¬ (((⟨bs, 0, 0⟩ : Rdr).int).1 = 1) := of_beq_f h408
         refine qg ?_
         refine og 2 [(2, (ptr b1)), (3, (i64 0)), (4, (ptr b13)), (5, (ptr b31)), (46, (Value.bool ((((⟨bs, 0, 0⟩ : Rdr).int).1) == 4)))] 2 ?_
         refine od ?_
         refine q_cond (o := .tmp 46) (b := ((((⟨bs, 0, 0⟩ : Rdr).int).1) == 4)) (by kernel_rfl) rfl (fun h443 => ?_) (fun h443 => ?_)
         ·rw [h443]
          have p444 : ((⟨bs, 0, 0⟩ : Rdr).int).1 = 4 := of_beq_t h443
          refine q_exit (id := 4) (by kernel_rfl) ?_
          refine qs ?_
          refine qg ?_
          refine og 1 [(2, (ptr b1)), (3, (i64 0)), (4, (ptr b13)), (5, (ptr b31)), (58, (ptr b13))] 1 ?_
          refine Ops.call (by kernel_rfl) (d := (some 59)) (by kernel_rfl) (RdBytesS_calls _ b13 A14 c15 (((((⟨bs, 0, 0⟩ : Rdr).int).2).int).2) hok300 H299 F302 hne21 ) ?_
          rintro _ w445 ⟨A458, c459, rfl, K446, hO451, H447⟩
          have hok448 : ((((((⟨bs, 0, 0⟩ : Rdr).int).2).int).2).bytes).2.Ok := Rdr.Ok.bytes hok300
          have hu449 := Rdr.bytes_le hok300
          have ob453 : ∀ i, ((Value.slice A458 (((((((⟨bs, 0, 0⟩ : Rdr).int).2).int).2).bytes).1.length) c459)).ownBlock = some i → i ≠ b1 := fun i hi => by have := (World.ownsRow.lt hO451 i hi).1; have := H4.lt; omega
          have ob454 : ∀ i, ((Value.slice A458 (((((((⟨bs, 0, 0⟩ : Rdr).int).2).int).2).bytes).1.length) c459)).ownBlock = some i → i ≠ b13 := fun i hi => by have := (World.ownsRow.lt hO451 i hi).1; have := H299.lt; omega
          have ob455 : ∀ i, ((Value.slice A458 (((((((⟨bs, 0, 0⟩ : Rdr).int).2).int).2).bytes).1.length) c459)).ownBlock = some i → i ≠ b31 := fun i hi => by have := (World.ownsRow.lt hO451 i hi).1; have := H304.lt; omega
          have oo456 : ∀ i o s, A14 = some ⟨i, o, s⟩ → ((Value.slice A458 (((((((⟨bs, 0, 0⟩ : Rdr).int).2).int).2).bytes).1.length) c459)).ownBlock = some i → False := fun i o s hi hs => by have := (World.ownsRow.lt hO451 i hs).1; have := F302.2 i o s hi; omega
          have O452 := own_base hO451 K0.size
          clear hO451
          refine ⟨_, _, rfl, rfl, ?_⟩
          replace K0 := K0.trans K446 (U := none_) (fun i h1 h2 => h2) (fun i h1 h2 => by have h2 : i = b13 := h2; exfalso; omega)
          replace H4 := H4.keep K446 (by intro h; change b1 = b13 at h; omega)
          replace H304 := H304.keep K446 (by intro h; change b31 = b13 at h; omega)
          replace F302 := RdO.keep F302 K446 (fun i _ _ hi hs => by have hs : i = b13 := hs; have := hne21 i _ _ hi; omega)
          clear K446
          have F460 : RdO w445 A14 c15 ((((((⟨bs, 0, 0⟩ : Rdr).int).2).int).2).bytes).2.bs := by rw [Rdr.bytes_bs]; exact F302
          clear F302
          refine og 1 [(2, (ptr b1)), (3, (i64 0)), (4, (ptr b13)), (5, (ptr b31)), (59, (Value.slice A458 (((((((⟨bs, 0, 0⟩ : Rdr).int).2).int).2).bytes).1.length) c459)), (60, (Value.pointer (some ⟨b31, 13, none⟩)))] 3 ?_
          refine Ops.put (t := 28) (b := b31) (off := 13) (v := (Value.slice A458 (((((((⟨bs, 0, 0⟩ : Rdr).int).2).int).2).bytes).1.length) c459)) (ys := [(i64 (((⟨bs, 0, 0⟩ : Rdr).int).1)), (i64 (((((⟨bs, 0, 0⟩ : Rdr).int).2).int).1)), (i64 0), (i64 0), (Value.string ByteArray.empty), (Value.string ByteArray.empty), (i64 0), (Value.string ByteArray.empty), (i64 0), (i64 0), (i64 0), (i64 0), (Value.slice none 0 0), (Value.slice A458 (((((((⟨bs, 0, 0⟩ : Rdr).int).2).int).2).bytes).1.length) c459)]) (by kernel_rfl) (by kernel_rfl) H304 (by kernel_rfl) (d := none) (by kernel_rfl) rfl (fun w461 H462 K463 => ?_)
          clear H304
          replace K0 := K0.trans K463 (U := none_) (fun i h1 h2 => h2) (fun i h1 h2 => by have h2 : i = b31 := h2; exfalso; omega)
          replace H4 := H4.keep K463 (by intro h; change b1 = b31 at h; omega)
          replace H447 := H447.keep K463 (by intro h; change b13 = b31 at h; omega)
          replace F460 := RdO.keep F460 K463 (fun i _ _ hi hs => by have hs : i = b31 := hs; have := ob37 i _ _ hi; omega)
          replace O452 := own_keep O452 K463 (fun i hi hs => by have hs : i = b31 := hs; have := ob455 i hi; omega)
          clear K463
          refine od ?_
          refine q_exit (id := 0) (by kernel_rfl) ?_
          refine qs ?_
          refine qs ?_
          refine qg ?_
          refine og 1 [(2, (ptr b1)), (3, (i64 0)), (5, (ptr b31)), (62, (ptr b13))] 1 ?_
          refine Ops.call (by kernel_rfl) (d := (some 63)) (by kernel_rfl) (RdEnd_calls _ b13 A14 c15 (((((((⟨bs, 0, 0⟩ : Rdr).int).2).int).2).bytes).2) hok448 H447 F460 hne21) ?_
          rintro _ w464 ⟨rfl, K465⟩
          refine ⟨_, _, rfl, rfl, ?_⟩
          replace K0 := K0.t0 K465
          replace H4 := H4.keep K465 (fun h => h)
          replace H447 := H447.keep K465 (fun h => h)
          replace H462 := H462.keep K465 (fun h => h)
          replace F460 := RdO.keep0 F460 K465
          replace O452 := own_keep0 O452 K465
          clear K465
          refine og 1 [(2, (ptr b1)), (3, (i64 0)), (5, (ptr b31)), (7, (i64 ((((((((⟨bs, 0, 0⟩ : Rdr).int).2).int).2).bytes).2).end_)))] 3 ?_
          refine od ?_
          refine qs ?_
          refine qg ?_
          refine og 2 [(2, (ptr b1)), (3, (i64 0)), (5, (ptr b31)), (7, (i64 ((((((((⟨bs, 0, 0⟩ : Rdr).int).2).int).2).bytes).2).end_))), (65, (Value.bool (((((((((⟨bs, 0, 0⟩ : Rdr).int).2).int).2).bytes).2).end_) != 0)))] 2 ?_
          refine od ?_
          refine q_cond (o := .tmp 65) (b := (((((((((⟨bs, 0, 0⟩ : Rdr).int).2).int).2).bytes).2).end_) != 0)) (by kernel_rfl) rfl (fun h466 => ?_) (fun h466 => ?_)
          ·rw [h466]
           have p467 : ¬ ((((((((⟨bs, 0, 0⟩ : Rdr).int).2).int).2).bytes).2).end_ = 0) := of_bne_t h466
           have hecq468 := end_or (((((((⟨bs, 0, 0⟩ : Rdr).int).2).int).2).bytes).2)
           refine qs ?_
           refine qg ?_
           refine og 2 [(2, (ptr b1)), (3, (i64 0)), (5, (ptr b31)), (66, (agg [(i64 0), (i64 0), (i64 0), (i64 0), (Value.string ByteArray.empty), (Value.string ByteArray.empty), (i64 0), (Value.string ByteArray.empty), (i64 0), (i64 0), (i64 0), (i64 0), (Value.slice none 0 0), (Value.slice none 0 0)])), (67, (i64 ((((((((⟨bs, 0, 0⟩ : Rdr).int).2).int).2).bytes).2).end_)))] 2 ?_
           refine Ops.put (t := 33) (b := b1) (off := 0) (v := (agg [(i64 0), (i64 0), (i64 0), (i64 0), (Value.string ByteArray.empty), (Value.string ByteArray.empty), (i64 0), (Value.string ByteArray.empty), (i64 0), (i64 0), (i64 0), (i64 0), (Value.slice none 0 0), (Value.slice none 0 0)])) (ys := [(i64 0), (i64 0), (i64 0), (i64 0), (Value.string ByteArray.empty), (Value.string ByteArray.empty), (i64 0), (Value.string ByteArray.empty), (i64 0), (i64 0), (i64 0), (i64 0), (Value.slice none 0 0), (Value.slice none 0 0)]) (by kernel_rfl) (by kernel_rfl) H4 (by kernel_rfl) (d := none) (by kernel_rfl) rfl (fun w469 H470 K471 => ?_)
           clear H4
           replace K0 := K0.trans K471 (U := none_) (fun i h1 h2 => h2) (fun i h1 h2 => by have h2 : i = b1 := h2; exfalso; omega)
           replace H447 := H447.keep K471 (by intro h; change b13 = b1 at h; omega)
           replace H462 := H462.keep K471 (by intro h; change b31 = b1 at h; omega)
           replace F460 := RdO.keep F460 K471 (fun i _ _ hi hs => by have hs : i = b1 := hs; have := ob24 i _ _ hi; omega)
           replace O452 := own_keep O452 K471 (fun i hi hs => by have hs : i = b1 := hs; have := ob453 i hi; omega)
           clear K471
           refine og 1 [(2, (ptr b1)), (3, (i64 ((((((((⟨bs, 0, 0⟩ : Rdr).int).2).int).2).bytes).2).end_))), (5, (ptr b31))] 4 ?_
           refine od ?_
           refine q_ret (by kernel_rfl) ?_
           refine ⟨(Value.tuple #[(agg [(i64 0), (i64 0), (i64 0), (i64 0), (Value.string ByteArray.empty), (Value.string ByteArray.empty), (i64 0), (Value.string ByteArray.empty), (i64 0), (i64 0), (i64 0), (i64 0), (Value.slice none 0 0), (Value.slice none 0 0)]), (i64 ((((((((⟨bs, 0, 0⟩ : Rdr).int).2).int).2).bytes).2).end_))]), retv_cell_tmp rfl rfl (H470.loads (by kernel_rfl)) rfl, ?_⟩
           have hl2 : (letR (⟨bs, 0, 0⟩ : Rdr).int.1 (⟨bs, 0, 0⟩ : Rdr).int.2).2 = ((((((⟨bs, 0, 0⟩ : Rdr).int).2).int).2).bytes).2 := by unfold letR; first | (rw [if_pos (by omega)] <;> rfl) | (rw [if_neg (by omega), if_pos (by omega)] <;> rfl) | (rw [if_neg (by omega), if_neg (by omega), if_pos (by omega)] <;> rfl) | (rw [if_neg (by omega), if_neg (by omega), if_neg (by omega), if_pos (by omega)] <;> rfl) | (rw [if_neg (by omega), if_neg (by omega), if_neg (by omega), if_neg (by omega)] <;> rfl)
           have e : unpackB bs = (LetP.zero, (((((((⟨bs, 0, 0⟩ : Rdr).int).2).int).2).bytes).2).end_) := by unfold unpackB; rw [if_neg (by omega), if_neg (by omega), if_neg (by omega), if_pos (by rw [hl2]; omega), hl2]
           exact ⟨none, 0, none, 0, by rw [e]; rfl, K0, by rw [e]; exact (OwnT.nil _ _ _ _ _), by rw [e]; exact (World.ownsRow_nil _ _ _ _)⟩
          ·rw [h466]
           have p472 : (((((((⟨bs, 0, 0⟩ : Rdr).int).2).int).2).bytes).2).end_ = 0 := of_bne_f h466
           have hecq473 := end_or (((((((⟨bs, 0, 0⟩ : Rdr).int).2).int).2).bytes).2)
           refine q_skip (by kernel_rfl) ?_
           refine qs ?_
           refine qg ?_
           refine Ops.go (v := (agg [(i64 (((⟨bs, 0, 0⟩ : Rdr).int).1)), (i64 (((((⟨bs, 0, 0⟩ : Rdr).int).2).int).1)), (i64 0), (i64 0), (Value.string ByteArray.empty), (Value.string ByteArray.empty), (i64 0), (Value.string ByteArray.empty), (i64 0), (i64 0), (i64 0), (i64 0), (Value.slice none 0 0), (Value.slice A458 (((((((⟨bs, 0, 0⟩ : Rdr).int).2).int).2).bytes).1.length) c459)])) (by kernel_rfl) (Runs.load (t := 33) (a := ⟨b31, 0, none⟩) (by kernel_rfl) (H462.loads (by kernel_rfl))) (d := (some 68)) (by kernel_rfl) rfl ?_
           refine Ops.put (t := 33) (b := b1) (off := 0) (v := (agg [(i64 (((⟨bs, 0, 0⟩ : Rdr).int).1)), (i64 (((((⟨bs, 0, 0⟩ : Rdr).int).2).int).1)), (i64 0), (i64 0), (Value.string ByteArray.empty), (Value.string ByteArray.empty), (i64 0), (Value.string ByteArray.empty), (i64 0), (i64 0), (i64 0), (i64 0), (Value.slice none 0 0), (Value.slice A458 (((((((⟨bs, 0, 0⟩ : Rdr).int).2).int).2).bytes).1.length) c459)])) (ys := [(i64 (((⟨bs, 0, 0⟩ : Rdr).int).1)), (i64 (((((⟨bs, 0, 0⟩ : Rdr).int).2).int).1)), (i64 0), (i64 0), (Value.string ByteArray.empty), (Value.string ByteArray.empty), (i64 0), (Value.string ByteArray.empty), (i64 0), (i64 0), (i64 0), (i64 0), (Value.slice none 0 0), (Value.slice A458 (((((((⟨bs, 0, 0⟩ : Rdr).int).2).int).2).bytes).1.length) c459)]) (by kernel_rfl) (by kernel_rfl) H4 (by kernel_rfl) (d := none) (by kernel_rfl) rfl (fun w474 H475 K476 => ?_)
           clear H4
           replace K0 := K0.trans K476 (U := none_) (fun i h1 h2 => h2) (fun i h1 h2 => by have h2 : i = b1 := h2; exfalso; omega)
           replace H447 := H447.keep K476 (by intro h; change b13 = b1 at h; omega)
           replace H462 := H462.keep K476 (by intro h; change b31 = b1 at h; omega)
           replace F460 := RdO.keep F460 K476 (fun i _ _ hi hs => by have hs : i = b1 := hs; have := ob24 i _ _ hi; omega)
           replace O452 := own_keep O452 K476 (fun i hi hs => by have hs : i = b1 := hs; have := ob453 i hi; omega)
           clear K476
           refine og 1 [(2, (ptr b1)), (3, (i64 0))] 3 ?_
           refine od ?_
           refine q_ret (by kernel_rfl) ?_
           refine ⟨(Value.tuple #[(agg [(i64 (((⟨bs, 0, 0⟩ : Rdr).int).1)), (i64 (((((⟨bs, 0, 0⟩ : Rdr).int).2).int).1)), (i64 0), (i64 0), (Value.string ByteArray.empty), (Value.string ByteArray.empty), (i64 0), (Value.string ByteArray.empty), (i64 0), (i64 0), (i64 0), (i64 0), (Value.slice none 0 0), (Value.slice A458 (((((((⟨bs, 0, 0⟩ : Rdr).int).2).int).2).bytes).1.length) c459)]), (i64 0)]), retv_cell_tmp rfl rfl (H475.loads (by kernel_rfl)) rfl, ?_⟩
           have hl : letR (⟨bs, 0, 0⟩ : Rdr).int.1 (⟨bs, 0, 0⟩ : Rdr).int.2 = ((⟨((⟨bs, 0, 0⟩ : Rdr).int).1, ((((⟨bs, 0, 0⟩ : Rdr).int).2).int).1, 0, ⟨0, [], [], 0, [], 0, 0⟩, ⟨0, 0, []⟩, ((((((⟨bs, 0, 0⟩ : Rdr).int).2).int).2).bytes).1⟩ : LetP), ((((((⟨bs, 0, 0⟩ : Rdr).int).2).int).2).bytes).2) := by unfold letR; first | (rw [if_pos (by omega)] <;> rfl) | (rw [if_neg (by omega), if_pos (by omega)] <;> rfl) | (rw [if_neg (by omega), if_neg (by omega), if_pos (by omega)] <;> rfl) | (rw [if_neg (by omega), if_neg (by omega), if_neg (by omega), if_pos (by omega)] <;> rfl) | (rw [if_neg (by omega), if_neg (by omega), if_neg (by omega), if_neg (by omega)] <;> rfl)
           have e : unpackB bs = ((⟨((⟨bs, 0, 0⟩ : Rdr).int).1, ((((⟨bs, 0, 0⟩ : Rdr).int).2).int).1, 0, ⟨0, [], [], 0, [], 0, 0⟩, ⟨0, 0, []⟩, ((((((⟨bs, 0, 0⟩ : Rdr).int).2).int).2).bytes).1⟩ : LetP), 0) := by unfold unpackB; rw [if_neg (by omega), if_neg (by omega), if_neg (by omega), if_neg (by rw [hl]; show ¬ ((((((((⟨bs, 0, 0⟩ : Rdr).int).2).int).2).bytes).2).end_ ≠ 0); omega), hl]
           exact ⟨none, 0, A458, c459, by rw [e]; rfl, K0, by rw [e]; exact (OwnT.nil _ _ _ _ _), by rw [e]; exact O452⟩
         ·rw [h443]
          have p477 : ¬ (((⟨bs, 0, 0⟩ : Rdr).int).1 = 4) := of_beq_f h443
          refine q_skip (by kernel_rfl) ?_
          refine q_exit (id := 5) (by kernel_rfl) ?_
          refine qs ?_
          refine qs ?_
          refine qg ?_
          refine og 1 [(2, (ptr b1)), (3, (i64 0)), (4, (ptr b13)), (5, (ptr b31)), (61, (agg [(i64 0), (i64 0), (i64 0), (i64 0), (Value.string ByteArray.empty), (Value.string ByteArray.empty), (i64 0), (Value.string ByteArray.empty), (i64 0), (i64 0), (i64 0), (i64 0), (Value.slice none 0 0), (Value.slice none 0 0)]))] 1 ?_
          refine Ops.put (t := 33) (b := b1) (off := 0) (v := (agg [(i64 0), (i64 0), (i64 0), (i64 0), (Value.string ByteArray.empty), (Value.string ByteArray.empty), (i64 0), (Value.string ByteArray.empty), (i64 0), (i64 0), (i64 0), (i64 0), (Value.slice none 0 0), (Value.slice none 0 0)])) (ys := [(i64 0), (i64 0), (i64 0), (i64 0), (Value.string ByteArray.empty), (Value.string ByteArray.empty), (i64 0), (Value.string ByteArray.empty), (i64 0), (i64 0), (i64 0), (i64 0), (Value.slice none 0 0), (Value.slice none 0 0)]) (by kernel_rfl) (by kernel_rfl) H4 (by kernel_rfl) (d := none) (by kernel_rfl) rfl (fun w478 H479 K480 => ?_)
          clear H4
          replace K0 := K0.trans K480 (U := none_) (fun i h1 h2 => h2) (fun i h1 h2 => by have h2 : i = b1 := h2; exfalso; omega)
          replace H299 := H299.keep K480 (by intro h; change b13 = b1 at h; omega)
          replace H304 := H304.keep K480 (by intro h; change b31 = b1 at h; omega)
          replace F302 := RdO.keep F302 K480 (fun i _ _ hi hs => by have hs : i = b1 := hs; have := ob24 i _ _ hi; omega)
          clear K480
          refine og 1 [(2, (ptr b1)), (3, (i64 1)), (4, (ptr b13)), (5, (ptr b31))] 3 ?_
          refine od ?_
          refine q_ret (by kernel_rfl) ?_
          refine ⟨(Value.tuple #[(agg [(i64 0), (i64 0), (i64 0), (i64 0), (Value.string ByteArray.empty), (Value.string ByteArray.empty), (i64 0), (Value.string ByteArray.empty), (i64 0), (i64 0), (i64 0), (i64 0), (Value.slice none 0 0), (Value.slice none 0 0)]), (i64 1)]), retv_cell_tmp rfl rfl (H479.loads (by kernel_rfl)) rfl, ?_⟩
          have e : unpackB bs = (LetP.zero, 1) := by unfold unpackB; rw [if_neg (by omega), if_neg (by omega), if_pos (by omega)]
          exact ⟨none, 0, none, 0, by rw [e]; rfl, K0, by rw [e]; exact (OwnT.nil _ _ _ _ _), by rw [e]; exact (World.ownsRow_nil _ _ _ _)⟩
    ·rw [h295]
     have p481 : ((⟨bs, 0, 0⟩ : Rdr).int).1 = 1 := of_bne_f h295
     refine q_skip (by kernel_rfl) ?_
     refine qs ?_
     refine qs ?_
     refine qg ?_
     refine og 1 [(2, (ptr b1)), (3, (i64 0)), (4, (ptr b13)), (5, (ptr b31)), (38, (ptr b31))] 1 ?_
     refine Ops.go (v := (i64 (((⟨bs, 0, 0⟩ : Rdr).int).1))) (by kernel_rfl) (Runs.load (t := 3) (a := ⟨b31, 0, none⟩) (by kernel_rfl) (H39.loads (by kernel_rfl))) (d := (some 39)) (by kernel_rfl) rfl ?_
     refine od ?_
     refine q_block (id := 0) (by kernel_rfl) ?_
     refine qs ?_
     refine q_block (id := 5) (by kernel_rfl) ?_
     refine qs ?_
     refine q_block (id := 4) (by kernel_rfl) ?_
     refine qs ?_
     refine q_block (id := 3) (by kernel_rfl) ?_
     refine qs ?_
     refine q_block (id := 2) (by kernel_rfl) ?_
     refine qs ?_
     refine q_block (id := 1) (by kernel_rfl) ?_
     refine qs ?_
     refine qs ?_
     refine qs ?_
     refine qg ?_
     refine og 2 [(2, (ptr b1)), (3, (i64 0)), (4, (ptr b13)), (5, (ptr b31)), (39, (i64 (((⟨bs, 0, 0⟩ : Rdr).int).1))), (40, (Value.bool ((((⟨bs, 0, 0⟩ : Rdr).int).1) == 2)))] 2 ?_
     refine od ?_
     have h482 : ((((⟨bs, 0, 0⟩ : Rdr).int).1) == 2) = false := beq_f (by omega)
     rw [h482]
     refine q_else (o := .tmp 40) (by kernel_rfl) rfl ?_
     refine q_skip (by kernel_rfl) ?_
     refine qs ?_
     refine qs ?_
     refine qg ?_
     refine og 2 [(2, (ptr b1)), (3, (i64 0)), (4, (ptr b13)), (5, (ptr b31)), (39, (i64 (((⟨bs, 0, 0⟩ : Rdr).int).1))), (42, (Value.bool ((((⟨bs, 0, 0⟩ : Rdr).int).1) == 3)))] 2 ?_
     refine od ?_
     have h483 : ((((⟨bs, 0, 0⟩ : Rdr).int).1) == 3) = false := beq_f (by omega)
     rw [h483]
     refine q_else (o := .tmp 42) (by kernel_rfl) rfl ?_
     refine q_skip (by kernel_rfl) ?_
     refine qs ?_
     refine qs ?_
     refine qg ?_
     refine og 2 [(2, (ptr b1)), (3, (i64 0)), (4, (ptr b13)), (5, (ptr b31)), (39, (i64 (((⟨bs, 0, 0⟩ : Rdr).int).1))), (44, (Value.bool ((((⟨bs, 0, 0⟩ : Rdr).int).1) == 5)))] 2 ?_
     refine od ?_
     have h484 : ((((⟨bs, 0, 0⟩ : Rdr).int).1) == 5) = false := beq_f (by omega)
     rw [h484]
     refine q_else (o := .tmp 44) (by kernel_rfl) rfl ?_
     refine q_skip (by kernel_rfl) ?_
     refine qs ?_
     refine qs ?_
     refine qg ?_
     refine og 2 [(2, (ptr b1)), (3, (i64 0)), (4, (ptr b13)), (5, (ptr b31)), (39, (i64 (((⟨bs, 0, 0⟩ : Rdr).int).1))), (46, (Value.bool ((((⟨bs, 0, 0⟩ : Rdr).int).1) == 1)))] 2 ?_
     refine od ?_
     have h485 : ((((⟨bs, 0, 0⟩ : Rdr).int).1) == 1) = true := beq_t (by omega)
     rw [h485]
     refine q_then (o := .tmp 46) (by kernel_rfl) rfl ?_
     refine q_skip (by kernel_rfl) ?_
     refine q_then (o := .tmp 46) (by kernel_rfl) rfl ?_
     refine q_exit (id := 4) (by kernel_rfl) ?_
     refine qs ?_
     refine qg ?_
     refine og 1 [(2, (ptr b1)), (3, (i64 0)), (4, (ptr b13)), (5, (ptr b31)), (58, (ptr b13))] 1 ?_
     refine Ops.call (by kernel_rfl) (d := (some 59)) (by kernel_rfl) (RdBytesS_calls _ b13 A14 c15 (((⟨bs, 0, 0⟩ : Rdr).int).2) hok28 H27 F30 hne21 ) ?_
     rintro _ w486 ⟨A499, c500, rfl, K487, hO492, H488⟩
     have hok489 : ((((⟨bs, 0, 0⟩ : Rdr).int).2).bytes).2.Ok := Rdr.Ok.bytes hok28
     have hu490 := Rdr.bytes_le hok28
     have ob494 : ∀ i, ((Value.slice A499 (((((⟨bs, 0, 0⟩ : Rdr).int).2).bytes).1.length) c500)).ownBlock = some i → i ≠ b1 := fun i hi => by have := (World.ownsRow.lt hO492 i hi).1; have := H4.lt; omega
     have ob495 : ∀ i, ((Value.slice A499 (((((⟨bs, 0, 0⟩ : Rdr).int).2).bytes).1.length) c500)).ownBlock = some i → i ≠ b13 := fun i hi => by have := (World.ownsRow.lt hO492 i hi).1; have := H27.lt; omega
     have ob496 : ∀ i, ((Value.slice A499 (((((⟨bs, 0, 0⟩ : Rdr).int).2).bytes).1.length) c500)).ownBlock = some i → i ≠ b31 := fun i hi => by have := (World.ownsRow.lt hO492 i hi).1; have := H39.lt; omega
     have oo497 : ∀ i o s, A14 = some ⟨i, o, s⟩ → ((Value.slice A499 (((((⟨bs, 0, 0⟩ : Rdr).int).2).bytes).1.length) c500)).ownBlock = some i → False := fun i o s hi hs => by have := (World.ownsRow.lt hO492 i hs).1; have := F30.2 i o s hi; omega
     have O493 := own_base hO492 K0.size
     clear hO492
     refine ⟨_, _, rfl, rfl, ?_⟩
     replace K0 := K0.trans K487 (U := none_) (fun i h1 h2 => h2) (fun i h1 h2 => by have h2 : i = b13 := h2; exfalso; omega)
     replace H4 := H4.keep K487 (by intro h; change b1 = b13 at h; omega)
     replace H39 := H39.keep K487 (by intro h; change b31 = b13 at h; omega)
     replace F30 := RdO.keep F30 K487 (fun i _ _ hi hs => by have hs : i = b13 := hs; have := hne21 i _ _ hi; omega)
     clear K487
     have F501 : RdO w486 A14 c15 ((((⟨bs, 0, 0⟩ : Rdr).int).2).bytes).2.bs := by rw [Rdr.bytes_bs]; exact F30
     clear F30
     refine og 1 [(2, (ptr b1)), (3, (i64 0)), (4, (ptr b13)), (5, (ptr b31)), (59, (Value.slice A499 (((((⟨bs, 0, 0⟩ : Rdr).int).2).bytes).1.length) c500)), (60, (Value.pointer (some ⟨b31, 13, none⟩)))] 3 ?_
     refine Ops.put (t := 28) (b := b31) (off := 13) (v := (Value.slice A499 (((((⟨bs, 0, 0⟩ : Rdr).int).2).bytes).1.length) c500)) (ys := [(i64 (((⟨bs, 0, 0⟩ : Rdr).int).1)), (i64 0), (i64 0), (i64 0), (Value.string ByteArray.empty), (Value.string ByteArray.empty), (i64 0), (Value.string ByteArray.empty), (i64 0), (i64 0), (i64 0), (i64 0), (Value.slice none 0 0), (Value.slice A499 (((((⟨bs, 0, 0⟩ : Rdr).int).2).bytes).1.length) c500)]) (by kernel_rfl) (by kernel_rfl) H39 (by kernel_rfl) (d := none) (by kernel_rfl) rfl (fun w502 H503 K504 => ?_)
     clear H39
     replace K0 := K0.trans K504 (U := none_) (fun i h1 h2 => h2) (fun i h1 h2 => by have h2 : i = b31 := h2; exfalso; omega)
     replace H4 := H4.keep K504 (by intro h; change b1 = b31 at h; omega)
     replace H488 := H488.keep K504 (by intro h; change b13 = b31 at h; omega)
     replace F501 := RdO.keep F501 K504 (fun i _ _ hi hs => by have hs : i = b31 := hs; have := ob37 i _ _ hi; omega)
     replace O493 := own_keep O493 K504 (fun i hi hs => by have hs : i = b31 := hs; have := ob496 i hi; omega)
     clear K504
     refine od ?_
     refine q_exit (id := 0) (by kernel_rfl) ?_
     refine qs ?_
     refine qs ?_
     refine qg ?_
     refine og 1 [(2, (ptr b1)), (3, (i64 0)), (5, (ptr b31)), (62, (ptr b13))] 1 ?_
     refine Ops.call (by kernel_rfl) (d := (some 63)) (by kernel_rfl) (RdEnd_calls _ b13 A14 c15 (((((⟨bs, 0, 0⟩ : Rdr).int).2).bytes).2) hok489 H488 F501 hne21) ?_
     rintro _ w505 ⟨rfl, K506⟩
     refine ⟨_, _, rfl, rfl, ?_⟩
     replace K0 := K0.t0 K506
     replace H4 := H4.keep K506 (fun h => h)
     replace H488 := H488.keep K506 (fun h => h)
     replace H503 := H503.keep K506 (fun h => h)
     replace F501 := RdO.keep0 F501 K506
     replace O493 := own_keep0 O493 K506
     clear K506
     refine og 1 [(2, (ptr b1)), (3, (i64 0)), (5, (ptr b31)), (7, (i64 ((((((⟨bs, 0, 0⟩ : Rdr).int).2).bytes).2).end_)))] 3 ?_
     refine od ?_
     refine qs ?_
     refine qg ?_
     refine og 2 [(2, (ptr b1)), (3, (i64 0)), (5, (ptr b31)), (7, (i64 ((((((⟨bs, 0, 0⟩ : Rdr).int).2).bytes).2).end_))), (65, (Value.bool (((((((⟨bs, 0, 0⟩ : Rdr).int).2).bytes).2).end_) != 0)))] 2 ?_
     refine od ?_
     refine q_cond (o := .tmp 65) (b := (((((((⟨bs, 0, 0⟩ : Rdr).int).2).bytes).2).end_) != 0)) (by kernel_rfl) rfl (fun h507 => ?_) (fun h507 => ?_)
     ·rw [h507]
      have p508 : ¬ ((((((⟨bs, 0, 0⟩ : Rdr).int).2).bytes).2).end_ = 0) := of_bne_t h507
      have hecq509 := end_or (((((⟨bs, 0, 0⟩ : Rdr).int).2).bytes).2)
      refine qs ?_
      refine qg ?_
      refine og 2 [(2, (ptr b1)), (3, (i64 0)), (5, (ptr b31)), (66, (agg [(i64 0), (i64 0), (i64 0), (i64 0), (Value.string ByteArray.empty), (Value.string ByteArray.empty), (i64 0), (Value.string ByteArray.empty), (i64 0), (i64 0), (i64 0), (i64 0), (Value.slice none 0 0), (Value.slice none 0 0)])), (67, (i64 ((((((⟨bs, 0, 0⟩ : Rdr).int).2).bytes).2).end_)))] 2 ?_
      refine Ops.put (t := 33) (b := b1) (off := 0) (v := (agg [(i64 0), (i64 0), (i64 0), (i64 0), (Value.string ByteArray.empty), (Value.string ByteArray.empty), (i64 0), (Value.string ByteArray.empty), (i64 0), (i64 0), (i64 0), (i64 0), (Value.slice none 0 0), (Value.slice none 0 0)])) (ys := [(i64 0), (i64 0), (i64 0), (i64 0), (Value.string ByteArray.empty), (Value.string ByteArray.empty), (i64 0), (Value.string ByteArray.empty), (i64 0), (i64 0), (i64 0), (i64 0), (Value.slice none 0 0), (Value.slice none 0 0)]) (by kernel_rfl) (by kernel_rfl) H4 (by kernel_rfl) (d := none) (by kernel_rfl) rfl (fun w510 H511 K512 => ?_)
      clear H4
      replace K0 := K0.trans K512 (U := none_) (fun i h1 h2 => h2) (fun i h1 h2 => by have h2 : i = b1 := h2; exfalso; omega)
      replace H488 := H488.keep K512 (by intro h; change b13 = b1 at h; omega)
      replace H503 := H503.keep K512 (by intro h; change b31 = b1 at h; omega)
      replace F501 := RdO.keep F501 K512 (fun i _ _ hi hs => by have hs : i = b1 := hs; have := ob24 i _ _ hi; omega)
      replace O493 := own_keep O493 K512 (fun i hi hs => by have hs : i = b1 := hs; have := ob494 i hi; omega)
      clear K512
      refine og 1 [(2, (ptr b1)), (3, (i64 ((((((⟨bs, 0, 0⟩ : Rdr).int).2).bytes).2).end_))), (5, (ptr b31))] 4 ?_
      refine od ?_
      refine q_ret (by kernel_rfl) ?_
      refine ⟨(Value.tuple #[(agg [(i64 0), (i64 0), (i64 0), (i64 0), (Value.string ByteArray.empty), (Value.string ByteArray.empty), (i64 0), (Value.string ByteArray.empty), (i64 0), (i64 0), (i64 0), (i64 0), (Value.slice none 0 0), (Value.slice none 0 0)]), (i64 ((((((⟨bs, 0, 0⟩ : Rdr).int).2).bytes).2).end_))]), retv_cell_tmp rfl rfl (H511.loads (by kernel_rfl)) rfl, ?_⟩
      have hl2 : (letR (⟨bs, 0, 0⟩ : Rdr).int.1 (⟨bs, 0, 0⟩ : Rdr).int.2).2 = ((((⟨bs, 0, 0⟩ : Rdr).int).2).bytes).2 := by unfold letR; first | (rw [if_pos (by omega)] <;> rfl) | (rw [if_neg (by omega), if_pos (by omega)] <;> rfl) | (rw [if_neg (by omega), if_neg (by omega), if_pos (by omega)] <;> rfl) | (rw [if_neg (by omega), if_neg (by omega), if_neg (by omega), if_pos (by omega)] <;> rfl) | (rw [if_neg (by omega), if_neg (by omega), if_neg (by omega), if_neg (by omega)] <;> rfl)
      have e : unpackB bs = (LetP.zero, (((((⟨bs, 0, 0⟩ : Rdr).int).2).bytes).2).end_) := by unfold unpackB; rw [if_neg (by omega), if_neg (by omega), if_neg (by omega), if_pos (by rw [hl2]; omega), hl2]
      exact ⟨none, 0, none, 0, by rw [e]; rfl, K0, by rw [e]; exact (OwnT.nil _ _ _ _ _), by rw [e]; exact (World.ownsRow_nil _ _ _ _)⟩
     ·rw [h507]
      have p513 : (((((⟨bs, 0, 0⟩ : Rdr).int).2).bytes).2).end_ = 0 := of_bne_f h507
      have hecq514 := end_or (((((⟨bs, 0, 0⟩ : Rdr).int).2).bytes).2)
      refine q_skip (by kernel_rfl) ?_
      refine qs ?_
      refine qg ?_
      refine Ops.go (v := (agg [(i64 (((⟨bs, 0, 0⟩ : Rdr).int).1)), (i64 0), (i64 0), (i64 0), (Value.string ByteArray.empty), (Value.string ByteArray.empty), (i64 0), (Value.string ByteArray.empty), (i64 0), (i64 0), (i64 0), (i64 0), (Value.slice none 0 0), (Value.slice A499 (((((⟨bs, 0, 0⟩ : Rdr).int).2).bytes).1.length) c500)])) (by kernel_rfl) (Runs.load (t := 33) (a := ⟨b31, 0, none⟩) (by kernel_rfl) (H503.loads (by kernel_rfl))) (d := (some 68)) (by kernel_rfl) rfl ?_
      refine Ops.put (t := 33) (b := b1) (off := 0) (v := (agg [(i64 (((⟨bs, 0, 0⟩ : Rdr).int).1)), (i64 0), (i64 0), (i64 0), (Value.string ByteArray.empty), (Value.string ByteArray.empty), (i64 0), (Value.string ByteArray.empty), (i64 0), (i64 0), (i64 0), (i64 0), (Value.slice none 0 0), (Value.slice A499 (((((⟨bs, 0, 0⟩ : Rdr).int).2).bytes).1.length) c500)])) (ys := [(i64 (((⟨bs, 0, 0⟩ : Rdr).int).1)), (i64 0), (i64 0), (i64 0), (Value.string ByteArray.empty), (Value.string ByteArray.empty), (i64 0), (Value.string ByteArray.empty), (i64 0), (i64 0), (i64 0), (i64 0), (Value.slice none 0 0), (Value.slice A499 (((((⟨bs, 0, 0⟩ : Rdr).int).2).bytes).1.length) c500)]) (by kernel_rfl) (by kernel_rfl) H4 (by kernel_rfl) (d := none) (by kernel_rfl) rfl (fun w515 H516 K517 => ?_)
      clear H4
      replace K0 := K0.trans K517 (U := none_) (fun i h1 h2 => h2) (fun i h1 h2 => by have h2 : i = b1 := h2; exfalso; omega)
      replace H488 := H488.keep K517 (by intro h; change b13 = b1 at h; omega)
      replace H503 := H503.keep K517 (by intro h; change b31 = b1 at h; omega)
      replace F501 := RdO.keep F501 K517 (fun i _ _ hi hs => by have hs : i = b1 := hs; have := ob24 i _ _ hi; omega)
      replace O493 := own_keep O493 K517 (fun i hi hs => by have hs : i = b1 := hs; have := ob494 i hi; omega)
      clear K517
      refine og 1 [(2, (ptr b1)), (3, (i64 0))] 3 ?_
      refine od ?_
      refine q_ret (by kernel_rfl) ?_
      refine ⟨(Value.tuple #[(agg [(i64 (((⟨bs, 0, 0⟩ : Rdr).int).1)), (i64 0), (i64 0), (i64 0), (Value.string ByteArray.empty), (Value.string ByteArray.empty), (i64 0), (Value.string ByteArray.empty), (i64 0), (i64 0), (i64 0), (i64 0), (Value.slice none 0 0), (Value.slice A499 (((((⟨bs, 0, 0⟩ : Rdr).int).2).bytes).1.length) c500)]), (i64 0)]), retv_cell_tmp rfl rfl (H516.loads (by kernel_rfl)) rfl, ?_⟩
      have hl : letR (⟨bs, 0, 0⟩ : Rdr).int.1 (⟨bs, 0, 0⟩ : Rdr).int.2 = ((⟨((⟨bs, 0, 0⟩ : Rdr).int).1, 0, 0, ⟨0, [], [], 0, [], 0, 0⟩, ⟨0, 0, []⟩, ((((⟨bs, 0, 0⟩ : Rdr).int).2).bytes).1⟩ : LetP), ((((⟨bs, 0, 0⟩ : Rdr).int).2).bytes).2) := by unfold letR; first | (rw [if_pos (by omega)] <;> rfl) | (rw [if_neg (by omega), if_pos (by omega)] <;> rfl) | (rw [if_neg (by omega), if_neg (by omega), if_pos (by omega)] <;> rfl) | (rw [if_neg (by omega), if_neg (by omega), if_neg (by omega), if_pos (by omega)] <;> rfl) | (rw [if_neg (by omega), if_neg (by omega), if_neg (by omega), if_neg (by omega)] <;> rfl)
      have e : unpackB bs = ((⟨((⟨bs, 0, 0⟩ : Rdr).int).1, 0, 0, ⟨0, [], [], 0, [], 0, 0⟩, ⟨0, 0, []⟩, ((((⟨bs, 0, 0⟩ : Rdr).int).2).bytes).1⟩ : LetP), 0) := by unfold unpackB; rw [if_neg (by omega), if_neg (by omega), if_neg (by omega), if_neg (by rw [hl]; show ¬ ((((((⟨bs, 0, 0⟩ : Rdr).int).2).bytes).2).end_ ≠ 0); omega), hl]
      exact ⟨none, 0, A499, c500, by rw [e]; rfl, K0, by rw [e]; exact (OwnT.nil _ _ _ _ _), by rw [e]; exact O493⟩
end Go.Proofs.Ytlnidnadpdpciaa
