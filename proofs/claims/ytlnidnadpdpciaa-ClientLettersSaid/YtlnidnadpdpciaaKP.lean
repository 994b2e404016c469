/- letters are read by the reference -/
import Derived.Test.YtlnidnadpdpciaaProg
import Derived.Test.YtlnidnadpdpciaaKO
import Derived.Test.YtlnidnadpdpciaaLX
set_option linter.unusedVariables false
namespace Go.Proofs.Ytlnidnadpdpciaa
open Go.Q Go.RowKit

theorem RUnpack_calls (w : World) (A : Option Addr) (c : Nat) (bs : List UInt8) (hv : RdB w (.slice A bs.length c) bs) (hbl : bs.length ≤ 140737488351232) : Calls Try.prog 29 ⟨[(Value.slice A bs.length c)]⟩ w (fun e w' => ∃ V c D dc, e = .returned (.tuple #[agg ((unpackB bs).1.cells V c D dc), i64 (unpackB bs).2]) ∧ Keeps none_ w w' ∧ OwnR w' w.heap.size 59 (.slice V (unpackB bs).1.rep.rows.length c) (unpackB bs).1.rep.rows ∧ OwnB w' w.heap.size 5 (.slice D (unpackB bs).1.body.length dc) (unpackB bs).1.body) := by
 have K0 : Keeps none_ w w := Keeps.refl w
 refine q_calls Try.func29 (by kernel_rfl) (by kernel_rfl) ?_
 refine qs ?_
 refine qg ?_
 refine Ops.new (o := rowL [(i64 0), (i64 0), (i64 0), (i64 0), (Value.string ByteArray.empty), (Value.string ByteArray.empty), (i64 0), (Value.string ByteArray.empty), (i64 0), (i64 0), (i64 0), (i64 0), (Value.slice none 0 0), (Value.slice none 0 0)] 30) (V := fun b => (ptr b)) (by kernel_rfl) (d := (some 2)) (by kernel_rfl) (fun b => rfl) (fun b1 w2 hb3 H4 K5 hs6 => ?_)
 have nb1 : w.heap.size ≤ b1 := by have := K0.size; omega
 replace K0 := K0.t0 K5
 clear K5 hs6
 refine og 1 [(0, (Value.slice A bs.length c)), (2, (ptr b1)), (3, (i64 0))] 2 ?_
 refine od ?_
 refine qs ?_
 refine qs ?_
 refine qg ?_
 refine og 3 [(0, (Value.slice A bs.length c)), (2, (ptr b1)), (3, (i64 0)), (10, (Value.bool (decide (((bs.length : Nat) : Int) > 1048576))))] 3 ?_
 refine od ?_
 refine q_cond (o := .tmp 10) (b := (decide (((bs.length : Nat) : Int) > 1048576))) (by kernel_rfl) rfl (fun h7 => ?_) (fun h7 => ?_)
 ·rw [h7]
  have p8 : ((bs.length : Nat) : Int) > 1048576 := of_decide_eq_true h7
  refine qs ?_
  refine qg ?_
  refine og 1 [(0, (Value.slice A bs.length c)), (2, (ptr b1)), (3, (i64 0)), (11, (agg [(i64 0), (i64 0), (i64 0), (i64 0), (Value.string ByteArray.empty), (Value.string ByteArray.empty), (i64 0), (Value.string ByteArray.empty), (i64 0), (i64 0), (i64 0), (i64 0), (Value.slice none 0 0), (Value.slice none 0 0)]))] 1 ?_
  refine Ops.put (t := 30) (b := b1) (off := 0) (v := (agg [(i64 0), (i64 0), (i64 0), (i64 0), (Value.string ByteArray.empty), (Value.string ByteArray.empty), (i64 0), (Value.string ByteArray.empty), (i64 0), (i64 0), (i64 0), (i64 0), (Value.slice none 0 0), (Value.slice none 0 0)])) (ys := [(i64 0), (i64 0), (i64 0), (i64 0), (Value.string ByteArray.empty), (Value.string ByteArray.empty), (i64 0), (Value.string ByteArray.empty), (i64 0), (i64 0), (i64 0), (i64 0), (Value.slice none 0 0), (Value.slice none 0 0)]) (by kernel_rfl) (by kernel_rfl) H4 (by kernel_rfl) (d := none) (by kernel_rfl) rfl (fun w9 H10 K11 => ?_)
  clear H4
  replace K0 := K0.trans K11 (U := none_) (fun i h1 h2 => h2) (fun i h1 h2 => by have h2 : i = b1 := h2; exfalso; omega)
  clear K11
  refine og 1 [(0, (Value.slice A bs.length c)), (2, (ptr b1)), (3, (i64 3))] 3 ?_
  refine od ?_
  refine q_ret (by kernel_rfl) ?_
  refine ⟨(Value.tuple #[(agg [(i64 0), (i64 0), (i64 0), (i64 0), (Value.string ByteArray.empty), (Value.string ByteArray.empty), (i64 0), (Value.string ByteArray.empty), (i64 0), (i64 0), (i64 0), (i64 0), (Value.slice none 0 0), (Value.slice none 0 0)]), (i64 3)]), retv_cell_tmp rfl rfl (H10.loads (by kernel_rfl)) rfl, ?_⟩
  have e : unpackB bs = (LetP.zero, 3) := by unfold unpackB; rw [if_pos (by omega)]
  exact ⟨none, 0, none, 0, by rw [e]; rfl, K0, by rw [e]; exact (OwnT.nil _ _ _ _ _), by rw [e]; exact (World.ownsRow_nil _ _ _ _)⟩
 ·rw [h7]
  have p12 : ¬ (((bs.length : Nat) : Int) > 1048576) := of_decide_eq_false h7
  have hs1 := (int_start bs).1
  have hs2 := (int_start bs).2
  have he0 := end_or (⟨bs, 0, 0⟩ : Rdr).int.2
  refine q_skip (by kernel_rfl) ?_
  refine qs ?_
  refine qg ?_
  refine og 1 [(2, (ptr b1)), (3, (i64 0)), (12, (Value.slice A bs.length c))] 1 ?_
  refine Ops.call (by kernel_rfl) (d := (some 13)) (by kernel_rfl) (Of_calls _ (Value.slice A bs.length c) bs (hv.keep0 (by omega) K0) (by first | omega | decide)) ?_
  rintro _ w17 ⟨b13, A14, c15, rfl, q16, K18, H19, hr20, hne21, hge22⟩
  have nb13 : w.heap.size ≤ b13 := by have := K0.size; omega
  have lb13b1 : b1 < b13 := by have := H4.lt; omega
  have ob24 : ∀ i o s, A14 = some ⟨i, o, s⟩ → i ≠ b1 := fun i o s hi => by have := hge22 i o s hi; have := H4.lt; omega
  have hok23 : Rdr.Ok (⟨bs, 0, 0⟩ : Rdr) := ⟨Nat.zero_le _, by show bs.length ≤ _; first | omega | decide⟩
  clear q16 hge22
  refine ⟨_, _, rfl, rfl, ?_⟩
  replace K0 := K0.t0 K18
  replace H4 := H4.keep K18 (fun h => h)
  clear K18
  refine og 1 [(2, (ptr b1)), (3, (i64 0)), (4, (ptr b13))] 3 ?_
  refine od ?_
  refine qs ?_
  refine qg ?_
  refine og 1 [(2, (ptr b1)), (3, (i64 0)), (4, (ptr b13)), (14, (ptr b13))] 1 ?_
  refine Ops.call (by kernel_rfl) (d := (some 15)) (by kernel_rfl) (RRInt_calls _ b13 A14 c15 (⟨bs, 0, 0⟩ : Rdr) hok23 H19 hr20 hne21 ) ?_
  rintro _ w25 ⟨rfl, K26, H27⟩
  have hok28 : ((⟨bs, 0, 0⟩ : Rdr).int).2.Ok := Rdr.Ok.int hok23
  have hu29 := Rdr.int_range (⟨bs, 0, 0⟩ : Rdr)
  refine ⟨_, _, rfl, rfl, ?_⟩
  replace K0 := K0.trans K26 (U := none_) (fun i h1 h2 => h2) (fun i h1 h2 => by have h2 : i = b13 := h2; exfalso; omega)
  replace H4 := H4.keep K26 (by intro h; change b1 = b13 at h; omega)
  replace hr20 := RdO.keep hr20 K26 (fun i _ _ hi hs => by have hs : i = b13 := hs; have := hne21 i _ _ hi; omega)
  clear K26
  have F30 : RdO w25 A14 c15 ((⟨bs, 0, 0⟩ : Rdr).int).2.bs := by rw [Rdr.int_bs]; exact hr20
  clear hr20
  refine og 1 [(2, (ptr b1)), (3, (i64 0)), (4, (ptr b13)), (5, (i64 (((⟨bs, 0, 0⟩ : Rdr).int).1)))] 3 ?_
  refine od ?_
  refine qs ?_
  refine qs ?_
  refine qg ?_
  refine og 3 [(2, (ptr b1)), (3, (i64 0)), (4, (ptr b13)), (5, (i64 (((⟨bs, 0, 0⟩ : Rdr).int).1))), (18, (Value.pointer (some ⟨b13, 2, none⟩)))] 3 ?_
  refine Ops.go (v := (i64 ((((⟨bs, 0, 0⟩ : Rdr).int).2).why))) (by kernel_rfl) (Runs.load (t := 24) (a := ⟨b13, 2, none⟩) (by kernel_rfl) (H27.loads (by kernel_rfl))) (d := (some 19)) (by kernel_rfl) rfl ?_
  refine og 1 [(2, (ptr b1)), (3, (i64 0)), (4, (ptr b13)), (5, (i64 (((⟨bs, 0, 0⟩ : Rdr).int).1))), (20, (Value.bool (((((⟨bs, 0, 0⟩ : Rdr).int).2).why) != 0)))] 5 ?_
  refine od ?_
  refine q_cond (o := .tmp 20) (b := (((((⟨bs, 0, 0⟩ : Rdr).int).2).why) != 0)) (by kernel_rfl) rfl (fun h31 => ?_) (fun h31 => ?_)
  ·rw [h31]
   have p32 : ¬ ((((⟨bs, 0, 0⟩ : Rdr).int).2).why = 0) := of_bne_t h31
   refine qs ?_
   refine q_draw (fun wz => Keeps (fun i => i = b1) w25 wz) 7 (by kernel_rfl) (by kernel_rfl) (by kernel_rfl) (fun w33 K34 _ _ => ⟨(K34.mono (fun _ _ h => h.elim)), ?_⟩)
   replace K0 := K0.t0 K34
   replace H4 := H4.keep K34 (fun h => h)
   replace H27 := H27.keep K34 (fun h => h)
   replace F30 := RdO.keep0 F30 K34
   refine Dr.strong (S' := (fun wz => Keeps (fun i => i = b1) w33 wz)) ((Keeps.refl w33).mono (fun _ _ h => h.elim)) (fun wz hx => K34.trans hx (fun i _ h => h.elim) (fun _ _ h => h)) ?_
   clear K34
   refine Dr.takes (fuel' := 3) (is' := [3, 2, 1, 0]) [0, 1, 2, 3] [(2, (ptr b1)), (3, (i64 0)), (4, (ptr b13)), (5, (i64 (((⟨bs, 0, 0⟩ : Rdr).int).1))), (21, (agg [(i64 0), (i64 0), (i64 0), (i64 0), (Value.string ByteArray.empty), (Value.string ByteArray.empty), (i64 0), (Value.string ByteArray.empty), (i64 0), (i64 0), (i64 0), (i64 0), (Value.slice none 0 0), (Value.slice none 0 0)])), (24, (Value.pointer (some ⟨b13, 2, none⟩)))] (by kernel_rfl) rfl (by kernel_rfl) ?_
   refine Dr.take (i := 4) (v := (i64 ((((⟨bs, 0, 0⟩ : Rdr).int).2).why))) (by kernel_rfl) (by kernel_rfl) (fun wz hS => Runs.load (t := 24) (a := ⟨b13, 2, none⟩) (by kernel_rfl) ((H27.keep hS (by intro h; change b13 = b1 at h; omega)).loads (by kernel_rfl))) (d := (some 25)) (by kernel_rfl) rfl ?_
   refine Dr.put (i := 5) (t := 30) (b := b1) (off := 0) (v := (agg [(i64 0), (i64 0), (i64 0), (i64 0), (Value.string ByteArray.empty), (Value.string ByteArray.empty), (i64 0), (Value.string ByteArray.empty), (i64 0), (i64 0), (i64 0), (i64 0), (Value.slice none 0 0), (Value.slice none 0 0)])) (ys := [(i64 0), (i64 0), (i64 0), (i64 0), (Value.string ByteArray.empty), (Value.string ByteArray.empty), (i64 0), (Value.string ByteArray.empty), (i64 0), (i64 0), (i64 0), (i64 0), (Value.slice none 0 0), (Value.slice none 0 0)]) (by kernel_rfl) (by kernel_rfl) (by kernel_rfl) H4 (by kernel_rfl) (d := none) (by kernel_rfl) rfl (fun w35 H36 K37 => ?_)
   clear H4
   replace K0 := K0.trans K37 (U := none_) (fun i h1 h2 => h2) (fun i h1 h2 => by have h2 : i = b1 := h2; exfalso; omega)
   replace H27 := H27.keep K37 (by intro h; change b13 = b1 at h; omega)
   replace F30 := RdO.keep F30 K37 (fun i _ _ hi hs => by have hs : i = b1 := hs; have := ob24 i _ _ hi; omega)
   refine ⟨K37, ?_⟩
   refine Dr.strong (S' := (fun wz => Keeps (fun i => i = b1) w35 wz)) ((Keeps.refl w35).mono (fun _ _ h => h.elim)) (fun wz hx => K37.trans hx (fun i _ h => by have h : i = b1 := h; show i = b1; omega) (fun _ _ h => h)) ?_
   clear K37
   refine Dr.takes (fuel' := 0) (is' := [6, 5, 4, 3, 2, 1, 0]) [6] [(2, (ptr b1)), (3, (i64 ((((⟨bs, 0, 0⟩ : Rdr).int).2).why))), (4, (ptr b13)), (5, (i64 (((⟨bs, 0, 0⟩ : Rdr).int).1)))] (by kernel_rfl) rfl (by kernel_rfl) ?_
   refine Dr.done (by kernel_rfl) ?_
   refine q_ret (by kernel_rfl) ?_
   refine ⟨(Value.tuple #[(agg [(i64 0), (i64 0), (i64 0), (i64 0), (Value.string ByteArray.empty), (Value.string ByteArray.empty), (i64 0), (Value.string ByteArray.empty), (i64 0), (i64 0), (i64 0), (i64 0), (Value.slice none 0 0), (Value.slice none 0 0)]), (i64 ((((⟨bs, 0, 0⟩ : Rdr).int).2).why))]), retv_cell_tmp rfl rfl (H36.loads (by kernel_rfl)) rfl, ?_⟩
   have e : unpackB bs = (LetP.zero, (((⟨bs, 0, 0⟩ : Rdr).int).2).why) := by unfold unpackB; rw [if_neg (by omega), if_pos (by omega), show (⟨bs, 0, 0⟩ : Rdr).int.2.why = (((⟨bs, 0, 0⟩ : Rdr).int).2).why from by omega]
   exact ⟨none, 0, none, 0, by rw [e]; rfl, K0, by rw [e]; exact (OwnT.nil _ _ _ _ _), by rw [e]; exact (World.ownsRow_nil _ _ _ _)⟩
  ·rw [h31]
   have p38 : (((⟨bs, 0, 0⟩ : Rdr).int).2).why = 0 := of_bne_f h31
   refine q_skip (by kernel_rfl) ?_
   refine qs ?_
   refine qg ?_
   refine og 2 [(2, (ptr b1)), (3, (i64 0)), (4, (ptr b13)), (5, (i64 (((⟨bs, 0, 0⟩ : Rdr).int).1))), (27, (agg [(i64 (((⟨bs, 0, 0⟩ : Rdr).int).1)), (i64 0), (i64 0), (i64 0), (Value.string ByteArray.empty), (Value.string ByteArray.empty), (i64 0), (Value.string ByteArray.empty), (i64 0), (i64 0), (i64 0), (i64 0), (Value.slice none 0 0), (Value.slice none 0 0)]))] 2 ?_
   refine Ops.new (o := rowL [(i64 0), (i64 0), (i64 0), (i64 0), (Value.string ByteArray.empty), (Value.string ByteArray.empty), (i64 0), (Value.string ByteArray.empty), (i64 0), (i64 0), (i64 0), (i64 0), (Value.slice none 0 0), (Value.slice none 0 0)] 30) (V := fun b => (ptr b)) (by kernel_rfl) (d := (some 6)) (by kernel_rfl) (fun b => rfl) (fun b39 w40 hb41 H42 K43 hs44 => ?_)
   have lb39b1 : b1 < b39 := by have := H4.lt; omega
   have lb39b13 : b13 < b39 := by have := H27.lt; omega
   have nb39 : w.heap.size ≤ b39 := by have := K0.size; omega
   have ob45 : ∀ i o s, A14 = some ⟨i, o, s⟩ → i ≠ b39 := fun i o s hi => by have := F30.2 i o s hi; omega
   replace K0 := K0.t0 K43
   replace H4 := H4.keep K43 (fun h => h)
   replace H27 := H27.keep K43 (fun h => h)
   replace F30 := RdO.keep0 F30 K43
   clear K43 hs44
   refine Ops.put (t := 30) (b := b39) (off := 0) (v := (agg [(i64 (((⟨bs, 0, 0⟩ : Rdr).int).1)), (i64 0), (i64 0), (i64 0), (Value.string ByteArray.empty), (Value.string ByteArray.empty), (i64 0), (Value.string ByteArray.empty), (i64 0), (i64 0), (i64 0), (i64 0), (Value.slice none 0 0), (Value.slice none 0 0)])) (ys := [(i64 (((⟨bs, 0, 0⟩ : Rdr).int).1)), (i64 0), (i64 0), (i64 0), (Value.string ByteArray.empty), (Value.string ByteArray.empty), (i64 0), (Value.string ByteArray.empty), (i64 0), (i64 0), (i64 0), (i64 0), (Value.slice none 0 0), (Value.slice none 0 0)]) (by kernel_rfl) (by kernel_rfl) H42 (by kernel_rfl) (d := none) (by kernel_rfl) rfl (fun w46 H47 K48 => ?_)
   clear H42
   replace K0 := K0.trans K48 (U := none_) (fun i h1 h2 => h2) (fun i h1 h2 => by have h2 : i = b39 := h2; exfalso; omega)
   replace H4 := H4.keep K48 (by intro h; change b1 = b39 at h; omega)
   replace H27 := H27.keep K48 (by intro h; change b13 = b39 at h; omega)
   replace F30 := RdO.keep F30 K48 (fun i _ _ hi hs => by have hs : i = b39 := hs; have := ob45 i _ _ hi; omega)
   clear K48
   refine od ?_
   refine qs ?_
   refine qs ?_
   refine qg ?_
   refine og 1 [(2, (ptr b1)), (3, (i64 0)), (4, (ptr b13)), (6, (ptr b39)), (28, (i64 (((⟨bs, 0, 0⟩ : Rdr).int).1)))] 1 ?_
   refine od ?_
   refine q_block (id := 0) (by kernel_rfl) ?_
   refine qs ?_
   refine qg ?_
   refine og 2 [(2, (ptr b1)), (3, (i64 0)), (4, (ptr b13)), (6, (ptr b39)), (28, (i64 (((⟨bs, 0, 0⟩ : Rdr).int).1))), (30, (Value.bool ((((⟨bs, 0, 0⟩ : Rdr).int).1) == 1)))] 2 ?_
   refine od ?_
   refine q_cond (o := .tmp 30) (b := ((((⟨bs, 0, 0⟩ : Rdr).int).1) == 1)) (by kernel_rfl) rfl (fun h49 => ?_) (fun h49 => ?_)
   ·rw [h49]
    have p50 : ((⟨bs, 0, 0⟩ : Rdr).int).1 = 1 := of_beq_t h49
    refine qg ?_
    refine og 1 [(2, (ptr b1)), (3, (i64 0)), (4, (ptr b13)), (6, (ptr b39)), (28, (i64 (((⟨bs, 0, 0⟩ : Rdr).int).1))), (32, (ptr b13))] 1 ?_
    refine Ops.call (by kernel_rfl) (d := (some 33)) (by kernel_rfl) (RRBytesS_calls _ b13 A14 c15 (((⟨bs, 0, 0⟩ : Rdr).int).2) hok28 H27 F30 hne21 ) ?_
    rintro _ w51 ⟨A64, c65, rfl, K52, hO57, H53⟩
    have hok54 : ((((⟨bs, 0, 0⟩ : Rdr).int).2).bytes).2.Ok := Rdr.Ok.bytes hok28
    have hu55 := Rdr.bytes_le hok28
    have ob59 : ∀ i, ((Value.slice A64 (((((⟨bs, 0, 0⟩ : Rdr).int).2).bytes).1.length) c65)).ownBlock = some i → i ≠ b1 := fun i hi => by have := (World.ownsRow.lt hO57 i hi).1; have := H4.lt; omega
    have ob60 : ∀ i, ((Value.slice A64 (((((⟨bs, 0, 0⟩ : Rdr).int).2).bytes).1.length) c65)).ownBlock = some i → i ≠ b13 := fun i hi => by have := (World.ownsRow.lt hO57 i hi).1; have := H27.lt; omega
    have ob61 : ∀ i, ((Value.slice A64 (((((⟨bs, 0, 0⟩ : Rdr).int).2).bytes).1.length) c65)).ownBlock = some i → i ≠ b39 := fun i hi => by have := (World.ownsRow.lt hO57 i hi).1; have := H47.lt; omega
    have oo62 : ∀ i o s, A14 = some ⟨i, o, s⟩ → ((Value.slice A64 (((((⟨bs, 0, 0⟩ : Rdr).int).2).bytes).1.length) c65)).ownBlock = some i → False := fun i o s hi hs => by have := (World.ownsRow.lt hO57 i hs).1; have := F30.2 i o s hi; omega
    have O58 := own_base hO57 K0.size
    clear hO57
    refine ⟨_, _, rfl, rfl, ?_⟩
    replace K0 := K0.trans K52 (U := none_) (fun i h1 h2 => h2) (fun i h1 h2 => by have h2 : i = b13 := h2; exfalso; omega)
    replace H4 := H4.keep K52 (by intro h; change b1 = b13 at h; omega)
    replace H47 := H47.keep K52 (by intro h; change b39 = b13 at h; omega)
    replace F30 := RdO.keep F30 K52 (fun i _ _ hi hs => by have hs : i = b13 := hs; have := hne21 i _ _ hi; omega)
    clear K52
    have F66 : RdO w51 A14 c15 ((((⟨bs, 0, 0⟩ : Rdr).int).2).bytes).2.bs := by rw [Rdr.bytes_bs]; exact F30
    clear F30
    refine og 1 [(2, (ptr b1)), (3, (i64 0)), (4, (ptr b13)), (6, (ptr b39)), (28, (i64 (((⟨bs, 0, 0⟩ : Rdr).int).1))), (33, (Value.slice A64 (((((⟨bs, 0, 0⟩ : Rdr).int).2).bytes).1.length) c65)), (34, (Value.pointer (some ⟨b39, 13, none⟩)))] 3 ?_
    refine Ops.put (t := 28) (b := b39) (off := 13) (v := (Value.slice A64 (((((⟨bs, 0, 0⟩ : Rdr).int).2).bytes).1.length) c65)) (ys := [(i64 (((⟨bs, 0, 0⟩ : Rdr).int).1)), (i64 0), (i64 0), (i64 0), (Value.string ByteArray.empty), (Value.string ByteArray.empty), (i64 0), (Value.string ByteArray.empty), (i64 0), (i64 0), (i64 0), (i64 0), (Value.slice none 0 0), (Value.slice A64 (((((⟨bs, 0, 0⟩ : Rdr).int).2).bytes).1.length) c65)]) (by kernel_rfl) (by kernel_rfl) H47 (by kernel_rfl) (d := none) (by kernel_rfl) rfl (fun w67 H68 K69 => ?_)
    clear H47
    replace K0 := K0.trans K69 (U := none_) (fun i h1 h2 => h2) (fun i h1 h2 => by have h2 : i = b39 := h2; exfalso; omega)
    replace H4 := H4.keep K69 (by intro h; change b1 = b39 at h; omega)
    replace H53 := H53.keep K69 (by intro h; change b13 = b39 at h; omega)
    replace F66 := RdO.keep F66 K69 (fun i _ _ hi hs => by have hs : i = b39 := hs; have := ob45 i _ _ hi; omega)
    replace O58 := own_keep O58 K69 (fun i hi hs => by have hs : i = b39 := hs; have := ob61 i hi; omega)
    clear K69
    refine od ?_
    refine qs ?_
    refine qg ?_
    refine og 1 [(2, (ptr b1)), (3, (i64 0)), (6, (ptr b39)), (70, (ptr b13))] 1 ?_
    refine Ops.call (by kernel_rfl) (d := (some 71)) (by kernel_rfl) (RREnd_calls _ b13 A14 c15 (((((⟨bs, 0, 0⟩ : Rdr).int).2).bytes).2) hok54 H53 F66 hne21) ?_
    rintro _ w70 ⟨rfl, K71⟩
    refine ⟨_, _, rfl, rfl, ?_⟩
    replace K0 := K0.t0 K71
    replace H4 := H4.keep K71 (fun h => h)
    replace H53 := H53.keep K71 (fun h => h)
    replace H68 := H68.keep K71 (fun h => h)
    replace F66 := RdO.keep0 F66 K71
    replace O58 := own_keep0 O58 K71
    clear K71
    refine og 1 [(2, (ptr b1)), (3, (i64 0)), (6, (ptr b39)), (7, (i64 ((((((⟨bs, 0, 0⟩ : Rdr).int).2).bytes).2).end_)))] 3 ?_
    refine od ?_
    refine qs ?_
    refine qs ?_
    refine qg ?_
    refine og 2 [(2, (ptr b1)), (3, (i64 0)), (6, (ptr b39)), (7, (i64 ((((((⟨bs, 0, 0⟩ : Rdr).int).2).bytes).2).end_))), (73, (Value.bool (((((((⟨bs, 0, 0⟩ : Rdr).int).2).bytes).2).end_) != 0)))] 2 ?_
    refine od ?_
    refine q_cond (o := .tmp 73) (b := (((((((⟨bs, 0, 0⟩ : Rdr).int).2).bytes).2).end_) != 0)) (by kernel_rfl) rfl (fun h72 => ?_) (fun h72 => ?_)
    ·rw [h72]
     have p73 : ¬ ((((((⟨bs, 0, 0⟩ : Rdr).int).2).bytes).2).end_ = 0) := of_bne_t h72
     have hecq74 := end_or (((((⟨bs, 0, 0⟩ : Rdr).int).2).bytes).2)
     refine qs ?_
     refine qg ?_
     refine og 2 [(2, (ptr b1)), (3, (i64 0)), (6, (ptr b39)), (74, (agg [(i64 0), (i64 0), (i64 0), (i64 0), (Value.string ByteArray.empty), (Value.string ByteArray.empty), (i64 0), (Value.string ByteArray.empty), (i64 0), (i64 0), (i64 0), (i64 0), (Value.slice none 0 0), (Value.slice none 0 0)])), (75, (i64 ((((((⟨bs, 0, 0⟩ : Rdr).int).2).bytes).2).end_)))] 2 ?_
     refine Ops.put (t := 30) (b := b1) (off := 0) (v := (agg [(i64 0), (i64 0), (i64 0), (i64 0), (Value.string ByteArray.empty), (Value.string ByteArray.empty), (i64 0), (Value.string ByteArray.empty), (i64 0), (i64 0), (i64 0), (i64 0), (Value.slice none 0 0), (Value.slice none 0 0)])) (ys := [(i64 0), (i64 0), (i64 0), (i64 0), (Value.string ByteArray.empty), (Value.string ByteArray.empty), (i64 0), (Value.string ByteArray.empty), (i64 0), (i64 0), (i64 0), (i64 0), (Value.slice none 0 0), (Value.slice none 0 0)]) (by kernel_rfl) (by kernel_rfl) H4 (by kernel_rfl) (d := none) (by kernel_rfl) rfl (fun w75 H76 K77 => ?_)
     clear H4
     replace K0 := K0.trans K77 (U := none_) (fun i h1 h2 => h2) (fun i h1 h2 => by have h2 : i = b1 := h2; exfalso; omega)
     replace H53 := H53.keep K77 (by intro h; change b13 = b1 at h; omega)
     replace H68 := H68.keep K77 (by intro h; change b39 = b1 at h; omega)
     replace F66 := RdO.keep F66 K77 (fun i _ _ hi hs => by have hs : i = b1 := hs; have := ob24 i _ _ hi; omega)
     replace O58 := own_keep O58 K77 (fun i hi hs => by have hs : i = b1 := hs; have := ob59 i hi; omega)
     clear K77
     refine og 1 [(2, (ptr b1)), (3, (i64 ((((((⟨bs, 0, 0⟩ : Rdr).int).2).bytes).2).end_))), (6, (ptr b39))] 4 ?_
     refine od ?_
     refine q_ret (by kernel_rfl) ?_
     refine ⟨(Value.tuple #[(agg [(i64 0), (i64 0), (i64 0), (i64 0), (Value.string ByteArray.empty), (Value.string ByteArray.empty), (i64 0), (Value.string ByteArray.empty), (i64 0), (i64 0), (i64 0), (i64 0), (Value.slice none 0 0), (Value.slice none 0 0)]), (i64 ((((((⟨bs, 0, 0⟩ : Rdr).int).2).bytes).2).end_))]), retv_cell_tmp rfl rfl (H76.loads (by kernel_rfl)) rfl, ?_⟩
     have hl2 : (letR (⟨bs, 0, 0⟩ : Rdr).int.1 (⟨bs, 0, 0⟩ : Rdr).int.2).2 = ((((⟨bs, 0, 0⟩ : Rdr).int).2).bytes).2 := by unfold letR; first | (rw [if_pos (by omega)] <;> rfl) | (rw [if_neg (by omega), if_pos (by omega)] <;> rfl) | (rw [if_neg (by omega), if_neg (by omega), if_pos (by omega)] <;> rfl) | (rw [if_neg (by omega), if_neg (by omega), if_neg (by omega), if_pos (by omega)] <;> rfl) | (rw [if_neg (by omega), if_neg (by omega), if_neg (by omega), if_neg (by omega)] <;> rfl)
     have e : unpackB bs = (LetP.zero, (((((⟨bs, 0, 0⟩ : Rdr).int).2).bytes).2).end_) := by unfold unpackB; rw [if_neg (by omega), if_neg (by omega), if_neg (by omega), if_pos (by rw [hl2]; omega), hl2]
     exact ⟨none, 0, none, 0, by rw [e]; rfl, K0, by rw [e]; exact (OwnT.nil _ _ _ _ _), by rw [e]; exact (World.ownsRow_nil _ _ _ _)⟩
    ·rw [h72]
     have p78 : (((((⟨bs, 0, 0⟩ : Rdr).int).2).bytes).2).end_ = 0 := of_bne_f h72
     have hecq79 := end_or (((((⟨bs, 0, 0⟩ : Rdr).int).2).bytes).2)
     refine q_skip (by kernel_rfl) ?_
     refine qs ?_
     refine qg ?_
     refine Ops.go (v := (agg [(i64 (((⟨bs, 0, 0⟩ : Rdr).int).1)), (i64 0), (i64 0), (i64 0), (Value.string ByteArray.empty), (Value.string ByteArray.empty), (i64 0), (Value.string ByteArray.empty), (i64 0), (i64 0), (i64 0), (i64 0), (Value.slice none 0 0), (Value.slice A64 (((((⟨bs, 0, 0⟩ : Rdr).int).2).bytes).1.length) c65)])) (by kernel_rfl) (Runs.load (t := 30) (a := ⟨b39, 0, none⟩) (by kernel_rfl) (H68.loads (by kernel_rfl))) (d := (some 76)) (by kernel_rfl) rfl ?_
     refine Ops.put (t := 30) (b := b1) (off := 0) (v := (agg [(i64 (((⟨bs, 0, 0⟩ : Rdr).int).1)), (i64 0), (i64 0), (i64 0), (Value.string ByteArray.empty), (Value.string ByteArray.empty), (i64 0), (Value.string ByteArray.empty), (i64 0), (i64 0), (i64 0), (i64 0), (Value.slice none 0 0), (Value.slice A64 (((((⟨bs, 0, 0⟩ : Rdr).int).2).bytes).1.length) c65)])) (ys := [(i64 (((⟨bs, 0, 0⟩ : Rdr).int).1)), (i64 0), (i64 0), (i64 0), (Value.string ByteArray.empty), (Value.string ByteArray.empty), (i64 0), (Value.string ByteArray.empty), (i64 0), (i64 0), (i64 0), (i64 0), (Value.slice none 0 0), (Value.slice A64 (((((⟨bs, 0, 0⟩ : Rdr).int).2).bytes).1.length) c65)]) (by kernel_rfl) (by kernel_rfl) H4 (by kernel_rfl) (d := none) (by kernel_rfl) rfl (fun w80 H81 K82 => ?_)
     clear H4
     replace K0 := K0.trans K82 (U := none_) (fun i h1 h2 => h2) (fun i h1 h2 => by have h2 : i = b1 := h2; exfalso; omega)
     replace H53 := H53.keep K82 (by intro h; change b13 = b1 at h; omega)
     replace H68 := H68.keep K82 (by intro h; change b39 = b1 at h; omega)
     replace F66 := RdO.keep F66 K82 (fun i _ _ hi hs => by have hs : i = b1 := hs; have := ob24 i _ _ hi; omega)
     replace O58 := own_keep O58 K82 (fun i hi hs => by have hs : i = b1 := hs; have := ob59 i hi; omega)
     clear K82
     refine og 1 [(2, (ptr b1)), (3, (i64 0))] 3 ?_
     refine od ?_
     refine q_ret (by kernel_rfl) ?_
     refine ⟨(Value.tuple #[(agg [(i64 (((⟨bs, 0, 0⟩ : Rdr).int).1)), (i64 0), (i64 0), (i64 0), (Value.string ByteArray.empty), (Value.string ByteArray.empty), (i64 0), (Value.string ByteArray.empty), (i64 0), (i64 0), (i64 0), (i64 0), (Value.slice none 0 0), (Value.slice A64 (((((⟨bs, 0, 0⟩ : Rdr).int).2).bytes).1.length) c65)]), (i64 0)]), retv_cell_tmp rfl rfl (H81.loads (by kernel_rfl)) rfl, ?_⟩
     have hl : letR (⟨bs, 0, 0⟩ : Rdr).int.1 (⟨bs, 0, 0⟩ : Rdr).int.2 = ((⟨((⟨bs, 0, 0⟩ : Rdr).int).1, 0, 0, ⟨0, [], [], 0, [], 0, 0⟩, ⟨0, 0, []⟩, ((((⟨bs, 0, 0⟩ : Rdr).int).2).bytes).1⟩ : LetP), ((((⟨bs, 0, 0⟩ : Rdr).int).2).bytes).2) := by unfold letR; first | (rw [if_pos (by omega)] <;> rfl) | (rw [if_neg (by omega), if_pos (by omega)] <;> rfl) | (rw [if_neg (by omega), if_neg (by omega), if_pos (by omega)] <;> rfl) | (rw [if_neg (by omega), if_neg (by omega), if_neg (by omega), if_pos (by omega)] <;> rfl) | (rw [if_neg (by omega), if_neg (by omega), if_neg (by omega), if_neg (by omega)] <;> rfl)
     have e : unpackB bs = ((⟨((⟨bs, 0, 0⟩ : Rdr).int).1, 0, 0, ⟨0, [], [], 0, [], 0, 0⟩, ⟨0, 0, []⟩, ((((⟨bs, 0, 0⟩ : Rdr).int).2).bytes).1⟩ : LetP), 0) := by unfold unpackB; rw [if_neg (by omega), if_neg (by omega), if_neg (by omega), if_neg (by rw [hl]; show ¬ ((((((⟨bs, 0, 0⟩ : Rdr).int).2).bytes).2).end_ ≠ 0); omega), hl]
     exact ⟨none, 0, A64, c65, by rw [e]; rfl, K0, by rw [e]; exact (OwnT.nil _ _ _ _ _), by rw [e]; exact O58⟩
   ·rw [h49]
    have p83 : ¬ (((⟨bs, 0, 0⟩ : Rdr).int).1 = 1) := of_beq_f h49
    refine qs ?_
    refine qg ?_
    refine og 2 [(2, (ptr b1)), (3, (i64 0)), (4, (ptr b13)), (6, (ptr b39)), (28, (i64 (((⟨bs, 0, 0⟩ : Rdr).int).1))), (35, (Value.bool ((((⟨bs, 0, 0⟩ : Rdr).int).1) == 2)))] 2 ?_
    refine od ?_
    refine q_cond (o := .tmp 35) (b := ((((⟨bs, 0, 0⟩ : Rdr).int).1) == 2)) (by kernel_rfl) rfl (fun h84 => ?_) (fun h84 => ?_)
    ·rw [h84]
     have p85 : ((⟨bs, 0, 0⟩ : Rdr).int).1 = 2 := of_beq_t h84
     refine qs ?_
     refine qg ?_
     refine og 1 [(2, (ptr b1)), (3, (i64 0)), (4, (ptr b13)), (6, (ptr b39)), (28, (i64 (((⟨bs, 0, 0⟩ : Rdr).int).1))), (37, (ptr b13))] 1 ?_
     refine Ops.call (by kernel_rfl) (d := (some 38)) (by kernel_rfl) (RRInt_calls _ b13 A14 c15 (((⟨bs, 0, 0⟩ : Rdr).int).2) hok28 H27 F30 hne21 ) ?_
     rintro _ w86 ⟨rfl, K87, H88⟩
     have hok89 : ((((⟨bs, 0, 0⟩ : Rdr).int).2).int).2.Ok := Rdr.Ok.int hok28
     have hu90 := Rdr.int_range (((⟨bs, 0, 0⟩ : Rdr).int).2)
     refine ⟨_, _, rfl, rfl, ?_⟩
     replace K0 := K0.trans K87 (U := none_) (fun i h1 h2 => h2) (fun i h1 h2 => by have h2 : i = b13 := h2; exfalso; omega)
     replace H4 := H4.keep K87 (by intro h; change b1 = b13 at h; omega)
     replace H47 := H47.keep K87 (by intro h; change b39 = b13 at h; omega)
     replace F30 := RdO.keep F30 K87 (fun i _ _ hi hs => by have hs : i = b13 := hs; have := hne21 i _ _ hi; omega)
     clear K87
     have F91 : RdO w86 A14 c15 ((((⟨bs, 0, 0⟩ : Rdr).int).2).int).2.bs := by rw [Rdr.int_bs]; exact F30
     clear F30
     refine og 1 [(2, (ptr b1)), (3, (i64 0)), (4, (ptr b13)), (6, (ptr b39)), (28, (i64 (((⟨bs, 0, 0⟩ : Rdr).int).1))), (38, (i64 (((((⟨bs, 0, 0⟩ : Rdr).int).2).int).1))), (39, (Value.pointer (some ⟨b39, 1, none⟩)))] 3 ?_
     refine Ops.put (t := 2) (b := b39) (off := 1) (v := (i64 (((((⟨bs, 0, 0⟩ : Rdr).int).2).int).1))) (ys := [(i64 (((⟨bs, 0, 0⟩ : Rdr).int).1)), (i64 (((((⟨bs, 0, 0⟩ : Rdr).int).2).int).1)), (i64 0), (i64 0), (Value.string ByteArray.empty), (Value.string ByteArray.empty), (i64 0), (Value.string ByteArray.empty), (i64 0), (i64 0), (i64 0), (i64 0), (Value.slice none 0 0), (Value.slice none 0 0)]) (by kernel_rfl) (by kernel_rfl) H47 (by kernel_rfl) (d := none) (by kernel_rfl) rfl (fun w92 H93 K94 => ?_)
     clear H47
     replace K0 := K0.trans K94 (U := none_) (fun i h1 h2 => h2) (fun i h1 h2 => by have h2 : i = b39 := h2; exfalso; omega)
     replace H4 := H4.keep K94 (by intro h; change b1 = b39 at h; omega)
     replace H88 := H88.keep K94 (by intro h; change b13 = b39 at h; omega)
     replace F91 := RdO.keep F91 K94 (fun i _ _ hi hs => by have hs : i = b39 := hs; have := ob45 i _ _ hi; omega)
     clear K94
     refine od ?_
     refine qg ?_
     refine og 1 [(2, (ptr b1)), (3, (i64 0)), (4, (ptr b13)), (6, (ptr b39)), (28, (i64 (((⟨bs, 0, 0⟩ : Rdr).int).1))), (40, (ptr b13))] 1 ?_
     refine Ops.call (by kernel_rfl) (d := (some 41)) (by kernel_rfl) (RGetOp_calls _ b13 A14 c15 (((((⟨bs, 0, 0⟩ : Rdr).int).2).int).2) hok89 H88 F91 hne21 ) ?_
     rintro _ w95 ⟨rfl, K96, H97⟩
     have hok98 : ((((((⟨bs, 0, 0⟩ : Rdr).int).2).int).2).op).2.Ok := Rdr.Ok.op hok89
     refine ⟨_, _, rfl, rfl, ?_⟩
     replace K0 := K0.trans K96 (U := none_) (fun i h1 h2 => h2) (fun i h1 h2 => by have h2 : i = b13 := h2; exfalso; omega)
     replace H4 := H4.keep K96 (by intro h; change b1 = b13 at h; omega)
     replace H93 := H93.keep K96 (by intro h; change b39 = b13 at h; omega)
     replace F91 := RdO.keep F91 K96 (fun i _ _ hi hs => by have hs : i = b13 := hs; have := hne21 i _ _ hi; omega)
     clear K96
     have F99 : RdO w95 A14 c15 ((((((⟨bs, 0, 0⟩ : Rdr).int).2).int).2).op).2.bs := by rw [Rdr.op_bs]; exact F91
     clear F91
     refine og 1 [(2, (ptr b1)), (3, (i64 0)), (4, (ptr b13)), (6, (ptr b39)), (28, (i64 (((⟨bs, 0, 0⟩ : Rdr).int).1))), (41, (agg [(i64 (((((((⟨bs, 0, 0⟩ : Rdr).int).2).int).2).op).1.kind)), (Value.string (str ((((((⟨bs, 0, 0⟩ : Rdr).int).2).int).2).op).1.frm)), (Value.string (str ((((((⟨bs, 0, 0⟩ : Rdr).int).2).int).2).op).1.to)), (i64 (((((((⟨bs, 0, 0⟩ : Rdr).int).2).int).2).op).1.amount)), (Value.string (str ((((((⟨bs, 0, 0⟩ : Rdr).int).2).int).2).op).1.key)), (i64 (((((((⟨bs, 0, 0⟩ : Rdr).int).2).int).2).op).1.slot)), (i64 (((((((⟨bs, 0, 0⟩ : Rdr).int).2).int).2).op).1.shard))])), (42, (Value.pointer (some ⟨b39, 3, none⟩)))] 3 ?_
     refine Ops.put (t := 23) (b := b39) (off := 3) (v := (agg [(i64 (((((((⟨bs, 0, 0⟩ : Rdr).int).2).int).2).op).1.kind)), (Value.string (str ((((((⟨bs, 0, 0⟩ : Rdr).int).2).int).2).op).1.frm)), (Value.string (str ((((((⟨bs, 0, 0⟩ : Rdr).int).2).int).2).op).1.to)), (i64 (((((((⟨bs, 0, 0⟩ : Rdr).int).2).int).2).op).1.amount)), (Value.string (str ((((((⟨bs, 0, 0⟩ : Rdr).int).2).int).2).op).1.key)), (i64 (((((((⟨bs, 0, 0⟩ : Rdr).int).2).int).2).op).1.slot)), (i64 (((((((⟨bs, 0, 0⟩ : Rdr).int).2).int).2).op).1.shard))])) (ys := [(i64 (((⟨bs, 0, 0⟩ : Rdr).int).1)), (i64 (((((⟨bs, 0, 0⟩ : Rdr).int).2).int).1)), (i64 0), (i64 (((((((⟨bs, 0, 0⟩ : Rdr).int).2).int).2).op).1.kind)), (Value.string (str ((((((⟨bs, 0, 0⟩ : Rdr).int).2).int).2).op).1.frm)), (Value.string (str ((((((⟨bs, 0, 0⟩ : Rdr).int).2).int).2).op).1.to)), (i64 (((((((⟨bs, 0, 0⟩ : Rdr).int).2).int).2).op).1.amount)), (Value.string (str ((((((⟨bs, 0, 0⟩ : Rdr).int).2).int).2).op).1.key)), (i64 (((((((⟨bs, 0, 0⟩ : Rdr).int).2).int).2).op).1.slot)), (i64 (((((((⟨bs, 0, 0⟩ : Rdr).int).2).int).2).op).1.shard)), (i64 0), (i64 0), (Value.slice none 0 0), (Value.slice none 0 0)]) (by kernel_rfl) (by kernel_rfl) H93 (by kernel_rfl) (d := none) (by kernel_rfl) rfl (fun w100 H101 K102 => ?_)
     clear H93
     replace K0 := K0.trans K102 (U := none_) (fun i h1 h2 => h2) (fun i h1 h2 => by have h2 : i = b39 := h2; exfalso; omega)
     replace H4 := H4.keep K102 (by intro h; change b1 = b39 at h; omega)
     replace H97 := H97.keep K102 (by intro h; change b13 = b39 at h; omega)
     replace F99 := RdO.keep F99 K102 (fun i _ _ hi hs => by have hs : i = b39 := hs; have := ob45 i _ _ hi; omega)
     clear K102
     refine od ?_
     refine qs ?_
     refine qg ?_
     refine og 1 [(2, (ptr b1)), (3, (i64 0)), (6, (ptr b39)), (70, (ptr b13))] 1 ?_
     refine Ops.call (by kernel_rfl) (d := (some 71)) (by kernel_rfl) (RREnd_calls _ b13 A14 c15 (((((((⟨bs, 0, 0⟩ : Rdr).int).2).int).2).op).2) hok98 H97 F99 hne21) ?_
     rintro _ w103 ⟨rfl, K104⟩
     refine ⟨_, _, rfl, rfl, ?_⟩
     replace K0 := K0.t0 K104
     replace H4 := H4.keep K104 (fun h => h)
     replace H97 := H97.keep K104 (fun h => h)
     replace H101 := H101.keep K104 (fun h => h)
     replace F99 := RdO.keep0 F99 K104
     clear K104
     refine og 1 [(2, (ptr b1)), (3, (i64 0)), (6, (ptr b39)), (7, (i64 ((((((((⟨bs, 0, 0⟩ : Rdr).int).2).int).2).op).2).end_)))] 3 ?_
     refine od ?_
     refine qs ?_
     refine qs ?_
     refine qg ?_
     refine og 2 [(2, (ptr b1)), (3, (i64 0)), (6, (ptr b39)), (7, (i64 ((((((((⟨bs, 0, 0⟩ : Rdr).int).2).int).2).op).2).end_))), (73, (Value.bool (((((((((⟨bs, 0, 0⟩ : Rdr).int).2).int).2).op).2).end_) != 0)))] 2 ?_
     refine od ?_
     refine q_cond (o := .tmp 73) (b := (((((((((⟨bs, 0, 0⟩ : Rdr).int).2).int).2).op).2).end_) != 0)) (by kernel_rfl) rfl (fun h105 => ?_) (fun h105 => ?_)
     ·rw [h105]
      have p106 : ¬ ((((((((⟨bs, 0, 0⟩ : Rdr).int).2).int).2).op).2).end_ = 0) := of_bne_t h105
      have hecq107 := end_or (((((((⟨bs, 0, 0⟩ : Rdr).int).2).int).2).op).2)
      refine qs ?_
      refine qg ?_
      refine og 2 [(2, (ptr b1)), (3, (i64 0)), (6, (ptr b39)), (74, (agg [(i64 0), (i64 0), (i64 0), (i64 0), (Value.string ByteArray.empty), (Value.string ByteArray.empty), (i64 0), (Value.string ByteArray.empty), (i64 0), (i64 0), (i64 0), (i64 0), (Value.slice none 0 0), (Value.slice none 0 0)])), (75, (i64 ((((((((⟨bs, 0, 0⟩ : Rdr).int).2).int).2).op).2).end_)))] 2 ?_
      refine Ops.put (t := 30) (b := b1) (off := 0) (v := (agg [(i64 0), (i64 0), (i64 0), (i64 0), (Value.string ByteArray.empty), (Value.string ByteArray.empty), (i64 0), (Value.string ByteArray.empty), (i64 0), (i64 0), (i64 0), (i64 0), (Value.slice none 0 0), (Value.slice none 0 0)])) (ys := [(i64 0), (i64 0), (i64 0), (i64 0), (Value.string ByteArray.empty), (Value.string ByteArray.empty), (i64 0), (Value.string ByteArray.empty), (i64 0), (i64 0), (i64 0), (i64 0), (Value.slice none 0 0), (Value.slice none 0 0)]) (by kernel_rfl) (by kernel_rfl) H4 (by kernel_rfl) (d := none) (by kernel_rfl) rfl (fun w108 H109 K110 => ?_)
      clear H4
      replace K0 := K0.trans K110 (U := none_) (fun i h1 h2 => h2) (fun i h1 h2 => by have h2 : i = b1 := h2; exfalso; omega)
      replace H97 := H97.keep K110 (by intro h; change b13 = b1 at h; omega)
      replace H101 := H101.keep K110 (by intro h; change b39 = b1 at h; omega)
      replace F99 := RdO.keep F99 K110 (fun i _ _ hi hs => by have hs : i = b1 := hs; have := ob24 i _ _ hi; omega)
      clear K110
      refine og 1 [(2, (ptr b1)), (3, (i64 ((((((((⟨bs, 0, 0⟩ : Rdr).int).2).int).2).op).2).end_))), (6, (ptr b39))] 4 ?_
      refine od ?_
      refine q_ret (by kernel_rfl) ?_
      refine ⟨(Value.tuple #[(agg [(i64 0), (i64 0), (i64 0), (i64 0), (Value.string ByteArray.empty), (Value.string ByteArray.empty), (i64 0), (Value.string ByteArray.empty), (i64 0), (i64 0), (i64 0), (i64 0), (Value.slice none 0 0), (Value.slice none 0 0)]), (i64 ((((((((⟨bs, 0, 0⟩ : Rdr).int).2).int).2).op).2).end_))]), retv_cell_tmp rfl rfl (H109.loads (by kernel_rfl)) rfl, ?_⟩
      have hl2 : (letR (⟨bs, 0, 0⟩ : Rdr).int.1 (⟨bs, 0, 0⟩ : Rdr).int.2).2 = ((((((⟨bs, 0, 0⟩ : Rdr).int).2).int).2).op).2 := by unfold letR; first | (rw [if_pos (by omega)] <;> rfl) | (rw [if_neg (by omega), if_pos (by omega)] <;> rfl) | (rw [if_neg (by omega), if_neg (by omega), if_pos (by omega)] <;> rfl) | (rw [if_neg (by omega), if_neg (by omega), if_neg (by omega), if_pos (by omega)] <;> rfl) | (rw [if_neg (by omega), if_neg (by omega), if_neg (by omega), if_neg (by omega)] <;> rfl)
      have e : unpackB bs = (LetP.zero, (((((((⟨bs, 0, 0⟩ : Rdr).int).2).int).2).op).2).end_) := by unfold unpackB; rw [if_neg (by omega), if_neg (by omega), if_neg (by omega), if_pos (by rw [hl2]; omega), hl2]
      exact ⟨none, 0, none, 0, by rw [e]; rfl, K0, by rw [e]; exact (OwnT.nil _ _ _ _ _), by rw [e]; exact (World.ownsRow_nil _ _ _ _)⟩
     ·rw [h105]
      have p111 : (((((((⟨bs, 0, 0⟩ : Rdr).int).2).int).2).op).2).end_ = 0 := of_bne_f h105
      have hecq112 := end_or (((((((⟨bs, 0, 0⟩ : Rdr).int).2).int).2).op).2)
      refine q_skip (by kernel_rfl) ?_
      refine qs ?_
      refine qg ?_
      refine Ops.go (v := (agg [(i64 (((⟨bs, 0, 0⟩ : Rdr).int).1)), (i64 (((((⟨bs, 0, 0⟩ : Rdr).int).2).int).1)), (i64 0), (i64 (((((((⟨bs, 0, 0⟩ : Rdr).int).2).int).2).op).1.kind)), (Value.string (str ((((((⟨bs, 0, 0⟩ : Rdr).int).2).int).2).op).1.frm)), (Value.string (str ((((((⟨bs, 0, 0⟩ : Rdr).int).2).int).2).op).1.to)), (i64 (((((((⟨bs, 0, 0⟩ : Rdr).int).2).int).2).op).1.amount)), (Value.string (str ((((((⟨bs, 0, 0⟩ : Rdr).int).2).int).2).op).1.key)), (i64 (((((((⟨bs, 0, 0⟩ : Rdr).int).2).int).2).op).1.slot)), (i64 (((((((⟨bs, 0, 0⟩ : Rdr).int).2).int).2).op).1.shard)), (i64 0), (i64 0), (Value.slice none 0 0), (Value.slice none 0 0)])) (by kernel_rfl) (Runs.load (t := 30) (a := ⟨b39, 0, none⟩) (by kernel_rfl) (H101.loads (by kernel_rfl))) (d := (some 76)) (by kernel_rfl) rfl ?_
      refine Ops.put (t := 30) (b := b1) (off := 0) (v := (agg [(i64 (((⟨bs, 0, 0⟩ : Rdr).int).1)), (i64 (((((⟨bs, 0, 0⟩ : Rdr).int).2).int).1)), (i64 0), (i64 (((((((⟨bs, 0, 0⟩ : Rdr).int).2).int).2).op).1.kind)), (Value.string (str ((((((⟨bs, 0, 0⟩ : Rdr).int).2).int).2).op).1.frm)), (Value.string (str ((((((⟨bs, 0, 0⟩ : Rdr).int).2).int).2).op).1.to)), (i64 (((((((⟨bs, 0, 0⟩ : Rdr).int).2).int).2).op).1.amount)), (Value.string (str ((((((⟨bs, 0, 0⟩ : Rdr).int).2).int).2).op).1.key)), (i64 (((((((⟨bs, 0, 0⟩ : Rdr).int).2).int).2).op).1.slot)), (i64 (((((((⟨bs, 0, 0⟩ : Rdr).int).2).int).2).op).1.shard)), (i64 0), (i64 0), (Value.slice none 0 0), (Value.slice none 0 0)])) (ys := [(i64 (((⟨bs, 0, 0⟩ : Rdr).int).1)), (i64 (((((⟨bs, 0, 0⟩ : Rdr).int).2).int).1)), (i64 0), (i64 (((((((⟨bs, 0, 0⟩ : Rdr).int).2).int).2).op).1.kind)), (Value.string (str ((((((⟨bs, 0, 0⟩ : Rdr).int).2).int).2).op).1.frm)), (Value.string (str ((((((⟨bs, 0, 0⟩ : Rdr).int).2).int).2).op).1.to)), (i64 (((((((⟨bs, 0, 0⟩ : Rdr).int).2).int).2).op).1.amount)), (Value.string (str ((((((⟨bs, 0, 0⟩ : Rdr).int).2).int).2).op).1.key)), (i64 (((((((⟨bs, 0, 0⟩ : Rdr).int).2).int).2).op).1.slot)), (i64 (((((((⟨bs, 0, 0⟩ : Rdr).int).2).int).2).op).1.shard)), (i64 0), (i64 0), (Value.slice none 0 0), (Value.slice none 0 0)]) (by kernel_rfl) (by kernel_rfl) H4 (by kernel_rfl) (d := none) (by kernel_rfl) rfl (fun w113 H114 K115 => ?_)
      clear H4
      replace K0 := K0.trans K115 (U := none_) (fun i h1 h2 => h2) (fun i h1 h2 => by have h2 : i = b1 := h2; exfalso; omega)
      replace H97 := H97.keep K115 (by intro h; change b13 = b1 at h; omega)
      replace H101 := H101.keep K115 (by intro h; change b39 = b1 at h; omega)
      replace F99 := RdO.keep F99 K115 (fun i _ _ hi hs => by have hs : i = b1 := hs; have := ob24 i _ _ hi; omega)
      clear K115
      refine og 1 [(2, (ptr b1)), (3, (i64 0))] 3 ?_
      refine od ?_
      refine q_ret (by kernel_rfl) ?_
      refine ⟨(Value.tuple #[(agg [(i64 (((⟨bs, 0, 0⟩ : Rdr).int).1)), (i64 (((((⟨bs, 0, 0⟩ : Rdr).int).2).int).1)), (i64 0), (i64 (((((((⟨bs, 0, 0⟩ : Rdr).int).2).int).2).op).1.kind)), (Value.string (str ((((((⟨bs, 0, 0⟩ : Rdr).int).2).int).2).op).1.frm)), (Value.string (str ((((((⟨bs, 0, 0⟩ : Rdr).int).2).int).2).op).1.to)), (i64 (((((((⟨bs, 0, 0⟩ : Rdr).int).2).int).2).op).1.amount)), (Value.string (str ((((((⟨bs, 0, 0⟩ : Rdr).int).2).int).2).op).1.key)), (i64 (((((((⟨bs, 0, 0⟩ : Rdr).int).2).int).2).op).1.slot)), (i64 (((((((⟨bs, 0, 0⟩ : Rdr).int).2).int).2).op).1.shard)), (i64 0), (i64 0), (Value.slice none 0 0), (Value.slice none 0 0)]), (i64 0)]), retv_cell_tmp rfl rfl (H114.loads (by kernel_rfl)) rfl, ?_⟩
      have hl : letR (⟨bs, 0, 0⟩ : Rdr).int.1 (⟨bs, 0, 0⟩ : Rdr).int.2 = ((⟨((⟨bs, 0, 0⟩ : Rdr).int).1, ((((⟨bs, 0, 0⟩ : Rdr).int).2).int).1, 0, ⟨((((((⟨bs, 0, 0⟩ : Rdr).int).2).int).2).op).1.kind, ((((((⟨bs, 0, 0⟩ : Rdr).int).2).int).2).op).1.frm, ((((((⟨bs, 0, 0⟩ : Rdr).int).2).int).2).op).1.to, ((((((⟨bs, 0, 0⟩ : Rdr).int).2).int).2).op).1.amount, ((((((⟨bs, 0, 0⟩ : Rdr).int).2).int).2).op).1.key, ((((((⟨bs, 0, 0⟩ : Rdr).int).2).int).2).op).1.slot, ((((((⟨bs, 0, 0⟩ : Rdr).int).2).int).2).op).1.shard⟩, ⟨0, 0, []⟩, []⟩ : LetP), ((((((⟨bs, 0, 0⟩ : Rdr).int).2).int).2).op).2) := by unfold letR; first | (rw [if_pos (by omega)] <;> rfl) | (rw [if_neg (by omega), if_pos (by omega)] <;> rfl) | (rw [if_neg (by omega), if_neg (by omega), if_pos (by omega)] <;> rfl) | (rw [if_neg (by omega), if_neg (by omega), if_neg (by omega), if_pos (by omega)] <;> rfl) | (rw [if_neg (by omega), if_neg (by omega), if_neg (by omega), if_neg (by omega)] <;> rfl)
      have e : unpackB bs = ((⟨((⟨bs, 0, 0⟩ : Rdr).int).1, ((((⟨bs, 0, 0⟩ : Rdr).int).2).int).1, 0, ⟨((((((⟨bs, 0, 0⟩ : Rdr).int).2).int).2).op).1.kind, ((((((⟨bs, 0, 0⟩ : Rdr).int).2).int).2).op).1.frm, ((((((⟨bs, 0, 0⟩ : Rdr).int).2).int).2).op).1.to, ((((((⟨bs, 0, 0⟩ : Rdr).int).2).int).2).op).1.amount, ((((((⟨bs, 0, 0⟩ : Rdr).int).2).int).2).op).1.key, ((((((⟨bs, 0, 0⟩ : Rdr).int).2).int).2).op).1.slot, ((((((⟨bs, 0, 0⟩ : Rdr).int).2).int).2).op).1.shard⟩, ⟨0, 0, []⟩, []⟩ : LetP), 0) := by unfold unpackB; rw [if_neg (by omega), if_neg (by omega), if_neg (by omega), if_neg (by rw [hl]; show ¬ ((((((((⟨bs, 0, 0⟩ : Rdr).int).2).int).2).op).2).end_ ≠ 0); omega), hl]
      exact ⟨none, 0, none, 0, by rw [e]; rfl, K0, by rw [e]; exact (OwnT.nil _ _ _ _ _), by rw [e]; exact (World.ownsRow_nil _ _ _ _)⟩
    ·rw [h84]
     have p116 : ¬ (((⟨bs, 0, 0⟩ : Rdr).int).1 = 2) := of_beq_f h84
     refine qs ?_
     refine qg ?_
     refine og 2 [(2, (ptr b1)), (3, (i64 0)), (4, (ptr b13)), (6, (ptr b39)), (28, (i64 (((⟨bs, 0, 0⟩ : Rdr).int).1))), (43, (Value.bool ((((⟨bs, 0, 0⟩ : Rdr).int).1) == 3)))] 2 ?_
     refine od ?_
     refine q_cond (o := .tmp 43) (b := ((((⟨bs, 0, 0⟩ : Rdr).int).1) == 3)) (by kernel_rfl) rfl (fun h117 => ?_) (fun h117 => ?_)
     ·rw [h117]
      have p118 : ((⟨bs, 0, 0⟩ : Rdr).int).1 = 3 := of_beq_t h117
      refine qs ?_
      refine qg ?_
      refine og 1 [(2, (ptr b1)), (3, (i64 0)), (4, (ptr b13)), (6, (ptr b39)), (28, (i64 (((⟨bs, 0, 0⟩ : Rdr).int).1))), (45, (ptr b13))] 1 ?_
      refine Ops.call (by kernel_rfl) (d := (some 46)) (by kernel_rfl) (RRInt_calls _ b13 A14 c15 (((⟨bs, 0, 0⟩ : Rdr).int).2) hok28 H27 F30 hne21 ) ?_
      rintro _ w119 ⟨rfl, K120, H121⟩
      have hok122 : ((((⟨bs, 0, 0⟩ : Rdr).int).2).int).2.Ok := Rdr.Ok.int hok28
      have hu123 := Rdr.int_range (((⟨bs, 0, 0⟩ : Rdr).int).2)
      refine ⟨_, _, rfl, rfl, ?_⟩
      replace K0 := K0.trans K120 (U := none_) (fun i h1 h2 => h2) (fun i h1 h2 => by have h2 : i = b13 := h2; exfalso; omega)
      replace H4 := H4.keep K120 (by intro h; change b1 = b13 at h; omega)
      replace H47 := H47.keep K120 (by intro h; change b39 = b13 at h; omega)
      replace F30 := RdO.keep F30 K120 (fun i _ _ hi hs => by have hs : i = b13 := hs; have := hne21 i _ _ hi; omega)
      clear K120
      have F124 : RdO w119 A14 c15 ((((⟨bs, 0, 0⟩ : Rdr).int).2).int).2.bs := by rw [Rdr.int_bs]; exact F30
      clear F30
      refine og 1 [(2, (ptr b1)), (3, (i64 0)), (4, (ptr b13)), (6, (ptr b39)), (28, (i64 (((⟨bs, 0, 0⟩ : Rdr).int).1))), (46, (i64 (((((⟨bs, 0, 0⟩ : Rdr).int).2).int).1))), (47, (Value.pointer (some ⟨b39, 1, none⟩)))] 3 ?_
      refine Ops.put (t := 2) (b := b39) (off := 1) (v := (i64 (((((⟨bs, 0, 0⟩ : Rdr).int).2).int).1))) (ys := [(i64 (((⟨bs, 0, 0⟩ : Rdr).int).1)), (i64 (((((⟨bs, 0, 0⟩ : Rdr).int).2).int).1)), (i64 0), (i64 0), (Value.string ByteArray.empty), (Value.string ByteArray.empty), (i64 0), (Value.string ByteArray.empty), (i64 0), (i64 0), (i64 0), (i64 0), (Value.slice none 0 0), (Value.slice none 0 0)]) (by kernel_rfl) (by kernel_rfl) H47 (by kernel_rfl) (d := none) (by kernel_rfl) rfl (fun w125 H126 K127 => ?_)
      clear H47
      replace K0 := K0.trans K127 (U := none_) (fun i h1 h2 => h2) (fun i h1 h2 => by have h2 : i = b39 := h2; exfalso; omega)
      replace H4 := H4.keep K127 (by intro h; change b1 = b39 at h; omega)
      replace H121 := H121.keep K127 (by intro h; change b13 = b39 at h; omega)
      replace F124 := RdO.keep F124 K127 (fun i _ _ hi hs => by have hs : i = b39 := hs; have := ob45 i _ _ hi; omega)
      clear K127
      refine od ?_
      refine qg ?_
      refine og 1 [(2, (ptr b1)), (3, (i64 0)), (4, (ptr b13)), (6, (ptr b39)), (28, (i64 (((⟨bs, 0, 0⟩ : Rdr).int).1))), (48, (ptr b13))] 1 ?_
      refine Ops.call (by kernel_rfl) (d := (some 49)) (by kernel_rfl) (RGetReply_calls _ b13 A14 c15 (((((⟨bs, 0, 0⟩ : Rdr).int).2).int).2) hok122 H121 F124 hne21 ) ?_
      rintro _ w128 ⟨A140, c141, rfl, K129, hO133, H130⟩
      have hok131 : ((((((⟨bs, 0, 0⟩ : Rdr).int).2).int).2).reply).2.Ok := Rdr.Ok.reply hok122
      have ob135 : ∀ i, ((Value.slice A140 (((((((⟨bs, 0, 0⟩ : Rdr).int).2).int).2).reply).1.rows.length) c141)).ownBlock = some i → i ≠ b1 := fun i hi => by have := (World.ownsRow.lt hO133 i hi).1; have := H4.lt; omega
      have ob136 : ∀ i, ((Value.slice A140 (((((((⟨bs, 0, 0⟩ : Rdr).int).2).int).2).reply).1.rows.length) c141)).ownBlock = some i → i ≠ b13 := fun i hi => by have := (World.ownsRow.lt hO133 i hi).1; have := H121.lt; omega
      have ob137 : ∀ i, ((Value.slice A140 (((((((⟨bs, 0, 0⟩ : Rdr).int).2).int).2).reply).1.rows.length) c141)).ownBlock = some i → i ≠ b39 := fun i hi => by have := (World.ownsRow.lt hO133 i hi).1; have := H126.lt; omega
      have oo138 : ∀ i o s, A14 = some ⟨i, o, s⟩ → ((Value.slice A140 (((((((⟨bs, 0, 0⟩ : Rdr).int).2).int).2).reply).1.rows.length) c141)).ownBlock = some i → False := fun i o s hi hs => by have := (World.ownsRow.lt hO133 i hs).1; have := F124.2 i o s hi; omega
      have O134 := own_base hO133 K0.size
      clear hO133
      refine ⟨_, _, rfl, rfl, ?_⟩
      replace K0 := K0.trans K129 (U := none_) (fun i h1 h2 => h2) (fun i h1 h2 => by have h2 : i = b13 := h2; exfalso; omega)
      replace H4 := H4.keep K129 (by intro h; change b1 = b13 at h; omega)
      replace H126 := H126.keep K129 (by intro h; change b39 = b13 at h; omega)
      replace F124 := RdO.keep F124 K129 (fun i _ _ hi hs => by have hs : i = b13 := hs; have := hne21 i _ _ hi; omega)
      clear K129
      have F142 : RdO w128 A14 c15 ((((((⟨bs, 0, 0⟩ : Rdr).int).2).int).2).reply).2.bs := by rw [Rdr.reply_bs]; exact F124
      clear F124
      refine og 1 [(2, (ptr b1)), (3, (i64 0)), (4, (ptr b13)), (6, (ptr b39)), (28, (i64 (((⟨bs, 0, 0⟩ : Rdr).int).1))), (49, (agg [(i64 (((((((⟨bs, 0, 0⟩ : Rdr).int).2).int).2).reply).1.why)), (i64 (((((((⟨bs, 0, 0⟩ : Rdr).int).2).int).2).reply).1.amount)), (Value.slice A140 (((((((⟨bs, 0, 0⟩ : Rdr).int).2).int).2).reply).1.rows.length) c141)])), (50, (Value.pointer (some ⟨b39, 10, none⟩)))] 3 ?_
      refine Ops.put (t := 27) (b := b39) (off := 10) (v := (agg [(i64 (((((((⟨bs, 0, 0⟩ : Rdr).int).2).int).2).reply).1.why)), (i64 (((((((⟨bs, 0, 0⟩ : Rdr).int).2).int).2).reply).1.amount)), (Value.slice A140 (((((((⟨bs, 0, 0⟩ : Rdr).int).2).int).2).reply).1.rows.length) c141)])) (ys := [(i64 (((⟨bs, 0, 0⟩ : Rdr).int).1)), (i64 (((((⟨bs, 0, 0⟩ : Rdr).int).2).int).1)), (i64 0), (i64 0), (Value.string ByteArray.empty), (Value.string ByteArray.empty), (i64 0), (Value.string ByteArray.empty), (i64 0), (i64 0), (i64 (((((((⟨bs, 0, 0⟩ : Rdr).int).2).int).2).reply).1.why)), (i64 (((((((⟨bs, 0, 0⟩ : Rdr).int).2).int).2).reply).1.amount)), (Value.slice A140 (((((((⟨bs, 0, 0⟩ : Rdr).int).2).int).2).reply).1.rows.length) c141), (Value.slice none 0 0)]) (by kernel_rfl) (by kernel_rfl) H126 (by kernel_rfl) (d := none) (by kernel_rfl) rfl (fun w143 H144 K145 => ?_)
      clear H126
      replace K0 := K0.trans K145 (U := none_) (fun i h1 h2 => h2) (fun i h1 h2 => by have h2 : i = b39 := h2; exfalso; omega)
      replace H4 := H4.keep K145 (by intro h; change b1 = b39 at h; omega)
      replace H130 := H130.keep K145 (by intro h; change b13 = b39 at h; omega)
      replace F142 := RdO.keep F142 K145 (fun i _ _ hi hs => by have hs : i = b39 := hs; have := ob45 i _ _ hi; omega)
      replace O134 := own_keep O134 K145 (fun i hi hs => by have hs : i = b39 := hs; have := ob137 i hi; omega)
      clear K145
      refine od ?_
      refine qs ?_
      refine qg ?_
      refine og 1 [(2, (ptr b1)), (3, (i64 0)), (6, (ptr b39)), (70, (ptr b13))] 1 ?_
      refine Ops.call (by kernel_rfl) (d := (some 71)) (by kernel_rfl) (RREnd_calls _ b13 A14 c15 (((((((⟨bs, 0, 0⟩ : Rdr).int).2).int).2).reply).2) hok131 H130 F142 hne21) ?_
      rintro _ w146 ⟨rfl, K147⟩
      refine ⟨_, _, rfl, rfl, ?_⟩
      replace K0 := K0.t0 K147
      replace H4 := H4.keep K147 (fun h => h)
      replace H130 := H130.keep K147 (fun h => h)
      replace H144 := H144.keep K147 (fun h => h)
      replace F142 := RdO.keep0 F142 K147
      replace O134 := own_keep0 O134 K147
      clear K147
      refine og 1 [(2, (ptr b1)), (3, (i64 0)), (6, (ptr b39)), (7, (i64 ((((((((⟨bs, 0, 0⟩ : Rdr).int).2).int).2).reply).2).end_)))] 3 ?_
      refine od ?_
      refine qs ?_
      refine qs ?_
      refine qg ?_
      refine og 2 [(2, (ptr b1)), (3, (i64 0)), (6, (ptr b39)), (7, (i64 ((((((((⟨bs, 0, 0⟩ : Rdr).int).2).int).2).reply).2).end_))), (73, (Value.bool (((((((((⟨bs, 0, 0⟩ : Rdr).int).2).int).2).reply).2).end_) != 0)))] 2 ?_
      refine od ?_
      refine q_cond (o := .tmp 73) (b := (((((((((⟨bs, 0, 0⟩ : Rdr).int).2).int).2).reply).2).end_) != 0)) (by kernel_rfl) rfl (fun h148 => ?_) (fun h148 => ?_)
      ·rw [h148]
       have p149 : ¬ ((((((((⟨bs, 0, 0⟩ : Rdr).int).2).int).2).reply).2).end_ = 0) := of_bne_t h148
       have hecq150 := end_or (((((((⟨bs, 0, 0⟩ : Rdr).int).2).int).2).reply).2)
       refine qs ?_
       refine qg ?_
       refine og 2 [(2, (ptr b1)), (3, (i64 0)), (6, (ptr b39)), (74, (agg [(i64 0), (i64 0), (i64 0), (i64 0), (Value.string ByteArray.empty), (Value.string ByteArray.empty), (i64 0), (Value.string ByteArray.empty), (i64 0), (i64 0), (i64 0), (i64 0), (Value.slice none 0 0), (Value.slice none 0 0)])), (75, (i64 ((((((((⟨bs, 0, 0⟩ : Rdr).int).2).int).2).reply).2).end_)))] 2 ?_
       refine Ops.put (t := 30) (b := b1) (off := 0) (v := (agg [(i64 0), (i64 0), (i64 0), (i64 0), (Value.string ByteArray.empty), (Value.string ByteArray.empty), (i64 0), (Value.string ByteArray.empty), (i64 0), (i64 0), (i64 0), (i64 0), (Value.slice none 0 0), (Value.slice none 0 0)])) (ys := [(i64 0), (i64 0), (i64 0), (i64 0), (Value.string ByteArray.empty), (Value.string ByteArray.empty), (i64 0), (Value.string ByteArray.empty), (i64 0), (i64 0), (i64 0), (i64 0), (Value.slice none 0 0), (Value.slice none 0 0)]) (by kernel_rfl) (by kernel_rfl) H4 (by kernel_rfl) (d := none) (by kernel_rfl) rfl (fun w151 H152 K153 => ?_)
       clear H4
       replace K0 := K0.trans K153 (U := none_) (fun i h1 h2 => h2) (fun i h1 h2 => by have h2 : i = b1 := h2; exfalso; omega)
       replace H130 := H130.keep K153 (by intro h; change b13 = b1 at h; omega)
       replace H144 := H144.keep K153 (by intro h; change b39 = b1 at h; omega)
       replace F142 := RdO.keep F142 K153 (fun i _ _ hi hs => by have hs : i = b1 := hs; have := ob24 i _ _ hi; omega)
       replace O134 := own_keep O134 K153 (fun i hi hs => by have hs : i = b1 := hs; have := ob135 i hi; omega)
       clear K153
       refine og 1 [(2, (ptr b1)), (3, (i64 ((((((((⟨bs, 0, 0⟩ : Rdr).int).2).int).2).reply).2).end_))), (6, (ptr b39))] 4 ?_
       refine od ?_
       refine q_ret (by kernel_rfl) ?_
       refine ⟨(Value.tuple #[(agg [(i64 0), (i64 0), (i64 0), (i64 0), (Value.string ByteArray.empty), (Value.string ByteArray.empty), (i64 0), (Value.string ByteArray.empty), (i64 0), (i64 0), (i64 0), (i64 0), (Value.slice none 0 0), (Value.slice none 0 0)]), (i64 ((((((((⟨bs, 0, 0⟩ : Rdr).int).2).int).2).reply).2).end_))]), retv_cell_tmp rfl rfl (H152.loads (by kernel_rfl)) rfl, ?_⟩
       have hl2 : (letR (⟨bs, 0, 0⟩ : Rdr).int.1 (⟨bs, 0, 0⟩ : Rdr).int.2).2 = ((((((⟨bs, 0, 0⟩ : Rdr).int).2).int).2).reply).2 := by unfold letR; first | (rw [if_pos (by omega)] <;> rfl) | (rw [if_neg (by omega), if_pos (by omega)] <;> rfl) | (rw [if_neg (by omega), if_neg (by omega), if_pos (by omega)] <;> rfl) | (rw [if_neg (by omega), if_neg (by omega), if_neg (by omega), if_pos (by omega)] <;> rfl) | (rw [if_neg (by omega), if_neg (by omega), if_neg (by omega), if_neg (by omega)] <;> rfl)
       have e : unpackB bs = (LetP.zero, (((((((⟨bs, 0, 0⟩ : Rdr).int).2).int).2).reply).2).end_) := by unfold unpackB; rw [if_neg (by omega), if_neg (by omega), if_neg (by omega), if_pos (by rw [hl2]; omega), hl2]
       exact ⟨none, 0, none, 0, by rw [e]; rfl, K0, by rw [e]; exact (OwnT.nil _ _ _ _ _), by rw [e]; exact (World.ownsRow_nil _ _ _ _)⟩
      ·rw [h148]
       have p154 : (((((((⟨bs, 0, 0⟩ : Rdr).int).2).int).2).reply).2).end_ = 0 := of_bne_f h148
       have hecq155 := end_or (((((((⟨bs, 0, 0⟩ : Rdr).int).2).int).2).reply).2)
       refine q_skip (by kernel_rfl) ?_
       refine qs ?_
       refine qg ?_
       refine Ops.go (v := (agg [(i64 (((⟨bs, 0, 0⟩ : Rdr).int).1)), (i64 (((((⟨bs, 0, 0⟩ : Rdr).int).2).int).1)), (i64 0), (i64 0), (Value.string ByteArray.empty), (Value.string ByteArray.empty), (i64 0), (Value.string ByteArray.empty), (i64 0), (i64 0), (i64 (((((((⟨bs, 0, 0⟩ : Rdr).int).2).int).2).reply).1.why)), (i64 (((((((⟨bs, 0, 0⟩ : Rdr).int).2).int).2).reply).1.amount)), (Value.slice A140 (((((((⟨bs, 0, 0⟩ : Rdr).int).2).int).2).reply).1.rows.length) c141), (Value.slice none 0 0)])) (by kernel_rfl) (Runs.load (t := 30) (a := ⟨b39, 0, none⟩) (by kernel_rfl) (H144.loads (by kernel_rfl))) (d := (some 76)) (by kernel_rfl) rfl ?_
       refine Ops.put (t := 30) (b := b1) (off := 0) (v := (agg [(i64 (((⟨bs, 0, 0⟩ : Rdr).int).1)), (i64 (((((⟨bs, 0, 0⟩ : Rdr).int).2).int).1)), (i64 0), (i64 0), (Value.string ByteArray.empty), (Value.string ByteArray.empty), (i64 0), (Value.string ByteArray.empty), (i64 0), (i64 0), (i64 (((((((⟨bs, 0, 0⟩ : Rdr).int).2).int).2).reply).1.why)), (i64 (((((((⟨bs, 0, 0⟩ : Rdr).int).2).int).2).reply).1.amount)), (Value.slice A140 (((((((⟨bs, 0, 0⟩ : Rdr).int).2).int).2).reply).1.rows.length) c141), (Value.slice none 0 0)])) (ys := [(i64 (((⟨bs, 0, 0⟩ : Rdr).int).1)), (i64 (((((⟨bs, 0, 0⟩ : Rdr).int).2).int).1)), (i64 0), (i64 0), (Value.string ByteArray.empty), (Value.string ByteArray.empty), (i64 0), (Value.string ByteArray.empty), (i64 0), (i64 0), (i64 (((((((⟨bs, 0, 0⟩ : Rdr).int).2).int).2).reply).1.why)), (i64 (((((((⟨bs, 0, 0⟩ : Rdr).int).2).int).2).reply).1.amount)), (Value.slice A140 (((((((⟨bs, 0, 0⟩ : Rdr).int).2).int).2).reply).1.rows.length) c141), (Value.slice none 0 0)]) (by kernel_rfl) (by kernel_rfl) H4 (by kernel_rfl) (d := none) (by kernel_rfl) rfl (fun w156 H157 K158 => ?_)
       clear H4
       replace K0 := K0.trans K158 (U := none_) (fun i h1 h2 => h2) (fun i h1 h2 => by have h2 : i = b1 := h2; exfalso; omega)
       replace H130 := H130.keep K158 (by intro h; change b13 = b1 at h; omega)
       replace H144 := H144.keep K158 (by intro h; change b39 = b1 at h; omega)
       replace F142 := RdO.keep F142 K158 (fun i _ _ hi hs => by have hs : i = b1 := hs; have := ob24 i _ _ hi; omega)
       replace O134 := own_keep O134 K158 (fun i hi hs => by have hs : i = b1 := hs; have := ob135 i hi; omega)
       clear K158
       refine og 1 [(2, (ptr b1)), (3, (i64 0))] 3 ?_
       refine od ?_
       refine q_ret (by kernel_rfl) ?_
       refine ⟨(Value.tuple #[(agg [(i64 (((⟨bs, 0, 0⟩ : Rdr).int).1)), (i64 (((((⟨bs, 0, 0⟩ : Rdr).int).2).int).1)), (i64 0), (i64 0), (Value.string ByteArray.empty), (Value.string ByteArray.empty), (i64 0), (Value.string ByteArray.empty), (i64 0), (i64 0), (i64 (((((((⟨bs, 0, 0⟩ : Rdr).int).2).int).2).reply).1.why)), (i64 (((((((⟨bs, 0, 0⟩ : Rdr).int).2).int).2).reply).1.amount)), (Value.slice A140 (((((((⟨bs, 0, 0⟩ : Rdr).int).2).int).2).reply).1.rows.length) c141), (Value.slice none 0 0)]), (i64 0)]), retv_cell_tmp rfl rfl (H157.loads (by kernel_rfl)) rfl, ?_⟩
       have hl : letR (⟨bs, 0, 0⟩ : Rdr).int.1 (⟨bs, 0, 0⟩ : Rdr).int.2 = ((⟨((⟨bs, 0, 0⟩ : Rdr).int).1, ((((⟨bs, 0, 0⟩ : Rdr).int).2).int).1, 0, ⟨0, [], [], 0, [], 0, 0⟩, ⟨((((((⟨bs, 0, 0⟩ : Rdr).int).2).int).2).reply).1.why, ((((((⟨bs, 0, 0⟩ : Rdr).int).2).int).2).reply).1.amount, ((((((⟨bs, 0, 0⟩ : Rdr).int).2).int).2).reply).1.rows⟩, []⟩ : LetP), ((((((⟨bs, 0, 0⟩ : Rdr).int).2).int).2).reply).2) := by unfold letR; first | (rw [if_pos (by omega)] <;> rfl) | (rw [if_neg (by omega), if_pos (by omega)] <;> rfl) | (rw [if_neg (by omega), if_neg (by omega), if_pos (by omega)] <;> rfl) | (rw [if_neg (by omega), if_neg (by omega), if_neg (by omega), if_pos (by omega)] <;> rfl) | (rw [if_neg (by omega), if_neg (by omega), if_neg (by omega), if_neg (by omega)] <;> rfl)
       have e : unpackB bs = ((⟨((⟨bs, 0, 0⟩ : Rdr).int).1, ((((⟨bs, 0, 0⟩ : Rdr).int).2).int).1, 0, ⟨0, [], [], 0, [], 0, 0⟩, ⟨((((((⟨bs, 0, 0⟩ : Rdr).int).2).int).2).reply).1.why, ((((((⟨bs, 0, 0⟩ : Rdr).int).2).int).2).reply).1.amount, ((((((⟨bs, 0, 0⟩ : Rdr).int).2).int).2).reply).1.rows⟩, []⟩ : LetP), 0) := by unfold unpackB; rw [if_neg (by omega), if_neg (by omega), if_neg (by omega), if_neg (by rw [hl]; show ¬ ((((((((⟨bs, 0, 0⟩ : Rdr).int).2).int).2).reply).2).end_ ≠ 0); omega), hl]
       exact ⟨A140, c141, none, 0, by rw [e]; rfl, K0, by rw [e]; exact O134, by rw [e]; exact (World.ownsRow_nil _ _ _ _)⟩
     ·rw [h117]
      have p159 : ¬ (((⟨bs, 0, 0⟩ : Rdr).int).1 = 3) := of_beq_f h117
      refine qs ?_
      refine qg ?_
      refine og 2 [(2, (ptr b1)), (3, (i64 0)), (4, (ptr b13)), (6, (ptr b39)), (28, (i64 (((⟨bs, 0, 0⟩ : Rdr).int).1))), (51, (Value.bool ((((⟨bs, 0, 0⟩ : Rdr).int).1) == 4)))] 2 ?_
      refine od ?_
      refine q_cond (o := .tmp 51) (b := ((((⟨bs, 0, 0⟩ : Rdr).int).1) == 4)) (by kernel_rfl) rfl (fun h160 => ?_) (fun h160 => ?_)
      ·rw [h160]
       have p161 : ((⟨bs, 0, 0⟩ : Rdr).int).1 = 4 := of_beq_t h160
       refine qs ?_
       refine qg ?_
       refine og 1 [(2, (ptr b1)), (3, (i64 0)), (4, (ptr b13)), (6, (ptr b39)), (28, (i64 (((⟨bs, 0, 0⟩ : Rdr).int).1))), (53, (ptr b13))] 1 ?_
       refine Ops.call (by kernel_rfl) (d := (some 54)) (by kernel_rfl) (RRInt_calls _ b13 A14 c15 (((⟨bs, 0, 0⟩ : Rdr).int).2) hok28 H27 F30 hne21 ) ?_
       rintro _ w162 ⟨rfl, K163, H164⟩
       have hok165 : ((((⟨bs, 0, 0⟩ : Rdr).int).2).int).2.Ok := Rdr.Ok.int hok28
       have hu166 := Rdr.int_range (((⟨bs, 0, 0⟩ : Rdr).int).2)
       refine ⟨_, _, rfl, rfl, ?_⟩
       replace K0 := K0.trans K163 (U := none_) (fun i h1 h2 => h2) (fun i h1 h2 => by have h2 : i = b13 := h2; exfalso; omega)
       replace H4 := H4.keep K163 (by intro h; change b1 = b13 at h; omega)
       replace H47 := H47.keep K163 (by intro h; change b39 = b13 at h; omega)
       replace F30 := RdO.keep F30 K163 (fun i _ _ hi hs => by have hs : i = b13 := hs; have := hne21 i _ _ hi; omega)
       clear K163
       have F167 : RdO w162 A14 c15 ((((⟨bs, 0, 0⟩ : Rdr).int).2).int).2.bs := by rw [Rdr.int_bs]; exact F30
       clear F30
       refine og 1 [(2, (ptr b1)), (3, (i64 0)), (4, (ptr b13)), (6, (ptr b39)), (28, (i64 (((⟨bs, 0, 0⟩ : Rdr).int).1))), (54, (i64 (((((⟨bs, 0, 0⟩ : Rdr).int).2).int).1))), (55, (Value.pointer (some ⟨b39, 1, none⟩)))] 3 ?_
       refine Ops.put (t := 2) (b := b39) (off := 1) (v := (i64 (((((⟨bs, 0, 0⟩ : Rdr).int).2).int).1))) (ys := [(i64 (((⟨bs, 0, 0⟩ : Rdr).int).1)), (i64 (((((⟨bs, 0, 0⟩ : Rdr).int).2).int).1)), (i64 0), (i64 0), (Value.string ByteArray.empty), (Value.string ByteArray.empty), (i64 0), (Value.string ByteArray.empty), (i64 0), (i64 0), (i64 0), (i64 0), (Value.slice none 0 0), (Value.slice none 0 0)]) (by kernel_rfl) (by kernel_rfl) H47 (by kernel_rfl) (d := none) (by kernel_rfl) rfl (fun w168 H169 K170 => ?_)
       clear H47
       replace K0 := K0.trans K170 (U := none_) (fun i h1 h2 => h2) (fun i h1 h2 => by have h2 : i = b39 := h2; exfalso; omega)
       replace H4 := H4.keep K170 (by intro h; change b1 = b39 at h; omega)
       replace H164 := H164.keep K170 (by intro h; change b13 = b39 at h; omega)
       replace F167 := RdO.keep F167 K170 (fun i _ _ hi hs => by have hs : i = b39 := hs; have := ob45 i _ _ hi; omega)
       clear K170
       refine od ?_
       refine qg ?_
       refine og 1 [(2, (ptr b1)), (3, (i64 0)), (4, (ptr b13)), (6, (ptr b39)), (28, (i64 (((⟨bs, 0, 0⟩ : Rdr).int).1))), (56, (ptr b13))] 1 ?_
       refine Ops.call (by kernel_rfl) (d := (some 57)) (by kernel_rfl) (RRBytesS_calls _ b13 A14 c15 (((((⟨bs, 0, 0⟩ : Rdr).int).2).int).2) hok165 H164 F167 hne21 ) ?_
       rintro _ w171 ⟨A184, c185, rfl, K172, hO177, H173⟩
       have hok174 : ((((((⟨bs, 0, 0⟩ : Rdr).int).2).int).2).bytes).2.Ok := Rdr.Ok.bytes hok165
       have hu175 := Rdr.bytes_le hok165
       have ob179 : ∀ i, ((Value.slice A184 (((((((⟨bs, 0, 0⟩ : Rdr).int).2).int).2).bytes).1.length) c185)).ownBlock = some i → i ≠ b1 := fun i hi => by have := (World.ownsRow.lt hO177 i hi).1; have := H4.lt; omega
       have ob180 : ∀ i, ((Value.slice A184 (((((((⟨bs, 0, 0⟩ : Rdr).int).2).int).2).bytes).1.length) c185)).ownBlock = some i → i ≠ b13 := fun i hi => by have := (World.ownsRow.lt hO177 i hi).1; have := H164.lt; omega
       have ob181 : ∀ i, ((Value.slice A184 (((((((⟨bs, 0, 0⟩ : Rdr).int).2).int).2).bytes).1.length) c185)).ownBlock = some i → i ≠ b39 := fun i hi => by have := (World.ownsRow.lt hO177 i hi).1; have := H169.lt; omega
       have oo182 : ∀ i o s, A14 = some ⟨i, o, s⟩ → ((Value.slice A184 (((((((⟨bs, 0, 0⟩ : Rdr).int).2).int).2).bytes).1.length) c185)).ownBlock = some i → False := fun i o s hi hs => by have := (World.ownsRow.lt hO177 i hs).1; have := F167.2 i o s hi; omega
       have O178 := own_base hO177 K0.size
       clear hO177
       refine ⟨_, _, rfl, rfl, ?_⟩
       replace K0 := K0.trans K172 (U := none_) (fun i h1 h2 => h2) (fun i h1 h2 => by have h2 : i = b13 := h2; exfalso; omega)
       replace H4 := H4.keep K172 (by intro h; change b1 = b13 at h; omega)
       replace H169 := H169.keep K172 (by intro h; change b39 = b13 at h; omega)
       replace F167 := RdO.keep F167 K172 (fun i _ _ hi hs => by have hs : i = b13 := hs; have := hne21 i _ _ hi; omega)
       clear K172
       have F186 : RdO w171 A14 c15 ((((((⟨bs, 0, 0⟩ : Rdr).int).2).int).2).bytes).2.bs := by rw [Rdr.bytes_bs]; exact F167
       clear F167
       refine og 1 [(2, (ptr b1)), (3, (i64 0)), (4, (ptr b13)), (6, (ptr b39)), (28, (i64 (((⟨bs, 0, 0⟩ : Rdr).int).1))), (57, (Value.slice A184 (((((((⟨bs, 0, 0⟩ : Rdr).int).2).int).2).bytes).1.length) c185)), (58, (Value.pointer (some ⟨b39, 13, none⟩)))] 3 ?_
       refine Ops.put (t := 28) (b := b39) (off := 13) (v := (Value.slice A184 (((((((⟨bs, 0, 0⟩ : Rdr).int).2).int).2).bytes).1.length) c185)) (ys := [(i64 (((⟨bs, 0, 0⟩ : Rdr).int).1)), (i64 (((((⟨bs, 0, 0⟩ : Rdr).int).2).int).1)), (i64 0), (i64 0), (Value.string ByteArray.empty), (Value.string ByteArray.empty), (i64 0), (Value.string ByteArray.empty), (i64 0), (i64 0), (i64 0), (i64 0), (Value.slice none 0 0), (Value.slice A184 (((((((⟨bs, 0, 0⟩ : Rdr).int).2).int).2).bytes).1.length) c185)]) (by kernel_rfl) (by kernel_rfl) H169 (by kernel_rfl) (d := none) (by kernel_rfl) rfl (fun w187 H188 K189 => ?_)
       clear H169
       replace K0 := K0.trans K189 (U := none_) (fun i h1 h2 => h2) (fun i h1 h2 => by have h2 : i = b39 := h2; exfalso; omega)
       replace H4 := H4.keep K189 (by intro h; change b1 = b39 at h; omega)
       replace H173 := H173.keep K189 (by intro h; change b13 = b39 at h; omega)
       replace F186 := RdO.keep F186 K189 (fun i _ _ hi hs => by have hs : i = b39 := hs; have := ob45 i _ _ hi; omega)
       replace O178 := own_keep O178 K189 (fun i hi hs => by have hs : i = b39 := hs; have := ob181 i hi; omega)
       clear K189
       refine od ?_
       refine qs ?_
       refine qg ?_
       refine og 1 [(2, (ptr b1)), (3, (i64 0)), (6, (ptr b39)), (70, (ptr b13))] 1 ?_
       refine Ops.call (by kernel_rfl) (d := (some 71)) (by kernel_rfl) (RREnd_calls _ b13 A14 c15 (((((((⟨bs, 0, 0⟩ : Rdr).int).2).int).2).bytes).2) hok174 H173 F186 hne21) ?_
       rintro _ w190 ⟨rfl, K191⟩
       refine ⟨_, _, rfl, rfl, ?_⟩
       replace K0 := K0.t0 K191
       replace H4 := H4.keep K191 (fun h => h)
       replace H173 := H173.keep K191 (fun h => h)
       replace H188 := H188.keep K191 (fun h => h)
       replace F186 := RdO.keep0 F186 K191
       replace O178 := own_keep0 O178 K191
       clear K191
       refine og 1 [(2, (ptr b1)), (3, (i64 0)), (6, (ptr b39)), (7, (i64 ((((((((⟨bs, 0, 0⟩ : Rdr).int).2).int).2).bytes).2).end_)))] 3 ?_
       refine od ?_
       refine qs ?_
       refine qs ?_
       refine qg ?_
       refine og 2 [(2, (ptr b1)), (3, (i64 0)), (6, (ptr b39)), (7, (i64 ((((((((⟨bs, 0, 0⟩ : Rdr).int).2).int).2).bytes).2).end_))), (73, (Value.bool (((((((((⟨bs, 0, 0⟩ : Rdr).int).2).int).2).bytes).2).end_) != 0)))] 2 ?_
       refine od ?_
       refine q_cond (o := .tmp 73) (b := (((((((((⟨bs, 0, 0⟩ : Rdr).int).2).int).2).bytes).2).end_) != 0)) (by kernel_rfl) rfl (fun h192 => ?_) (fun h192 => ?_)
       ·rw [h192]
        have p193 : ¬ ((((((((⟨bs, 0, 0⟩ : Rdr).int).2).int).2).bytes).2).end_ = 0) := of_bne_t h192
        have hecq194 := end_or (((((((⟨bs, 0, 0⟩ : Rdr).int).2).int).2).bytes).2)
        refine qs ?_
        refine qg ?_
        refine og 2 [(2, (ptr b1)), (3, (i64 0)), (6, (ptr b39)), (74, (agg [(i64 0), (i64 0), (i64 0), (i64 0), (Value.string ByteArray.empty), (Value.string ByteArray.empty), (i64 0), (Value.string ByteArray.empty), (i64 0), (i64 0), (i64 0), (i64 0), (Value.slice none 0 0), (Value.slice none 0 0)])), (75, (i64 ((((((((⟨bs, 0, 0⟩ : Rdr).int).2).int).2).bytes).2).end_)))] 2 ?_
        refine Ops.put (t := 30) (b := b1) (off := 0) (v := (agg [(i64 0), (i64 0), (i64 0), (i64 0), (Value.string ByteArray.empty), (Value.string ByteArray.empty), (i64 0), (Value.string ByteArray.empty), (i64 0), (i64 0), (i64 0), (i64 0), (Value.slice none 0 0), (Value.slice none 0 0)])) (ys := [(i64 0), (i64 0), (i64 0), (i64 0), (Value.string ByteArray.empty), (Value.string ByteArray.empty), (i64 0), (Value.string ByteArray.empty), (i64 0), (i64 0), (i64 0), (i64 0), (Value.slice none 0 0), (Value.slice none 0 0)]) (by kernel_rfl) (by kernel_rfl) H4 (by kernel_rfl) (d := none) (by kernel_rfl) rfl (fun w195 H196 K197 => ?_)
        clear H4
        replace K0 := K0.trans K197 (U := none_) (fun i h1 h2 => h2) (fun i h1 h2 => by have h2 : i = b1 := h2; exfalso; omega)
        replace H173 := H173.keep K197 (by intro h; change b13 = b1 at h; omega)
        replace H188 := H188.keep K197 (by intro h; change b39 = b1 at h; omega)
        replace F186 := RdO.keep F186 K197 (fun i _ _ hi hs => by have hs : i = b1 := hs; have := ob24 i _ _ hi; omega)
        replace O178 := own_keep O178 K197 (fun i hi hs => by have hs : i = b1 := hs; have := ob179 i hi; omega)
        clear K197
        refine og 1 [(2, (ptr b1)), (3, (i64 ((((((((⟨bs, 0, 0⟩ : Rdr).int).2).int).2).bytes).2).end_))), (6, (ptr b39))] 4 ?_
        refine od ?_
        refine q_ret (by kernel_rfl) ?_
        refine ⟨(Value.tuple #[(agg [(i64 0), (i64 0), (i64 0), (i64 0), (Value.string ByteArray.empty), (Value.string ByteArray.empty), (i64 0), (Value.string ByteArray.empty), (i64 0), (i64 0), (i64 0), (i64 0), (Value.slice none 0 0), (Value.slice none 0 0)]), (i64 ((((((((⟨bs, 0, 0⟩ : Rdr).int).2).int).2).bytes).2).end_))]), retv_cell_tmp rfl rfl (H196.loads (by kernel_rfl)) rfl, ?_⟩
        have hl2 : (letR (⟨bs, 0, 0⟩ : Rdr).int.1 (⟨bs, 0, 0⟩ : Rdr).int.2).2 = ((((((⟨bs, 0, 0⟩ : Rdr).int).2).int).2).bytes).2 := by unfold letR; first | (rw [if_pos (by omega)] <;> rfl) | (rw [if_neg (by omega), if_pos (by omega)] <;> rfl) | (rw [if_neg (by omega), if_neg (by omega), if_pos (by omega)] <;> rfl) | (rw [if_neg (by omega), if_neg (by omega), if_neg (by omega), if_pos (by omega)] <;> rfl) | (rw [if_neg (by omega), if_neg (by omega), if_neg (by omega), if_neg (by omega)] <;> rfl)
        have e : unpackB bs = (LetP.zero, (((((((⟨bs, 0, 0⟩ : Rdr).int).2).int).2).bytes).2).end_) := by unfold unpackB; rw [if_neg (by omega), if_neg (by omega), if_neg (by omega), if_pos (by rw [hl2]; omega), hl2]
        exact ⟨none, 0, none, 0, by rw [e]; rfl, K0, by rw [e]; exact (OwnT.nil _ _ _ _ _), by rw [e]; exact (World.ownsRow_nil _ _ _ _)⟩
       ·rw [h192]
        have p198 : (((((((⟨bs, 0, 0⟩ : Rdr).int).2).int).2).bytes).2).end_ = 0 := of_bne_f h192
        have hecq199 := end_or (((((((⟨bs, 0, 0⟩ : Rdr).int).2).int).2).bytes).2)
        refine q_skip (by kernel_rfl) ?_
        refine qs ?_
        refine qg ?_
        refine Ops.go (v := (agg [(i64 (((⟨bs, 0, 0⟩ : Rdr).int).1)), (i64 (((((⟨bs, 0, 0⟩ : Rdr).int).2).int).1)), (i64 0), (i64 0), (Value.string ByteArray.empty), (Value.string ByteArray.empty), (i64 0), (Value.string ByteArray.empty), (i64 0), (i64 0), (i64 0), (i64 0), (Value.slice none 0 0), (Value.slice A184 (((((((⟨bs, 0, 0⟩ : Rdr).int).2).int).2).bytes).1.length) c185)])) (by kernel_rfl) (Runs.load (t := 30) (a := ⟨b39, 0, none⟩) (by kernel_rfl) (H188.loads (by kernel_rfl))) (d := (some 76)) (by kernel_rfl) rfl ?_
        refine Ops.put (t := 30) (b := b1) (off := 0) (v := (agg [(i64 (((⟨bs, 0, 0⟩ : Rdr).int).1)), (i64 (((((⟨bs, 0, 0⟩ : Rdr).int).2).int).1)), (i64 0), (i64 0), (Value.string ByteArray.empty), (Value.string ByteArray.empty), (i64 0), (Value.string ByteArray.empty), (i64 0), (i64 0), (i64 0), (i64 0), (Value.slice none 0 0), (Value.slice A184 (((((((⟨bs, 0, 0⟩ : Rdr).int).2).int).2).bytes).1.length) c185)])) (ys := [(i64 (((⟨bs, 0, 0⟩ : Rdr).int).1)), (i64 (((((⟨bs, 0, 0⟩ : Rdr).int).2).int).1)), (i64 0), (i64 0), (Value.string ByteArray.empty), (Value.string ByteArray.empty), (i64 0), (Value.string ByteArray.empty), (i64 0), (i64 0), (i64 0), (i64 0), (Value.slice none 0 0), (Value.slice A184 (((((((⟨bs, 0, 0⟩ : Rdr).int).2).int).2).bytes).1.length) c185)]) (by kernel_rfl) (by kernel_rfl) H4 (by kernel_rfl) (d := none) (by kernel_rfl) rfl (fun w200 H201 K202 => ?_)
        clear H4
        replace K0 := K0.trans K202 (U := none_) (fun i h1 h2 => h2) (fun i h1 h2 => by have h2 : i = b1 := h2; exfalso; omega)
        replace H173 := H173.keep K202 (by intro h; change b13 = b1 at h; omega)
        replace H188 := H188.keep K202 (by intro h; change b39 = b1 at h; omega)
        replace F186 := RdO.keep F186 K202 (fun i _ _ hi hs => by have hs : i = b1 := hs; have := ob24 i _ _ hi; omega)
        replace O178 := own_keep O178 K202 (fun i hi hs => by have hs : i = b1 := hs; have := ob179 i hi; omega)
        clear K202
        refine og 1 [(2, (ptr b1)), (3, (i64 0))] 3 ?_
        refine od ?_
        refine q_ret (by kernel_rfl) ?_
        refine ⟨(Value.tuple #[(agg [(i64 (((⟨bs, 0, 0⟩ : Rdr).int).1)), (i64 (((((⟨bs, 0, 0⟩ : Rdr).int).2).int).1)), (i64 0), (i64 0), (Value.string ByteArray.empty), (Value.string ByteArray.empty), (i64 0), (Value.string ByteArray.empty), (i64 0), (i64 0), (i64 0), (i64 0), (Value.slice none 0 0), (Value.slice A184 (((((((⟨bs, 0, 0⟩ : Rdr).int).2).int).2).bytes).1.length) c185)]), (i64 0)]), retv_cell_tmp rfl rfl (H201.loads (by kernel_rfl)) rfl, ?_⟩
        have hl : letR (⟨bs, 0, 0⟩ : Rdr).int.1 (⟨bs, 0, 0⟩ : Rdr).int.2 = ((⟨((⟨bs, 0, 0⟩ : Rdr).int).1, ((((⟨bs, 0, 0⟩ : Rdr).int).2).int).1, 0, ⟨0, [], [], 0, [], 0, 0⟩, ⟨0, 0, []⟩, ((((((⟨bs, 0, 0⟩ : Rdr).int).2).int).2).bytes).1⟩ : LetP), ((((((⟨bs, 0, 0⟩ : Rdr).int).2).int).2).bytes).2) := by unfold letR; first | (rw [if_pos (by omega)] <;> rfl) | (rw [if_neg (by omega), if_pos (by omega)] <;> rfl) | (rw [if_neg (by omega), if_neg (by omega), if_pos (by omega)] <;> rfl) | (rw [if_neg (by omega), if_neg (by omega), if_neg (by omega), if_pos (by omega)] <;> rfl) | (rw [if_neg (by omega), if_neg (by omega), if_neg (by omega), if_neg (by omega)] <;> rfl)
        have e : unpackB bs = ((⟨((⟨bs, 0, 0⟩ : Rdr).int).1, ((((⟨bs, 0, 0⟩ : Rdr).int).2).int).1, 0, ⟨0, [], [], 0, [], 0, 0⟩, ⟨0, 0, []⟩, ((((((⟨bs, 0, 0⟩ : Rdr).int).2).int).2).bytes).1⟩ : LetP), 0) := by unfold unpackB; rw [if_neg (by omega), if_neg (by omega), if_neg (by omega), if_neg (by rw [hl]; show ¬ ((((((((⟨bs, 0, 0⟩ : Rdr).int).2).int).2).bytes).2).end_ ≠ 0); omega), hl]
        exact ⟨none, 0, A184, c185, by rw [e]; rfl, K0, by rw [e]; exact (OwnT.nil _ _ _ _ _), by rw [e]; exact O178⟩
      ·rw [h160]
       have p203 : ¬ (((⟨bs, 0, 0⟩ : Rdr).int).1 = 4) := of_beq_f h160
       refine qs ?_
       refine qg ?_
       refine og 2 [(2, (ptr b1)), (3, (i64 0)), (4, (ptr b13)), (6, (ptr b39)), (59, (Value.bool ((((⟨bs, 0, 0⟩ : Rdr).int).1) == 5)))] 2 ?_
       refine od ?_
       refine q_cond (o := .tmp 59) (b := ((((⟨bs, 0, 0⟩ : Rdr).int).1) == 5)) (by kernel_rfl) rfl (fun h204 => ?_) (fun h204 => ?_)
       ·rw [h204]
        have p205 : ((⟨bs, 0, 0⟩ : Rdr).int).1 = 5 := of_beq_t h204
        refine qs ?_
        refine qg ?_
        refine og 1 [(2, (ptr b1)), (3, (i64 0)), (4, (ptr b13)), (6, (ptr b39)), (61, (ptr b13))] 1 ?_
        refine Ops.call (by kernel_rfl) (d := (some 62)) (by kernel_rfl) (RRInt_calls _ b13 A14 c15 (((⟨bs, 0, 0⟩ : Rdr).int).2) hok28 H27 F30 hne21 ) ?_
        rintro _ w206 ⟨rfl, K207, H208⟩
        have hok209 : ((((⟨bs, 0, 0⟩ : Rdr).int).2).int).2.Ok := Rdr.Ok.int hok28
        have hu210 := Rdr.int_range (((⟨bs, 0, 0⟩ : Rdr).int).2)
        refine ⟨_, _, rfl, rfl, ?_⟩
        replace K0 := K0.trans K207 (U := none_) (fun i h1 h2 => h2) (fun i h1 h2 => by have h2 : i = b13 := h2; exfalso; omega)
        replace H4 := H4.keep K207 (by intro h; change b1 = b13 at h; omega)
        replace H47 := H47.keep K207 (by intro h; change b39 = b13 at h; omega)
        replace F30 := RdO.keep F30 K207 (fun i _ _ hi hs => by have hs : i = b13 := hs; have := hne21 i _ _ hi; omega)
        clear K207
        have F211 : RdO w206 A14 c15 ((((⟨bs, 0, 0⟩ : Rdr).int).2).int).2.bs := by rw [Rdr.int_bs]; exact F30
        clear F30
        refine og 1 [(2, (ptr b1)), (3, (i64 0)), (4, (ptr b13)), (6, (ptr b39)), (62, (i64 (((((⟨bs, 0, 0⟩ : Rdr).int).2).int).1))), (63, (Value.pointer (some ⟨b39, 1, none⟩)))] 3 ?_
        refine Ops.put (t := 2) (b := b39) (off := 1) (v := (i64 (((((⟨bs, 0, 0⟩ : Rdr).int).2).int).1))) (ys := [(i64 (((⟨bs, 0, 0⟩ : Rdr).int).1)), (i64 (((((⟨bs, 0, 0⟩ : Rdr).int).2).int).1)), (i64 0), (i64 0), (Value.string ByteArray.empty), (Value.string ByteArray.empty), (i64 0), (Value.string ByteArray.empty), (i64 0), (i64 0), (i64 0), (i64 0), (Value.slice none 0 0), (Value.slice none 0 0)]) (by kernel_rfl) (by kernel_rfl) H47 (by kernel_rfl) (d := none) (by kernel_rfl) rfl (fun w212 H213 K214 => ?_)
        clear H47
        replace K0 := K0.trans K214 (U := none_) (fun i h1 h2 => h2) (fun i h1 h2 => by have h2 : i = b39 := h2; exfalso; omega)
        replace H4 := H4.keep K214 (by intro h; change b1 = b39 at h; omega)
        replace H208 := H208.keep K214 (by intro h; change b13 = b39 at h; omega)
        replace F211 := RdO.keep F211 K214 (fun i _ _ hi hs => by have hs : i = b39 := hs; have := ob45 i _ _ hi; omega)
        clear K214
        refine od ?_
        refine qs ?_
        refine qg ?_
        refine og 1 [(2, (ptr b1)), (3, (i64 0)), (4, (ptr b13)), (6, (ptr b39)), (64, (ptr b13))] 1 ?_
        refine Ops.call (by kernel_rfl) (d := (some 65)) (by kernel_rfl) (RRInt_calls _ b13 A14 c15 (((((⟨bs, 0, 0⟩ : Rdr).int).2).int).2) hok209 H208 F211 hne21 ) ?_
        rintro _ w215 ⟨rfl, K216, H217⟩
        have hok218 : ((((((⟨bs, 0, 0⟩ : Rdr).int).2).int).2).int).2.Ok := Rdr.Ok.int hok209
        have hu219 := Rdr.int_range (((((⟨bs, 0, 0⟩ : Rdr).int).2).int).2)
        refine ⟨_, _, rfl, rfl, ?_⟩
        replace K0 := K0.trans K216 (U := none_) (fun i h1 h2 => h2) (fun i h1 h2 => by have h2 : i = b13 := h2; exfalso; omega)
        replace H4 := H4.keep K216 (by intro h; change b1 = b13 at h; omega)
        replace H213 := H213.keep K216 (by intro h; change b39 = b13 at h; omega)
        replace F211 := RdO.keep F211 K216 (fun i _ _ hi hs => by have hs : i = b13 := hs; have := hne21 i _ _ hi; omega)
        clear K216
        have F220 : RdO w215 A14 c15 ((((((⟨bs, 0, 0⟩ : Rdr).int).2).int).2).int).2.bs := by rw [Rdr.int_bs]; exact F211
        clear F211
        refine og 1 [(2, (ptr b1)), (3, (i64 0)), (4, (ptr b13)), (6, (ptr b39)), (65, (i64 (((((((⟨bs, 0, 0⟩ : Rdr).int).2).int).2).int).1))), (66, (Value.pointer (some ⟨b39, 2, none⟩)))] 3 ?_
        refine Ops.put (t := 3) (b := b39) (off := 2) (v := (i64 (((((((⟨bs, 0, 0⟩ : Rdr).int).2).int).2).int).1))) (ys := [(i64 (((⟨bs, 0, 0⟩ : Rdr).int).1)), (i64 (((((⟨bs, 0, 0⟩ : Rdr).int).2).int).1)), (i64 (((((((⟨bs, 0, 0⟩ : Rdr).int).2).int).2).int).1)), (i64 0), (Value.string ByteArray.empty), (Value.string ByteArray.empty), (i64 0), (Value.string ByteArray.empty), (i64 0), (i64 0), (i64 0), (i64 0), (Value.slice none 0 0), (Value.slice none 0 0)]) (by kernel_rfl) (by kernel_rfl) H213 (by kernel_rfl) (d := none) (by kernel_rfl) rfl (fun w221 H222 K223 => ?_)
        clear H213
        replace K0 := K0.trans K223 (U := none_) (fun i h1 h2 => h2) (fun i h1 h2 => by have h2 : i = b39 := h2; exfalso; omega)
        replace H4 := H4.keep K223 (by intro h; change b1 = b39 at h; omega)
        replace H217 := H217.keep K223 (by intro h; change b13 = b39 at h; omega)
        replace F220 := RdO.keep F220 K223 (fun i _ _ hi hs => by have hs : i = b39 := hs; have := ob45 i _ _ hi; omega)
        clear K223
        refine od ?_
        refine qg ?_
        refine og 1 [(2, (ptr b1)), (3, (i64 0)), (4, (ptr b13)), (6, (ptr b39)), (67, (ptr b13))] 1 ?_
        refine Ops.call (by kernel_rfl) (d := (some 68)) (by kernel_rfl) (RRBytesS_calls _ b13 A14 c15 (((((((⟨bs, 0, 0⟩ : Rdr).int).2).int).2).int).2) hok218 H217 F220 hne21 ) ?_
        rintro _ w224 ⟨A237, c238, rfl, K225, hO230, H226⟩
        have hok227 : ((((((((⟨bs, 0, 0⟩ : Rdr).int).2).int).2).int).2).bytes).2.Ok := Rdr.Ok.bytes hok218
        have hu228 := Rdr.bytes_le hok218
        have ob232 : ∀ i, ((Value.slice A237 (((((((((⟨bs, 0, 0⟩ : Rdr).int).2).int).2).int).2).bytes).1.length) c238)).ownBlock = some i → i ≠ b1 := fun i hi => by have := (World.ownsRow.lt hO230 i hi).1; have := H4.lt; omega
        have ob233 : ∀ i, ((Value.slice A237 (((((((((⟨bs, 0, 0⟩ : Rdr).int).2).int).2).int).2).bytes).1.length) c238)).ownBlock = some i → i ≠ b13 := fun i hi => by have := (World.ownsRow.lt hO230 i hi).1; have := H217.lt; omega
        have ob234 : ∀ i, ((Value.slice A237 (((((((((⟨bs, 0, 0⟩ : Rdr).int).2).int).2).int).2).bytes).1.length) c238)).ownBlock = some i → i ≠ b39 := fun i hi => by have := (World.ownsRow.lt hO230 i hi).1; have := H222.lt; omega
        have oo235 : ∀ i o s, A14 = some ⟨i, o, s⟩ → ((Value.slice A237 (((((((((⟨bs, 0, 0⟩ : Rdr).int).2).int).2).int).2).bytes).1.length) c238)).ownBlock = some i → False := fun i o s hi hs => by have := (World.ownsRow.lt hO230 i hs).1; have := F220.2 i o s hi; omega
        have O231 := own_base hO230 K0.size
        clear hO230
        refine ⟨_, _, rfl, rfl, ?_⟩
        replace K0 := K0.trans K225 (U := none_) (fun i h1 h2 => h2) (fun i h1 h2 => by have h2 : i = b13 := h2; exfalso; omega)
        replace H4 := H4.keep K225 (by intro h; change b1 = b13 at h; omega)
        replace H222 := H222.keep K225 (by intro h; change b39 = b13 at h; omega)
        replace F220 := RdO.keep F220 K225 (fun i _ _ hi hs => by have hs : i = b13 := hs; have := hne21 i _ _ hi; omega)
        clear K225
        have F239 : RdO w224 A14 c15 ((((((((⟨bs, 0, 0⟩ : Rdr).int).2).int).2).int).2).bytes).2.bs := by rw [Rdr.bytes_bs]; exact F220
        clear F220
        refine og 1 [(2, (ptr b1)), (3, (i64 0)), (4, (ptr b13)), (6, (ptr b39)), (68, (Value.slice A237 (((((((((⟨bs, 0, 0⟩ : Rdr).int).2).int).2).int).2).bytes).1.length) c238)), (69, (Value.pointer (some ⟨b39, 13, none⟩)))] 3 ?_
        refine Ops.put (t := 28) (b := b39) (off := 13) (v := (Value.slice A237 (((((((((⟨bs, 0, 0⟩ : Rdr).int).2).int).2).int).2).bytes).1.length) c238)) (ys := [(i64 (((⟨bs, 0, 0⟩ : Rdr).int).1)), (i64 (((((⟨bs, 0, 0⟩ : Rdr).int).2).int).1)), (i64 (((((((⟨bs, 0, 0⟩ : Rdr).int).2).int).2).int).1)), (i64 0), (Value.string ByteArray.empty), (Value.string ByteArray.empty), (i64 0), (Value.string ByteArray.empty), (i64 0), (i64 0), (i64 0), (i64 0), (Value.slice none 0 0), (Value.slice A237 (((((((((⟨bs, 0, 0⟩ : Rdr).int).2).int).2).int).2).bytes).1.length) c238)]) (by kernel_rfl) (by kernel_rfl) H222 (by kernel_rfl) (d := none) (by kernel_rfl) rfl (fun w240 H241 K242 => ?_)
        clear H222
        replace K0 := K0.trans K242 (U := none_) (fun i h1 h2 => h2) (fun i h1 h2 => by have h2 : i = b39 := h2; exfalso; omega)
        replace H4 := H4.keep K242 (by intro h; change b1 = b39 at h; omega)
        replace H226 := H226.keep K242 (by intro h; change b13 = b39 at h; omega)
        replace F239 := RdO.keep F239 K242 (fun i _ _ hi hs => by have hs : i = b39 := hs; have := ob45 i _ _ hi; omega)
        replace O231 := own_keep O231 K242 (fun i hi hs => by have hs : i = b39 := hs; have := ob234 i hi; omega)
        clear K242
        refine od ?_
        refine qs ?_
        refine qg ?_
        refine og 1 [(2, (ptr b1)), (3, (i64 0)), (6, (ptr b39)), (70, (ptr b13))] 1 ?_
        refine Ops.call (by kernel_rfl) (d := (some 71)) (by kernel_rfl) (RREnd_calls _ b13 A14 c15 (((((((((⟨bs, 0, 0⟩ : Rdr).int).2).int).2).int).2).bytes).2) hok227 H226 F239 hne21) ?_
        rintro _ w243 ⟨rfl, K244⟩
        refine ⟨_, _, rfl, rfl, ?_⟩
        replace K0 := K0.t0 K244
        replace H4 := H4.keep K244 (fun h => h)
        replace H226 := H226.keep K244 (fun h => h)
        replace H241 := H241.keep K244 (fun h => h)
        replace F239 := RdO.keep0 F239 K244
        replace O231 := own_keep0 O231 K244
        clear K244
        refine og 1 [(2, (ptr b1)), (3, (i64 0)), (6, (ptr b39)), (7, (i64 ((((((((((⟨bs, 0, 0⟩ : Rdr).int).2).int).2).int).2).bytes).2).end_)))] 3 ?_
        refine od ?_
        refine qs ?_
        refine qs ?_
        refine qg ?_
        refine og 2 [(2, (ptr b1)), (3, (i64 0)), (6, (ptr b39)), (7, (i64 ((((((((((⟨bs, 0, 0⟩ : Rdr).int).2).int).2).int).2).bytes).2).end_))), (73, (Value.bool (((((((((((⟨bs, 0, 0⟩ : Rdr).int).2).int).2).int).2).bytes).2).end_) != 0)))] 2 ?_
        refine od ?_
        refine q_cond (o := .tmp 73) (b := (((((((((((⟨bs, 0, 0⟩ : Rdr).int).2).int).2).int).2).bytes).2).end_) != 0)) (by kernel_rfl) rfl (fun h245 => ?_) (fun h245 => ?_)
        ·rw [h245]
         have p246 : ¬ ((((((((((⟨bs, 0, 0⟩ : Rdr).int).2).int).2).int).2).bytes).2).end_ = 0) := of_bne_t h245
         have hecq247 := end_or (((((((((⟨bs, 0, 0⟩ : Rdr).int).2).int).2).int).2).bytes).2)
         refine qs ?_
         refine qg ?_
         refine og 2 [(2, (ptr b1)), (3, (i64 0)), (6, (ptr b39)), (74, (agg [(i64 0), (i64 0), (i64 0), (i64 0), (Value.string ByteArray.empty), (Value.string ByteArray.empty), (i64 0), (Value.string ByteArray.empty), (i64 0), (i64 0), (i64 0), (i64 0), (Value.slice none 0 0), (Value.slice none 0 0)])), (75, (i64 ((((((((((⟨bs, 0, 0⟩ : Rdr).int).2).int).2).int).2).bytes).2).end_)))] 2 ?_
         refine Ops.put (t := 30) (b := b1) (off := 0) (v := (agg [(i64 0), (i64 0), (i64 0), (i64 0), (Value.string ByteArray.empty), (Value.string ByteArray.empty), (i64 0), (Value.string ByteArray.empty), (i64 0), (i64 0), (i64 0), (i64 0), (Value.slice none 0 0), (Value.slice none 0 0)])) (ys := [(i64 0), (i64 0), (i64 0), (i64 0), (Value.string ByteArray.empty), (Value.string ByteArray.empty), (i64 0), (Value.string ByteArray.empty), (i64 0), (i64 0), (i64 0), (i64 0), (Value.slice none 0 0), (Value.slice none 0 0)]) (by kernel_rfl) (by kernel_rfl) H4 (by kernel_rfl) (d := none) (by kernel_rfl) rfl (fun w248 H249 K250 => ?_)
         clear H4
         replace K0 := K0.trans K250 (U := none_) (fun i h1 h2 => h2) (fun i h1 h2 => by have h2 : i = b1 := h2; exfalso; omega)
         replace H226 := H226.keep K250 (by intro h; change b13 = b1 at h; omega)
         replace H241 := H241.keep K250 (by intro h; change b39 = b1 at h; omega)
         replace F239 := RdO.keep F239 K250 (fun i _ _ hi hs => by have hs : i = b1 := hs; have := ob24 i _ _ hi; omega)
         replace O231 := own_keep O231 K250 (fun i hi hs => by have hs : i = b1 := hs; have := ob232 i hi; omega)
         clear K250
         refine og 1 [(2, (ptr b1)), (3, (i64 ((((((((((⟨bs, 0, 0⟩ : Rdr).int).2).int).2).int).2).bytes).2).end_))), (6, (ptr b39))] 4 ?_
         refine od ?_
         refine q_ret (by kernel_rfl) ?_
         refine ⟨(Value.tuple #[(agg [(i64 0), (i64 0), (i64 0), (i64 0), (Value.string ByteArray.empty), (Value.string ByteArray.empty), (i64 0), (Value.string ByteArray.empty), (i64 0), (i64 0), (i64 0), (i64 0), (Value.slice none 0 0), (Value.slice none 0 0)]), (i64 ((((((((((⟨bs, 0, 0⟩ : Rdr).int).2).int).2).int).2).bytes).2).end_))]), retv_cell_tmp rfl rfl (H249.loads (by kernel_rfl)) rfl, ?_⟩
         have hl2 : (letR (⟨bs, 0, 0⟩ : Rdr).int.1 (⟨bs, 0, 0⟩ : Rdr).int.2).2 = ((((((((⟨bs, 0, 0⟩ : Rdr).int).2).int).2).int).2).bytes).2 := by unfold letR; first | (rw [if_pos (by omega)] <;> rfl) | (rw [if_neg (by omega), if_pos (by omega)] <;> rfl) | (rw [if_neg (by omega), if_neg (by omega), if_pos (by omega)] <;> rfl) | (rw [if_neg (by omega), if_neg (by omega), if_neg (by omega), if_pos (by omega)] <;> rfl) | (rw [if_neg (by omega), if_neg (by omega), if_neg (by omega), if_neg (by omega)] <;> rfl)
         have e : unpackB bs = (LetP.zero, (((((((((⟨bs, 0, 0⟩ : Rdr).int).2).int).2).int).2).bytes).2).end_) := by unfold unpackB; rw [if_neg (by omega), if_neg (by omega), if_neg (by omega), if_pos (by rw [hl2]; omega), hl2]
         exact ⟨none, 0, none, 0, by rw [e]; rfl, K0, by rw [e]; exact (OwnT.nil _ _ _ _ _), by rw [e]; exact (World.ownsRow_nil _ _ _ _)⟩
        ·rw [h245]
         have p251 : (((((((((⟨bs, 0, 0⟩ : Rdr).int).2).int).2).int).2).bytes).2).end_ = 0 := of_bne_f h245
         have hecq252 := end_or (((((((((⟨bs, 0, 0⟩ : Rdr).int).2).int).2).int).2).bytes).2)
         refine q_skip (by kernel_rfl) ?_
         refine qs ?_
         refine qg ?_
         refine Ops.go (v := (agg [(i64 (((⟨bs, 0, 0⟩ : Rdr).int).1)), (i64 (((((⟨bs, 0, 0⟩ : Rdr).int).2).int).1)), (i64 (((((((⟨bs, 0, 0⟩ : Rdr).int).2).int).2).int).1)), (i64 0), (Value.string ByteArray.empty), (Value.string ByteArray.empty), (i64 0), (Value.string ByteArray.empty), (i64 0), (i64 0), (i64 0), (i64 0), (Value.slice none 0 0), (Value.slice A237 (((((((((⟨bs, 0, 0⟩ : Rdr).int).2).int).2).int).2).bytes).1.length) c238)])) (by kernel_rfl) (Runs.load (t := 30) (a := ⟨b39, 0, none⟩) (by kernel_rfl) (H241.loads (by kernel_rfl))) (d := (some 76)) (by kernel_rfl) rfl ?_
         refine Ops.put (t := 30) (b := b1) (off := 0) (v := (agg [(i64 (((⟨bs, 0, 0⟩ : Rdr).int).1)), (i64 (((((⟨bs, 0, 0⟩ : Rdr).int).2).int).1)), (i64 (((((((⟨bs, 0, 0⟩ : Rdr).int).2).int).2).int).1)), (i64 0), (Value.string ByteArray.empty), (Value.string ByteArray.empty), (i64 0), (Value.string ByteArray.empty), (i64 0), (i64 0), (i64 0), (i64 0), (Value.slice none 0 0), (Value.slice A237 (((((((((⟨bs, 0, 0⟩ : Rdr).int).2).int).2).int).2).bytes).1.length) c238)])) (ys := [(i64 (((⟨bs, 0, 0⟩ : Rdr).int).1)), (i64 (((((⟨bs, 0, 0⟩ : Rdr).int).2).int).1)), (i64 (((((((⟨bs, 0, 0⟩ : Rdr).int).2).int).2).int).1)), (i64 0), (Value.string ByteArray.empty), (Value.string ByteArray.empty), (i64 0), (Value.string ByteArray.empty), (i64 0), (i64 0), (i64 0), (i64 0), (Value.slice none 0 0), (Value.slice A237 (((((((((⟨bs, 0, 0⟩ : Rdr).int).2).int).2).int).2).bytes).1.length) c238)]) (by kernel_rfl) (by kernel_rfl) H4 (by kernel_rfl) (d := none) (by kernel_rfl) rfl (fun w253 H254 K255 => ?_)
         clear H4
         replace K0 := K0.trans K255 (U := none_) (fun i h1 h2 => h2) (fun i h1 h2 => by have h2 : i = b1 := h2; exfalso; omega)
         replace H226 := H226.keep K255 (by intro h; change b13 = b1 at h; omega)
         replace H241 := H241.keep K255 (by intro h; change b39 = b1 at h; omega)
         replace F239 := RdO.keep F239 K255 (fun i _ _ hi hs => by have hs : i = b1 := hs; have := ob24 i _ _ hi; omega)
         replace O231 := own_keep O231 K255 (fun i hi hs => by have hs : i = b1 := hs; have := ob232 i hi; omega)
         clear K255
         refine og 1 [(2, (ptr b1)), (3, (i64 0))] 3 ?_
         refine od ?_
         refine q_ret (by kernel_rfl) ?_
         refine ⟨(Value.tuple #[(agg [(i64 (((⟨bs, 0, 0⟩ : Rdr).int).1)), (i64 (((((⟨bs, 0, 0⟩ : Rdr).int).2).int).1)), (i64 (((((((⟨bs, 0, 0⟩ : Rdr).int).2).int).2).int).1)), (i64 0), (Value.string ByteArray.empty), (Value.string ByteArray.empty), (i64 0), (Value.string ByteArray.empty), (i64 0), (i64 0), (i64 0), (i64 0), (Value.slice none 0 0), (Value.slice A237 (((((((((⟨bs, 0, 0⟩ : Rdr).int).2).int).2).int).2).bytes).1.length) c238)]), (i64 0)]), retv_cell_tmp rfl rfl (H254.loads (by kernel_rfl)) rfl, ?_⟩
         have hl : letR (⟨bs, 0, 0⟩ : Rdr).int.1 (⟨bs, 0, 0⟩ : Rdr).int.2 = ((⟨((⟨bs, 0, 0⟩ : Rdr).int).1, ((((⟨bs, 0, 0⟩ : Rdr).int).2).int).1, ((((((⟨bs, 0, 0⟩ : Rdr).int).2).int).2).int).1, ⟨0, [], [], 0, [], 0, 0⟩, ⟨0, 0, []⟩, ((((((((⟨bs, 0, 0⟩ : Rdr).int).2).int).2).int).2).bytes).1⟩ : LetP), ((((((((⟨bs, 0, 0⟩ : Rdr).int).2).int).2).int).2).bytes).2) := by unfold letR; first | (rw [if_pos (by omega)] <;> rfl) | (rw [if_neg (by omega), if_pos (by omega)] <;> rfl) | (rw [if_neg (by omega), if_neg (by omega), if_pos (by omega)] <;> rfl) | (rw [if_neg (by omega), if_neg (by omega), if_neg (by omega), if_pos (by omega)] <;> rfl) | (rw [if_neg (by omega), if_neg (by omega), if_neg (by omega), if_neg (by omega)] <;> rfl)
         have e : unpackB bs = ((⟨((⟨bs, 0, 0⟩ : Rdr).int).1, ((((⟨bs, 0, 0⟩ : Rdr).int).2).int).1, ((((((⟨bs, 0, 0⟩ : Rdr).int).2).int).2).int).1, ⟨0, [], [], 0, [], 0, 0⟩, ⟨0, 0, []⟩, ((((((((⟨bs, 0, 0⟩ : Rdr).int).2).int).2).int).2).bytes).1⟩ : LetP), 0) := by unfold unpackB; rw [if_neg (by omega), if_neg (by omega), if_neg (by omega), if_neg (by rw [hl]; show ¬ ((((((((((⟨bs, 0, 0⟩ : Rdr).int).2).int).2).int).2).bytes).2).end_ ≠ 0); omega), hl]
         exact ⟨none, 0, A237, c238, by rw [e]; rfl, K0, by rw [e]; exact (OwnT.nil _ _ _ _ _), by rw [e]; exact O231⟩
       ·rw [h204]
        have p256 : ¬ (((⟨bs, 0, 0⟩ : Rdr).int).1 = 5) := of_beq_f h204
        refine qs ?_
        refine qg ?_
        refine og 1 [(2, (ptr b1)), (3, (i64 0)), (4, (ptr b13)), (6, (ptr b39)), (29, (agg [(i64 0), (i64 0), (i64 0), (i64 0), (Value.string ByteArray.empty), (Value.string ByteArray.empty), (i64 0), (Value.string ByteArray.empty), (i64 0), (i64 0), (i64 0), (i64 0), (Value.slice none 0 0), (Value.slice none 0 0)]))] 1 ?_
        refine Ops.put (t := 30) (b := b1) (off := 0) (v := (agg [(i64 0), (i64 0), (i64 0), (i64 0), (Value.string ByteArray.empty), (Value.string ByteArray.empty), (i64 0), (Value.string ByteArray.empty), (i64 0), (i64 0), (i64 0), (i64 0), (Value.slice none 0 0), (Value.slice none 0 0)])) (ys := [(i64 0), (i64 0), (i64 0), (i64 0), (Value.string ByteArray.empty), (Value.string ByteArray.empty), (i64 0), (Value.string ByteArray.empty), (i64 0), (i64 0), (i64 0), (i64 0), (Value.slice none 0 0), (Value.slice none 0 0)]) (by kernel_rfl) (by kernel_rfl) H4 (by kernel_rfl) (d := none) (by kernel_rfl) rfl (fun w257 H258 K259 => ?_)
        clear H4
        replace K0 := K0.trans K259 (U := none_) (fun i h1 h2 => h2) (fun i h1 h2 => by have h2 : i = b1 := h2; exfalso; omega)
        replace H27 := H27.keep K259 (by intro h; change b13 = b1 at h; omega)
        replace H47 := H47.keep K259 (by intro h; change b39 = b1 at h; omega)
        replace F30 := RdO.keep F30 K259 (fun i _ _ hi hs => by have hs : i = b1 := hs; have := ob24 i _ _ hi; omega)
        clear K259
        refine og 1 [(2, (ptr b1)), (3, (i64 1)), (4, (ptr b13)), (6, (ptr b39))] 3 ?_
        refine od ?_
        refine q_ret (by kernel_rfl) ?_
        refine ⟨(Value.tuple #[(agg [(i64 0), (i64 0), (i64 0), (i64 0), (Value.string ByteArray.empty), (Value.string ByteArray.empty), (i64 0), (Value.string ByteArray.empty), (i64 0), (i64 0), (i64 0), (i64 0), (Value.slice none 0 0), (Value.slice none 0 0)]), (i64 1)]), retv_cell_tmp rfl rfl (H258.loads (by kernel_rfl)) rfl, ?_⟩
        have e : unpackB bs = (LetP.zero, 1) := by unfold unpackB; rw [if_neg (by omega), if_neg (by omega), if_pos (by omega)]
        exact ⟨none, 0, none, 0, by rw [e]; rfl, K0, by rw [e]; exact (OwnT.nil _ _ _ _ _), by rw [e]; exact (World.ownsRow_nil _ _ _ _)⟩
end Go.Proofs.Ytlnidnadpdpciaa
