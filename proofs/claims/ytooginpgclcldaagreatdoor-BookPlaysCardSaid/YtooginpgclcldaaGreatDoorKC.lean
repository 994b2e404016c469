/- books: what is changed of an account -/
import Derived.Test.YtooginpgclcldaaGreatDoorProg
import Derived.Test.YtooginpgclcldaaGreatDoorKB
import Derived.Test.YtooginpgclcldaaGreatDoorLX
set_option linter.unusedVariables false
namespace Go.Proofs.YtooginpgclcldaaGreatDoor
open Go.Q Go.RowKit

theorem Add1_calls (w : World) (p c : Nat) (A : Int) (O : List UInt8) (x : Int) (Hp : Has w p (rowL [i64 A, .string (str O)] 70)) (Hc : Has w c (rowL [(i64 x)] 2)) (hpc : p ≠ c) (hA : 0 ≤ A ∧ A ≤ 9223372036854775807) (hx : -9223372036854775808 ≤ x ∧ x ≤ 9223372036854775807) : Calls Tryz.prog 68 ⟨[(ptr p), (ptr c)]⟩ w (fun e w' => e = .returned (i64 (addF x (A, O)).1) ∧ Keeps (fun i => i = p) w w' ∧ Has w' p (rowL [i64 (addF x (A, O)).2.1, .string (str (addF x (A, O)).2.2)] 70)) := by
 have Hpl := Hp.lt
 have Hcl := Hc.lt
 have K0 : Keeps (fun i => i = p) w w := (Keeps.refl w).mono (fun _ _ h => h.elim)
 refine q_calls Tryz.func68 (by kernel_rfl) (by kernel_rfl) ?_
 refine qs ?_
 refine qg ?_
 refine og 1 [(0, (ptr p)), (1, (ptr c)), (3, (i64 0))] 1 ?_
 refine od ?_
 refine qs ?_
 refine q_block (id := 0) (by kernel_rfl) ?_
 refine qs ?_
 refine qg ?_
 refine Ops.go (v := (i64 x)) (by kernel_rfl) (Runs.load (t := 2) (a := ⟨c, 0, none⟩) (by kernel_rfl) (Hc.loads (by kernel_rfl))) (d := (some 5)) (by kernel_rfl) rfl ?_
 refine og 2 [(0, (ptr p)), (1, (ptr c)), (3, (i64 0)), (4, (Value.bool (decide (x < 1))))] 3 ?_
 refine od ?_
 refine q_cond (o := .tmp 4) (b := (decide (x < 1))) (by kernel_rfl) rfl (fun h1 => ?_) (fun h1 => ?_)
 ·rw [h1]
  have p2 : x < 1 := of_decide_eq_true h1
  refine qs ?_
  refine qg ?_
  refine og 1 [(0, (ptr p)), (1, (ptr c)), (3, (i64 47))] 1 ?_
  refine od ?_
  refine q_ret (by kernel_rfl) ?_
  refine ⟨(i64 47), retv_tmp rfl rfl, ?_⟩
  have e : addF x (A, O) = (47, (A, O)) := by unfold addF; simp only; first | (rw [if_pos (by first | omega | (simp_all; done) | (simp_all; omega))]; done) | (rw [if_neg (by first | omega | (simp_all; done) | (simp_all; omega)), if_pos (by first | omega | (simp_all; done) | (simp_all; omega))]; done) | (rw [if_neg (by first | omega | (simp_all; done) | (simp_all; omega)), if_neg (by first | omega | (simp_all; done) | (simp_all; omega))]; done) | (rw [if_neg (by first | omega | (simp_all; done) | (simp_all; omega))]; done)
  rw [e]
  exact ⟨rfl, K0, Hp⟩
 ·rw [h1]
  have p3 : ¬ (x < 1) := of_decide_eq_false h1
  refine qs ?_
  refine q_draw (fun wz => Keeps none_ w wz) 8 (by kernel_rfl) (by kernel_rfl) (by kernel_rfl) (fun w4 K5 _ _ => ⟨K5, ?_⟩)
  replace K0 := K0.trans K5 (U := (fun i => i = p)) (fun i h1 h2 => h2) (fun i h1 h2 => by exact h2.elim)
  replace Hp := Hp.keep K5 (fun h => h)
  replace Hc := Hc.keep K5 (fun h => h)
  refine Dr.strong (S' := (fun wz => Keeps none_ w4 wz)) (Keeps.refl w4) (fun wz hx => K5.trans hx (fun i _ h => h) (fun _ _ h => h)) ?_
  clear K5
  refine Dr.takes (fuel' := 5) (is' := [2, 1, 0]) [0, 1, 2] [(0, (ptr p)), (1, (ptr c)), (3, (i64 0)), (10, (ptr p))] (by kernel_rfl) rfl (by kernel_rfl) ?_
  refine Dr.take (i := 3) (v := (i64 A)) (by kernel_rfl) (by kernel_rfl) (fun wz hS => Runs.load (t := 2) (a := ⟨p, 0, none⟩) (by kernel_rfl) ((Hp.keep hS (fun h => h)).loads (by kernel_rfl))) (d := (some 11)) (by kernel_rfl) rfl ?_
  refine Dr.take (i := 4) (v := (i64 x)) (by kernel_rfl) (by kernel_rfl) (fun wz hS => Runs.load (t := 2) (a := ⟨c, 0, none⟩) (by kernel_rfl) ((Hc.keep hS (fun h => h)).loads (by kernel_rfl))) (d := (some 12)) (by kernel_rfl) rfl ?_
  refine Dr.takes (fuel' := 2) (is' := [5, 4, 3, 2, 1, 0]) [5] [(0, (ptr p)), (1, (ptr c)), (3, (i64 0)), (11, (i64 A)), (13, (i64 (IntKind.i64.wrap (9223372036854775807 - x))))] (by kernel_rfl) rfl (by kernel_rfl) ?_
  have e6 : IntKind.i64.wrap (9223372036854775807 - x) = 9223372036854775807 - x := wrap_i64 (by omega) (by omega)
  rw [e6]
  refine Dr.takes (fuel' := 0) (is' := [7, 6, 5, 4, 3, 2, 1, 0]) [6, 7] [(0, (ptr p)), (1, (ptr c)), (3, (i64 0)), (7, (Value.bool (decide (A > 9223372036854775807 - x))))] (by kernel_rfl) rfl (by kernel_rfl) ?_
  refine Dr.done (by kernel_rfl) ?_
  refine q_cond (o := .tmp 7) (b := (decide (A > 9223372036854775807 - x))) (by kernel_rfl) rfl (fun h7 => ?_) (fun h7 => ?_)
  ·rw [h7]
   have p8 : A > 9223372036854775807 - x := of_decide_eq_true h7
   refine qs ?_
   refine qg ?_
   refine og 1 [(0, (ptr p)), (1, (ptr c)), (3, (i64 43))] 1 ?_
   refine od ?_
   refine q_ret (by kernel_rfl) ?_
   refine ⟨(i64 43), retv_tmp rfl rfl, ?_⟩
   have e : addF x (A, O) = (43, (A, O)) := by unfold addF; simp only; first | (rw [if_pos (by first | omega | (simp_all; done) | (simp_all; omega))]; done) | (rw [if_neg (by first | omega | (simp_all; done) | (simp_all; omega)), if_pos (by first | omega | (simp_all; done) | (simp_all; omega))]; done) | (rw [if_neg (by first | omega | (simp_all; done) | (simp_all; omega)), if_neg (by first | omega | (simp_all; done) | (simp_all; omega))]; done) | (rw [if_neg (by first | omega | (simp_all; done) | (simp_all; omega))]; done)
   rw [e]
   exact ⟨rfl, K0, Hp⟩
  ·rw [h7]
   have p9 : ¬ (A > 9223372036854775807 - x) := of_decide_eq_false h7
   refine q_skip (by kernel_rfl) ?_
   refine qs ?_
   refine q_draw (fun wz => Keeps (fun i => i = p) w4 wz) 9 (by kernel_rfl) (by kernel_rfl) (by kernel_rfl) (fun w10 K11 _ _ => ⟨(K11.mono (fun _ _ h => h.elim)), ?_⟩)
   replace K0 := K0.trans K11 (U := (fun i => i = p)) (fun i h1 h2 => h2) (fun i h1 h2 => by exact h2.elim)
   replace Hp := Hp.keep K11 (fun h => h)
   replace Hc := Hc.keep K11 (fun h => h)
   refine Dr.strong (S' := (fun wz => Keeps (fun i => i = p) w10 wz)) ((Keeps.refl w10).mono (fun _ _ h => h.elim)) (fun wz hx => K11.trans hx (fun i _ h => h.elim) (fun _ _ h => h)) ?_
   clear K11
   refine Dr.takes (fuel' := 6) (is' := [2, 1, 0]) [0, 1, 2] [(1, (ptr c)), (3, (i64 0)), (15, (ptr p)), (17, (ptr p))] (by kernel_rfl) rfl (by kernel_rfl) ?_
   refine Dr.take (i := 4) (v := (i64 x)) (by kernel_rfl) (by kernel_rfl) (fun wz hS => Runs.load (t := 2) (a := ⟨c, 0, none⟩) (by kernel_rfl) ((Hc.keep hS (by intro h; change c = p at h; omega)).loads (by kernel_rfl))) (d := (some 19)) (by kernel_rfl) rfl ?_
   refine Dr.go (i := 3) (v := (i64 A)) (by kernel_rfl) (by kernel_rfl) (Runs.load (t := 2) (a := ⟨p, 0, none⟩) (by kernel_rfl) (Hp.loads (by kernel_rfl))) (d := (some 18)) (by kernel_rfl) rfl ((Keeps.refl _).mono (fun _ _ h => h.elim)) ?_
   refine Dr.takes (fuel' := 3) (is' := [5, 3, 4, 2, 1, 0]) [5] [(3, (i64 0)), (15, (ptr p)), (20, (i64 (IntKind.i64.wrap (A + x))))] (by kernel_rfl) rfl (by kernel_rfl) ?_
   have e12 : IntKind.i64.wrap (A + x) = A + x := wrap_i64 (by omega) (by omega)
   rw [e12]
   refine Dr.takes (fuel' := 1) (is' := [7, 6, 5, 3, 4, 2, 1, 0]) [6, 7] [(3, (i64 0)), (20, (i64 (A + x))), (22, (ptr p))] (by kernel_rfl) rfl (by kernel_rfl) ?_
   refine Dr.put (i := 8) (t := 2) (b := p) (off := 0) (v := (i64 (A + x))) (ys := [(i64 (A + x)), (Value.string (str O))]) (by kernel_rfl) (by kernel_rfl) (by kernel_rfl) Hp (by kernel_rfl) (d := none) (by kernel_rfl) rfl (fun w13 H14 K15 => ?_)
   clear Hp
   replace K0 := K0.trans K15 (U := (fun i => i = p)) (fun i h1 h2 => h2) (fun i h1 h2 => by have h2 : i = p := h2; show i = p; omega)
   replace Hc := Hc.keep K15 (by intro h; change c = p at h; omega)
   refine ⟨K15, ?_⟩
   refine Dr.strong (S' := (fun wz => Keeps (fun i => i = p) w13 wz)) ((Keeps.refl w13).mono (fun _ _ h => h.elim)) (fun wz hx => K15.trans hx (fun i _ h => by have h : i = p := h; show i = p; omega) (fun _ _ h => h)) ?_
   clear K15
   refine Dr.done (by kernel_rfl) ?_
   refine qs ?_
   refine qg ?_
   refine og 1 [(3, (i64 0))] 1 ?_
   refine od ?_
   refine q_ret (by kernel_rfl) ?_
   refine ⟨(i64 0), retv_tmp rfl rfl, ?_⟩
   have e : addF x (A, O) = (0, (A + x, O)) := by unfold addF; simp only; first | (rw [if_pos (by first | omega | (simp_all; done) | (simp_all; omega))]; done) | (rw [if_neg (by first | omega | (simp_all; done) | (simp_all; omega)), if_pos (by first | omega | (simp_all; done) | (simp_all; omega))]; done) | (rw [if_neg (by first | omega | (simp_all; done) | (simp_all; omega)), if_neg (by first | omega | (simp_all; done) | (simp_all; omega))]; done) | (rw [if_neg (by first | omega | (simp_all; done) | (simp_all; omega))]; done)
   rw [e]
   exact ⟨rfl, K0, H14⟩

theorem ChgAdd_none (w : World) (b mb : Nat) (m : List (List UInt8 × AccV)) (S : List AccM) (n : List UInt8) (c : Nat) (x : Int) (Hb : Has w b (rowL [.map (some mb)] 66)) (Hm : HasMap w mb kstr accv m) (hne : b ≠ mb) (hB : Book m S) (Hc : Has w c (rowL [(i64 x)] 2)) (hcb : c ≠ mb) (hcb2 : c ≠ b) (hx : -9223372036854775808 ≤ x ∧ x ≤ 9223372036854775807) (hg : getS S n = none) : Calls Tryz.prog 62 ⟨[(ptr b), (Value.string (str n)), (Value.func (Fn.func 68) ⟨[]⟩ ⟨[(ptr c)]⟩)]⟩ w (fun e w' => ∃ m', e = .returned (i64 (chgE (addF x) S n)) ∧ Keeps (fun i => i = mb) w w' ∧ HasMap w' mb kstr accv m' ∧ Book m' (chgS (addF x) S n)) := by
 have Hbl := Hb.lt
 have Hml := Hm.lt
 have hlen := hB.len
 have Hcl := Hc.lt
 have K0 : Keeps (fun i => i = mb) w w := (Keeps.refl w).mono (fun _ _ h => h.elim)
 have hgm : getM m n = none := by rw [hB.get, hg]; rfl
 refine q_calls Tryz.func62 (by kernel_rfl) (by kernel_rfl) ?_
 refine qs ?_
 refine qg ?_
 refine og 1 [(0, (ptr b)), (1, (Value.string (str n))), (2, (Value.func (Fn.func 68) ⟨[]⟩ ⟨[(ptr c)]⟩)), (6, (i64 0))] 1 ?_
 refine od ?_
 refine qs ?_
 refine qs ?_
 refine qg ?_
 refine og 2 [(0, (ptr b)), (1, (Value.string (str n))), (2, (Value.func (Fn.func 68) ⟨[]⟩ ⟨[(ptr c)]⟩)), (6, (i64 0)), (11, (Value.bool false))] 2 ?_
 refine od ?_
 refine q_else (o := .tmp 11) (by kernel_rfl) rfl ?_
 refine q_skip (by kernel_rfl) ?_
 refine qs ?_
 refine qg ?_
 refine og 3 [(0, (ptr b)), (1, (Value.string (str n))), (2, (Value.func (Fn.func 68) ⟨[]⟩ ⟨[(ptr c)]⟩)), (6, (i64 0)), (15, (ptr b))] 3 ?_
 refine Ops.go (v := (Value.map (some mb))) (by kernel_rfl) (Runs.load (t := 64) (a := ⟨b, 0, none⟩) (by kernel_rfl) (Hb.loads (by kernel_rfl))) (d := (some 16)) (by kernel_rfl) rfl ?_
 refine og 1 [(0, (ptr b)), (1, (Value.string (str n))), (2, (Value.func (Fn.func 68) ⟨[]⟩ ⟨[(ptr c)]⟩)), (6, (i64 0)), (16, (Value.map (some mb))), (17, (Value.string (str n)))] 5 ?_
 refine Ops.go (v := (Value.tuple #[(agg [(i64 0), (Value.string ByteArray.empty)]), (Value.bool false)])) (by kernel_rfl) (Runs.lookup_none (ok := true) (z := (agg [(i64 0), (Value.string ByteArray.empty)])) KT Tryz.underlying64 (by kernel_rfl) Hm hgm (by kernel_rfl)) (d := (some 18)) (by kernel_rfl) rfl ?_
 refine og 3 [(0, (ptr b)), (1, (Value.string (str n))), (2, (Value.func (Fn.func 68) ⟨[]⟩ ⟨[(ptr c)]⟩)), (6, (i64 0)), (19, (agg [(i64 0), (Value.string ByteArray.empty)])), (20, (Value.bool false))] 9 ?_
 refine Ops.new (o := rowL [(i64 0), (Value.string ByteArray.empty)] 70) (V := fun b => (ptr b)) (by kernel_rfl) (d := (some 7)) (by kernel_rfl) (fun b => rfl) (fun b1 w2 hb3 H4 K5 hs6 => ?_)
 have lb1b : b < b1 := by have := Hb.lt; omega
 have lb1mb : mb < b1 := by have := Hm.lt; omega
 have lb1c : c < b1 := by have := Hc.lt; omega
 have nb1 : w.heap.size ≤ b1 := by have := K0.size; omega
 replace K0 := K0.trans K5 (U := (fun i => i = mb)) (fun i h1 h2 => h2) (fun i h1 h2 => by exact h2.elim)
 replace Hb := Hb.keep K5 (fun h => h)
 replace Hm := Hm.keep K5 (fun h => h)
 replace Hc := Hc.keep K5 (fun h => h)
 clear K5 hs6
 refine Ops.put (t := 70) (b := b1) (off := 0) (v := (agg [(i64 0), (Value.string ByteArray.empty)])) (ys := [(i64 0), (Value.string ByteArray.empty)]) (by kernel_rfl) (by kernel_rfl) H4 (by kernel_rfl) (d := none) (by kernel_rfl) rfl (fun w7 H8 K9 => ?_)
 clear H4
 replace K0 := K0.trans K9 (U := (fun i => i = mb)) (fun i h1 h2 => h2) (fun i h1 h2 => by have h2 : i = b1 := h2; show i = mb; omega)
 replace Hb := Hb.keep K9 (by intro h; change b = b1 at h; omega)
 replace Hm := Hm.keep K9 (by intro h; change mb = b1 at h; omega)
 replace Hc := Hc.keep K9 (by intro h; change c = b1 at h; omega)
 clear K9
 refine og 1 [(0, (ptr b)), (1, (Value.string (str n))), (2, (Value.func (Fn.func 68) ⟨[]⟩ ⟨[(ptr c)]⟩)), (6, (i64 0)), (7, (ptr b1)), (8, (Value.bool false))] 12 ?_
 refine od ?_
 refine qs ?_
 refine qs ?_
 refine qg ?_
 refine og 2 [(0, (ptr b)), (1, (Value.string (str n))), (2, (Value.func (Fn.func 68) ⟨[]⟩ ⟨[(ptr c)]⟩)), (6, (i64 0)), (7, (ptr b1)), (22, (Value.bool true))] 2 ?_
 refine od ?_
 refine q_then (o := .tmp 22) (by kernel_rfl) rfl ?_
 refine qs ?_
 refine qg ?_
 refine og 1 [(0, (ptr b)), (1, (Value.string (str n))), (2, (Value.func (Fn.func 68) ⟨[]⟩ ⟨[(ptr c)]⟩)), (6, (i64 40)), (7, (ptr b1))] 1 ?_
 refine od ?_
 refine q_ret (by kernel_rfl) ?_
 refine ⟨(i64 40), retv_tmp rfl rfl, ?_⟩
 exact ⟨m, by unfold chgE; rw [hg], K0, Hm, hB.none hg⟩

theorem ChgAdd_some (w : World) (b mb : Nat) (m : List (List UInt8 × AccV)) (S : List AccM) (n : List UInt8) (c : Nat) (x : Int) (Hb : Has w b (rowL [.map (some mb)] 66)) (Hm : HasMap w mb kstr accv m) (hne : b ≠ mb) (hB : Book m S) (Hc : Has w c (rowL [(i64 x)] 2)) (hcb : c ≠ mb) (hcb2 : c ≠ b) (hx : -9223372036854775808 ≤ x ∧ x ≤ 9223372036854775807) (a : AccM) (hg : getS S n = some a) : Calls Tryz.prog 62 ⟨[(ptr b), (Value.string (str n)), (Value.func (Fn.func 68) ⟨[]⟩ ⟨[(ptr c)]⟩)]⟩ w (fun e w' => ∃ m', e = .returned (i64 (chgE (addF x) S n)) ∧ Keeps (fun i => i = mb) w w' ∧ HasMap w' mb kstr accv m' ∧ Book m' (chgS (addF x) S n)) := by
 have Hbl := Hb.lt
 have Hml := Hm.lt
 have hlen := hB.len
 have Hcl := Hc.lt
 have K0 : Keeps (fun i => i = mb) w w := (Keeps.refl w).mono (fun _ _ h => h.elim)
 have hgm : getM m n = some (a.amt, a.own) := by rw [hB.get, hg]; rfl
 have hao := hB.accs.ok a (getS_some hg).1
 have ha1 := hao.lo
 have ha2 := hao.hi
 refine q_calls Tryz.func62 (by kernel_rfl) (by kernel_rfl) ?_
 refine qs ?_
 refine qg ?_
 refine og 1 [(0, (ptr b)), (1, (Value.string (str n))), (2, (Value.func (Fn.func 68) ⟨[]⟩ ⟨[(ptr c)]⟩)), (6, (i64 0))] 1 ?_
 refine od ?_
 refine qs ?_
 refine qs ?_
 refine qg ?_
 refine og 2 [(0, (ptr b)), (1, (Value.string (str n))), (2, (Value.func (Fn.func 68) ⟨[]⟩ ⟨[(ptr c)]⟩)), (6, (i64 0)), (11, (Value.bool false))] 2 ?_
 refine od ?_
 refine q_else (o := .tmp 11) (by kernel_rfl) rfl ?_
 refine q_skip (by kernel_rfl) ?_
 refine qs ?_
 refine qg ?_
 refine og 3 [(0, (ptr b)), (1, (Value.string (str n))), (2, (Value.func (Fn.func 68) ⟨[]⟩ ⟨[(ptr c)]⟩)), (6, (i64 0)), (15, (ptr b))] 3 ?_
 refine Ops.go (v := (Value.map (some mb))) (by kernel_rfl) (Runs.load (t := 64) (a := ⟨b, 0, none⟩) (by kernel_rfl) (Hb.loads (by kernel_rfl))) (d := (some 16)) (by kernel_rfl) rfl ?_
 refine og 1 [(0, (ptr b)), (1, (Value.string (str n))), (2, (Value.func (Fn.func 68) ⟨[]⟩ ⟨[(ptr c)]⟩)), (6, (i64 0)), (16, (Value.map (some mb))), (17, (Value.string (str n)))] 5 ?_
 refine Ops.go (v := (Value.tuple #[(agg [(i64 a.amt), (Value.string (str a.own))]), (Value.bool true)])) (by kernel_rfl) (Runs.lookup_some (ok := true) (vf := accv) (a := (a.amt, a.own)) KT Tryz.underlying64 Hm hgm (by kernel_rfl)) (d := (some 18)) (by kernel_rfl) rfl ?_
 refine og 3 [(0, (ptr b)), (1, (Value.string (str n))), (2, (Value.func (Fn.func 68) ⟨[]⟩ ⟨[(ptr c)]⟩)), (6, (i64 0)), (19, (agg [(i64 a.amt), (Value.string (str a.own))])), (20, (Value.bool true))] 9 ?_
 refine Ops.new (o := rowL [(i64 0), (Value.string ByteArray.empty)] 70) (V := fun b => (ptr b)) (by kernel_rfl) (d := (some 7)) (by kernel_rfl) (fun b => rfl) (fun b1 w2 hb3 H4 K5 hs6 => ?_)
 have lb1b : b < b1 := by have := Hb.lt; omega
 have lb1mb : mb < b1 := by have := Hm.lt; omega
 have lb1c : c < b1 := by have := Hc.lt; omega
 have nb1 : w.heap.size ≤ b1 := by have := K0.size; omega
 replace K0 := K0.trans K5 (U := (fun i => i = mb)) (fun i h1 h2 => h2) (fun i h1 h2 => by exact h2.elim)
 replace Hb := Hb.keep K5 (fun h => h)
 replace Hm := Hm.keep K5 (fun h => h)
 replace Hc := Hc.keep K5 (fun h => h)
 clear K5 hs6
 refine Ops.put (t := 70) (b := b1) (off := 0) (v := (agg [(i64 a.amt), (Value.string (str a.own))])) (ys := [(i64 a.amt), (Value.string (str a.own))]) (by kernel_rfl) (by kernel_rfl) H4 (by kernel_rfl) (d := none) (by kernel_rfl) rfl (fun w7 H8 K9 => ?_)
 clear H4
 replace K0 := K0.trans K9 (U := (fun i => i = mb)) (fun i h1 h2 => h2) (fun i h1 h2 => by have h2 : i = b1 := h2; show i = mb; omega)
 replace Hb := Hb.keep K9 (by intro h; change b = b1 at h; omega)
 replace Hm := Hm.keep K9 (by intro h; change mb = b1 at h; omega)
 replace Hc := Hc.keep K9 (by intro h; change c = b1 at h; omega)
 clear K9
 refine og 1 [(0, (ptr b)), (1, (Value.string (str n))), (2, (Value.func (Fn.func 68) ⟨[]⟩ ⟨[(ptr c)]⟩)), (6, (i64 0)), (7, (ptr b1)), (8, (Value.bool true))] 12 ?_
 refine od ?_
 refine qs ?_
 refine qs ?_
 refine qg ?_
 refine og 2 [(0, (ptr b)), (1, (Value.string (str n))), (2, (Value.func (Fn.func 68) ⟨[]⟩ ⟨[(ptr c)]⟩)), (6, (i64 0)), (7, (ptr b1)), (22, (Value.bool false))] 2 ?_
 refine od ?_
 refine q_else (o := .tmp 22) (by kernel_rfl) rfl ?_
 refine q_skip (by kernel_rfl) ?_
 refine qs ?_
 refine qg ?_
 refine og 1 [(0, (ptr b)), (1, (Value.string (str n))), (6, (i64 0)), (7, (ptr b1)), (23, (Value.func (Fn.func 68) ⟨[]⟩ ⟨[(ptr c)]⟩))] 1 ?_
 refine Ops.call (by kernel_rfl) (d := (some 24)) (by kernel_rfl) (Add1_calls _ b1 c a.amt a.own x H8 Hc (by omega) (by omega) (by omega)) ?_
 rintro _ w10 ⟨rfl, K11, H12⟩
 refine ⟨_, _, rfl, rfl, ?_⟩
 replace K0 := K0.trans K11 (U := (fun i => i = mb)) (fun i h1 h2 => h2) (fun i h1 h2 => by have h2 : i = b1 := h2; show i = mb; omega)
 replace Hb := Hb.keep K11 (by intro h; change b = b1 at h; omega)
 replace Hm := Hm.keep K11 (by intro h; change mb = b1 at h; omega)
 replace Hc := Hc.keep K11 (by intro h; change c = b1 at h; omega)
 clear K11
 refine og 1 [(0, (ptr b)), (1, (Value.string (str n))), (6, (i64 0)), (7, (ptr b1)), (9, (i64 ((addF x (a.amt, a.own)).1)))] 3 ?_
 refine od ?_
 refine qs ?_
 refine q_draw (fun wz => Keeps (fun i => i = mb) w10 wz) 7 (by kernel_rfl) (by kernel_rfl) (by kernel_rfl) (fun w13 K14 _ _ => ⟨(K14.mono (fun _ _ h => h.elim)), ?_⟩)
 replace K0 := K0.trans K14 (U := (fun i => i = mb)) (fun i h1 h2 => h2) (fun i h1 h2 => by exact h2.elim)
 replace Hb := Hb.keep K14 (fun h => h)
 replace Hm := Hm.keep K14 (fun h => h)
 replace Hc := Hc.keep K14 (fun h => h)
 replace H12 := H12.keep K14 (fun h => h)
 refine Dr.strong (S' := (fun wz => Keeps (fun i => i = mb) w13 wz)) ((Keeps.refl w13).mono (fun _ _ h => h.elim)) (fun wz hx => K14.trans hx (fun i _ h => h.elim) (fun _ _ h => h)) ?_
 clear K14
 refine Dr.takes (fuel' := 4) (is' := [2, 1, 0]) [0, 1, 2] [(1, (Value.string (str n))), (6, (i64 0)), (7, (ptr b1)), (9, (i64 ((addF x (a.amt, a.own)).1))), (27, (ptr b))] (by kernel_rfl) rfl (by kernel_rfl) ?_
 refine Dr.take (i := 3) (v := (Value.map (some mb))) (by kernel_rfl) (by kernel_rfl) (fun wz hS => Runs.load (t := 64) (a := ⟨b, 0, none⟩) (by kernel_rfl) ((Hb.keep hS (by intro h; change b = mb at h; omega)).loads (by kernel_rfl))) (d := (some 28)) (by kernel_rfl) rfl ?_
 refine Dr.takes (fuel' := 2) (is' := [4, 3, 2, 1, 0]) [4] [(6, (i64 0)), (7, (ptr b1)), (9, (i64 ((addF x (a.amt, a.own)).1))), (28, (Value.map (some mb))), (29, (Value.string (str n)))] (by kernel_rfl) rfl (by kernel_rfl) ?_
 refine Dr.take (i := 5) (v := (agg [(i64 ((addF x (a.amt, a.own)).2.1)), (Value.string (str ((addF x (a.amt, a.own)).2.2)))])) (by kernel_rfl) (by kernel_rfl) (fun wz hS => Runs.load (t := 70) (a := ⟨b1, 0, none⟩) (by kernel_rfl) ((H12.keep hS (by intro h; change b1 = mb at h; omega)).loads (by kernel_rfl))) (d := (some 30)) (by kernel_rfl) rfl ?_
 obtain ⟨w15, hr16, K17, H18⟩ := HasMap.update KT Tryz.underlying64 Hm n ((addF x (a.amt, a.own)).2.1, ((addF x (a.amt, a.own)).2.2))
 refine Dr.goU (i := 6) (by kernel_rfl) (by kernel_rfl) (RunsU.of_update (by kernel_rfl) hr16) (d := none) (by kernel_rfl) rfl K17 ?_
 clear Hm
 replace K0 := K0.trans K17 (U := (fun i => i = mb)) (fun i h1 h2 => h2) (fun i h1 h2 => by have h2 : i = mb := h2; show i = mb; omega)
 replace Hb := Hb.keep K17 (by intro h; change b = mb at h; omega)
 replace Hc := Hc.keep K17 (by intro h; change c = mb at h; omega)
 replace H12 := H12.keep K17 (by intro h; change b1 = mb at h; omega)
 refine Dr.strong (S' := (fun wz => Keeps (fun i => i = mb) w15 wz)) ((Keeps.refl w15).mono (fun _ _ h => h.elim)) (fun wz hx => K17.trans hx (fun i _ h => by have h : i = mb := h; show i = mb; omega) (fun _ _ h => h)) ?_
 clear K17 hr16
 refine Dr.done (by kernel_rfl) ?_
 refine qs ?_
 refine qg ?_
 refine og 2 [(6, (i64 ((addF x (a.amt, a.own)).1)))] 2 ?_
 refine od ?_
 refine q_ret (by kernel_rfl) ?_
 refine ⟨(i64 ((addF x (a.amt, a.own)).1)), retv_tmp rfl rfl, ?_⟩
 exact ⟨_, by unfold chgE; rw [hg], K0, H18, hB.chg (calm_add x) hg⟩

theorem ChgAdd_calls (w : World) (b mb : Nat) (m : List (List UInt8 × AccV)) (S : List AccM) (n : List UInt8) (c : Nat) (x : Int) (Hb : Has w b (rowL [.map (some mb)] 66)) (Hm : HasMap w mb kstr accv m) (hne : b ≠ mb) (hB : Book m S) (Hc : Has w c (rowL [(i64 x)] 2)) (hcb : c ≠ mb) (hcb2 : c ≠ b) (hx : -9223372036854775808 ≤ x ∧ x ≤ 9223372036854775807) : Calls Tryz.prog 62 ⟨[(ptr b), (Value.string (str n)), (Value.func (Fn.func 68) ⟨[]⟩ ⟨[(ptr c)]⟩)]⟩ w (fun e w' => ∃ m', e = .returned (i64 (chgE (addF x) S n)) ∧ Keeps (fun i => i = mb) w w' ∧ HasMap w' mb kstr accv m' ∧ Book m' (chgS (addF x) S n)) := by
 cases hg : getS S n with
 | none => exact ChgAdd_none w b mb m S n c x Hb Hm hne hB Hc hcb hcb2 hx hg
 | some a => exact ChgAdd_some w b mb m S n c x Hb Hm hne hB Hc hcb hcb2 hx a hg

theorem Add_calls (w : World) (b mb : Nat) (m : List (List UInt8 × AccV)) (S : List AccM) (n : List UInt8) (x : Int) (Hb : Has w b (rowL [.map (some mb)] 66)) (Hm : HasMap w mb kstr accv m) (hne : b ≠ mb) (hB : Book m S) (hx : -9223372036854775808 ≤ x ∧ x ≤ 9223372036854775807) : Calls Tryz.prog 28 ⟨[(ptr b), (Value.string (str n)), (i64 x)]⟩ w (fun e w' => ∃ m', e = .returned (i64 (chgE (addF x) S n)) ∧ Keeps (fun i => i = mb) w w' ∧ HasMap w' mb kstr accv m' ∧ Book m' (chgS (addF x) S n)) := by
 have Hbl := Hb.lt
 have Hml := Hm.lt
 have hlen := hB.len
 have K0 : Keeps (fun i => i = mb) w w := (Keeps.refl w).mono (fun _ _ h => h.elim)
 refine q_calls Tryz.func28 (by kernel_rfl) (by kernel_rfl) ?_
 refine qs ?_
 refine qg ?_
 refine Ops.new (o := rowL [(i64 x)] 2) (V := fun b => (ptr b)) (by kernel_rfl) (d := (some 5)) (by kernel_rfl) (fun b => rfl) (fun b1 w2 hb3 H4 K5 hs6 => ?_)
 have lb1b : b < b1 := by have := Hb.lt; omega
 have lb1mb : mb < b1 := by have := Hm.lt; omega
 have nb1 : w.heap.size ≤ b1 := by have := K0.size; omega
 replace K0 := K0.trans K5 (U := (fun i => i = mb)) (fun i h1 h2 => h2) (fun i h1 h2 => by exact h2.elim)
 replace Hb := Hb.keep K5 (fun h => h)
 replace Hm := Hm.keep K5 (fun h => h)
 clear K5 hs6
 refine og 1 [(0, (ptr b)), (1, (Value.string (str n))), (5, (ptr b1)), (6, (i64 0))] 2 ?_
 refine od ?_
 refine qs ?_
 refine qg ?_
 refine og 3 [(6, (i64 0)), (7, (ptr b)), (8, (Value.string (str n))), (9, (Value.func (Fn.func 68) ⟨[]⟩ ⟨[(ptr b1)]⟩))] 3 ?_
 refine Ops.call (by kernel_rfl) (d := (some 10)) (by kernel_rfl) (ChgAdd_calls _ b mb m S n b1 x Hb Hm (by omega) hB H4 (by omega) (by omega) (by omega)) ?_
 rintro _ w8 ⟨m7, rfl, K9, H10, hB11⟩
 have hl12 := hB11.len
 refine ⟨_, _, rfl, rfl, ?_⟩
 replace K0 := K0.trans K9 (U := (fun i => i = mb)) (fun i h1 h2 => h2) (fun i h1 h2 => by have h2 : i = mb := h2; show i = mb; omega)
 replace Hb := Hb.keep K9 (by intro h; change b = mb at h; omega)
 replace H4 := H4.keep K9 (by intro h; change b1 = mb at h; omega)
 clear K9
 refine og 1 [(6, (i64 (chgE (addF x) S n)))] 5 ?_
 refine od ?_
 refine q_ret (by kernel_rfl) ?_
 refine ⟨(i64 (chgE (addF x) S n)), retv_tmp rfl rfl, ?_⟩
 exact ⟨_, rfl, K0, H10, hB11⟩

theorem Take1_calls (w : World) (p c : Nat) (A : Int) (O : List UInt8) (x : Int) (Hp : Has w p (rowL [i64 A, .string (str O)] 70)) (Hc : Has w c (rowL [(i64 x)] 2)) (hpc : p ≠ c) (hA : 0 ≤ A ∧ A ≤ 9223372036854775807) (hx : -9223372036854775808 ≤ x ∧ x ≤ 9223372036854775807) : Calls Tryz.prog 69 ⟨[(ptr p), (ptr c)]⟩ w (fun e w' => e = .returned (i64 (takeF x (A, O)).1) ∧ Keeps (fun i => i = p) w w' ∧ Has w' p (rowL [i64 (takeF x (A, O)).2.1, .string (str (takeF x (A, O)).2.2)] 70)) := by
 have Hpl := Hp.lt
 have Hcl := Hc.lt
 have K0 : Keeps (fun i => i = p) w w := (Keeps.refl w).mono (fun _ _ h => h.elim)
 refine q_calls Tryz.func69 (by kernel_rfl) (by kernel_rfl) ?_
 refine qs ?_
 refine qg ?_
 refine og 1 [(0, (ptr p)), (1, (ptr c)), (3, (i64 0))] 1 ?_
 refine od ?_
 refine qs ?_
 refine q_block (id := 0) (by kernel_rfl) ?_
 refine qs ?_
 refine qg ?_
 refine Ops.go (v := (i64 x)) (by kernel_rfl) (Runs.load (t := 2) (a := ⟨c, 0, none⟩) (by kernel_rfl) (Hc.loads (by kernel_rfl))) (d := (some 5)) (by kernel_rfl) rfl ?_
 refine og 2 [(0, (ptr p)), (1, (ptr c)), (3, (i64 0)), (4, (Value.bool (decide (x < 1))))] 3 ?_
 refine od ?_
 refine q_cond (o := .tmp 4) (b := (decide (x < 1))) (by kernel_rfl) rfl (fun h1 => ?_) (fun h1 => ?_)
 ·rw [h1]
  have p2 : x < 1 := of_decide_eq_true h1
  refine qs ?_
  refine qg ?_
  refine og 1 [(0, (ptr p)), (1, (ptr c)), (3, (i64 47))] 1 ?_
  refine od ?_
  refine q_ret (by kernel_rfl) ?_
  refine ⟨(i64 47), retv_tmp rfl rfl, ?_⟩
  have e : takeF x (A, O) = (47, (A, O)) := by unfold takeF; simp only; first | (rw [if_pos (by first | omega | (simp_all; done) | (simp_all; omega))]; done) | (rw [if_neg (by first | omega | (simp_all; done) | (simp_all; omega)), if_pos (by first | omega | (simp_all; done) | (simp_all; omega))]; done) | (rw [if_neg (by first | omega | (simp_all; done) | (simp_all; omega)), if_neg (by first | omega | (simp_all; done) | (simp_all; omega))]; done) | (rw [if_neg (by first | omega | (simp_all; done) | (simp_all; omega))]; done)
  rw [e]
  exact ⟨rfl, K0, Hp⟩
 ·rw [h1]
  have p3 : ¬ (x < 1) := of_decide_eq_false h1
  refine qs ?_
  refine q_draw (fun wz => Keeps none_ w wz) 7 (by kernel_rfl) (by kernel_rfl) (by kernel_rfl) (fun w4 K5 _ _ => ⟨K5, ?_⟩)
  replace K0 := K0.trans K5 (U := (fun i => i = p)) (fun i h1 h2 => h2) (fun i h1 h2 => by exact h2.elim)
  replace Hp := Hp.keep K5 (fun h => h)
  replace Hc := Hc.keep K5 (fun h => h)
  refine Dr.strong (S' := (fun wz => Keeps none_ w4 wz)) (Keeps.refl w4) (fun wz hx => K5.trans hx (fun i _ h => h) (fun _ _ h => h)) ?_
  clear K5
  refine Dr.takes (fuel' := 4) (is' := [2, 1, 0]) [0, 1, 2] [(0, (ptr p)), (1, (ptr c)), (3, (i64 0)), (10, (ptr p))] (by kernel_rfl) rfl (by kernel_rfl) ?_
  refine Dr.take (i := 3) (v := (i64 A)) (by kernel_rfl) (by kernel_rfl) (fun wz hS => Runs.load (t := 2) (a := ⟨p, 0, none⟩) (by kernel_rfl) ((Hp.keep hS (fun h => h)).loads (by kernel_rfl))) (d := (some 11)) (by kernel_rfl) rfl ?_
  refine Dr.take (i := 4) (v := (i64 x)) (by kernel_rfl) (by kernel_rfl) (fun wz hS => Runs.load (t := 2) (a := ⟨c, 0, none⟩) (by kernel_rfl) ((Hc.keep hS (fun h => h)).loads (by kernel_rfl))) (d := (some 12)) (by kernel_rfl) rfl ?_
  refine Dr.takes (fuel' := 0) (is' := [6, 5, 4, 3, 2, 1, 0]) [5, 6] [(0, (ptr p)), (1, (ptr c)), (3, (i64 0)), (7, (Value.bool (decide (A < x))))] (by kernel_rfl) rfl (by kernel_rfl) ?_
  refine Dr.done (by kernel_rfl) ?_
  refine q_cond (o := .tmp 7) (b := (decide (A < x))) (by kernel_rfl) rfl (fun h6 => ?_) (fun h6 => ?_)
  ·rw [h6]
   have p7 : A < x := of_decide_eq_true h6
   refine qs ?_
   refine qg ?_
   refine og 1 [(0, (ptr p)), (1, (ptr c)), (3, (i64 42))] 1 ?_
   refine od ?_
   refine q_ret (by kernel_rfl) ?_
   refine ⟨(i64 42), retv_tmp rfl rfl, ?_⟩
   have e : takeF x (A, O) = (42, (A, O)) := by unfold takeF; simp only; first | (rw [if_pos (by first | omega | (simp_all; done) | (simp_all; omega))]; done) | (rw [if_neg (by first | omega | (simp_all; done) | (simp_all; omega)), if_pos (by first | omega | (simp_all; done) | (simp_all; omega))]; done) | (rw [if_neg (by first | omega | (simp_all; done) | (simp_all; omega)), if_neg (by first | omega | (simp_all; done) | (simp_all; omega))]; done) | (rw [if_neg (by first | omega | (simp_all; done) | (simp_all; omega))]; done)
   rw [e]
   exact ⟨rfl, K0, Hp⟩
  ·rw [h6]
   have p8 : ¬ (A < x) := of_decide_eq_false h6
   refine q_skip (by kernel_rfl) ?_
   refine qs ?_
   refine q_draw (fun wz => Keeps (fun i => i = p) w4 wz) 9 (by kernel_rfl) (by kernel_rfl) (by kernel_rfl) (fun w9 K10 _ _ => ⟨(K10.mono (fun _ _ h => h.elim)), ?_⟩)
   replace K0 := K0.trans K10 (U := (fun i => i = p)) (fun i h1 h2 => h2) (fun i h1 h2 => by exact h2.elim)
   replace Hp := Hp.keep K10 (fun h => h)
   replace Hc := Hc.keep K10 (fun h => h)
   refine Dr.strong (S' := (fun wz => Keeps (fun i => i = p) w9 wz)) ((Keeps.refl w9).mono (fun _ _ h => h.elim)) (fun wz hx => K10.trans hx (fun i _ h => h.elim) (fun _ _ h => h)) ?_
   clear K10
   refine Dr.takes (fuel' := 6) (is' := [2, 1, 0]) [0, 1, 2] [(1, (ptr c)), (3, (i64 0)), (14, (ptr p)), (16, (ptr p))] (by kernel_rfl) rfl (by kernel_rfl) ?_
   refine Dr.take (i := 4) (v := (i64 x)) (by kernel_rfl) (by kernel_rfl) (fun wz hS => Runs.load (t := 2) (a := ⟨c, 0, none⟩) (by kernel_rfl) ((Hc.keep hS (by intro h; change c = p at h; omega)).loads (by kernel_rfl))) (d := (some 18)) (by kernel_rfl) rfl ?_
   refine Dr.go (i := 3) (v := (i64 A)) (by kernel_rfl) (by kernel_rfl) (Runs.load (t := 2) (a := ⟨p, 0, none⟩) (by kernel_rfl) (Hp.loads (by kernel_rfl))) (d := (some 17)) (by kernel_rfl) rfl ((Keeps.refl _).mono (fun _ _ h => h.elim)) ?_
   refine Dr.takes (fuel' := 3) (is' := [5, 3, 4, 2, 1, 0]) [5] [(3, (i64 0)), (14, (ptr p)), (19, (i64 (IntKind.i64.wrap (A - x))))] (by kernel_rfl) rfl (by kernel_rfl) ?_
   have e11 : IntKind.i64.wrap (A - x) = A - x := wrap_i64 (by omega) (by omega)
   rw [e11]
   refine Dr.takes (fuel' := 1) (is' := [7, 6, 5, 3, 4, 2, 1, 0]) [6, 7] [(3, (i64 0)), (19, (i64 (A - x))), (21, (ptr p))] (by kernel_rfl) rfl (by kernel_rfl) ?_
   refine Dr.put (i := 8) (t := 2) (b := p) (off := 0) (v := (i64 (A - x))) (ys := [(i64 (A - x)), (Value.string (str O))]) (by kernel_rfl) (by kernel_rfl) (by kernel_rfl) Hp (by kernel_rfl) (d := none) (by kernel_rfl) rfl (fun w12 H13 K14 => ?_)
   clear Hp
   replace K0 := K0.trans K14 (U := (fun i => i = p)) (fun i h1 h2 => h2) (fun i h1 h2 => by have h2 : i = p := h2; show i = p; omega)
   replace Hc := Hc.keep K14 (by intro h; change c = p at h; omega)
   refine ⟨K14, ?_⟩
   refine Dr.strong (S' := (fun wz => Keeps (fun i => i = p) w12 wz)) ((Keeps.refl w12).mono (fun _ _ h => h.elim)) (fun wz hx => K14.trans hx (fun i _ h => by have h : i = p := h; show i = p; omega) (fun _ _ h => h)) ?_
   clear K14
   refine Dr.done (by kernel_rfl) ?_
   refine qs ?_
   refine qg ?_
   refine og 1 [(3, (i64 0))] 1 ?_
   refine od ?_
   refine q_ret (by kernel_rfl) ?_
   refine ⟨(i64 0), retv_tmp rfl rfl, ?_⟩
   have e : takeF x (A, O) = (0, (A - x, O)) := by unfold takeF; simp only; first | (rw [if_pos (by first | omega | (simp_all; done) | (simp_all; omega))]; done) | (rw [if_neg (by first | omega | (simp_all; done) | (simp_all; omega)), if_pos (by first | omega | (simp_all; done) | (simp_all; omega))]; done) | (rw [if_neg (by first | omega | (simp_all; done) | (simp_all; omega)), if_neg (by first | omega | (simp_all; done) | (simp_all; omega))]; done) | (rw [if_neg (by first | omega | (simp_all; done) | (simp_all; omega))]; done)
   rw [e]
   exact ⟨rfl, K0, H13⟩

theorem ChgTake_none (w : World) (b mb : Nat) (m : List (List UInt8 × AccV)) (S : List AccM) (n : List UInt8) (c : Nat) (x : Int) (Hb : Has w b (rowL [.map (some mb)] 66)) (Hm : HasMap w mb kstr accv m) (hne : b ≠ mb) (hB : Book m S) (Hc : Has w c (rowL [(i64 x)] 2)) (hcb : c ≠ mb) (hcb2 : c ≠ b) (hx : -9223372036854775808 ≤ x ∧ x ≤ 9223372036854775807) (hg : getS S n = none) : Calls Tryz.prog 62 ⟨[(ptr b), (Value.string (str n)), (Value.func (Fn.func 69) ⟨[]⟩ ⟨[(ptr c)]⟩)]⟩ w (fun e w' => ∃ m', e = .returned (i64 (chgE (takeF x) S n)) ∧ Keeps (fun i => i = mb) w w' ∧ HasMap w' mb kstr accv m' ∧ Book m' (chgS (takeF x) S n)) := by
 have Hbl := Hb.lt
 have Hml := Hm.lt
 have hlen := hB.len
 have Hcl := Hc.lt
 have K0 : Keeps (fun i => i = mb) w w := (Keeps.refl w).mono (fun _ _ h => h.elim)
 have hgm : getM m n = none := by rw [hB.get, hg]; rfl
 refine q_calls Tryz.func62 (by kernel_rfl) (by kernel_rfl) ?_
 refine qs ?_
 refine qg ?_
 refine og 1 [(0, (ptr b)), (1, (Value.string (str n))), (2, (Value.func (Fn.func 69) ⟨[]⟩ ⟨[(ptr c)]⟩)), (6, (i64 0))] 1 ?_
 refine od ?_
 refine qs ?_
 refine qs ?_
 refine qg ?_
 refine og 2 [(0, (ptr b)), (1, (Value.string (str n))), (2, (Value.func (Fn.func 69) ⟨[]⟩ ⟨[(ptr c)]⟩)), (6, (i64 0)), (11, (Value.bool false))] 2 ?_
 refine od ?_
 refine q_else (o := .tmp 11) (by kernel_rfl) rfl ?_
 refine q_skip (by kernel_rfl) ?_
 refine qs ?_
 refine qg ?_
 refine og 3 [(0, (ptr b)), (1, (Value.string (str n))), (2, (Value.func (Fn.func 69) ⟨[]⟩ ⟨[(ptr c)]⟩)), (6, (i64 0)), (15, (ptr b))] 3 ?_
 refine Ops.go (v := (Value.map (some mb))) (by kernel_rfl) (Runs.load (t := 64) (a := ⟨b, 0, none⟩) (by kernel_rfl) (Hb.loads (by kernel_rfl))) (d := (some 16)) (by kernel_rfl) rfl ?_
 refine og 1 [(0, (ptr b)), (1, (Value.string (str n))), (2, (Value.func (Fn.func 69) ⟨[]⟩ ⟨[(ptr c)]⟩)), (6, (i64 0)), (16, (Value.map (some mb))), (17, (Value.string (str n)))] 5 ?_
 refine Ops.go (v := (Value.tuple #[(agg [(i64 0), (Value.string ByteArray.empty)]), (Value.bool false)])) (by kernel_rfl) (Runs.lookup_none (ok := true) (z := (agg [(i64 0), (Value.string ByteArray.empty)])) KT Tryz.underlying64 (by kernel_rfl) Hm hgm (by kernel_rfl)) (d := (some 18)) (by kernel_rfl) rfl ?_
 refine og 3 [(0, (ptr b)), (1, (Value.string (str n))), (2, (Value.func (Fn.func 69) ⟨[]⟩ ⟨[(ptr c)]⟩)), (6, (i64 0)), (19, (agg [(i64 0), (Value.string ByteArray.empty)])), (20, (Value.bool false))] 9 ?_
 refine Ops.new (o := rowL [(i64 0), (Value.string ByteArray.empty)] 70) (V := fun b => (ptr b)) (by kernel_rfl) (d := (some 7)) (by kernel_rfl) (fun b => rfl) (fun b1 w2 hb3 H4 K5 hs6 => ?_)
 have lb1b : b < b1 := by have := Hb.lt; omega
 have lb1mb : mb < b1 := by have := Hm.lt; omega
 have lb1c : c < b1 := by have := Hc.lt; omega
 have nb1 : w.heap.size ≤ b1 := by have := K0.size; omega
 replace K0 := K0.trans K5 (U := (fun i => i = mb)) (fun i h1 h2 => h2) (fun i h1 h2 => by exact h2.elim)
 replace Hb := Hb.keep K5 (fun h => h)
 replace Hm := Hm.keep K5 (fun h => h)
 replace Hc := Hc.keep K5 (fun h => h)
 clear K5 hs6
 refine Ops.put (t := 70) (b := b1) (off := 0) (v := (agg [(i64 0), (Value.string ByteArray.empty)])) (ys := [(i64 0), (Value.string ByteArray.empty)]) (by kernel_rfl) (by kernel_rfl) H4 (by kernel_rfl) (d := none) (by kernel_rfl) rfl (fun w7 H8 K9 => ?_)
 clear H4
 replace K0 := K0.trans K9 (U := (fun i => i = mb)) (fun i h1 h2 => h2) (fun i h1 h2 => by have h2 : i = b1 := h2; show i = mb; omega)
 replace Hb := Hb.keep K9 (by intro h; change b = b1 at h; omega)
 replace Hm := Hm.keep K9 (by intro h; change mb = b1 at h; omega)
 replace Hc := Hc.keep K9 (by intro h; change c = b1 at h; omega)
 clear K9
 refine og 1 [(0, (ptr b)), (1, (Value.string (str n))), (2, (Value.func (Fn.func 69) ⟨[]⟩ ⟨[(ptr c)]⟩)), (6, (i64 0)), (7, (ptr b1)), (8, (Value.bool false))] 12 ?_
 refine od ?_
 refine qs ?_
 refine qs ?_
 refine qg ?_
 refine og 2 [(0, (ptr b)), (1, (Value.string (str n))), (2, (Value.func (Fn.func 69) ⟨[]⟩ ⟨[(ptr c)]⟩)), (6, (i64 0)), (7, (ptr b1)), (22, (Value.bool true))] 2 ?_
 refine od ?_
 refine q_then (o := .tmp 22) (by kernel_rfl) rfl ?_
 refine qs ?_
 refine qg ?_
 refine og 1 [(0, (ptr b)), (1, (Value.string (str n))), (2, (Value.func (Fn.func 69) ⟨[]⟩ ⟨[(ptr c)]⟩)), (6, (i64 40)), (7, (ptr b1))] 1 ?_
 refine od ?_
 refine q_ret (by kernel_rfl) ?_
 refine ⟨(i64 40), retv_tmp rfl rfl, ?_⟩
 exact ⟨m, by unfold chgE; rw [hg], K0, Hm, hB.none hg⟩

theorem ChgTake_some (w : World) (b mb : Nat) (m : List (List UInt8 × AccV)) (S : List AccM) (n : List UInt8) (c : Nat) (x : Int) (Hb : Has w b (rowL [.map (some mb)] 66)) (Hm : HasMap w mb kstr accv m) (hne : b ≠ mb) (hB : Book m S) (Hc : Has w c (rowL [(i64 x)] 2)) (hcb : c ≠ mb) (hcb2 : c ≠ b) (hx : -9223372036854775808 ≤ x ∧ x ≤ 9223372036854775807) (a : AccM) (hg : getS S n = some a) : Calls Tryz.prog 62 ⟨[(ptr b), (Value.string (str n)), (Value.func (Fn.func 69) ⟨[]⟩ ⟨[(ptr c)]⟩)]⟩ w (fun e w' => ∃ m', e = .returned (i64 (chgE (takeF x) S n)) ∧ Keeps (fun i => i = mb) w w' ∧ HasMap w' mb kstr accv m' ∧ Book m' (chgS (takeF x) S n)) := by
 have Hbl := Hb.lt
 have Hml := Hm.lt
 have hlen := hB.len
 have Hcl := Hc.lt
 have K0 : Keeps (fun i => i = mb) w w := (Keeps.refl w).mono (fun _ _ h => h.elim)
 have hgm : getM m n = some (a.amt, a.own) := by rw [hB.get, hg]; rfl
 have hao := hB.accs.ok a (getS_some hg).1
 have ha1 := hao.lo
 have ha2 := hao.hi
 refine q_calls Tryz.func62 (by kernel_rfl) (by kernel_rfl) ?_
 refine qs ?_
 refine qg ?_
 refine og 1 [(0, (ptr b)), (1, (Value.string (str n))), (2, (Value.func (Fn.func 69) ⟨[]⟩ ⟨[(ptr c)]⟩)), (6, (i64 0))] 1 ?_
 refine od ?_
 refine qs ?_
 refine qs ?_
 refine qg ?_
 refine og 2 [(0, (ptr b)), (1, (Value.string (str n))), (2, (Value.func (Fn.func 69) ⟨[]⟩ ⟨[(ptr c)]⟩)), (6, (i64 0)), (11, (Value.bool false))] 2 ?_
 refine od ?_
 refine q_else (o := .tmp 11) (by kernel_rfl) rfl ?_
 refine q_skip (by kernel_rfl) ?_
 refine qs ?_
 refine qg ?_
 refine og 3 [(0, (ptr b)), (1, (Value.string (str n))), (2, (Value.func (Fn.func 69) ⟨[]⟩ ⟨[(ptr c)]⟩)), (6, (i64 0)), (15, (ptr b))] 3 ?_
 refine Ops.go (v := (Value.map (some mb))) (by kernel_rfl) (Runs.load (t := 64) (a := ⟨b, 0, none⟩) (by kernel_rfl) (Hb.loads (by kernel_rfl))) (d := (some 16)) (by kernel_rfl) rfl ?_
 refine og 1 [(0, (ptr b)), (1, (Value.string (str n))), (2, (Value.func (Fn.func 69) ⟨[]⟩ ⟨[(ptr c)]⟩)), (6, (i64 0)), (16, (Value.map (some mb))), (17, (Value.string (str n)))] 5 ?_
 refine Ops.go (v := (Value.tuple #[(agg [(i64 a.amt), (Value.string (str a.own))]), (Value.bool true)])) (by kernel_rfl) (Runs.lookup_some (ok := true) (vf := accv) (a := (a.amt, a.own)) KT Tryz.underlying64 Hm hgm (by kernel_rfl)) (d := (some 18)) (by kernel_rfl) rfl ?_
 refine og 3 [(0, (ptr b)), (1, (Value.string (str n))), (2, (Value.func (Fn.func 69) ⟨[]⟩ ⟨[(ptr c)]⟩)), (6, (i64 0)), (19, (agg [(i64 a.amt), (Value.string (str a.own))])), (20, (Value.bool true))] 9 ?_
 refine Ops.new (o := rowL [(i64 0), (Value.string ByteArray.empty)] 70) (V := fun b => (ptr b)) (by kernel_rfl) (d := (some 7)) (by kernel_rfl) (fun b => rfl) (fun b1 w2 hb3 H4 K5 hs6 => ?_)
 have lb1b : b < b1 := by have := Hb.lt; omega
 have lb1mb : mb < b1 := by have := Hm.lt; omega
 have lb1c : c < b1 := by have := Hc.lt; omega
 have nb1 : w.heap.size ≤ b1 := by have := K0.size; omega
 replace K0 := K0.trans K5 (U := (fun i => i = mb)) (fun i h1 h2 => h2) (fun i h1 h2 => by exact h2.elim)
 replace Hb := Hb.keep K5 (fun h => h)
 replace Hm := Hm.keep K5 (fun h => h)
 replace Hc := Hc.keep K5 (fun h => h)
 clear K5 hs6
 refine Ops.put (t := 70) (b := b1) (off := 0) (v := (agg [(i64 a.amt), (Value.string (str a.own))])) (ys := [(i64 a.amt), (Value.string (str a.own))]) (by kernel_rfl) (by kernel_rfl) H4 (by kernel_rfl) (d := none) (by kernel_rfl) rfl (fun w7 H8 K9 => ?_)
 clear H4
 replace K0 := K0.trans K9 (U := (fun i => i = mb)) (fun i h1 h2 => h2) (fun i h1 h2 => by have h2 : i = b1 := h2; show i = mb; omega)
 replace Hb := Hb.keep K9 (by intro h; change b = b1 at h; omega)
 replace Hm := Hm.keep K9 (by intro h; change mb = b1 at h; omega)
 replace Hc := Hc.keep K9 (by intro h; change c = b1 at h; omega)
 clear K9
 refine og 1 [(0, (ptr b)), (1, (Value.string (str n))), (2, (Value.func (Fn.func 69) ⟨[]⟩ ⟨[(ptr c)]⟩)), (6, (i64 0)), (7, (ptr b1)), (8, (Value.bool true))] 12 ?_
 refine od ?_
 refine qs ?_
 refine qs ?_
 refine qg ?_
 refine og 2 [(0, (ptr b)), (1, (Value.string (str n))), (2, (Value.func (Fn.func 69) ⟨[]⟩ ⟨[(ptr c)]⟩)), (6, (i64 0)), (7, (ptr b1)), (22, (Value.bool false))] 2 ?_
 refine od ?_
 refine q_else (o := .tmp 22) (by kernel_rfl) rfl ?_
 refine q_skip (by kernel_rfl) ?_
 refine qs ?_
 refine qg ?_
 refine og 1 [(0, (ptr b)), (1, (Value.string (str n))), (6, (i64 0)), (7, (ptr b1)), (23, (Value.func (Fn.func 69) ⟨[]⟩ ⟨[(ptr c)]⟩))] 1 ?_
 refine Ops.call (by kernel_rfl) (d := (some 24)) (by kernel_rfl) (Take1_calls _ b1 c a.amt a.own x H8 Hc (by omega) (by omega) (by omega)) ?_
 rintro _ w10 ⟨rfl, K11, H12⟩
 refine ⟨_, _, rfl, rfl, ?_⟩
 replace K0 := K0.trans K11 (U := (fun i => i = mb)) (fun i h1 h2 => h2) (fun i h1 h2 => by have h2 : i = b1 := h2; show i = mb; omega)
 replace Hb := Hb.keep K11 (by intro h; change b = b1 at h; omega)
 replace Hm := Hm.keep K11 (by intro h; change mb = b1 at h; omega)
 replace Hc := Hc.keep K11 (by intro h; change c = b1 at h; omega)
 clear K11
 refine og 1 [(0, (ptr b)), (1, (Value.string (str n))), (6, (i64 0)), (7, (ptr b1)), (9, (i64 ((takeF x (a.amt, a.own)).1)))] 3 ?_
 refine od ?_
 refine qs ?_
 refine q_draw (fun wz => Keeps (fun i => i = mb) w10 wz) 7 (by kernel_rfl) (by kernel_rfl) (by kernel_rfl) (fun w13 K14 _ _ => ⟨(K14.mono (fun _ _ h => h.elim)), ?_⟩)
 replace K0 := K0.trans K14 (U := (fun i => i = mb)) (fun i h1 h2 => h2) (fun i h1 h2 => by exact h2.elim)
 replace Hb := Hb.keep K14 (fun h => h)
 replace Hm := Hm.keep K14 (fun h => h)
 replace Hc := Hc.keep K14 (fun h => h)
 replace H12 := H12.keep K14 (fun h => h)
 refine Dr.strong (S' := (fun wz => Keeps (fun i => i = mb) w13 wz)) ((Keeps.refl w13).mono (fun _ _ h => h.elim)) (fun wz hx => K14.trans hx (fun i _ h => h.elim) (fun _ _ h => h)) ?_
 clear K14
 refine Dr.takes (fuel' := 4) (is' := [2, 1, 0]) [0, 1, 2] [(1, (Value.string (str n))), (6, (i64 0)), (7, (ptr b1)), (9, (i64 ((takeF x (a.amt, a.own)).1))), (27, (ptr b))] (by kernel_rfl) rfl (by kernel_rfl) ?_
 refine Dr.take (i := 3) (v := (Value.map (some mb))) (by kernel_rfl) (by kernel_rfl) (fun wz hS => Runs.load (t := 64) (a := ⟨b, 0, none⟩) (by kernel_rfl) ((Hb.keep hS (by intro h; change b = mb at h; omega)).loads (by kernel_rfl))) (d := (some 28)) (by kernel_rfl) rfl ?_
 refine Dr.takes (fuel' := 2) (is' := [4, 3, 2, 1, 0]) [4] [(6, (i64 0)), (7, (ptr b1)), (9, (i64 ((takeF x (a.amt, a.own)).1))), (28, (Value.map (some mb))), (29, (Value.string (str n)))] (by kernel_rfl) rfl (by kernel_rfl) ?_
 refine Dr.take (i := 5) (v := (agg [(i64 ((takeF x (a.amt, a.own)).2.1)), (Value.string (str ((takeF x (a.amt, a.own)).2.2)))])) (by kernel_rfl) (by kernel_rfl) (fun wz hS => Runs.load (t := 70) (a := ⟨b1, 0, none⟩) (by kernel_rfl) ((H12.keep hS (by intro h; change b1 = mb at h; omega)).loads (by kernel_rfl))) (d := (some 30)) (by kernel_rfl) rfl ?_
 obtain ⟨w15, hr16, K17, H18⟩ := HasMap.update KT Tryz.underlying64 Hm n ((takeF x (a.amt, a.own)).2.1, ((takeF x (a.amt, a.own)).2.2))
 refine Dr.goU (i := 6) (by kernel_rfl) (by kernel_rfl) (RunsU.of_update (by kernel_rfl) hr16) (d := none) (by kernel_rfl) rfl K17 ?_
 clear Hm
 replace K0 := K0.trans K17 (U := (fun i => i = mb)) (fun i h1 h2 => h2) (fun i h1 h2 => by have h2 : i = mb := h2; show i = mb; omega)
 replace Hb := Hb.keep K17 (by intro h; change b = mb at h; omega)
 replace Hc := Hc.keep K17 (by intro h; change c = mb at h; omega)
 replace H12 := H12.keep K17 (by intro h; change b1 = mb at h; omega)
 refine Dr.strong (S' := (fun wz => Keeps (fun i => i = mb) w15 wz)) ((Keeps.refl w15).mono (fun _ _ h => h.elim)) (fun wz hx => K17.trans hx (fun i _ h => by have h : i = mb := h; show i = mb; omega) (fun _ _ h => h)) ?_
 clear K17 hr16
 refine Dr.done (by kernel_rfl) ?_
 refine qs ?_
 refine qg ?_
 refine og 2 [(6, (i64 ((takeF x (a.amt, a.own)).1)))] 2 ?_
 refine od ?_
 refine q_ret (by kernel_rfl) ?_
 refine ⟨(i64 ((takeF x (a.amt, a.own)).1)), retv_tmp rfl rfl, ?_⟩
 exact ⟨_, by unfold chgE; rw [hg], K0, H18, hB.chg (calm_take x) hg⟩

theorem ChgTake_calls (w : World) (b mb : Nat) (m : List (List UInt8 × AccV)) (S : List AccM) (n : List UInt8) (c : Nat) (x : Int) (Hb : Has w b (rowL [.map (some mb)] 66)) (Hm : HasMap w mb kstr accv m) (hne : b ≠ mb) (hB : Book m S) (Hc : Has w c (rowL [(i64 x)] 2)) (hcb : c ≠ mb) (hcb2 : c ≠ b) (hx : -9223372036854775808 ≤ x ∧ x ≤ 9223372036854775807) : Calls Tryz.prog 62 ⟨[(ptr b), (Value.string (str n)), (Value.func (Fn.func 69) ⟨[]⟩ ⟨[(ptr c)]⟩)]⟩ w (fun e w' => ∃ m', e = .returned (i64 (chgE (takeF x) S n)) ∧ Keeps (fun i => i = mb) w w' ∧ HasMap w' mb kstr accv m' ∧ Book m' (chgS (takeF x) S n)) := by
 cases hg : getS S n with
 | none => exact ChgTake_none w b mb m S n c x Hb Hm hne hB Hc hcb hcb2 hx hg
 | some a => exact ChgTake_some w b mb m S n c x Hb Hm hne hB Hc hcb hcb2 hx a hg

theorem Take_calls (w : World) (b mb : Nat) (m : List (List UInt8 × AccV)) (S : List AccM) (n : List UInt8) (x : Int) (Hb : Has w b (rowL [.map (some mb)] 66)) (Hm : HasMap w mb kstr accv m) (hne : b ≠ mb) (hB : Book m S) (hx : -9223372036854775808 ≤ x ∧ x ≤ 9223372036854775807) : Calls Tryz.prog 29 ⟨[(ptr b), (Value.string (str n)), (i64 x)]⟩ w (fun e w' => ∃ m', e = .returned (i64 (chgE (takeF x) S n)) ∧ Keeps (fun i => i = mb) w w' ∧ HasMap w' mb kstr accv m' ∧ Book m' (chgS (takeF x) S n)) := by
 have Hbl := Hb.lt
 have Hml := Hm.lt
 have hlen := hB.len
 have K0 : Keeps (fun i => i = mb) w w := (Keeps.refl w).mono (fun _ _ h => h.elim)
 refine q_calls Tryz.func29 (by kernel_rfl) (by kernel_rfl) ?_
 refine qs ?_
 refine qg ?_
 refine Ops.new (o := rowL [(i64 x)] 2) (V := fun b => (ptr b)) (by kernel_rfl) (d := (some 5)) (by kernel_rfl) (fun b => rfl) (fun b1 w2 hb3 H4 K5 hs6 => ?_)
 have lb1b : b < b1 := by have := Hb.lt; omega
 have lb1mb : mb < b1 := by have := Hm.lt; omega
 have nb1 : w.heap.size ≤ b1 := by have := K0.size; omega
 replace K0 := K0.trans K5 (U := (fun i => i = mb)) (fun i h1 h2 => h2) (fun i h1 h2 => by exact h2.elim)
 replace Hb := Hb.keep K5 (fun h => h)
 replace Hm := Hm.keep K5 (fun h => h)
 clear K5 hs6
 refine og 1 [(0, (ptr b)), (1, (Value.string (str n))), (5, (ptr b1)), (6, (i64 0))] 2 ?_
 refine od ?_
 refine qs ?_
 refine qg ?_
 refine og 3 [(6, (i64 0)), (7, (ptr b)), (8, (Value.string (str n))), (9, (Value.func (Fn.func 69) ⟨[]⟩ ⟨[(ptr b1)]⟩))] 3 ?_
 refine Ops.call (by kernel_rfl) (d := (some 10)) (by kernel_rfl) (ChgTake_calls _ b mb m S n b1 x Hb Hm (by omega) hB H4 (by omega) (by omega) (by omega)) ?_
 rintro _ w8 ⟨m7, rfl, K9, H10, hB11⟩
 have hl12 := hB11.len
 refine ⟨_, _, rfl, rfl, ?_⟩
 replace K0 := K0.trans K9 (U := (fun i => i = mb)) (fun i h1 h2 => h2) (fun i h1 h2 => by have h2 : i = mb := h2; show i = mb; omega)
 replace Hb := Hb.keep K9 (by intro h; change b = mb at h; omega)
 replace H4 := H4.keep K9 (by intro h; change b1 = mb at h; omega)
 clear K9
 refine og 1 [(6, (i64 (chgE (takeF x) S n)))] 5 ?_
 refine od ?_
 refine q_ret (by kernel_rfl) ?_
 refine ⟨(i64 (chgE (takeF x) S n)), retv_tmp rfl rfl, ?_⟩
 exact ⟨_, rfl, K0, H10, hB11⟩

theorem Hold1_calls (w : World) (p c : Nat) (A : Int) (O : List UInt8) (x : List UInt8) (Hp : Has w p (rowL [i64 A, .string (str O)] 70)) (Hc : Has w c (rowL [(Value.string (str x))] 9)) (hpc : p ≠ c) (hA : 0 ≤ A ∧ A ≤ 9223372036854775807)  : Calls Tryz.prog 63 ⟨[(ptr p), (ptr c)]⟩ w (fun e w' => e = .returned (i64 (holdF x (A, O)).1) ∧ Keeps (fun i => i = p) w w' ∧ Has w' p (rowL [i64 (holdF x (A, O)).2.1, .string (str (holdF x (A, O)).2.2)] 70)) := by
 have Hpl := Hp.lt
 have Hcl := Hc.lt
 have K0 : Keeps (fun i => i = p) w w := (Keeps.refl w).mono (fun _ _ h => h.elim)
 refine q_calls Tryz.func63 (by kernel_rfl) (by kernel_rfl) ?_
 refine qs ?_
 refine qg ?_
 refine og 1 [(0, (ptr p)), (1, (ptr c)), (3, (i64 0))] 1 ?_
 refine od ?_
 refine qs ?_
 refine q_block (id := 0) (by kernel_rfl) ?_
 refine qs ?_
 refine qg ?_
 refine Ops.go (v := (Value.string (str x))) (by kernel_rfl) (Runs.load (t := 9) (a := ⟨c, 0, none⟩) (by kernel_rfl) (Hc.loads (by kernel_rfl))) (d := (some 5)) (by kernel_rfl) rfl ?_
 refine Ops.go (v := (Value.bool (x == ([] : List UInt8)))) (by kernel_rfl) (Runs.streq (t := 9) (by kernel_rfl)) (d := (some 6)) (by kernel_rfl) rfl ?_
 refine og 1 [(0, (ptr p)), (1, (ptr c)), (3, (i64 0)), (7, (Value.bool (x == ([] : List UInt8))))] 3 ?_
 refine Ops.split (x == ([] : List UInt8)) (fun h1 => ?_) (fun h1 => ?_)
 ·rw [h1]
  have p2 : (x == ([] : List UInt8)) = true := h1
  refine og 5 [(0, (ptr p)), (1, (ptr c)), (3, (i64 0)), (4, (Value.bool true))] 8 ?_
  refine od ?_
  refine q_then (o := .tmp 4) (by kernel_rfl) rfl ?_
  refine qs ?_
  refine qg ?_
  refine og 1 [(0, (ptr p)), (1, (ptr c)), (3, (i64 1))] 1 ?_
  refine od ?_
  refine q_ret (by kernel_rfl) ?_
  refine ⟨(i64 1), retv_tmp rfl rfl, ?_⟩
  have e : holdF x (A, O) = (1, (A, O)) := by unfold holdF; simp only; first | (rw [if_pos (by first | omega | (simp_all; done) | (simp_all; omega))]; done) | (rw [if_neg (by first | omega | (simp_all; done) | (simp_all; omega)), if_pos (by first | omega | (simp_all; done) | (simp_all; omega))]; done) | (rw [if_neg (by first | omega | (simp_all; done) | (simp_all; omega)), if_neg (by first | omega | (simp_all; done) | (simp_all; omega))]; done) | (rw [if_neg (by first | omega | (simp_all; done) | (simp_all; omega))]; done)
  rw [e]
  exact ⟨rfl, K0, Hp⟩
 ·rw [h1]
  have p3 : (x == ([] : List UInt8)) = false := h1
  refine Ops.go (v := (Value.string (str x))) (by kernel_rfl) (Runs.load (t := 9) (a := ⟨c, 0, none⟩) (by kernel_rfl) (Hc.loads (by kernel_rfl))) (d := (some 8)) (by kernel_rfl) rfl ?_
  refine og 4 [(0, (ptr p)), (1, (ptr c)), (3, (i64 0)), (4, (Value.bool (decide (((x.length : Nat) : Int) > 65536))))] 8 ?_
  refine od ?_
  refine q_cond (o := .tmp 4) (b := (decide (((x.length : Nat) : Int) > 65536))) (by kernel_rfl) rfl (fun h4 => ?_) (fun h4 => ?_)
  ·rw [h4]
   have p5 : ((x.length : Nat) : Int) > 65536 := of_decide_eq_true h4
   refine qs ?_
   refine qg ?_
   refine og 1 [(0, (ptr p)), (1, (ptr c)), (3, (i64 1))] 1 ?_
   refine od ?_
   refine q_ret (by kernel_rfl) ?_
   refine ⟨(i64 1), retv_tmp rfl rfl, ?_⟩
   have e : holdF x (A, O) = (1, (A, O)) := by unfold holdF; simp only; first | (rw [if_pos (by first | omega | (simp_all; done) | (simp_all; omega))]; done) | (rw [if_neg (by first | omega | (simp_all; done) | (simp_all; omega)), if_pos (by first | omega | (simp_all; done) | (simp_all; omega))]; done) | (rw [if_neg (by first | omega | (simp_all; done) | (simp_all; omega)), if_neg (by first | omega | (simp_all; done) | (simp_all; omega))]; done) | (rw [if_neg (by first | omega | (simp_all; done) | (simp_all; omega))]; done)
   rw [e]
   exact ⟨rfl, K0, Hp⟩
  ·rw [h4]
   have p6 : ¬ (((x.length : Nat) : Int) > 65536) := of_decide_eq_false h4
   refine qs ?_
   refine q_draw (fun wz => Keeps none_ w wz) 14 (by kernel_rfl) (by kernel_rfl) (by kernel_rfl) (fun w7 K8 _ _ => ⟨K8, ?_⟩)
   replace K0 := K0.trans K8 (U := (fun i => i = p)) (fun i h1 h2 => h2) (fun i h1 h2 => by exact h2.elim)
   replace Hp := Hp.keep K8 (fun h => h)
   replace Hc := Hc.keep K8 (fun h => h)
   refine Dr.strong (S' := (fun wz => Keeps none_ w7 wz)) (Keeps.refl w7) (fun wz hx => K8.trans hx (fun i _ h => h) (fun _ _ h => h)) ?_
   clear K8
   refine Dr.takes (fuel' := 11) (is' := [2, 1, 0]) [0, 1, 2] [(0, (ptr p)), (1, (ptr c)), (3, (i64 0)), (15, (Value.pointer (some ⟨p, 1, none⟩)))] (by kernel_rfl) rfl (by kernel_rfl) ?_
   refine Dr.take (i := 3) (v := (Value.string (str O))) (by kernel_rfl) (by kernel_rfl) (fun wz hS => Runs.load (t := 9) (a := ⟨p, 1, none⟩) (by kernel_rfl) ((Hp.keep hS (fun h => h)).loads (by kernel_rfl))) (d := (some 16)) (by kernel_rfl) rfl ?_
   refine Dr.take (i := 4) (v := (Value.bool (!(O == ([] : List UInt8))))) (by kernel_rfl) (by kernel_rfl) (fun wz hS => Runs.strne (t := 9) (by kernel_rfl)) (d := (some 17)) (by kernel_rfl) rfl ?_
   refine Dr.takes (fuel' := 8) (is' := [5, 4, 3, 2, 1, 0]) [5] [(0, (ptr p)), (1, (ptr c)), (3, (i64 0)), (18, (Value.bool (!(O == ([] : List UInt8)))))] (by kernel_rfl) rfl (by kernel_rfl) ?_
   refine Dr.split (!(O == ([] : List UInt8))) (fun h9 => ?_) (fun h9 => ?_)
   ·rw [h9]
    have p10 : (O == ([] : List UInt8)) = false := (bnot_true h9)
    refine Dr.takes (fuel' := 5) (is' := [8, 7, 6, 5, 4, 3, 2, 1, 0]) [6, 7, 8] [(0, (ptr p)), (1, (ptr c)), (3, (i64 0)), (18, (Value.bool true)), (21, (Value.pointer (some ⟨p, 1, none⟩)))] (by kernel_rfl) rfl (by kernel_rfl) ?_
    refine Dr.take (i := 9) (v := (Value.string (str O))) (by kernel_rfl) (by kernel_rfl) (fun wz hS => Runs.load (t := 9) (a := ⟨p, 1, none⟩) (by kernel_rfl) ((Hp.keep hS (fun h => h)).loads (by kernel_rfl))) (d := (some 22)) (by kernel_rfl) rfl ?_
    refine Dr.take (i := 10) (v := (Value.string (str x))) (by kernel_rfl) (by kernel_rfl) (fun wz hS => Runs.load (t := 9) (a := ⟨c, 0, none⟩) (by kernel_rfl) ((Hc.keep hS (fun h => h)).loads (by kernel_rfl))) (d := (some 23)) (by kernel_rfl) rfl ?_
    refine Dr.take (i := 11) (v := (Value.bool (!(O == x)))) (by kernel_rfl) (by kernel_rfl) (fun wz hS => Runs.strne (t := 9) (by kernel_rfl)) (d := (some 24)) (by kernel_rfl) rfl ?_
    refine Dr.takes (fuel' := 0) (is' := [13, 12, 11, 10, 9, 8, 7, 6, 5, 4, 3, 2, 1, 0]) [12, 13] [(0, (ptr p)), (1, (ptr c)), (3, (i64 0)), (12, (Value.bool (!(O == x))))] (by kernel_rfl) rfl (by kernel_rfl) ?_
    refine Dr.done (by kernel_rfl) ?_
    refine q_cond (o := .tmp 12) (b := (!(O == x))) (by kernel_rfl) rfl (fun h11 => ?_) (fun h11 => ?_)
    ·rw [h11]
     have p12 : (O == x) = false := (bnot_true h11)
     refine qs ?_
     refine qg ?_
     refine og 1 [(0, (ptr p)), (1, (ptr c)), (3, (i64 5))] 1 ?_
     refine od ?_
     refine q_ret (by kernel_rfl) ?_
     refine ⟨(i64 5), retv_tmp rfl rfl, ?_⟩
     have e : holdF x (A, O) = (5, (A, O)) := by unfold holdF; simp only; first | (rw [if_pos (by first | omega | (simp_all; done) | (simp_all; omega))]; done) | (rw [if_neg (by first | omega | (simp_all; done) | (simp_all; omega)), if_pos (by first | omega | (simp_all; done) | (simp_all; omega))]; done) | (rw [if_neg (by first | omega | (simp_all; done) | (simp_all; omega)), if_neg (by first | omega | (simp_all; done) | (simp_all; omega))]; done) | (rw [if_neg (by first | omega | (simp_all; done) | (simp_all; omega))]; done)
     rw [e]
     exact ⟨rfl, K0, Hp⟩
    ·rw [h11]
     have p13 : (O == x) = true := (bnot_false h11)
     refine q_skip (by kernel_rfl) ?_
     refine qs ?_
     refine qg ?_
     refine og 1 [(1, (ptr c)), (3, (i64 0)), (26, (ptr p))] 1 ?_
     refine Ops.go (v := (Value.string (str x))) (by kernel_rfl) (Runs.load (t := 9) (a := ⟨c, 0, none⟩) (by kernel_rfl) (Hc.loads (by kernel_rfl))) (d := (some 27)) (by kernel_rfl) rfl ?_
     refine og 2 [(3, (i64 0)), (27, (Value.string (str x))), (29, (Value.pointer (some ⟨p, 1, none⟩)))] 4 ?_
     refine Ops.put (t := 9) (b := p) (off := 1) (v := (Value.string (str x))) (ys := [(i64 A), (Value.string (str x))]) (by kernel_rfl) (by kernel_rfl) Hp (by kernel_rfl) (d := none) (by kernel_rfl) rfl (fun w14 H15 K16 => ?_)
     clear Hp
     replace K0 := K0.trans K16 (U := (fun i => i = p)) (fun i h1 h2 => h2) (fun i h1 h2 => by have h2 : i = p := h2; show i = p; omega)
     replace Hc := Hc.keep K16 (by intro h; change c = p at h; omega)
     clear K16
     refine od ?_
     refine qs ?_
     refine qg ?_
     refine og 1 [(3, (i64 0))] 1 ?_
     refine od ?_
     refine q_ret (by kernel_rfl) ?_
     refine ⟨(i64 0), retv_tmp rfl rfl, ?_⟩
     have e : holdF x (A, O) = (0, (A, x)) := by unfold holdF; simp only; first | (rw [if_pos (by first | omega | (simp_all; done) | (simp_all; omega))]; done) | (rw [if_neg (by first | omega | (simp_all; done) | (simp_all; omega)), if_pos (by first | omega | (simp_all; done) | (simp_all; omega))]; done) | (rw [if_neg (by first | omega | (simp_all; done) | (simp_all; omega)), if_neg (by first | omega | (simp_all; done) | (simp_all; omega))]; done) | (rw [if_neg (by first | omega | (simp_all; done) | (simp_all; omega))]; done)
     rw [e]
     exact ⟨rfl, K0, H15⟩
   ·rw [h9]
    have p17 : (O == ([] : List UInt8)) = true := (bnot_false h9)
    refine Dr.takes (fuel' := 0) (is' := [13, 12, 11, 10, 9, 8, 7, 6, 5, 4, 3, 2, 1, 0]) [6, 7, 8, 9, 10, 11, 12, 13] [(0, (ptr p)), (1, (ptr c)), (3, (i64 0)), (12, (Value.bool false))] (by kernel_rfl) rfl (by kernel_rfl) ?_
    refine Dr.done (by kernel_rfl) ?_
    refine q_else (o := .tmp 12) (by kernel_rfl) rfl ?_
    refine q_skip (by kernel_rfl) ?_
    refine qs ?_
    refine qg ?_
    refine og 1 [(1, (ptr c)), (3, (i64 0)), (26, (ptr p))] 1 ?_
    refine Ops.go (v := (Value.string (str x))) (by kernel_rfl) (Runs.load (t := 9) (a := ⟨c, 0, none⟩) (by kernel_rfl) (Hc.loads (by kernel_rfl))) (d := (some 27)) (by kernel_rfl) rfl ?_
    refine og 2 [(3, (i64 0)), (27, (Value.string (str x))), (29, (Value.pointer (some ⟨p, 1, none⟩)))] 4 ?_
    refine Ops.put (t := 9) (b := p) (off := 1) (v := (Value.string (str x))) (ys := [(i64 A), (Value.string (str x))]) (by kernel_rfl) (by kernel_rfl) Hp (by kernel_rfl) (d := none) (by kernel_rfl) rfl (fun w18 H19 K20 => ?_)
    clear Hp
    replace K0 := K0.trans K20 (U := (fun i => i = p)) (fun i h1 h2 => h2) (fun i h1 h2 => by have h2 : i = p := h2; show i = p; omega)
    replace Hc := Hc.keep K20 (by intro h; change c = p at h; omega)
    clear K20
    refine od ?_
    refine qs ?_
    refine qg ?_
    refine og 1 [(3, (i64 0))] 1 ?_
    refine od ?_
    refine q_ret (by kernel_rfl) ?_
    refine ⟨(i64 0), retv_tmp rfl rfl, ?_⟩
    have e : holdF x (A, O) = (0, (A, x)) := by unfold holdF; simp only; first | (rw [if_pos (by first | omega | (simp_all; done) | (simp_all; omega))]; done) | (rw [if_neg (by first | omega | (simp_all; done) | (simp_all; omega)), if_pos (by first | omega | (simp_all; done) | (simp_all; omega))]; done) | (rw [if_neg (by first | omega | (simp_all; done) | (simp_all; omega)), if_neg (by first | omega | (simp_all; done) | (simp_all; omega))]; done) | (rw [if_neg (by first | omega | (simp_all; done) | (simp_all; omega))]; done)
    rw [e]
    exact ⟨rfl, K0, H19⟩

theorem ChgHold_none (w : World) (b mb : Nat) (m : List (List UInt8 × AccV)) (S : List AccM) (n : List UInt8) (c : Nat) (x : List UInt8) (Hb : Has w b (rowL [.map (some mb)] 66)) (Hm : HasMap w mb kstr accv m) (hne : b ≠ mb) (hB : Book m S) (Hc : Has w c (rowL [(Value.string (str x))] 9)) (hcb : c ≠ mb) (hcb2 : c ≠ b)  (hg : getS S n = none) : Calls Tryz.prog 62 ⟨[(ptr b), (Value.string (str n)), (Value.func (Fn.func 63) ⟨[]⟩ ⟨[(ptr c)]⟩)]⟩ w (fun e w' => ∃ m', e = .returned (i64 (chgE (holdF x) S n)) ∧ Keeps (fun i => i = mb) w w' ∧ HasMap w' mb kstr accv m' ∧ Book m' (chgS (holdF x) S n)) := by
 have Hbl := Hb.lt
 have Hml := Hm.lt
 have hlen := hB.len
 have Hcl := Hc.lt
 have K0 : Keeps (fun i => i = mb) w w := (Keeps.refl w).mono (fun _ _ h => h.elim)
 have hgm : getM m n = none := by rw [hB.get, hg]; rfl
 refine q_calls Tryz.func62 (by kernel_rfl) (by kernel_rfl) ?_
 refine qs ?_
 refine qg ?_
 refine og 1 [(0, (ptr b)), (1, (Value.string (str n))), (2, (Value.func (Fn.func 63) ⟨[]⟩ ⟨[(ptr c)]⟩)), (6, (i64 0))] 1 ?_
 refine od ?_
 refine qs ?_
 refine qs ?_
 refine qg ?_
 refine og 2 [(0, (ptr b)), (1, (Value.string (str n))), (2, (Value.func (Fn.func 63) ⟨[]⟩ ⟨[(ptr c)]⟩)), (6, (i64 0)), (11, (Value.bool false))] 2 ?_
 refine od ?_
 refine q_else (o := .tmp 11) (by kernel_rfl) rfl ?_
 refine q_skip (by kernel_rfl) ?_
 refine qs ?_
 refine qg ?_
 refine og 3 [(0, (ptr b)), (1, (Value.string (str n))), (2, (Value.func (Fn.func 63) ⟨[]⟩ ⟨[(ptr c)]⟩)), (6, (i64 0)), (15, (ptr b))] 3 ?_
 refine Ops.go (v := (Value.map (some mb))) (by kernel_rfl) (Runs.load (t := 64) (a := ⟨b, 0, none⟩) (by kernel_rfl) (Hb.loads (by kernel_rfl))) (d := (some 16)) (by kernel_rfl) rfl ?_
 refine og 1 [(0, (ptr b)), (1, (Value.string (str n))), (2, (Value.func (Fn.func 63) ⟨[]⟩ ⟨[(ptr c)]⟩)), (6, (i64 0)), (16, (Value.map (some mb))), (17, (Value.string (str n)))] 5 ?_
 refine Ops.go (v := (Value.tuple #[(agg [(i64 0), (Value.string ByteArray.empty)]), (Value.bool false)])) (by kernel_rfl) (Runs.lookup_none (ok := true) (z := (agg [(i64 0), (Value.string ByteArray.empty)])) KT Tryz.underlying64 (by kernel_rfl) Hm hgm (by kernel_rfl)) (d := (some 18)) (by kernel_rfl) rfl ?_
 refine og 3 [(0, (ptr b)), (1, (Value.string (str n))), (2, (Value.func (Fn.func 63) ⟨[]⟩ ⟨[(ptr c)]⟩)), (6, (i64 0)), (19, (agg [(i64 0), (Value.string ByteArray.empty)])), (20, (Value.bool false))] 9 ?_
 refine Ops.new (o := rowL [(i64 0), (Value.string ByteArray.empty)] 70) (V := fun b => (ptr b)) (by kernel_rfl) (d := (some 7)) (by kernel_rfl) (fun b => rfl) (fun b1 w2 hb3 H4 K5 hs6 => ?_)
 have lb1b : b < b1 := by have := Hb.lt; omega
 have lb1mb : mb < b1 := by have := Hm.lt; omega
 have lb1c : c < b1 := by have := Hc.lt; omega
 have nb1 : w.heap.size ≤ b1 := by have := K0.size; omega
 replace K0 := K0.trans K5 (U := (fun i => i = mb)) (fun i h1 h2 => h2) (fun i h1 h2 => by exact h2.elim)
 replace Hb := Hb.keep K5 (fun h => h)
 replace Hm := Hm.keep K5 (fun h => h)
 replace Hc := Hc.keep K5 (fun h => h)
 clear K5 hs6
 refine Ops.put (t := 70) (b := b1) (off := 0) (v := (agg [(i64 0), (Value.string ByteArray.empty)])) (ys := [(i64 0), (Value.string ByteArray.empty)]) (by kernel_rfl) (by kernel_rfl) H4 (by kernel_rfl) (d := none) (by kernel_rfl) rfl (fun w7 H8 K9 => ?_)
 clear H4
 replace K0 := K0.trans K9 (U := (fun i => i = mb)) (fun i h1 h2 => h2) (fun i h1 h2 => by have h2 : i = b1 := h2; show i = mb; omega)
 replace Hb := Hb.keep K9 (by intro h; change b = b1 at h; omega)
 replace Hm := Hm.keep K9 (by intro h; change mb = b1 at h; omega)
 replace Hc := Hc.keep K9 (by intro h; change c = b1 at h; omega)
 clear K9
 refine og 1 [(0, (ptr b)), (1, (Value.string (str n))), (2, (Value.func (Fn.func 63) ⟨[]⟩ ⟨[(ptr c)]⟩)), (6, (i64 0)), (7, (ptr b1)), (8, (Value.bool false))] 12 ?_
 refine od ?_
 refine qs ?_
 refine qs ?_
 refine qg ?_
 refine og 2 [(0, (ptr b)), (1, (Value.string (str n))), (2, (Value.func (Fn.func 63) ⟨[]⟩ ⟨[(ptr c)]⟩)), (6, (i64 0)), (7, (ptr b1)), (22, (Value.bool true))] 2 ?_
 refine od ?_
 refine q_then (o := .tmp 22) (by kernel_rfl) rfl ?_
 refine qs ?_
 refine qg ?_
 refine og 1 [(0, (ptr b)), (1, (Value.string (str n))), (2, (Value.func (Fn.func 63) ⟨[]⟩ ⟨[(ptr c)]⟩)), (6, (i64 40)), (7, (ptr b1))] 1 ?_
 refine od ?_
 refine q_ret (by kernel_rfl) ?_
 refine ⟨(i64 40), retv_tmp rfl rfl, ?_⟩
 exact ⟨m, by unfold chgE; rw [hg], K0, Hm, hB.none hg⟩

theorem ChgHold_some (w : World) (b mb : Nat) (m : List (List UInt8 × AccV)) (S : List AccM) (n : List UInt8) (c : Nat) (x : List UInt8) (Hb : Has w b (rowL [.map (some mb)] 66)) (Hm : HasMap w mb kstr accv m) (hne : b ≠ mb) (hB : Book m S) (Hc : Has w c (rowL [(Value.string (str x))] 9)) (hcb : c ≠ mb) (hcb2 : c ≠ b)  (a : AccM) (hg : getS S n = some a) : Calls Tryz.prog 62 ⟨[(ptr b), (Value.string (str n)), (Value.func (Fn.func 63) ⟨[]⟩ ⟨[(ptr c)]⟩)]⟩ w (fun e w' => ∃ m', e = .returned (i64 (chgE (holdF x) S n)) ∧ Keeps (fun i => i = mb) w w' ∧ HasMap w' mb kstr accv m' ∧ Book m' (chgS (holdF x) S n)) := by
 have Hbl := Hb.lt
 have Hml := Hm.lt
 have hlen := hB.len
 have Hcl := Hc.lt
 have K0 : Keeps (fun i => i = mb) w w := (Keeps.refl w).mono (fun _ _ h => h.elim)
 have hgm : getM m n = some (a.amt, a.own) := by rw [hB.get, hg]; rfl
 have hao := hB.accs.ok a (getS_some hg).1
 have ha1 := hao.lo
 have ha2 := hao.hi
 refine q_calls Tryz.func62 (by kernel_rfl) (by kernel_rfl) ?_
 refine qs ?_
 refine qg ?_
 refine og 1 [(0, (ptr b)), (1, (Value.string (str n))), (2, (Value.func (Fn.func 63) ⟨[]⟩ ⟨[(ptr c)]⟩)), (6, (i64 0))] 1 ?_
 refine od ?_
 refine qs ?_
 refine qs ?_
 refine qg ?_
 refine og 2 [(0, (ptr b)), (1, (Value.string (str n))), (2, (Value.func (Fn.func 63) ⟨[]⟩ ⟨[(ptr c)]⟩)), (6, (i64 0)), (11, (Value.bool false))] 2 ?_
 refine od ?_
 refine q_else (o := .tmp 11) (by kernel_rfl) rfl ?_
 refine q_skip (by kernel_rfl) ?_
 refine qs ?_
 refine qg ?_
 refine og 3 [(0, (ptr b)), (1, (Value.string (str n))), (2, (Value.func (Fn.func 63) ⟨[]⟩ ⟨[(ptr c)]⟩)), (6, (i64 0)), (15, (ptr b))] 3 ?_
 refine Ops.go (v := (Value.map (some mb))) (by kernel_rfl) (Runs.load (t := 64) (a := ⟨b, 0, none⟩) (by kernel_rfl) (Hb.loads (by kernel_rfl))) (d := (some 16)) (by kernel_rfl) rfl ?_
 refine og 1 [(0, (ptr b)), (1, (Value.string (str n))), (2, (Value.func (Fn.func 63) ⟨[]⟩ ⟨[(ptr c)]⟩)), (6, (i64 0)), (16, (Value.map (some mb))), (17, (Value.string (str n)))] 5 ?_
 refine Ops.go (v := (Value.tuple #[(agg [(i64 a.amt), (Value.string (str a.own))]), (Value.bool true)])) (by kernel_rfl) (Runs.lookup_some (ok := true) (vf := accv) (a := (a.amt, a.own)) KT Tryz.underlying64 Hm hgm (by kernel_rfl)) (d := (some 18)) (by kernel_rfl) rfl ?_
 refine og 3 [(0, (ptr b)), (1, (Value.string (str n))), (2, (Value.func (Fn.func 63) ⟨[]⟩ ⟨[(ptr c)]⟩)), (6, (i64 0)), (19, (agg [(i64 a.amt), (Value.string (str a.own))])), (20, (Value.bool true))] 9 ?_
 refine Ops.new (o := rowL [(i64 0), (Value.string ByteArray.empty)] 70) (V := fun b => (ptr b)) (by kernel_rfl) (d := (some 7)) (by kernel_rfl) (fun b => rfl) (fun b1 w2 hb3 H4 K5 hs6 => ?_)
 have lb1b : b < b1 := by have := Hb.lt; omega
 have lb1mb : mb < b1 := by have := Hm.lt; omega
 have lb1c : c < b1 := by have := Hc.lt; omega
 have nb1 : w.heap.size ≤ b1 := by have := K0.size; omega
 replace K0 := K0.trans K5 (U := (fun i => i = mb)) (fun i h1 h2 => h2) (fun i h1 h2 => by exact h2.elim)
 replace Hb := Hb.keep K5 (fun h => h)
 replace Hm := Hm.keep K5 (fun h => h)
 replace Hc := Hc.keep K5 (fun h => h)
 clear K5 hs6
 refine Ops.put (t := 70) (b := b1) (off := 0) (v := (agg [(i64 a.amt), (Value.string (str a.own))])) (ys := [(i64 a.amt), (Value.string (str a.own))]) (by kernel_rfl) (by kernel_rfl) H4 (by kernel_rfl) (d := none) (by kernel_rfl) rfl (fun w7 H8 K9 => ?_)
 clear H4
 replace K0 := K0.trans K9 (U := (fun i => i = mb)) (fun i h1 h2 => h2) (fun i h1 h2 => by have h2 : i = b1 := h2; show i = mb; omega)
 replace Hb := Hb.keep K9 (by intro h; change b = b1 at h; omega)
 replace Hm := Hm.keep K9 (by intro h; change mb = b1 at h; omega)
 replace Hc := Hc.keep K9 (by intro h; change c = b1 at h; omega)
 clear K9
 refine og 1 [(0, (ptr b)), (1, (Value.string (str n))), (2, (Value.func (Fn.func 63) ⟨[]⟩ ⟨[(ptr c)]⟩)), (6, (i64 0)), (7, (ptr b1)), (8, (Value.bool true))] 12 ?_
 refine od ?_
 refine qs ?_
 refine qs ?_
 refine qg ?_
 refine og 2 [(0, (ptr b)), (1, (Value.string (str n))), (2, (Value.func (Fn.func 63) ⟨[]⟩ ⟨[(ptr c)]⟩)), (6, (i64 0)), (7, (ptr b1)), (22, (Value.bool false))] 2 ?_
 refine od ?_
 refine q_else (o := .tmp 22) (by kernel_rfl) rfl ?_
 refine q_skip (by kernel_rfl) ?_
 refine qs ?_
 refine qg ?_
 refine og 1 [(0, (ptr b)), (1, (Value.string (str n))), (6, (i64 0)), (7, (ptr b1)), (23, (Value.func (Fn.func 63) ⟨[]⟩ ⟨[(ptr c)]⟩))] 1 ?_
 refine Ops.call (by kernel_rfl) (d := (some 24)) (by kernel_rfl) (Hold1_calls _ b1 c a.amt a.own x H8 Hc (by omega) (by omega)) ?_
 rintro _ w10 ⟨rfl, K11, H12⟩
 refine ⟨_, _, rfl, rfl, ?_⟩
 replace K0 := K0.trans K11 (U := (fun i => i = mb)) (fun i h1 h2 => h2) (fun i h1 h2 => by have h2 : i = b1 := h2; show i = mb; omega)
 replace Hb := Hb.keep K11 (by intro h; change b = b1 at h; omega)
 replace Hm := Hm.keep K11 (by intro h; change mb = b1 at h; omega)
 replace Hc := Hc.keep K11 (by intro h; change c = b1 at h; omega)
 clear K11
 refine og 1 [(0, (ptr b)), (1, (Value.string (str n))), (6, (i64 0)), (7, (ptr b1)), (9, (i64 ((holdF x (a.amt, a.own)).1)))] 3 ?_
 refine od ?_
 refine qs ?_
 refine q_draw (fun wz => Keeps (fun i => i = mb) w10 wz) 7 (by kernel_rfl) (by kernel_rfl) (by kernel_rfl) (fun w13 K14 _ _ => ⟨(K14.mono (fun _ _ h => h.elim)), ?_⟩)
 replace K0 := K0.trans K14 (U := (fun i => i = mb)) (fun i h1 h2 => h2) (fun i h1 h2 => by exact h2.elim)
 replace Hb := Hb.keep K14 (fun h => h)
 replace Hm := Hm.keep K14 (fun h => h)
 replace Hc := Hc.keep K14 (fun h => h)
 replace H12 := H12.keep K14 (fun h => h)
 refine Dr.strong (S' := (fun wz => Keeps (fun i => i = mb) w13 wz)) ((Keeps.refl w13).mono (fun _ _ h => h.elim)) (fun wz hx => K14.trans hx (fun i _ h => h.elim) (fun _ _ h => h)) ?_
 clear K14
 refine Dr.takes (fuel' := 4) (is' := [2, 1, 0]) [0, 1, 2] [(1, (Value.string (str n))), (6, (i64 0)), (7, (ptr b1)), (9, (i64 ((holdF x (a.amt, a.own)).1))), (27, (ptr b))] (by kernel_rfl) rfl (by kernel_rfl) ?_
 refine Dr.take (i := 3) (v := (Value.map (some mb))) (by kernel_rfl) (by kernel_rfl) (fun wz hS => Runs.load (t := 64) (a := ⟨b, 0, none⟩) (by kernel_rfl) ((Hb.keep hS (by intro h; change b = mb at h; omega)).loads (by kernel_rfl))) (d := (some 28)) (by kernel_rfl) rfl ?_
 refine Dr.takes (fuel' := 2) (is' := [4, 3, 2, 1, 0]) [4] [(6, (i64 0)), (7, (ptr b1)), (9, (i64 ((holdF x (a.amt, a.own)).1))), (28, (Value.map (some mb))), (29, (Value.string (str n)))] (by kernel_rfl) rfl (by kernel_rfl) ?_
 refine Dr.take (i := 5) (v := (agg [(i64 ((holdF x (a.amt, a.own)).2.1)), (Value.string (str ((holdF x (a.amt, a.own)).2.2)))])) (by kernel_rfl) (by kernel_rfl) (fun wz hS => Runs.load (t := 70) (a := ⟨b1, 0, none⟩) (by kernel_rfl) ((H12.keep hS (by intro h; change b1 = mb at h; omega)).loads (by kernel_rfl))) (d := (some 30)) (by kernel_rfl) rfl ?_
 obtain ⟨w15, hr16, K17, H18⟩ := HasMap.update KT Tryz.underlying64 Hm n ((holdF x (a.amt, a.own)).2.1, ((holdF x (a.amt, a.own)).2.2))
 refine Dr.goU (i := 6) (by kernel_rfl) (by kernel_rfl) (RunsU.of_update (by kernel_rfl) hr16) (d := none) (by kernel_rfl) rfl K17 ?_
 clear Hm
 replace K0 := K0.trans K17 (U := (fun i => i = mb)) (fun i h1 h2 => h2) (fun i h1 h2 => by have h2 : i = mb := h2; show i = mb; omega)
 replace Hb := Hb.keep K17 (by intro h; change b = mb at h; omega)
 replace Hc := Hc.keep K17 (by intro h; change c = mb at h; omega)
 replace H12 := H12.keep K17 (by intro h; change b1 = mb at h; omega)
 refine Dr.strong (S' := (fun wz => Keeps (fun i => i = mb) w15 wz)) ((Keeps.refl w15).mono (fun _ _ h => h.elim)) (fun wz hx => K17.trans hx (fun i _ h => by have h : i = mb := h; show i = mb; omega) (fun _ _ h => h)) ?_
 clear K17 hr16
 refine Dr.done (by kernel_rfl) ?_
 refine qs ?_
 refine qg ?_
 refine og 2 [(6, (i64 ((holdF x (a.amt, a.own)).1)))] 2 ?_
 refine od ?_
 refine q_ret (by kernel_rfl) ?_
 refine ⟨(i64 ((holdF x (a.amt, a.own)).1)), retv_tmp rfl rfl, ?_⟩
 exact ⟨_, by unfold chgE; rw [hg], K0, H18, hB.chg (calm_hold x) hg⟩

theorem ChgHold_calls (w : World) (b mb : Nat) (m : List (List UInt8 × AccV)) (S : List AccM) (n : List UInt8) (c : Nat) (x : List UInt8) (Hb : Has w b (rowL [.map (some mb)] 66)) (Hm : HasMap w mb kstr accv m) (hne : b ≠ mb) (hB : Book m S) (Hc : Has w c (rowL [(Value.string (str x))] 9)) (hcb : c ≠ mb) (hcb2 : c ≠ b)  : Calls Tryz.prog 62 ⟨[(ptr b), (Value.string (str n)), (Value.func (Fn.func 63) ⟨[]⟩ ⟨[(ptr c)]⟩)]⟩ w (fun e w' => ∃ m', e = .returned (i64 (chgE (holdF x) S n)) ∧ Keeps (fun i => i = mb) w w' ∧ HasMap w' mb kstr accv m' ∧ Book m' (chgS (holdF x) S n)) := by
 cases hg : getS S n with
 | none => exact ChgHold_none w b mb m S n c x Hb Hm hne hB Hc hcb hcb2 hg
 | some a => exact ChgHold_some w b mb m S n c x Hb Hm hne hB Hc hcb hcb2 a hg

theorem Hold_calls (w : World) (b mb : Nat) (m : List (List UInt8 × AccV)) (S : List AccM) (n : List UInt8) (x : List UInt8) (Hb : Has w b (rowL [.map (some mb)] 66)) (Hm : HasMap w mb kstr accv m) (hne : b ≠ mb) (hB : Book m S)  : Calls Tryz.prog 23 ⟨[(ptr b), (Value.string (str n)), (Value.string (str x))]⟩ w (fun e w' => ∃ m', e = .returned (i64 (chgE (holdF x) S n)) ∧ Keeps (fun i => i = mb) w w' ∧ HasMap w' mb kstr accv m' ∧ Book m' (chgS (holdF x) S n)) := by
 have Hbl := Hb.lt
 have Hml := Hm.lt
 have hlen := hB.len
 have K0 : Keeps (fun i => i = mb) w w := (Keeps.refl w).mono (fun _ _ h => h.elim)
 refine q_calls Tryz.func23 (by kernel_rfl) (by kernel_rfl) ?_
 refine qs ?_
 refine qg ?_
 refine Ops.new (o := rowL [(Value.string (str x))] 9) (V := fun b => (ptr b)) (by kernel_rfl) (d := (some 5)) (by kernel_rfl) (fun b => rfl) (fun b1 w2 hb3 H4 K5 hs6 => ?_)
 have lb1b : b < b1 := by have := Hb.lt; omega
 have lb1mb : mb < b1 := by have := Hm.lt; omega
 have nb1 : w.heap.size ≤ b1 := by have := K0.size; omega
 replace K0 := K0.trans K5 (U := (fun i => i = mb)) (fun i h1 h2 => h2) (fun i h1 h2 => by exact h2.elim)
 replace Hb := Hb.keep K5 (fun h => h)
 replace Hm := Hm.keep K5 (fun h => h)
 clear K5 hs6
 refine og 1 [(0, (ptr b)), (1, (Value.string (str n))), (5, (ptr b1)), (6, (i64 0))] 2 ?_
 refine od ?_
 refine qs ?_
 refine qg ?_
 refine og 3 [(6, (i64 0)), (7, (ptr b)), (8, (Value.string (str n))), (9, (Value.func (Fn.func 63) ⟨[]⟩ ⟨[(ptr b1)]⟩))] 3 ?_
 refine Ops.call (by kernel_rfl) (d := (some 10)) (by kernel_rfl) (ChgHold_calls _ b mb m S n b1 x Hb Hm (by omega) hB H4 (by omega) (by omega)) ?_
 rintro _ w8 ⟨m7, rfl, K9, H10, hB11⟩
 have hl12 := hB11.len
 refine ⟨_, _, rfl, rfl, ?_⟩
 replace K0 := K0.trans K9 (U := (fun i => i = mb)) (fun i h1 h2 => h2) (fun i h1 h2 => by have h2 : i = mb := h2; show i = mb; omega)
 replace Hb := Hb.keep K9 (by intro h; change b = mb at h; omega)
 replace H4 := H4.keep K9 (by intro h; change b1 = mb at h; omega)
 clear K9
 refine og 1 [(6, (i64 (chgE (holdF x) S n)))] 5 ?_
 refine od ?_
 refine q_ret (by kernel_rfl) ?_
 refine ⟨(i64 (chgE (holdF x) S n)), retv_tmp rfl rfl, ?_⟩
 exact ⟨_, rfl, K0, H10, hB11⟩

theorem Free1_calls (w : World) (p c : Nat) (A : Int) (O : List UInt8) (x : List UInt8) (Hp : Has w p (rowL [i64 A, .string (str O)] 70)) (Hc : Has w c (rowL [(Value.string (str x))] 9)) (hpc : p ≠ c) (hA : 0 ≤ A ∧ A ≤ 9223372036854775807)  : Calls Tryz.prog 79 ⟨[(ptr p), (ptr c)]⟩ w (fun e w' => e = .returned (i64 (freeF x (A, O)).1) ∧ Keeps (fun i => i = p) w w' ∧ Has w' p (rowL [i64 (freeF x (A, O)).2.1, .string (str (freeF x (A, O)).2.2)] 70)) := by
 have Hpl := Hp.lt
 have Hcl := Hc.lt
 have K0 : Keeps (fun i => i = p) w w := (Keeps.refl w).mono (fun _ _ h => h.elim)
 refine q_calls Tryz.func79 (by kernel_rfl) (by kernel_rfl) ?_
 refine qs ?_
 refine qg ?_
 refine og 1 [(0, (ptr p)), (1, (ptr c)), (3, (i64 0))] 1 ?_
 refine od ?_
 refine qs ?_
 refine qs ?_
 refine q_draw (fun wz => Keeps none_ w wz) 10 (by kernel_rfl) (by kernel_rfl) (by kernel_rfl) (fun w1 K2 _ _ => ⟨K2, ?_⟩)
 replace K0 := K0.trans K2 (U := (fun i => i = p)) (fun i h1 h2 => h2) (fun i h1 h2 => by exact h2.elim)
 replace Hp := Hp.keep K2 (fun h => h)
 replace Hc := Hc.keep K2 (fun h => h)
 refine Dr.strong (S' := (fun wz => Keeps none_ w1 wz)) (Keeps.refl w1) (fun wz hx => K2.trans hx (fun i _ h => h) (fun _ _ h => h)) ?_
 clear K2
 refine Dr.take (i := 0) (v := (Value.string (str x))) (by kernel_rfl) (by kernel_rfl) (fun wz hS => Runs.load (t := 9) (a := ⟨c, 0, none⟩) (by kernel_rfl) ((Hc.keep hS (fun h => h)).loads (by kernel_rfl))) (d := (some 4)) (by kernel_rfl) rfl ?_
 refine Dr.take (i := 1) (v := (Value.bool (x == ([] : List UInt8)))) (by kernel_rfl) (by kernel_rfl) (fun wz hS => Runs.streq (t := 9) (by kernel_rfl)) (d := (some 5)) (by kernel_rfl) rfl ?_
 refine Dr.takes (fuel' := 7) (is' := [2, 1, 0]) [2] [(0, (ptr p)), (1, (ptr c)), (3, (i64 0)), (6, (Value.bool (x == ([] : List UInt8))))] (by kernel_rfl) rfl (by kernel_rfl) ?_
 refine Dr.split (x == ([] : List UInt8)) (fun h3 => ?_) (fun h3 => ?_)
 ·rw [h3]
  have p4 : (x == ([] : List UInt8)) = true := h3
  refine Dr.takes (fuel' := 0) (is' := [9, 8, 7, 6, 5, 4, 3, 2, 1, 0]) [3, 4, 5, 6, 7, 8, 9] [(0, (ptr p)), (3, (i64 0)), (13, (Value.bool true))] (by kernel_rfl) rfl (by kernel_rfl) ?_
  refine Dr.done (by kernel_rfl) ?_
  refine q_then (o := .tmp 13) (by kernel_rfl) rfl ?_
  refine qs ?_
  refine qg ?_
  refine og 1 [(0, (ptr p)), (3, (i64 5))] 1 ?_
  refine od ?_
  refine q_ret (by kernel_rfl) ?_
  refine ⟨(i64 5), retv_tmp rfl rfl, ?_⟩
  have e : freeF x (A, O) = (5, (A, O)) := by unfold freeF; simp only; first | (rw [if_pos (by first | omega | (simp_all; done) | (simp_all; omega))]; done) | (rw [if_neg (by first | omega | (simp_all; done) | (simp_all; omega)), if_pos (by first | omega | (simp_all; done) | (simp_all; omega))]; done) | (rw [if_neg (by first | omega | (simp_all; done) | (simp_all; omega)), if_neg (by first | omega | (simp_all; done) | (simp_all; omega))]; done) | (rw [if_neg (by first | omega | (simp_all; done) | (simp_all; omega))]; done)
  rw [e]
  exact ⟨rfl, K0, Hp⟩
 ·rw [h3]
  have p5 : (x == ([] : List UInt8)) = false := h3
  refine Dr.takes (fuel' := 4) (is' := [5, 4, 3, 2, 1, 0]) [3, 4, 5] [(0, (ptr p)), (1, (ptr c)), (3, (i64 0)), (6, (Value.bool false)), (9, (Value.pointer (some ⟨p, 1, none⟩)))] (by kernel_rfl) rfl (by kernel_rfl) ?_
  refine Dr.take (i := 6) (v := (Value.string (str O))) (by kernel_rfl) (by kernel_rfl) (fun wz hS => Runs.load (t := 9) (a := ⟨p, 1, none⟩) (by kernel_rfl) ((Hp.keep hS (fun h => h)).loads (by kernel_rfl))) (d := (some 10)) (by kernel_rfl) rfl ?_
  refine Dr.take (i := 7) (v := (Value.string (str x))) (by kernel_rfl) (by kernel_rfl) (fun wz hS => Runs.load (t := 9) (a := ⟨c, 0, none⟩) (by kernel_rfl) ((Hc.keep hS (fun h => h)).loads (by kernel_rfl))) (d := (some 11)) (by kernel_rfl) rfl ?_
  refine Dr.take (i := 8) (v := (Value.bool (!(O == x)))) (by kernel_rfl) (by kernel_rfl) (fun wz hS => Runs.strne (t := 9) (by kernel_rfl)) (d := (some 12)) (by kernel_rfl) rfl ?_
  refine Dr.takes (fuel' := 0) (is' := [9, 8, 7, 6, 5, 4, 3, 2, 1, 0]) [9] [(0, (ptr p)), (3, (i64 0)), (13, (Value.bool (!(O == x))))] (by kernel_rfl) rfl (by kernel_rfl) ?_
  refine Dr.done (by kernel_rfl) ?_
  refine q_cond (o := .tmp 13) (b := (!(O == x))) (by kernel_rfl) rfl (fun h6 => ?_) (fun h6 => ?_)
  ·rw [h6]
   have p7 : (O == x) = false := (bnot_true h6)
   refine qs ?_
   refine qg ?_
   refine og 1 [(0, (ptr p)), (3, (i64 5))] 1 ?_
   refine od ?_
   refine q_ret (by kernel_rfl) ?_
   refine ⟨(i64 5), retv_tmp rfl rfl, ?_⟩
   have e : freeF x (A, O) = (5, (A, O)) := by unfold freeF; simp only; first | (rw [if_pos (by first | omega | (simp_all; done) | (simp_all; omega))]; done) | (rw [if_neg (by first | omega | (simp_all; done) | (simp_all; omega)), if_pos (by first | omega | (simp_all; done) | (simp_all; omega))]; done) | (rw [if_neg (by first | omega | (simp_all; done) | (simp_all; omega)), if_neg (by first | omega | (simp_all; done) | (simp_all; omega))]; done) | (rw [if_neg (by first | omega | (simp_all; done) | (simp_all; omega))]; done)
   rw [e]
   exact ⟨rfl, K0, Hp⟩
  ·rw [h6]
   have p8 : (O == x) = true := (bnot_false h6)
   refine q_skip (by kernel_rfl) ?_
   refine qs ?_
   refine qg ?_
   refine og 3 [(3, (i64 0)), (16, (Value.pointer (some ⟨p, 1, none⟩)))] 3 ?_
   refine Ops.put (t := 9) (b := p) (off := 1) (v := (Value.string (str ([] : List UInt8)))) (ys := [(i64 A), (Value.string (str ([] : List UInt8)))]) (by kernel_rfl) (by kernel_rfl) Hp (by kernel_rfl) (d := none) (by kernel_rfl) rfl (fun w9 H10 K11 => ?_)
   clear Hp
   replace K0 := K0.trans K11 (U := (fun i => i = p)) (fun i h1 h2 => h2) (fun i h1 h2 => by have h2 : i = p := h2; show i = p; omega)
   replace Hc := Hc.keep K11 (by intro h; change c = p at h; omega)
   clear K11
   refine od ?_
   refine qs ?_
   refine qg ?_
   refine og 1 [(3, (i64 0))] 1 ?_
   refine od ?_
   refine q_ret (by kernel_rfl) ?_
   refine ⟨(i64 0), retv_tmp rfl rfl, ?_⟩
   have e : freeF x (A, O) = (0, (A, ([] : List UInt8))) := by unfold freeF; simp only; first | (rw [if_pos (by first | omega | (simp_all; done) | (simp_all; omega))]; done) | (rw [if_neg (by first | omega | (simp_all; done) | (simp_all; omega)), if_pos (by first | omega | (simp_all; done) | (simp_all; omega))]; done) | (rw [if_neg (by first | omega | (simp_all; done) | (simp_all; omega)), if_neg (by first | omega | (simp_all; done) | (simp_all; omega))]; done) | (rw [if_neg (by first | omega | (simp_all; done) | (simp_all; omega))]; done)
   rw [e]
   exact ⟨rfl, K0, H10⟩

theorem ChgFree_none (w : World) (b mb : Nat) (m : List (List UInt8 × AccV)) (S : List AccM) (n : List UInt8) (c : Nat) (x : List UInt8) (Hb : Has w b (rowL [.map (some mb)] 66)) (Hm : HasMap w mb kstr accv m) (hne : b ≠ mb) (hB : Book m S) (Hc : Has w c (rowL [(Value.string (str x))] 9)) (hcb : c ≠ mb) (hcb2 : c ≠ b)  (hg : getS S n = none) : Calls Tryz.prog 62 ⟨[(ptr b), (Value.string (str n)), (Value.func (Fn.func 79) ⟨[]⟩ ⟨[(ptr c)]⟩)]⟩ w (fun e w' => ∃ m', e = .returned (i64 (chgE (freeF x) S n)) ∧ Keeps (fun i => i = mb) w w' ∧ HasMap w' mb kstr accv m' ∧ Book m' (chgS (freeF x) S n)) := by
 have Hbl := Hb.lt
 have Hml := Hm.lt
 have hlen := hB.len
 have Hcl := Hc.lt
 have K0 : Keeps (fun i => i = mb) w w := (Keeps.refl w).mono (fun _ _ h => h.elim)
 have hgm : getM m n = none := by rw [hB.get, hg]; rfl
 refine q_calls Tryz.func62 (by kernel_rfl) (by kernel_rfl) ?_
 refine qs ?_
 refine qg ?_
 refine og 1 [(0, (ptr b)), (1, (Value.string (str n))), (2, (Value.func (Fn.func 79) ⟨[]⟩ ⟨[(ptr c)]⟩)), (6, (i64 0))] 1 ?_
 refine od ?_
 refine qs ?_
 refine qs ?_
 refine qg ?_
 refine og 2 [(0, (ptr b)), (1, (Value.string (str n))), (2, (Value.func (Fn.func 79) ⟨[]⟩ ⟨[(ptr c)]⟩)), (6, (i64 0)), (11, (Value.bool false))] 2 ?_
 refine od ?_
 refine q_else (o := .tmp 11) (by kernel_rfl) rfl ?_
 refine q_skip (by kernel_rfl) ?_
 refine qs ?_
 refine qg ?_
 refine og 3 [(0, (ptr b)), (1, (Value.string (str n))), (2, (Value.func (Fn.func 79) ⟨[]⟩ ⟨[(ptr c)]⟩)), (6, (i64 0)), (15, (ptr b))] 3 ?_
 refine Ops.go (v := (Value.map (some mb))) (by kernel_rfl) (Runs.load (t := 64) (a := ⟨b, 0, none⟩) (by kernel_rfl) (Hb.loads (by kernel_rfl))) (d := (some 16)) (by kernel_rfl) rfl ?_
 refine og 1 [(0, (ptr b)), (1, (Value.string (str n))), (2, (Value.func (Fn.func 79) ⟨[]⟩ ⟨[(ptr c)]⟩)), (6, (i64 0)), (16, (Value.map (some mb))), (17, (Value.string (str n)))] 5 ?_
 refine Ops.go (v := (Value.tuple #[(agg [(i64 0), (Value.string ByteArray.empty)]), (Value.bool false)])) (by kernel_rfl) (Runs.lookup_none (ok := true) (z := (agg [(i64 0), (Value.string ByteArray.empty)])) KT Tryz.underlying64 (by kernel_rfl) Hm hgm (by kernel_rfl)) (d := (some 18)) (by kernel_rfl) rfl ?_
 refine og 3 [(0, (ptr b)), (1, (Value.string (str n))), (2, (Value.func (Fn.func 79) ⟨[]⟩ ⟨[(ptr c)]⟩)), (6, (i64 0)), (19, (agg [(i64 0), (Value.string ByteArray.empty)])), (20, (Value.bool false))] 9 ?_
 refine Ops.new (o := rowL [(i64 0), (Value.string ByteArray.empty)] 70) (V := fun b => (ptr b)) (by kernel_rfl) (d := (some 7)) (by kernel_rfl) (fun b => rfl) (fun b1 w2 hb3 H4 K5 hs6 => ?_)
 have lb1b : b < b1 := by have := Hb.lt; omega
 have lb1mb : mb < b1 := by have := Hm.lt; omega
 have lb1c : c < b1 := by have := Hc.lt; omega
 have nb1 : w.heap.size ≤ b1 := by have := K0.size; omega
 replace K0 := K0.trans K5 (U := (fun i => i = mb)) (fun i h1 h2 => h2) (fun i h1 h2 => by exact h2.elim)
 replace Hb := Hb.keep K5 (fun h => h)
 replace Hm := Hm.keep K5 (fun h => h)
 replace Hc := Hc.keep K5 (fun h => h)
 clear K5 hs6
 refine Ops.put (t := 70) (b := b1) (off := 0) (v := (agg [(i64 0), (Value.string ByteArray.empty)])) (ys := [(i64 0), (Value.string ByteArray.empty)]) (by kernel_rfl) (by kernel_rfl) H4 (by kernel_rfl) (d := none) (by kernel_rfl) rfl (fun w7 H8 K9 => ?_)
 clear H4
 replace K0 := K0.trans K9 (U := (fun i => i = mb)) (fun i h1 h2 => h2) (fun i h1 h2 => by have h2 : i = b1 := h2; show i = mb; omega)
 replace Hb := Hb.keep K9 (by intro h; change b = b1 at h; omega)
 replace Hm := Hm.keep K9 (by intro h; change mb = b1 at h; omega)
 replace Hc := Hc.keep K9 (by intro h; change c = b1 at h; omega)
 clear K9
 refine og 1 [(0, (ptr b)), (1, (Value.string (str n))), (2, (Value.func (Fn.func 79) ⟨[]⟩ ⟨[(ptr c)]⟩)), (6, (i64 0)), (7, (ptr b1)), (8, (Value.bool false))] 12 ?_
 refine od ?_
 refine qs ?_
 refine qs ?_
 refine qg ?_
 refine og 2 [(0, (ptr b)), (1, (Value.string (str n))), (2, (Value.func (Fn.func 79) ⟨[]⟩ ⟨[(ptr c)]⟩)), (6, (i64 0)), (7, (ptr b1)), (22, (Value.bool true))] 2 ?_
 refine od ?_
 refine q_then (o := .tmp 22) (by kernel_rfl) rfl ?_
 refine qs ?_
 refine qg ?_
 refine og 1 [(0, (ptr b)), (1, (Value.string (str n))), (2, (Value.func (Fn.func 79) ⟨[]⟩ ⟨[(ptr c)]⟩)), (6, (i64 40)), (7, (ptr b1))] 1 ?_
 refine od ?_
 refine q_ret (by kernel_rfl) ?_
 refine ⟨(i64 40), retv_tmp rfl rfl, ?_⟩
 exact ⟨m, by unfold chgE; rw [hg], K0, Hm, hB.none hg⟩

theorem ChgFree_some (w : World) (b mb : Nat) (m : List (List UInt8 × AccV)) (S : List AccM) (n : List UInt8) (c : Nat) (x : List UInt8) (Hb : Has w b (rowL [.map (some mb)] 66)) (Hm : HasMap w mb kstr accv m) (hne : b ≠ mb) (hB : Book m S) (Hc : Has w c (rowL [(Value.string (str x))] 9)) (hcb : c ≠ mb) (hcb2 : c ≠ b)  (a : AccM) (hg : getS S n = some a) : Calls Tryz.prog 62 ⟨[(ptr b), (Value.string (str n)), (Value.func (Fn.func 79) ⟨[]⟩ ⟨[(ptr c)]⟩)]⟩ w (fun e w' => ∃ m', e = .returned (i64 (chgE (freeF x) S n)) ∧ Keeps (fun i => i = mb) w w' ∧ HasMap w' mb kstr accv m' ∧ Book m' (chgS (freeF x) S n)) := by
 have Hbl := Hb.lt
 have Hml := Hm.lt
 have hlen := hB.len
 have Hcl := Hc.lt
 have K0 : Keeps (fun i => i = mb) w w := (Keeps.refl w).mono (fun _ _ h => h.elim)
 have hgm : getM m n = some (a.amt, a.own) := by rw [hB.get, hg]; rfl
 have hao := hB.accs.ok a (getS_some hg).1
 have ha1 := hao.lo
 have ha2 := hao.hi
 refine q_calls Tryz.func62 (by kernel_rfl) (by kernel_rfl) ?_
 refine qs ?_
 refine qg ?_
 refine og 1 [(0, (ptr b)), (1, (Value.string (str n))), (2, (Value.func (Fn.func 79) ⟨[]⟩ ⟨[(ptr c)]⟩)), (6, (i64 0))] 1 ?_
 refine od ?_
 refine qs ?_
 refine qs ?_
 refine qg ?_
 refine og 2 [(0, (ptr b)), (1, (Value.string (str n))), (2, (Value.func (Fn.func 79) ⟨[]⟩ ⟨[(ptr c)]⟩)), (6, (i64 0)), (11, (Value.bool false))] 2 ?_
 refine od ?_
 refine q_else (o := .tmp 11) (by kernel_rfl) rfl ?_
 refine q_skip (by kernel_rfl) ?_
 refine qs ?_
 refine qg ?_
 refine og 3 [(0, (ptr b)), (1, (Value.string (str n))), (2, (Value.func (Fn.func 79) ⟨[]⟩ ⟨[(ptr c)]⟩)), (6, (i64 0)), (15, (ptr b))] 3 ?_
 refine Ops.go (v := (Value.map (some mb))) (by kernel_rfl) (Runs.load (t := 64) (a := ⟨b, 0, none⟩) (by kernel_rfl) (Hb.loads (by kernel_rfl))) (d := (some 16)) (by kernel_rfl) rfl ?_
 refine og 1 [(0, (ptr b)), (1, (Value.string (str n))), (2, (Value.func (Fn.func 79) ⟨[]⟩ ⟨[(ptr c)]⟩)), (6, (i64 0)), (16, (Value.map (some mb))), (17, (Value.string (str n)))] 5 ?_
 refine Ops.go (v := (Value.tuple #[(agg [(i64 a.amt), (Value.string (str a.own))]), (Value.bool true)])) (by kernel_rfl) (Runs.lookup_some (ok := true) (vf := accv) (a := (a.amt, a.own)) KT Tryz.underlying64 Hm hgm (by kernel_rfl)) (d := (some 18)) (by kernel_rfl) rfl ?_
 refine og 3 [(0, (ptr b)), (1, (Value.string (str n))), (2, (Value.func (Fn.func 79) ⟨[]⟩ ⟨[(ptr c)]⟩)), (6, (i64 0)), (19, (agg [(i64 a.amt), (Value.string (str a.own))])), (20, (Value.bool true))] 9 ?_
 refine Ops.new (o := rowL [(i64 0), (Value.string ByteArray.empty)] 70) (V := fun b => (ptr b)) (by kernel_rfl) (d := (some 7)) (by kernel_rfl) (fun b => rfl) (fun b1 w2 hb3 H4 K5 hs6 => ?_)
 have lb1b : b < b1 := by have := Hb.lt; omega
 have lb1mb : mb < b1 := by have := Hm.lt; omega
 have lb1c : c < b1 := by have := Hc.lt; omega
 have nb1 : w.heap.size ≤ b1 := by have := K0.size; omega
 replace K0 := K0.trans K5 (U := (fun i => i = mb)) (fun i h1 h2 => h2) (fun i h1 h2 => by exact h2.elim)
 replace Hb := Hb.keep K5 (fun h => h)
 replace Hm := Hm.keep K5 (fun h => h)
 replace Hc := Hc.keep K5 (fun h => h)
 clear K5 hs6
 refine Ops.put (t := 70) (b := b1) (off := 0) (v := (agg [(i64 a.amt), (Value.string (str a.own))])) (ys := [(i64 a.amt), (Value.string (str a.own))]) (by kernel_rfl) (by kernel_rfl) H4 (by kernel_rfl) (d := none) (by kernel_rfl) rfl (fun w7 H8 K9 => ?_)
 clear H4
 replace K0 := K0.trans K9 (U := (fun i => i = mb)) (fun i h1 h2 => h2) (fun i h1 h2 => by have h2 : i = b1 := h2; show i = mb; omega)
 replace Hb := Hb.keep K9 (by intro h; change b = b1 at h; omega)
 replace Hm := Hm.keep K9 (by intro h; change mb = b1 at h; omega)
 replace Hc := Hc.keep K9 (by intro h; change c = b1 at h; omega)
 clear K9
 refine og 1 [(0, (ptr b)), (1, (Value.string (str n))), (2, (Value.func (Fn.func 79) ⟨[]⟩ ⟨[(ptr c)]⟩)), (6, (i64 0)), (7, (ptr b1)), (8, (Value.bool true))] 12 ?_
 refine od ?_
 refine qs ?_
 refine qs ?_
 refine qg ?_
 refine og 2 [(0, (ptr b)), (1, (Value.string (str n))), (2, (Value.func (Fn.func 79) ⟨[]⟩ ⟨[(ptr c)]⟩)), (6, (i64 0)), (7, (ptr b1)), (22, (Value.bool false))] 2 ?_
 refine od ?_
 refine q_else (o := .tmp 22) (by kernel_rfl) rfl ?_
 refine q_skip (by kernel_rfl) ?_
 refine qs ?_
 refine qg ?_
 refine og 1 [(0, (ptr b)), (1, (Value.string (str n))), (6, (i64 0)), (7, (ptr b1)), (23, (Value.func (Fn.func 79) ⟨[]⟩ ⟨[(ptr c)]⟩))] 1 ?_
 refine Ops.call (by kernel_rfl) (d := (some 24)) (by kernel_rfl) (Free1_calls _ b1 c a.amt a.own x H8 Hc (by omega) (by omega)) ?_
 rintro _ w10 ⟨rfl, K11, H12⟩
 refine ⟨_, _, rfl, rfl, ?_⟩
 replace K0 := K0.trans K11 (U := (fun i => i = mb)) (fun i h1 h2 => h2) (fun i h1 h2 => by have h2 : i = b1 := h2; show i = mb; omega)
 replace Hb := Hb.keep K11 (by intro h; change b = b1 at h; omega)
 replace Hm := Hm.keep K11 (by intro h; change mb = b1 at h; omega)
 replace Hc := Hc.keep K11 (by intro h; change c = b1 at h; omega)
 clear K11
 refine og 1 [(0, (ptr b)), (1, (Value.string (str n))), (6, (i64 0)), (7, (ptr b1)), (9, (i64 ((freeF x (a.amt, a.own)).1)))] 3 ?_
 refine od ?_
 refine qs ?_
 refine q_draw (fun wz => Keeps (fun i => i = mb) w10 wz) 7 (by kernel_rfl) (by kernel_rfl) (by kernel_rfl) (fun w13 K14 _ _ => ⟨(K14.mono (fun _ _ h => h.elim)), ?_⟩)
 replace K0 := K0.trans K14 (U := (fun i => i = mb)) (fun i h1 h2 => h2) (fun i h1 h2 => by exact h2.elim)
 replace Hb := Hb.keep K14 (fun h => h)
 replace Hm := Hm.keep K14 (fun h => h)
 replace Hc := Hc.keep K14 (fun h => h)
 replace H12 := H12.keep K14 (fun h => h)
 refine Dr.strong (S' := (fun wz => Keeps (fun i => i = mb) w13 wz)) ((Keeps.refl w13).mono (fun _ _ h => h.elim)) (fun wz hx => K14.trans hx (fun i _ h => h.elim) (fun _ _ h => h)) ?_
 clear K14
 refine Dr.takes (fuel' := 4) (is' := [2, 1, 0]) [0, 1, 2] [(1, (Value.string (str n))), (6, (i64 0)), (7, (ptr b1)), (9, (i64 ((freeF x (a.amt, a.own)).1))), (27, (ptr b))] (by kernel_rfl) rfl (by kernel_rfl) ?_
 refine Dr.take (i := 3) (v := (Value.map (some mb))) (by kernel_rfl) (by kernel_rfl) (fun wz hS => Runs.load (t := 64) (a := ⟨b, 0, none⟩) (by kernel_rfl) ((Hb.keep hS (by intro h; change b = mb at h; omega)).loads (by kernel_rfl))) (d := (some 28)) (by kernel_rfl) rfl ?_
 refine Dr.takes (fuel' := 2) (is' := [4, 3, 2, 1, 0]) [4] [(6, (i64 0)), (7, (ptr b1)), (9, (i64 ((freeF x (a.amt, a.own)).1))), (28, (Value.map (some mb))), (29, (Value.string (str n)))] (by kernel_rfl) rfl (by kernel_rfl) ?_
 refine Dr.take (i := 5) (v := (agg [(i64 ((freeF x (a.amt, a.own)).2.1)), (Value.string (str ((freeF x (a.amt, a.own)).2.2)))])) (by kernel_rfl) (by kernel_rfl) (fun wz hS => Runs.load (t := 70) (a := ⟨b1, 0, none⟩) (by kernel_rfl) ((H12.keep hS (by intro h; change b1 = mb at h; omega)).loads (by kernel_rfl))) (d := (some 30)) (by kernel_rfl) rfl ?_
 obtain ⟨w15, hr16, K17, H18⟩ := HasMap.update KT Tryz.underlying64 Hm n ((freeF x (a.amt, a.own)).2.1, ((freeF x (a.amt, a.own)).2.2))
 refine Dr.goU (i := 6) (by kernel_rfl) (by kernel_rfl) (RunsU.of_update (by kernel_rfl) hr16) (d := none) (by kernel_rfl) rfl K17 ?_
 clear Hm
 replace K0 := K0.trans K17 (U := (fun i => i = mb)) (fun i h1 h2 => h2) (fun i h1 h2 => by have h2 : i = mb := h2; show i = mb; omega)
 replace Hb := Hb.keep K17 (by intro h; change b = mb at h; omega)
 replace Hc := Hc.keep K17 (by intro h; change c = mb at h; omega)
 replace H12 := H12.keep K17 (by intro h; change b1 = mb at h; omega)
 refine Dr.strong (S' := (fun wz => Keeps (fun i => i = mb) w15 wz)) ((Keeps.refl w15).mono (fun _ _ h => h.elim)) (fun wz hx => K17.trans hx (fun i _ h => by have h : i = mb := h; show i = mb; omega) (fun _ _ h => h)) ?_
 clear K17 hr16
 refine Dr.done (by kernel_rfl) ?_
 refine qs ?_
 refine qg ?_
 refine og 2 [(6, (i64 ((freeF x (a.amt, a.own)).1)))] 2 ?_
 refine od ?_
 refine q_ret (by kernel_rfl) ?_
 refine ⟨(i64 ((freeF x (a.amt, a.own)).1)), retv_tmp rfl rfl, ?_⟩
 exact ⟨_, by unfold chgE; rw [hg], K0, H18, hB.chg (calm_free x) hg⟩

theorem ChgFree_calls (w : World) (b mb : Nat) (m : List (List UInt8 × AccV)) (S : List AccM) (n : List UInt8) (c : Nat) (x : List UInt8) (Hb : Has w b (rowL [.map (some mb)] 66)) (Hm : HasMap w mb kstr accv m) (hne : b ≠ mb) (hB : Book m S) (Hc : Has w c (rowL [(Value.string (str x))] 9)) (hcb : c ≠ mb) (hcb2 : c ≠ b)  : Calls Tryz.prog 62 ⟨[(ptr b), (Value.string (str n)), (Value.func (Fn.func 79) ⟨[]⟩ ⟨[(ptr c)]⟩)]⟩ w (fun e w' => ∃ m', e = .returned (i64 (chgE (freeF x) S n)) ∧ Keeps (fun i => i = mb) w w' ∧ HasMap w' mb kstr accv m' ∧ Book m' (chgS (freeF x) S n)) := by
 cases hg : getS S n with
 | none => exact ChgFree_none w b mb m S n c x Hb Hm hne hB Hc hcb hcb2 hg
 | some a => exact ChgFree_some w b mb m S n c x Hb Hm hne hB Hc hcb hcb2 a hg

theorem Free_calls (w : World) (b mb : Nat) (m : List (List UInt8 × AccV)) (S : List AccM) (n : List UInt8) (x : List UInt8) (Hb : Has w b (rowL [.map (some mb)] 66)) (Hm : HasMap w mb kstr accv m) (hne : b ≠ mb) (hB : Book m S)  : Calls Tryz.prog 51 ⟨[(ptr b), (Value.string (str n)), (Value.string (str x))]⟩ w (fun e w' => ∃ m', e = .returned (i64 (chgE (freeF x) S n)) ∧ Keeps (fun i => i = mb) w w' ∧ HasMap w' mb kstr accv m' ∧ Book m' (chgS (freeF x) S n)) := by
 have Hbl := Hb.lt
 have Hml := Hm.lt
 have hlen := hB.len
 have K0 : Keeps (fun i => i = mb) w w := (Keeps.refl w).mono (fun _ _ h => h.elim)
 refine q_calls Tryz.func51 (by kernel_rfl) (by kernel_rfl) ?_
 refine qs ?_
 refine qg ?_
 refine Ops.new (o := rowL [(Value.string (str x))] 9) (V := fun b => (ptr b)) (by kernel_rfl) (d := (some 5)) (by kernel_rfl) (fun b => rfl) (fun b1 w2 hb3 H4 K5 hs6 => ?_)
 have lb1b : b < b1 := by have := Hb.lt; omega
 have lb1mb : mb < b1 := by have := Hm.lt; omega
 have nb1 : w.heap.size ≤ b1 := by have := K0.size; omega
 replace K0 := K0.trans K5 (U := (fun i => i = mb)) (fun i h1 h2 => h2) (fun i h1 h2 => by exact h2.elim)
 replace Hb := Hb.keep K5 (fun h => h)
 replace Hm := Hm.keep K5 (fun h => h)
 clear K5 hs6
 refine og 1 [(0, (ptr b)), (1, (Value.string (str n))), (5, (ptr b1)), (6, (i64 0))] 2 ?_
 refine od ?_
 refine qs ?_
 refine qg ?_
 refine og 3 [(6, (i64 0)), (7, (ptr b)), (8, (Value.string (str n))), (9, (Value.func (Fn.func 79) ⟨[]⟩ ⟨[(ptr b1)]⟩))] 3 ?_
 refine Ops.call (by kernel_rfl) (d := (some 10)) (by kernel_rfl) (ChgFree_calls _ b mb m S n b1 x Hb Hm (by omega) hB H4 (by omega) (by omega)) ?_
 rintro _ w8 ⟨m7, rfl, K9, H10, hB11⟩
 have hl12 := hB11.len
 refine ⟨_, _, rfl, rfl, ?_⟩
 replace K0 := K0.trans K9 (U := (fun i => i = mb)) (fun i h1 h2 => h2) (fun i h1 h2 => by have h2 : i = mb := h2; show i = mb; omega)
 replace Hb := Hb.keep K9 (by intro h; change b = mb at h; omega)
 replace H4 := H4.keep K9 (by intro h; change b1 = mb at h; omega)
 clear K9
 refine og 1 [(6, (i64 (chgE (freeF x) S n)))] 5 ?_
 refine od ?_
 refine q_ret (by kernel_rfl) ?_
 refine ⟨(i64 (chgE (freeF x) S n)), retv_tmp rfl rfl, ?_⟩
 exact ⟨_, rfl, K0, H10, hB11⟩
end Go.Proofs.YtooginpgclcldaaGreatDoor
