/- What the claim stands on, part 12: rules of the walk, contracts of the functions, plain laws. -/
import Derived.Test.YtooginpgclcldaaGreatDoorProg
import Derived.Test.YtooginpgclcldaaGreatDoorLoads9
import Derived.Test.YtooginpgclcldaaGreatDoorLoads7
import Derived.Test.YtooginpgclcldaaGreatDoorLoads4
import Derived.Test.YtooginpgclcldaaGreatDoorLoads6
import Derived.Test.YtooginpgclcldaaGreatDoorLoads8
import Derived.Test.YtooginpgclcldaaGreatDoorLoads5
import Derived.Test.YtooginpgclcldaaGreatDoorLoads11
set_option linter.unusedVariables false
namespace Go.Proofs.YtooginpgclcldaaGreatDoor
open Go.Q Go.RowKit

theorem Add1_calls (w : World) (p c : Nat) (A : Int) (O : List UInt8) (x : Int) (Hp : Has w p (rowL [i64 A, .string (str O)] 70)) (Hc : Has w c (rowL [(i64 x)] 2)) (hpc : p ≠ c) (hA : 0 ≤ A ∧ A ≤ 9223372036854775807) (hx : -9223372036854775808 ≤ x ∧ x ≤ 9223372036854775807) : Calls Tryz.prog 68 ⟨[(ptr p), (ptr c)]⟩ w (fun e w' => e = .returned (i64 (addF x (A, O)).1) ∧ Keeps (fun i => i = p) w w' ∧ Has w' p (rowL [i64 (addF x (A, O)).2.1, .string (str (addF x (A, O)).2.2)] 70)) := by
 have Hpl := Hp.lt
 have Hcl := Hc.lt
 have K0 : Keeps (fun i => i = p) w w := (Keeps.refl w).mono (fun _ _ h => h.elim)
 refine q_calls Tryz.func68 (by kernel_rfl) (by kernel_rfl) ?_
 refine qs ?_
 refine qg ?_
 refine og 1 [(0, (ptr p)), (1, (ptr c)), (3, (i64 0))] 1 ?_
 refine od ?_
 refine qs ?_
 refine q_block (id := 0) (by kernel_rfl) ?_
 refine qs ?_
 refine qg ?_
 refine Ops.go (v := (i64 x)) (by kernel_rfl) (Runs.load (t := 2) (a := ⟨c, 0, none⟩) (by kernel_rfl) (Hc.loads (by kernel_rfl))) (d := (some 5)) (by kernel_rfl) rfl ?_
 refine og 2 [(0, (ptr p)), (1, (ptr c)), (3, (i64 0)), (4, (Value.bool (decide (x < 1))))] 3 ?_
 refine od ?_
 refine q_cond (o := .tmp 4) (b := (decide (x < 1))) (by kernel_rfl) rfl (fun h1 => ?_) (fun h1 => ?_)
 ·rw [h1]
  have p2 : x < 1 := of_decide_eq_true h1
  refine qs ?_
  refine qg ?_
  refine og 1 [(0, (ptr p)), (1, (ptr c)), (3, (i64 47))] 1 ?_
  refine od ?_
  refine q_ret (by kernel_rfl) ?_
  refine ⟨(i64 47), retv_tmp rfl rfl, ?_⟩
  have e : addF x (A, O) = (47, (A, O)) := by unfold addF; simp only; first | (rw [if_pos (by first | omega | (simp_all; done) | (simp_all; omega))]; done) | (rw [if_neg (by first | omega | (simp_all; done) | (simp_all; omega)), if_pos (by first | omega | (simp_all; done) | (simp_all; omega))]; done) | (rw [if_neg (by first | omega | (simp_all; done) | (simp_all; omega)), if_neg (by first | omega | (simp_all; done) | (simp_all; omega))]; done) | (rw [if_neg (by first | omega | (simp_all; done) | (simp_all; omega))]; done)
  rw [e]
  exact ⟨rfl, K0, Hp⟩
 ·rw [h1]
  have p3 : ¬ (x < 1) := of_decide_eq_false h1
  refine qs ?_
  refine q_draw (fun wz => Keeps none_ w wz) 8 (by kernel_rfl) (by kernel_rfl) (by kernel_rfl) (fun w4 K5 _ _ => ⟨K5, ?_⟩)
  replace K0 := K0.trans K5 (U := (fun i => i = p)) (fun i h1 h2 => h2) (fun i h1 h2 => by exact h2.elim)
  replace Hp := Hp.keep K5 (fun h => h)
  replace Hc := Hc.keep K5 (fun h => h)
  refine Dr.strong (S' := (fun wz => Keeps none_ w4 wz)) (Keeps.refl w4) (fun wz hx => K5.trans hx (fun i _ h => h) (fun _ _ h => h)) ?_
  clear K5
  refine Dr.takes (fuel' := 5) (is' := [2, 1, 0]) [0, 1, 2] [(0, (ptr p)), (1, (ptr c)), (3, (i64 0)), (10, (ptr p))] (by kernel_rfl) rfl (by kernel_rfl) ?_
  refine Dr.take (i := 3) (v := (i64 A)) (by kernel_rfl) (by kernel_rfl) (fun wz hS => Runs.load (t := 2) (a := ⟨p, 0, none⟩) (by kernel_rfl) ((Hp.keep hS (fun h => h)).loads (by kernel_rfl))) (d := (some 11)) (by kernel_rfl) rfl ?_
  refine Dr.take (i := 4) (v := (i64 x)) (by kernel_rfl) (by kernel_rfl) (fun wz hS => Runs.load (t := 2) (a := ⟨c, 0, none⟩) (by kernel_rfl) ((Hc.keep hS (fun h => h)).loads (by kernel_rfl))) (d := (some 12)) (by kernel_rfl) rfl ?_
  refine Dr.takes (fuel' := 2) (is' := [5, 4, 3, 2, 1, 0]) [5] [(0, (ptr p)), (1, (ptr c)), (3, (i64 0)), (11, (i64 A)), (13, (i64 (IntKind.i64.wrap (9223372036854775807 - x))))] (by kernel_rfl) rfl (by kernel_rfl) ?_
  have e6 : IntKind.i64.wrap (9223372036854775807 - x) = 9223372036854775807 - x := wrap_i64 (by omega) (by omega)
  rw [e6]
  refine Dr.takes (fuel' := 0) (is' := [7, 6, 5, 4, 3, 2, 1, 0]) [6, 7] [(0, (ptr p)), (1, (ptr c)), (3, (i64 0)), (7, (Value.bool (decide (A > 9223372036854775807 - x))))] (by kernel_rfl) rfl (by kernel_rfl) ?_
  refine Dr.done (by kernel_rfl) ?_
  refine q_cond (o := .tmp 7) (b := (decide (A > 9223372036854775807 - x))) (by kernel_rfl) rfl (fun h7 => ?_) (fun h7 => ?_)
  ·rw [h7]
   have p8 : A > 9223372036854775807 - x := of_decide_eq_true h7
   refine qs ?_
   refine qg ?_
   refine og 1 [(0, (ptr p)), (1, (ptr c)), (3, (i64 43))] 1 ?_
   refine od ?_
   refine q_ret (by kernel_rfl) ?_
   refine ⟨(i64 43), retv_tmp rfl rfl, ?_⟩
   have e : addF x (A, O) = (43, (A, O)) := by unfold addF; simp only; first | (rw [if_pos (by first | omega | (simp_all; done) | (simp_all; omega))]; done) | (rw [if_neg (by first | omega | (simp_all; done) | (simp_all; omega)), if_pos (by first | omega | (simp_all; done) | (simp_all; omega))]; done) | (rw [if_neg (by first | omega | (simp_all; done) | (simp_all; omega)), if_neg (by first | omega | (simp_all; done) | (simp_all; omega))]; done) | (rw [if_neg (by first | omega | (simp_all; done) | (simp_all; omega))]; done)
   rw [e]
   exact ⟨rfl, K0, Hp⟩
  ·rw [h7]
   have p9 : ¬ (A > 9223372036854775807 - x) := of_decide_eq_false h7
   refine q_skip (by kernel_rfl) ?_
   refine qs ?_
   refine q_draw (fun wz => Keeps (fun i => i = p) w4 wz) 9 (by kernel_rfl) (by kernel_rfl) (by kernel_rfl) (fun w10 K11 _ _ => ⟨(K11.mono (fun _ _ h => h.elim)), ?_⟩)
   replace K0 := K0.trans K11 (U := (fun i => i = p)) (fun i h1 h2 => h2) (fun i h1 h2 => by exact h2.elim)
   replace Hp := Hp.keep K11 (fun h => h)
   replace Hc := Hc.keep K11 (fun h => h)
   refine Dr.strong (S' := (fun wz => Keeps (fun i => i = p) w10 wz)) ((Keeps.refl w10).mono (fun _ _ h => h.elim)) (fun wz hx => K11.trans hx (fun i _ h => h.elim) (fun _ _ h => h)) ?_
   clear K11
   refine Dr.takes (fuel' := 6) (is' := [2, 1, 0]) [0, 1, 2] [(1, (ptr c)), (3, (i64 0)), (15, (ptr p)), (17, (ptr p))] (by kernel_rfl) rfl (by kernel_rfl) ?_
   refine Dr.take (i := 4) (v := (i64 x)) (by kernel_rfl) (by kernel_rfl) (fun wz hS => Runs.load (t := 2) (a := ⟨c, 0, none⟩) (by kernel_rfl) ((Hc.keep hS (by intro h; change c = p at h; omega)).loads (by kernel_rfl))) (d := (some 19)) (by kernel_rfl) rfl ?_
   refine Dr.go (i := 3) (v := (i64 A)) (by kernel_rfl) (by kernel_rfl) (Runs.load (t := 2) (a := ⟨p, 0, none⟩) (by kernel_rfl) (Hp.loads (by kernel_rfl))) (d := (some 18)) (by kernel_rfl) rfl ((Keeps.refl _).mono (fun _ _ h => h.elim)) ?_
   refine Dr.takes (fuel' := 3) (is' := [5, 3, 4, 2, 1, 0]) [5] [(3, (i64 0)), (15, (ptr p)), (20, (i64 (IntKind.i64.wrap (A + x))))] (by kernel_rfl) rfl (by kernel_rfl) ?_
   have e12 : IntKind.i64.wrap (A + x) = A + x := wrap_i64 (by omega) (by omega)
   rw [e12]
   refine Dr.takes (fuel' := 1) (is' := [7, 6, 5, 3, 4, 2, 1, 0]) [6, 7] [(3, (i64 0)), (20, (i64 (A + x))), (22, (ptr p))] (by kernel_rfl) rfl (by kernel_rfl) ?_
   refine Dr.put (i := 8) (t := 2) (b := p) (off := 0) (v := (i64 (A + x))) (ys := [(i64 (A + x)), (Value.string (str O))]) (by kernel_rfl) (by kernel_rfl) (by kernel_rfl) Hp (by kernel_rfl) (d := none) (by kernel_rfl) rfl (fun w13 H14 K15 => ?_)
   clear Hp
   replace K0 := K0.trans K15 (U := (fun i => i = p)) (fun i h1 h2 => h2) (fun i h1 h2 => by have h2 : i = p := h2; show i = p; omega)
   replace Hc := Hc.keep K15 (by intro h; change c = p at h; omega)
   refine ⟨K15, ?_⟩
   refine Dr.strong (S' := (fun wz => Keeps (fun i => i = p) w13 wz)) ((Keeps.refl w13).mono (fun _ _ h => h.elim)) (fun wz hx => K15.trans hx (fun i _ h => by have h : i = p := h; show i = p; omega) (fun _ _ h => h)) ?_
   clear K15
   refine Dr.done (by kernel_rfl) ?_
   refine qs ?_
   refine qg ?_
   refine og 1 [(3, (i64 0))] 1 ?_
   refine od ?_
   refine q_ret (by kernel_rfl) ?_
   refine ⟨(i64 0), retv_tmp rfl rfl, ?_⟩
   have e : addF x (A, O) = (0, (A + x, O)) := by unfold addF; simp only; first | (rw [if_pos (by first | omega | (simp_all; done) | (simp_all; omega))]; done) | (rw [if_neg (by first | omega | (simp_all; done) | (simp_all; omega)), if_pos (by first | omega | (simp_all; done) | (simp_all; omega))]; done) | (rw [if_neg (by first | omega | (simp_all; done) | (simp_all; omega)), if_neg (by first | omega | (simp_all; done) | (simp_all; omega))]; done) | (rw [if_neg (by first | omega | (simp_all; done) | (simp_all; omega))]; done)
   rw [e]
   exact ⟨rfl, K0, H14⟩

theorem ChgAdd_none (w : World) (b mb : Nat) (m : List (List UInt8 × AccV)) (S : List AccM) (n : List UInt8) (c : Nat) (x : Int) (Hb : Has w b (rowL [.map (some mb)] 66)) (Hm : HasMap w mb kstr accv m) (hne : b ≠ mb) (hB : Book m S) (Hc : Has w c (rowL [(i64 x)] 2)) (hcb : c ≠ mb) (hcb2 : c ≠ b) (hx : -9223372036854775808 ≤ x ∧ x ≤ 9223372036854775807) (hg : getS S n = none) : Calls Tryz.prog 62 ⟨[(ptr b), (Value.string (str n)), (Value.func (Fn.func 68) ⟨[]⟩ ⟨[(ptr c)]⟩)]⟩ w (fun e w' => ∃ m', e = .returned (i64 (chgE (addF x) S n)) ∧ Keeps (fun i => i = mb) w w' ∧ HasMap w' mb kstr accv m' ∧ Book m' (chgS (addF x) S n)) := by
 have Hbl := Hb.lt
 have Hml := Hm.lt
 have hlen := hB.len
 have Hcl := Hc.lt
 have K0 : Keeps (fun i => i = mb) w w := (Keeps.refl w).mono (fun _ _ h => h.elim)
 have hgm : getM m n = none := by rw [hB.get, hg]; rfl
 refine q_calls Tryz.func62 (by kernel_rfl) (by kernel_rfl) ?_
 refine qs ?_
 refine qg ?_
 refine og 1 [(0, (ptr b)), (1, (Value.string (str n))), (2, (Value.func (Fn.func 68) ⟨[]⟩ ⟨[(ptr c)]⟩)), (6, (i64 0))] 1 ?_
 refine od ?_
 refine qs ?_
 refine qs ?_
 refine qg ?_
 refine og 2 [(0, (ptr b)), (1, (Value.string (str n))), (2, (Value.func (Fn.func 68) ⟨[]⟩ ⟨[(ptr c)]⟩)), (6, (i64 0)), (11, (Value.bool false))] 2 ?_
 refine od ?_
 refine q_else (o := .tmp 11) (by kernel_rfl) rfl ?_
 refine q_skip (by kernel_rfl) ?_
 refine qs ?_
 refine qg ?_
 refine og 3 [(0, (ptr b)), (1, (Value.string (str n))), (2, (Value.func (Fn.func 68) ⟨[]⟩ ⟨[(ptr c)]⟩)), (6, (i64 0)), (15, (ptr b))] 3 ?_
 refine Ops.go (v := (Value.map (some mb))) (by kernel_rfl) (Runs.load (t := 64) (a := ⟨b, 0, none⟩) (by kernel_rfl) (Hb.loads (by kernel_rfl))) (d := (some 16)) (by kernel_rfl) rfl ?_
 refine og 1 [(0, (ptr b)), (1, (Value.string (str n))), (2, (Value.func (Fn.func 68) ⟨[]⟩ ⟨[(ptr c)]⟩)), (6, (i64 0)), (16, (Value.map (some mb))), (17, (Value.string (str n)))] 5 ?_
 refine Ops.go (v := (Value.tuple #[(agg [(i64 0), (Value.string ByteArray.empty)]), (Value.bool false)])) (by kernel_rfl) (Runs.lookup_none (ok := true) (z := (agg [(i64 0), (Value.string ByteArray.empty)])) KT Tryz.underlying64 (by kernel_rfl) Hm hgm (by kernel_rfl)) (d := (some 18)) (by kernel_rfl) rfl ?_
 refine og 3 [(0, (ptr b)), (1, (Value.string (str n))), (2, (Value.func (Fn.func 68) ⟨[]⟩ ⟨[(ptr c)]⟩)), (6, (i64 0)), (19, (agg [(i64 0), (Value.string ByteArray.empty)])), (20, (Value.bool false))] 9 ?_
 refine Ops.new (o := rowL [(i64 0), (Value.string ByteArray.empty)] 70) (V := fun b => (ptr b)) (by kernel_rfl) (d := (some 7)) (by kernel_rfl) (fun b => rfl) (fun b1 w2 hb3 H4 K5 hs6 => ?_)
 have lb1b : b < b1 := by have := Hb.lt; omega
 have lb1mb : mb < b1 := by have := Hm.lt; omega
 have lb1c : c < b1 := by have := Hc.lt; omega
 have nb1 : w.heap.size ≤ b1 := by have := K0.size; omega
 replace K0 := K0.trans K5 (U := (fun i => i = mb)) (fun i h1 h2 => h2) (fun i h1 h2 => by exact h2.elim)
 replace Hb := Hb.keep K5 (fun h => h)
 replace Hm := Hm.keep K5 (fun h => h)
 replace Hc := Hc.keep K5 (fun h => h)
 clear K5 hs6
 refine Ops.put (t := 70) (b := b1) (off := 0) (v := (agg [(i64 0), (Value.string ByteArray.empty)])) (ys := [(i64 0), (Value.string ByteArray.empty)]) (by kernel_rfl) (by kernel_rfl) H4 (by kernel_rfl) (d := none) (by kernel_rfl) rfl (fun w7 H8 K9 => ?_)
 clear H4
 replace K0 := K0.trans K9 (U := (fun i => i = mb)) (fun i h1 h2 => h2) (fun i h1 h2 => by have h2 : i = b1 := h2; show i = mb; omega)
 replace Hb := Hb.keep K9 (by intro h; change b = b1 at h; omega)
 replace Hm := Hm.keep K9 (by intro h; change mb = b1 at h; omega)
 replace Hc := Hc.keep K9 (by intro h; change c = b1 at h; omega)
 clear K9
 refine og 1 [(0, (ptr b)), (1, (Value.string (str n))), (2, (Value.func (Fn.func 68) ⟨[]⟩ ⟨[(ptr c)]⟩)), (6, (i64 0)), (7, (ptr b1)), (8, (Value.bool false))] 12 ?_
 refine od ?_
 refine qs ?_
 refine qs ?_
 refine qg ?_
 refine og 2 [(0, (ptr b)), (1, (Value.string (str n))), (2, (Value.func (Fn.func 68) ⟨[]⟩ ⟨[(ptr c)]⟩)), (6, (i64 0)), (7, (ptr b1)), (22, (Value.bool true))] 2 ?_
 refine od ?_
 refine q_then (o := .tmp 22) (by kernel_rfl) rfl ?_
 refine qs ?_
 refine qg ?_
 refine og 1 [(0, (ptr b)), (1, (Value.string (str n))), (2, (Value.func (Fn.func 68) ⟨[]⟩ ⟨[(ptr c)]⟩)), (6, (i64 40)), (7, (ptr b1))] 1 ?_
 refine od ?_
 refine q_ret (by kernel_rfl) ?_
 refine ⟨(i64 40), retv_tmp rfl rfl, ?_⟩
 exact ⟨m, by unfold chgE; rw [hg], K0, Hm, hB.none hg⟩

theorem ChgAdd_some (w : World) (b mb : Nat) (m : List (List UInt8 × AccV)) (S : List AccM) (n : List UInt8) (c : Nat) (x : Int) (Hb : Has w b (rowL [.map (some mb)] 66)) (Hm : HasMap w mb kstr accv m) (hne : b ≠ mb) (hB : Book m S) (Hc : Has w c (rowL [(i64 x)] 2)) (hcb : c ≠ mb) (hcb2 : c ≠ b) (hx : -9223372036854775808 ≤ x ∧ x ≤ 9223372036854775807) (a : AccM) (hg : getS S n = some a) : Calls Tryz.prog 62 ⟨[(ptr b), (Value.string (str n)), (Value.func (Fn.func 68) ⟨[]⟩ ⟨[(ptr c)]⟩)]⟩ w (fun e w' => ∃ m', e = .returned (i64 (chgE (addF x) S n)) ∧ Keeps (fun i => i = mb) w w' ∧ HasMap w' mb kstr accv m' ∧ Book m' (chgS (addF x) S n)) := by
 have Hbl := Hb.lt
 have Hml := Hm.lt
 have hlen := hB.len
 have Hcl := Hc.lt
 have K0 : Keeps (fun i => i = mb) w w := (Keeps.refl w).mono (fun _ _ h => h.elim)
 have hgm : getM m n = some (a.amt, a.own) := by rw [hB.get, hg]; rfl
 have hao := hB.accs.ok a (getS_some hg).1
 have ha1 := hao.lo
 have ha2 := hao.hi
 refine q_calls Tryz.func62 (by kernel_rfl) (by kernel_rfl) ?_
 refine qs ?_
 refine qg ?_
 refine og 1 [(0, (ptr b)), (1, (Value.string (str n))), (2, (Value.func (Fn.func 68) ⟨[]⟩ ⟨[(ptr c)]⟩)), (6, (i64 0))] 1 ?_
 refine od ?_
 refine qs ?_
 refine qs ?_
 refine qg ?_
 refine og 2 [(0, (ptr b)), (1, (Value.string (str n))), (2, (Value.func (Fn.func 68) ⟨[]⟩ ⟨[(ptr c)]⟩)), (6, (i64 0)), (11, (Value.bool false))] 2 ?_
 refine od ?_
 refine q_else (o := .tmp 11) (by kernel_rfl) rfl ?_
 refine q_skip (by kernel_rfl) ?_
 refine qs ?_
 refine qg ?_
 refine og 3 [(0, (ptr b)), (1, (Value.string (str n))), (2, (Value.func (Fn.func 68) ⟨[]⟩ ⟨[(ptr c)]⟩)), (6, (i64 0)), (15, (ptr b))] 3 ?_
 refine Ops.go (v := (Value.map (some mb))) (by kernel_rfl) (Runs.load (t := 64) (a := ⟨b, 0, none⟩) (by kernel_rfl) (Hb.loads (by kernel_rfl))) (d := (some 16)) (by kernel_rfl) rfl ?_
 refine og 1 [(0, (ptr b)), (1, (Value.string (str n))), (2, (Value.func (Fn.func 68) ⟨[]⟩ ⟨[(ptr c)]⟩)), (6, (i64 0)), (16, (Value.map (some mb))), (17, (Value.string (str n)))] 5 ?_
 refine Ops.go (v := (Value.tuple #[(agg [(i64 a.amt), (Value.string (str a.own))]), (Value.bool true)])) (by kernel_rfl) (Runs.lookup_some (ok := true) (vf := accv) (a := (a.amt, a.own)) KT Tryz.underlying64 Hm hgm (by kernel_rfl)) (d := (some 18)) (by kernel_rfl) rfl ?_
 refine og 3 [(0, (ptr b)), (1, (Value.string (str n))), (2, (Value.func (Fn.func 68) ⟨[]⟩ ⟨[(ptr c)]⟩)), (6, (i64 0)), (19, (agg [(i64 a.amt), (Value.string (str a.own))])), (20, (Value.bool true))] 9 ?_
 refine Ops.new (o := rowL [(i64 0), (Value.string ByteArray.empty)] 70) (V := fun b => (ptr b)) (by kernel_rfl) (d := (some 7)) (by kernel_rfl) (fun b => rfl) (fun b1 w2 hb3 H4 K5 hs6 => ?_)
 have lb1b : b < b1 := by have := Hb.lt; omega
 have lb1mb : mb < b1 := by have := Hm.lt; omega
 have lb1c : c < b1 := by have := Hc.lt; omega
 have nb1 : w.heap.size ≤ b1 := by have := K0.size; omega
 replace K0 := K0.trans K5 (U := (fun i => i = mb)) (fun i h1 h2 => h2) (fun i h1 h2 => by exact h2.elim)
 replace Hb := Hb.keep K5 (fun h => h)
 replace Hm := Hm.keep K5 (fun h => h)
 replace Hc := Hc.keep K5 (fun h => h)
 clear K5 hs6
 refine Ops.put (t := 70) (b := b1) (off := 0) (v := (agg [(i64 a.amt), (Value.string (str a.own))])) (ys := [(i64 a.amt), (Value.string (str a.own))]) (by kernel_rfl) (by kernel_rfl) H4 (by kernel_rfl) (d := none) (by kernel_rfl) rfl (fun w7 H8 K9 => ?_)
 clear H4
 replace K0 := K0.trans K9 (U := (fun i => i = mb)) (fun i h1 h2 => h2) (fun i h1 h2 => by have h2 : i = b1 := h2; show i = mb; omega)
 replace Hb := Hb.keep K9 (by intro h; change b = b1 at h; omega)
 replace Hm := Hm.keep K9 (by intro h; change mb = b1 at h; omega)
 replace Hc := Hc.keep K9 (by intro h; change c = b1 at h; omega)
 clear K9
 refine og 1 [(0, (ptr b)), (1, (Value.string (str n))), (2, (Value.func (Fn.func 68) ⟨[]⟩ ⟨[(ptr c)]⟩)), (6, (i64 0)), (7, (ptr b1)), (8, (Value.bool true))] 12 ?_
 refine od ?_
 refine qs ?_
 refine qs ?_
 refine qg ?_
 refine og 2 [(0, (ptr b)), (1, (Value.string (str n))), (2, (Value.func (Fn.func 68) ⟨[]⟩ ⟨[(ptr c)]⟩)), (6, (i64 0)), (7, (ptr b1)), (22, (Value.bool false))] 2 ?_
 refine od ?_
 refine q_else (o := .tmp 22) (by kernel_rfl) rfl ?_
 refine q_skip (by kernel_rfl) ?_
 refine qs ?_
 refine qg ?_
 refine og 1 [(0, (ptr b)), (1, (Value.string (str n))), (6, (i64 0)), (7, (ptr b1)), (23, (Value.func (Fn.func 68) ⟨[]⟩ ⟨[(ptr c)]⟩))] 1 ?_
 refine Ops.call (by kernel_rfl) (d := (some 24)) (by kernel_rfl) (Add1_calls _ b1 c a.amt a.own x H8 Hc (by omega) (by omega) (by omega)) ?_
 rintro _ w10 ⟨rfl, K11, H12⟩
 refine ⟨_, _, rfl, rfl, ?_⟩
 replace K0 := K0.trans K11 (U := (fun i => i = mb)) (fun i h1 h2 => h2) (fun i h1 h2 => by have h2 : i = b1 := h2; show i = mb; omega)
 replace Hb := Hb.keep K11 (by intro h; change b = b1 at h; omega)
 replace Hm := Hm.keep K11 (by intro h; change mb = b1 at h; omega)
 replace Hc := Hc.keep K11 (by intro h; change c = b1 at h; omega)
 clear K11
 refine og 1 [(0, (ptr b)), (1, (Value.string (str n))), (6, (i64 0)), (7, (ptr b1)), (9, (i64 ((addF x (a.amt, a.own)).1)))] 3 ?_
 refine od ?_
 refine qs ?_
 refine q_draw (fun wz => Keeps (fun i => i = mb) w10 wz) 7 (by kernel_rfl) (by kernel_rfl) (by kernel_rfl) (fun w13 K14 _ _ => ⟨(K14.mono (fun _ _ h => h.elim)), ?_⟩)
 replace K0 := K0.trans K14 (U := (fun i => i = mb)) (fun i h1 h2 => h2) (fun i h1 h2 => by exact h2.elim)
 replace Hb := Hb.keep K14 (fun h => h)
 replace Hm := Hm.keep K14 (fun h => h)
 replace Hc := Hc.keep K14 (fun h => h)
 replace H12 := H12.keep K14 (fun h => h)
 refine Dr.strong (S' := (fun wz => Keeps (fun i => i = mb) w13 wz)) ((Keeps.refl w13).mono (fun _ _ h => h.elim)) (fun wz hx => K14.trans hx (fun i _ h => h.elim) (fun _ _ h => h)) ?_
 clear K14
 refine Dr.takes (fuel' := 4) (is' := [2, 1, 0]) [0, 1, 2] [(1, (Value.string (str n))), (6, (i64 0)), (7, (ptr b1)), (9, (i64 ((addF x (a.amt, a.own)).1))), (27, (ptr b))] (by kernel_rfl) rfl (by kernel_rfl) ?_
 refine Dr.take (i := 3) (v := (Value.map (some mb))) (by kernel_rfl) (by kernel_rfl) (fun wz hS => Runs.load (t := 64) (a := ⟨b, 0, none⟩) (by kernel_rfl) ((Hb.keep hS (by intro h; change b = mb at h; omega)).loads (by kernel_rfl))) (d := (some 28)) (by kernel_rfl) rfl ?_
 refine Dr.takes (fuel' := 2) (is' := [4, 3, 2, 1, 0]) [4] [(6, (i64 0)), (7, (ptr b1)), (9, (i64 ((addF x (a.amt, a.own)).1))), (28, (Value.map (some mb))), (29, (Value.string (str n)))] (by kernel_rfl) rfl (by kernel_rfl) ?_
 refine Dr.take (i := 5) (v := (agg [(i64 ((addF x (a.amt, a.own)).2.1)), (Value.string (str ((addF x (a.amt, a.own)).2.2)))])) (by kernel_rfl) (by kernel_rfl) (fun wz hS => Runs.load (t := 70) (a := ⟨b1, 0, none⟩) (by kernel_rfl) ((H12.keep hS (by intro h; change b1 = mb at h; omega)).loads (by kernel_rfl))) (d := (some 30)) (by kernel_rfl) rfl ?_
 obtain ⟨w15, hr16, K17, H18⟩ := HasMap.update KT Tryz.underlying64 Hm n ((addF x (a.amt, a.own)).2.1, ((addF x (a.amt, a.own)).2.2))
 refine Dr.goU (i := 6) (by kernel_rfl) (by kernel_rfl) (RunsU.of_update (by kernel_rfl) hr16) (d := none) (by kernel_rfl) rfl K17 ?_
 clear Hm
 replace K0 := K0.trans K17 (U := (fun i => i = mb)) (fun i h1 h2 => h2) (fun i h1 h2 => by have h2 : i = mb := h2; show i = mb; omega)
 replace Hb := Hb.keep K17 (by intro h; change b = mb at h; omega)
 replace Hc := Hc.keep K17 (by intro h; change c = mb at h; omega)
 replace H12 := H12.keep K17 (by intro h; change b1 = mb at h; omega)
 refine Dr.strong (S' := (fun wz => Keeps (fun i => i = mb) w15 wz)) ((Keeps.refl w15).mono (fun _ _ h => h.elim)) (fun wz hx => K17.trans hx (fun i _ h => by have h : i = mb := h; show i = mb; omega) (fun _ _ h => h)) ?_
 clear K17 hr16
 refine Dr.done (by kernel_rfl) ?_
 refine qs ?_
 refine qg ?_
 refine og 2 [(6, (i64 ((addF x (a.amt, a.own)).1)))] 2 ?_
 refine od ?_
 refine q_ret (by kernel_rfl) ?_
 refine ⟨(i64 ((addF x (a.amt, a.own)).1)), retv_tmp rfl rfl, ?_⟩
 exact ⟨_, by unfold chgE; rw [hg], K0, H18, hB.chg (calm_add x) hg⟩

theorem ChgAdd_calls (w : World) (b mb : Nat) (m : List (List UInt8 × AccV)) (S : List AccM) (n : List UInt8) (c : Nat) (x : Int) (Hb : Has w b (rowL [.map (some mb)] 66)) (Hm : HasMap w mb kstr accv m) (hne : b ≠ mb) (hB : Book m S) (Hc : Has w c (rowL [(i64 x)] 2)) (hcb : c ≠ mb) (hcb2 : c ≠ b) (hx : -9223372036854775808 ≤ x ∧ x ≤ 9223372036854775807) : Calls Tryz.prog 62 ⟨[(ptr b), (Value.string (str n)), (Value.func (Fn.func 68) ⟨[]⟩ ⟨[(ptr c)]⟩)]⟩ w (fun e w' => ∃ m', e = .returned (i64 (chgE (addF x) S n)) ∧ Keeps (fun i => i = mb) w w' ∧ HasMap w' mb kstr accv m' ∧ Book m' (chgS (addF x) S n)) := by
 cases hg : getS S n with
 | none => exact ChgAdd_none w b mb m S n c x Hb Hm hne hB Hc hcb hcb2 hx hg
 | some a => exact ChgAdd_some w b mb m S n c x Hb Hm hne hB Hc hcb hcb2 hx a hg

theorem Add_calls (w : World) (b mb : Nat) (m : List (List UInt8 × AccV)) (S : List AccM) (n : List UInt8) (x : Int) (Hb : Has w b (rowL [.map (some mb)] 66)) (Hm : HasMap w mb kstr accv m) (hne : b ≠ mb) (hB : Book m S) (hx : -9223372036854775808 ≤ x ∧ x ≤ 9223372036854775807) : Calls Tryz.prog 28 ⟨[(ptr b), (Value.string (str n)), (i64 x)]⟩ w (fun e w' => ∃ m', e = .returned (i64 (chgE (addF x) S n)) ∧ Keeps (fun i => i = mb) w w' ∧ HasMap w' mb kstr accv m' ∧ Book m' (chgS (addF x) S n)) := by
 have Hbl := Hb.lt
 have Hml := Hm.lt
 have hlen := hB.len
 have K0 : Keeps (fun i => i = mb) w w := (Keeps.refl w).mono (fun _ _ h => h.elim)
 refine q_calls Tryz.func28 (by kernel_rfl) (by kernel_rfl) ?_
 refine qs ?_
 refine qg ?_
 refine Ops.new (o := rowL [(i64 x)] 2) (V := fun b => (ptr b)) (by kernel_rfl) (d := (some 5)) (by kernel_rfl) (fun b => rfl) (fun b1 w2 hb3 H4 K5 hs6 => ?_)
 have lb1b : b < b1 := by have := Hb.lt; omega
 have lb1mb : mb < b1 := by have := Hm.lt; omega
 have nb1 : w.heap.size ≤ b1 := by have := K0.size; omega
 replace K0 := K0.trans K5 (U := (fun i => i = mb)) (fun i h1 h2 => h2) (fun i h1 h2 => by exact h2.elim)
 replace Hb := Hb.keep K5 (fun h => h)
 replace Hm := Hm.keep K5 (fun h => h)
 clear K5 hs6
 refine og 1 [(0, (ptr b)), (1, (Value.string (str n))), (5, (ptr b1)), (6, (i64 0))] 2 ?_
 refine od ?_
 refine qs ?_
 refine qg ?_
 refine og 3 [(6, (i64 0)), (7, (ptr b)), (8, (Value.string (str n))), (9, (Value.func (Fn.func 68) ⟨[]⟩ ⟨[(ptr b1)]⟩))] 3 ?_
 refine Ops.call (by kernel_rfl) (d := (some 10)) (by kernel_rfl) (ChgAdd_calls _ b mb m S n b1 x Hb Hm (by omega) hB H4 (by omega) (by omega) (by omega)) ?_
 rintro _ w8 ⟨m7, rfl, K9, H10, hB11⟩
 have hl12 := hB11.len
 refine ⟨_, _, rfl, rfl, ?_⟩
 replace K0 := K0.trans K9 (U := (fun i => i = mb)) (fun i h1 h2 => h2) (fun i h1 h2 => by have h2 : i = mb := h2; show i = mb; omega)
 replace Hb := Hb.keep K9 (by intro h; change b = mb at h; omega)
 replace H4 := H4.keep K9 (by intro h; change b1 = mb at h; omega)
 clear K9
 refine og 1 [(6, (i64 (chgE (addF x) S n)))] 5 ?_
 refine od ?_
 refine q_ret (by kernel_rfl) ?_
 refine ⟨(i64 (chgE (addF x) S n)), retv_tmp rfl rfl, ?_⟩
 exact ⟨_, rfl, K0, H10, hB11⟩

theorem Take1_calls (w : World) (p c : Nat) (A : Int) (O : List UInt8) (x : Int) (Hp : Has w p (rowL [i64 A, .string (str O)] 70)) (Hc : Has w c (rowL [(i64 x)] 2)) (hpc : p ≠ c) (hA : 0 ≤ A ∧ A ≤ 9223372036854775807) (hx : -9223372036854775808 ≤ x ∧ x ≤ 9223372036854775807) : Calls Tryz.prog 69 ⟨[(ptr p), (ptr c)]⟩ w (fun e w' => e = .returned (i64 (takeF x (A, O)).1) ∧ Keeps (fun i => i = p) w w' ∧ Has w' p (rowL [i64 (takeF x (A, O)).2.1, .string (str (takeF x (A, O)).2.2)] 70)) := by
 have Hpl := Hp.lt
 have Hcl := Hc.lt
 have K0 : Keeps (fun i => i = p) w w := (Keeps.refl w).mono (fun _ _ h => h.elim)
 refine q_calls Tryz.func69 (by kernel_rfl) (by kernel_rfl) ?_
 refine qs ?_
 refine qg ?_
 refine og 1 [(0, (ptr p)), (1, (ptr c)), (3, (i64 0))] 1 ?_
 refine od ?_
 refine qs ?_
 refine q_block (id := 0) (by kernel_rfl) ?_
 refine qs ?_
 refine qg ?_
 refine Ops.go (v := (i64 x)) (by kernel_rfl) (Runs.load (t := 2) (a := ⟨c, 0, none⟩) (by kernel_rfl) (Hc.loads (by kernel_rfl))) (d := (some 5)) (by kernel_rfl) rfl ?_
 refine og 2 [(0, (ptr p)), (1, (ptr c)), (3, (i64 0)), (4, (Value.bool (decide (x < 1))))] 3 ?_
 refine od ?_
 refine q_cond (o := .tmp 4) (b := (decide (x < 1))) (by kernel_rfl) rfl (fun h1 => ?_) (fun h1 => ?_)
 ·rw [h1]
  have p2 : x < 1 := of_decide_eq_true h1
  refine qs ?_
  refine qg ?_
  refine og 1 [(0, (ptr p)), (1, (ptr c)), (3, (i64 47))] 1 ?_
  refine od ?_
  refine q_ret (by kernel_rfl) ?_
  refine ⟨(i64 47), retv_tmp rfl rfl, ?_⟩
  have e : takeF x (A, O) = (47, (A, O)) := by unfold takeF; simp only; first | (rw [if_pos (by first | omega | (simp_all; done) | (simp_all; omega))]; done) | (rw [if_neg (by first | omega | (simp_all; done) | (simp_all; omega)), if_pos (by first | omega | (simp_all; done) | (simp_all; omega))]; done) | (rw [if_neg (by first | omega | (simp_all; done) | (simp_all; omega)), if_neg (by first | omega | (simp_all; done) | (simp_all; omega))]; done) | (rw [if_neg (by first | omega | (simp_all; done) | (simp_all; omega))]; done)
  rw [e]
  exact ⟨rfl, K0, Hp⟩
 ·rw [h1]
  have p3 : ¬ (x < 1) := of_decide_eq_false h1
  refine qs ?_
  refine q_draw (fun wz => Keeps none_ w wz) 7 (by kernel_rfl) (by kernel_rfl) (by kernel_rfl) (fun w4 K5 _ _ => ⟨K5, ?_⟩)
  replace K0 := K0.trans K5 (U := (fun i => i = p)) (fun i h1 h2 => h2) (fun i h1 h2 => by exact h2.elim)
  replace Hp := Hp.keep K5 (fun h => h)
  replace Hc := Hc.keep K5 (fun h => h)
  refine Dr.strong (S' := (fun wz => Keeps none_ w4 wz)) (Keeps.refl w4) (fun wz hx => K5.trans hx (fun i _ h => h) (fun _ _ h => h)) ?_
  clear K5
  refine Dr.takes (fuel' := 4) (is' := [2, 1, 0]) [0, 1, 2] [(0, (ptr p)), (1, (ptr c)), (3, (i64 0)), (10, (ptr p))] (by kernel_rfl) rfl (by kernel_rfl) ?_
  refine Dr.take (i := 3) (v := (i64 A)) (by kernel_rfl) (by kernel_rfl) (fun wz hS => Runs.load (t := 2) (a := ⟨p, 0, none⟩) (by kernel_rfl) ((Hp.keep hS (fun h => h)).loads (by kernel_rfl))) (d := (some 11)) (by kernel_rfl) rfl ?_
  refine Dr.take (i := 4) (v := (i64 x)) (by kernel_rfl) (by kernel_rfl) (fun wz hS => Runs.load (t := 2) (a := ⟨c, 0, none⟩) (by kernel_rfl) ((Hc.keep hS (fun h => h)).loads (by kernel_rfl))) (d := (some 12)) (by kernel_rfl) rfl ?_
  refine Dr.takes (fuel' := 0) (is' := [6, 5, 4, 3, 2, 1, 0]) [5, 6] [(0, (ptr p)), (1, (ptr c)), (3, (i64 0)), (7, (Value.bool (decide (A < x))))] (by kernel_rfl) rfl (by kernel_rfl) ?_
  refine Dr.done (by kernel_rfl) ?_
  refine q_cond (o := .tmp 7) (b := (decide (A < x))) (by kernel_rfl) rfl (fun h6 => ?_) (fun h6 => ?_)
  ·rw [h6]
   have p7 : A < x := of_decide_eq_true h6
   refine qs ?_
   refine qg ?_
   refine og 1 [(0, (ptr p)), (1, (ptr c)), (3, (i64 42))] 1 ?_
   refine od ?_
   refine q_ret (by kernel_rfl) ?_
   refine ⟨(i64 42), retv_tmp rfl rfl, ?_⟩
   have e : takeF x (A, O) = (42, (A, O)) := by unfold takeF; simp only; first | (rw [if_pos (by first | omega | (simp_all; done) | (simp_all; omega))]; done) | (rw [if_neg (by first | omega | (simp_all; done) | (simp_all; omega)), if_pos (by first | omega | (simp_all; done) | (simp_all; omega))]; done) | (rw [if_neg (by first | omega | (simp_all; done) | (simp_all; omega)), if_neg (by first | omega | (simp_all; done) | (simp_all; omega))]; done) | (rw [if_neg (by first | omega | (simp_all; done) | (simp_all; omega))]; done)
   rw [e]
   exact ⟨rfl, K0, Hp⟩
  ·rw [h6]
   have p8 : ¬ (A < x) := of_decide_eq_false h6
   refine q_skip (by kernel_rfl) ?_
   refine qs ?_
   refine q_draw (fun wz => Keeps (fun i => i = p) w4 wz) 9 (by kernel_rfl) (by kernel_rfl) (by kernel_rfl) (fun w9 K10 _ _ => ⟨(K10.mono (fun _ _ h => h.elim)), ?_⟩)
   replace K0 := K0.trans K10 (U := (fun i => i = p)) (fun i h1 h2 => h2) (fun i h1 h2 => by exact h2.elim)
   replace Hp := Hp.keep K10 (fun h => h)
   replace Hc := Hc.keep K10 (fun h => h)
   refine Dr.strong (S' := (fun wz => Keeps (fun i => i = p) w9 wz)) ((Keeps.refl w9).mono (fun _ _ h => h.elim)) (fun wz hx => K10.trans hx (fun i _ h => h.elim) (fun _ _ h => h)) ?_
   clear K10
   refine Dr.takes (fuel' := 6) (is' := [2, 1, 0]) [0, 1, 2] [(1, (ptr c)), (3, (i64 0)), (14, (ptr p)), (16, (ptr p))] (by kernel_rfl) rfl (by kernel_rfl) ?_
   refine Dr.take (i := 4) (v := (i64 x)) (by kernel_rfl) (by kernel_rfl) (fun wz hS => Runs.load (t := 2) (a := ⟨c, 0, none⟩) (by kernel_rfl) ((Hc.keep hS (by intro h; change c = p at h; omega)).loads (by kernel_rfl))) (d := (some 18)) (by kernel_rfl) rfl ?_
   refine Dr.go (i := 3) (v := (i64 A)) (by kernel_rfl) (by kernel_rfl) (Runs.load (t := 2) (a := ⟨p, 0, none⟩) (by kernel_rfl) (Hp.loads (by kernel_rfl))) (d := (some 17)) (by kernel_rfl) rfl ((Keeps.refl _).mono (fun _ _ h => h.elim)) ?_
   refine Dr.takes (fuel' := 3) (is' := [5, 3, 4, 2, 1, 0]) [5] [(3, (i64 0)), (14, (ptr p)), (19, (i64 (IntKind.i64.wrap (A - x))))] (by kernel_rfl) rfl (by kernel_rfl) ?_
   have e11 : IntKind.i64.wrap (A - x) = A - x := wrap_i64 (by omega) (by omega)
   rw [e11]
   refine Dr.takes (fuel' := 1) (is' := [7, 6, 5, 3, 4, 2, 1, 0]) [6, 7] [(3, (i64 0)), (19, (i64 (A - x))), (21, (ptr p))] (by kernel_rfl) rfl (by kernel_rfl) ?_
   refine Dr.put (i := 8) (t := 2) (b := p) (off := 0) (v := (i64 (A - x))) (ys := [(i64 (A - x)), (Value.string (str O))]) (by kernel_rfl) (by kernel_rfl) (by kernel_rfl) Hp (by kernel_rfl) (d := none) (by kernel_rfl) rfl (fun w12 H13 K14 => ?_)
   clear Hp
   replace K0 := K0.trans K14 (U := (fun i => i = p)) (fun i h1 h2 => h2) (fun i h1 h2 => by have h2 : i = p := h2; show i = p; omega)
   replace Hc := Hc.keep K14 (by intro h; change c = p at h; omega)
   refine ⟨K14, ?_⟩
   refine Dr.strong (S' := (fun wz => Keeps (fun i => i = p) w12 wz)) ((Keeps.refl w12).mono (fun _ _ h => h.elim)) (fun wz hx => K14.trans hx (fun i _ h => by have h : i = p := h; show i = p; omega) (fun _ _ h => h)) ?_
   clear K14
   refine Dr.done (by kernel_rfl) ?_
   refine qs ?_
   refine qg ?_
   refine og 1 [(3, (i64 0))] 1 ?_
   refine od ?_
   refine q_ret (by kernel_rfl) ?_
   refine ⟨(i64 0), retv_tmp rfl rfl, ?_⟩
   have e : takeF x (A, O) = (0, (A - x, O)) := by unfold takeF; simp only; first | (rw [if_pos (by first | omega | (simp_all; done) | (simp_all; omega))]; done) | (rw [if_neg (by first | omega | (simp_all; done) | (simp_all; omega)), if_pos (by first | omega | (simp_all; done) | (simp_all; omega))]; done) | (rw [if_neg (by first | omega | (simp_all; done) | (simp_all; omega)), if_neg (by first | omega | (simp_all; done) | (simp_all; omega))]; done) | (rw [if_neg (by first | omega | (simp_all; done) | (simp_all; omega))]; done)
   rw [e]
   exact ⟨rfl, K0, H13⟩

theorem ChgTake_none (w : World) (b mb : Nat) (m : List (List UInt8 × AccV)) (S : List AccM) (n : List UInt8) (c : Nat) (x : Int) (Hb : Has w b (rowL [.map (some mb)] 66)) (Hm : HasMap w mb kstr accv m) (hne : b ≠ mb) (hB : Book m S) (Hc : Has w c (rowL [(i64 x)] 2)) (hcb : c ≠ mb) (hcb2 : c ≠ b) (hx : -9223372036854775808 ≤ x ∧ x ≤ 9223372036854775807) (hg : getS S n = none) : Calls Tryz.prog 62 ⟨[(ptr b), (Value.string (str n)), (Value.func (Fn.func 69) ⟨[]⟩ ⟨[(ptr c)]⟩)]⟩ w (fun e w' => ∃ m', e = .returned (i64 (chgE (takeF x) S n)) ∧ Keeps (fun i => i = mb) w w' ∧ HasMap w' mb kstr accv m' ∧ Book m' (chgS (takeF x) S n)) := by
 have Hbl := Hb.lt
 have Hml := Hm.lt
 have hlen := hB.len
 have Hcl := Hc.lt
 have K0 : Keeps (fun i => i = mb) w w := (Keeps.refl w).mono (fun _ _ h => h.elim)
 have hgm : getM m n = none := by rw [hB.get, hg]; rfl
 refine q_calls Tryz.func62 (by kernel_rfl) (by kernel_rfl) ?_
 refine qs ?_
 refine qg ?_
 refine og 1 [(0, (ptr b)), (1, (Value.string (str n))), (2, (Value.func (Fn.func 69) ⟨[]⟩ ⟨[(ptr c)]⟩)), (6, (i64 0))] 1 ?_
 refine od ?_
 refine qs ?_
 refine qs ?_
 refine qg ?_
 refine og 2 [(0, (ptr b)), (1, (Value.string (str n))), (2, (Value.func (Fn.func 69) ⟨[]⟩ ⟨[(ptr c)]⟩)), (6, (i64 0)), (11, (Value.bool false))] 2 ?_
 refine od ?_
 refine q_else (o := .tmp 11) (by kernel_rfl) rfl ?_
 refine q_skip (by kernel_rfl) ?_
 refine qs ?_
 refine qg ?_
 refine og 3 [(0, (ptr b)), (1, (Value.string (str n))), (2, (Value.func (Fn.func 69) ⟨[]⟩ ⟨[(ptr c)]⟩)), (6, (i64 0)), (15, (ptr b))] 3 ?_
 refine Ops.go (v := (Value.map (some mb))) (by kernel_rfl) (Runs.load (t := 64) (a := ⟨b, 0, none⟩) (by kernel_rfl) (Hb.loads (by kernel_rfl))) (d := (some 16)) (by kernel_rfl) rfl ?_
 refine og 1 [(0, (ptr b)), (1, (Value.string (str n))), (2, (Value.func (Fn.func 69) ⟨[]⟩ ⟨[(ptr c)]⟩)), (6, (i64 0)), (16, (Value.map (some mb))), (17, (Value.string (str n)))] 5 ?_
 refine Ops.go (v := (Value.tuple #[(agg [(i64 0), (Value.string ByteArray.empty)]), (Value.bool false)])) (by kernel_rfl) (Runs.lookup_none (ok := true) (z := (agg [(i64 0), (Value.string ByteArray.empty)])) KT Tryz.underlying64 (by kernel_rfl) Hm hgm (by kernel_rfl)) (d := (some 18)) (by kernel_rfl) rfl ?_
 refine og 3 [(0, (ptr b)), (1, (Value.string (str n))), (2, (Value.func (Fn.func 69) ⟨[]⟩ ⟨[(ptr c)]⟩)), (6, (i64 0)), (19, (agg [(i64 0), (Value.string ByteArray.empty)])), (20, (Value.bool false))] 9 ?_
 refine Ops.new (o := rowL [(i64 0), (Value.string ByteArray.empty)] 70) (V := fun b => (ptr b)) (by kernel_rfl) (d := (some 7)) (by kernel_rfl) (fun b => rfl) (fun b1 w2 hb3 H4 K5 hs6 => ?_)
 have lb1b : b < b1 := by have := Hb.lt; omega
 have lb1mb : mb < b1 := by have := Hm.lt; omega
 have lb1c : c < b1 := by have := Hc.lt; omega
 have nb1 : w.heap.size ≤ b1 := by have := K0.size; omega
 replace K0 := K0.trans K5 (U := (fun i => i = mb)) (fun i h1 h2 => h2) (fun i h1 h2 => by exact h2.elim)
 replace Hb := Hb.keep K5 (fun h => h)
 replace Hm := Hm.keep K5 (fun h => h)
 replace Hc := Hc.keep K5 (fun h => h)
 clear K5 hs6
 refine Ops.put (t := 70) (b := b1) (off := 0) (v := (agg [(i64 0), (Value.string ByteArray.empty)])) (ys := [(i64 0), (Value.string ByteArray.empty)]) (by kernel_rfl) (by kernel_rfl) H4 (by kernel_rfl) (d := none) (by kernel_rfl) rfl (fun w7 H8 K9 => ?_)
 clear H4
 replace K0 := K0.trans K9 (U := (fun i => i = mb)) (fun i h1 h2 => h2) (fun i h1 h2 => by have h2 : i = b1 := h2; show i = mb; omega)
 replace Hb := Hb.keep K9 (by intro h; change b = b1 at h; omega)
 replace Hm := Hm.keep K9 (by intro h; change mb = b1 at h; omega)
 replace Hc := Hc.keep K9 (by intro h; change c = b1 at h; omega)
 clear K9
 refine og 1 [(0, (ptr b)), (1, (Value.string (str n))), (2, (Value.func (Fn.func 69) ⟨[]⟩ ⟨[(ptr c)]⟩)), (6, (i64 0)), (7, (ptr b1)), (8, (Value.bool false))] 12 ?_
 refine od ?_
 refine qs ?_
 refine qs ?_
 refine qg ?_
 refine og 2 [(0, (ptr b)), (1, (Value.string (str n))), (2, (Value.func (Fn.func 69) ⟨[]⟩ ⟨[(ptr c)]⟩)), (6, (i64 0)), (7, (ptr b1)), (22, (Value.bool true))] 2 ?_
 refine od ?_
 refine q_then (o := .tmp 22) (by kernel_rfl) rfl ?_
 refine qs ?_
 refine qg ?_
 refine og 1 [(0, (ptr b)), (1, (Value.string (str n))), (2, (Value.func (Fn.func 69) ⟨[]⟩ ⟨[(ptr c)]⟩)), (6, (i64 40)), (7, (ptr b1))] 1 ?_
 refine od ?_
 refine q_ret (by kernel_rfl) ?_
 refine ⟨(i64 40), retv_tmp rfl rfl, ?_⟩
 exact ⟨m, by unfold chgE; rw [hg], K0, Hm, hB.none hg⟩

theorem ChgTake_some (w : World) (b mb : Nat) (m : List (List UInt8 × AccV)) (S : List AccM) (n : List UInt8) (c : Nat) (x : Int) (Hb : Has w b (rowL [.map (some mb)] 66)) (Hm : HasMap w mb kstr accv m) (hne : b ≠ mb) (hB : Book m S) (Hc : Has w c (rowL [(i64 x)] 2)) (hcb : c ≠ mb) (hcb2 : c ≠ b) (hx : -9223372036854775808 ≤ x ∧ x ≤ 9223372036854775807) (a : AccM) (hg : getS S n = some a) : Calls Tryz.prog 62 ⟨[(ptr b), (Value.string (str n)), (Value.func (Fn.func 69) ⟨[]⟩ ⟨[(ptr c)]⟩)]⟩ w (fun e w' => ∃ m', e = .returned (i64 (chgE (takeF x) S n)) ∧ Keeps (fun i => i = mb) w w' ∧ HasMap w' mb kstr accv m' ∧ Book m' (chgS (takeF x) S n)) := by
 have Hbl := Hb.lt
 have Hml := Hm.lt
 have hlen := hB.len
 have Hcl := Hc.lt
 have K0 : Keeps (fun i => i = mb) w w := (Keeps.refl w).mono (fun _ _ h => h.elim)
 have hgm : getM m n = some (a.amt, a.own) := by rw [hB.get, hg]; rfl
 have hao := hB.accs.ok a (getS_some hg).1
 have ha1 := hao.lo
 have ha2 := hao.hi
 refine q_calls Tryz.func62 (by kernel_rfl) (by kernel_rfl) ?_
 refine qs ?_
 refine qg ?_
 refine og 1 [(0, (ptr b)), (1, (Value.string (str n))), (2, (Value.func (Fn.func 69) ⟨[]⟩ ⟨[(ptr c)]⟩)), (6, (i64 0))] 1 ?_
 refine od ?_
 refine qs ?_
 refine qs ?_
 refine qg ?_
 refine og 2 [(0, (ptr b)), (1, (Value.string (str n))), (2, (Value.func (Fn.func 69) ⟨[]⟩ ⟨[(ptr c)]⟩)), (6, (i64 0)), (11, (Value.bool false))] 2 ?_
 refine od ?_
 refine q_else (o := .tmp 11) (by kernel_rfl) rfl ?_
 refine q_skip (by kernel_rfl) ?_
 refine qs ?_
 refine qg ?_
 refine og 3 [(0, (ptr b)), (1, (Value.string (str n))), (2, (Value.func (Fn.func 69) ⟨[]⟩ ⟨[(ptr c)]⟩)), (6, (i64 0)), (15, (ptr b))] 3 ?_
 refine Ops.go (v := (Value.map (some mb))) (by kernel_rfl) (Runs.load (t := 64) (a := ⟨b, 0, none⟩) (by kernel_rfl) (Hb.loads (by kernel_rfl))) (d := (some 16)) (by kernel_rfl) rfl ?_
 refine og 1 [(0, (ptr b)), (1, (Value.string (str n))), (2, (Value.func (Fn.func 69) ⟨[]⟩ ⟨[(ptr c)]⟩)), (6, (i64 0)), (16, (Value.map (some mb))), (17, (Value.string (str n)))] 5 ?_
 refine Ops.go (v := (Value.tuple #[(agg [(i64 a.amt), (Value.string (str a.own))]), (Value.bool true)])) (by kernel_rfl) (Runs.lookup_some (ok := true) (vf := accv) (a := (a.amt, a.own)) KT Tryz.underlying64 Hm hgm (by kernel_rfl)) (d := (some 18)) (by kernel_rfl) rfl ?_
 refine og 3 [(0, (ptr b)), (1, (Value.string (str n))), (2, (Value.func (Fn.func 69) ⟨[]⟩ ⟨[(ptr c)]⟩)), (6, (i64 0)), (19, (agg [(i64 a.amt), (Value.string (str a.own))])), (20, (Value.bool true))] 9 ?_
 refine Ops.new (o := rowL [(i64 0), (Value.string ByteArray.empty)] 70) (V := fun b => (ptr b)) (by kernel_rfl) (d := (some 7)) (by kernel_rfl) (fun b => rfl) (fun b1 w2 hb3 H4 K5 hs6 => ?_)
 have lb1b : b < b1 := by have := Hb.lt; omega
 have lb1mb : mb < b1 := by have := Hm.lt; omega
 have lb1c : c < b1 := by have := Hc.lt; omega
 have nb1 : w.heap.size ≤ b1 := by have := K0.size; omega
 replace K0 := K0.trans K5 (U := (fun i => i = mb)) (fun i h1 h2 => h2) (fun i h1 h2 => by exact h2.elim)
 replace Hb := Hb.keep K5 (fun h => h)
 replace Hm := Hm.keep K5 (fun h => h)
 replace Hc := Hc.keep K5 (fun h => h)
 clear K5 hs6
 refine Ops.put (t := 70) (b := b1) (off := 0) (v := (agg [(i64 a.amt), (Value.string (str a.own))])) (ys := [(i64 a.amt), (Value.string (str a.own))]) (by kernel_rfl) (by kernel_rfl) H4 (by kernel_rfl) (d := none) (by kernel_rfl) rfl (fun w7 H8 K9 => ?_)
 clear H4
 replace K0 := K0.trans K9 (U := (fun i => i = mb)) (fun i h1 h2 => h2) (fun i h1 h2 => by have h2 : i = b1 := h2; show i = mb; omega)
 replace Hb := Hb.keep K9 (by intro h; change b = b1 at h; omega)
 replace Hm := Hm.keep K9 (by intro h; change mb = b1 at h; omega)
 replace Hc := Hc.keep K9 (by intro h; change c = b1 at h; omega)
 clear K9
 refine og 1 [(0, (ptr b)), (1, (Value.string (str n))), (2, (Value.func (Fn.func 69) ⟨[]⟩ ⟨[(ptr c)]⟩)), (6, (i64 0)), (7, (ptr b1)), (8, (Value.bool true))] 12 ?_
 refine od ?_
 refine qs ?_
 refine qs ?_
 refine qg ?_
 refine og 2 [(0, (ptr b)), (1, (Value.string (str n))), (2, (Value.func (Fn.func 69) ⟨[]⟩ ⟨[(ptr c)]⟩)), (6, (i64 0)), (7, (ptr b1)), (22, (Value.bool false))] 2 ?_
 refine od ?_
 refine q_else (o := .tmp 22) (by kernel_rfl) rfl ?_
 refine q_skip (by kernel_rfl) ?_
 refine qs ?_
 refine qg ?_
 refine og 1 [(0, (ptr b)), (1, (Value.string (str n))), (6, (i64 0)), (7, (ptr b1)), (23, (Value.func (Fn.func 69) ⟨[]⟩ ⟨[(ptr c)]⟩))] 1 ?_
 refine Ops.call (by kernel_rfl) (d := (some 24)) (by kernel_rfl) (Take1_calls _ b1 c a.amt a.own x H8 Hc (by omega) (by omega) (by omega)) ?_
 rintro _ w10 ⟨rfl, K11, H12⟩
 refine ⟨_, _, rfl, rfl, ?_⟩
 replace K0 := K0.trans K11 (U := (fun i => i = mb)) (fun i h1 h2 => h2) (fun i h1 h2 => by have h2 : i = b1 := h2; show i = mb; omega)
 replace Hb := Hb.keep K11 (by intro h; change b = b1 at h; omega)
 replace Hm := Hm.keep K11 (by intro h; change mb = b1 at h; omega)
 replace Hc := Hc.keep K11 (by intro h; change c = b1 at h; omega)
 clear K11
 refine og 1 [(0, (ptr b)), (1, (Value.string (str n))), (6, (i64 0)), (7, (ptr b1)), (9, (i64 ((takeF x (a.amt, a.own)).1)))] 3 ?_
 refine od ?_
 refine qs ?_
 refine q_draw (fun wz => Keeps (fun i => i = mb) w10 wz) 7 (by kernel_rfl) (by kernel_rfl) (by kernel_rfl) (fun w13 K14 _ _ => ⟨(K14.mono (fun _ _ h => h.elim)), ?_⟩)
 replace K0 := K0.trans K14 (U := (fun i => i = mb)) (fun i h1 h2 => h2) (fun i h1 h2 => by exact h2.elim)
 replace Hb := Hb.keep K14 (fun h => h)
 replace Hm := Hm.keep K14 (fun h => h)
 replace Hc := Hc.keep K14 (fun h => h)
 replace H12 := H12.keep K14 (fun h => h)
 refine Dr.strong (S' := (fun wz => Keeps (fun i => i = mb) w13 wz)) ((Keeps.refl w13).mono (fun _ _ h => h.elim)) (fun wz hx => K14.trans hx (fun i _ h => h.elim) (fun _ _ h => h)) ?_
 clear K14
 refine Dr.takes (fuel' := 4) (is' := [2, 1, 0]) [0, 1, 2] [(1, (Value.string (str n))), (6, (i64 0)), (7, (ptr b1)), (9, (i64 ((takeF x (a.amt, a.own)).1))), (27, (ptr b))] (by kernel_rfl) rfl (by kernel_rfl) ?_
 refine Dr.take (i := 3) (v := (Value.map (some mb))) (by kernel_rfl) (by kernel_rfl) (fun wz hS => Runs.load (t := 64) (a := ⟨b, 0, none⟩) (by kernel_rfl) ((Hb.keep hS (by intro h; change b = mb at h; omega)).loads (by kernel_rfl))) (d := (some 28)) (by kernel_rfl) rfl ?_
 refine Dr.takes (fuel' := 2) (is' := [4, 3, 2, 1, 0]) [4] [(6, (i64 0)), (7, (ptr b1)), (9, (i64 ((takeF x (a.amt, a.own)).1))), (28, (Value.map (some mb))), (29, (Value.string (str n)))] (by kernel_rfl) rfl (by kernel_rfl) ?_
 refine Dr.take (i := 5) (v := (agg [(i64 ((takeF x (a.amt, a.own)).2.1)), (Value.string (str ((takeF x (a.amt, a.own)).2.2)))])) (by kernel_rfl) (by kernel_rfl) (fun wz hS => Runs.load (t := 70) (a := ⟨b1, 0, none⟩) (by kernel_rfl) ((H12.keep hS (by intro h; change b1 = mb at h; omega)).loads (by kernel_rfl))) (d := (some 30)) (by kernel_rfl) rfl ?_
 obtain ⟨w15, hr16, K17, H18⟩ := HasMap.update KT Tryz.underlying64 Hm n ((takeF x (a.amt, a.own)).2.1, ((takeF x (a.amt, a.own)).2.2))
 refine Dr.goU (i := 6) (by kernel_rfl) (by kernel_rfl) (RunsU.of_update (by kernel_rfl) hr16) (d := none) (by kernel_rfl) rfl K17 ?_
 clear Hm
 replace K0 := K0.trans K17 (U := (fun i => i = mb)) (fun i h1 h2 => h2) (fun i h1 h2 => by have h2 : i = mb := h2; show i = mb; omega)
 replace Hb := Hb.keep K17 (by intro h; change b = mb at h; omega)
 replace Hc := Hc.keep K17 (by intro h; change c = mb at h; omega)
 replace H12 := H12.keep K17 (by intro h; change b1 = mb at h; omega)
 refine Dr.strong (S' := (fun wz => Keeps (fun i => i = mb) w15 wz)) ((Keeps.refl w15).mono (fun _ _ h => h.elim)) (fun wz hx => K17.trans hx (fun i _ h => by have h : i = mb := h; show i = mb; omega) (fun _ _ h => h)) ?_
 clear K17 hr16
 refine Dr.done (by kernel_rfl) ?_
 refine qs ?_
 refine qg ?_
 refine og 2 [(6, (i64 ((takeF x (a.amt, a.own)).1)))] 2 ?_
 refine od ?_
 refine q_ret (by kernel_rfl) ?_
 refine ⟨(i64 ((takeF x (a.amt, a.own)).1)), retv_tmp rfl rfl, ?_⟩
 exact ⟨_, by unfold chgE; rw [hg], K0, H18, hB.chg (calm_take x) hg⟩

theorem ChgTake_calls (w : World) (b mb : Nat) (m : List (List UInt8 × AccV)) (S : List AccM) (n : List UInt8) (c : Nat) (x : Int) (Hb : Has w b (rowL [.map (some mb)] 66)) (Hm : HasMap w mb kstr accv m) (hne : b ≠ mb) (hB : Book m S) (Hc : Has w c (rowL [(i64 x)] 2)) (hcb : c ≠ mb) (hcb2 : c ≠ b) (hx : -9223372036854775808 ≤ x ∧ x ≤ 9223372036854775807) : Calls Tryz.prog 62 ⟨[(ptr b), (Value.string (str n)), (Value.func (Fn.func 69) ⟨[]⟩ ⟨[(ptr c)]⟩)]⟩ w (fun e w' => ∃ m', e = .returned (i64 (chgE (takeF x) S n)) ∧ Keeps (fun i => i = mb) w w' ∧ HasMap w' mb kstr accv m' ∧ Book m' (chgS (takeF x) S n)) := by
 cases hg : getS S n with
 | none => exact ChgTake_none w b mb m S n c x Hb Hm hne hB Hc hcb hcb2 hx hg
 | some a => exact ChgTake_some w b mb m S n c x Hb Hm hne hB Hc hcb hcb2 hx a hg

theorem Take_calls (w : World) (b mb : Nat) (m : List (List UInt8 × AccV)) (S : List AccM) (n : List UInt8) (x : Int) (Hb : Has w b (rowL [.map (some mb)] 66)) (Hm : HasMap w mb kstr accv m) (hne : b ≠ mb) (hB : Book m S) (hx : -9223372036854775808 ≤ x ∧ x ≤ 9223372036854775807) : Calls Tryz.prog 29 ⟨[(ptr b), (Value.string (str n)), (i64 x)]⟩ w (fun e w' => ∃ m', e = .returned (i64 (chgE (takeF x) S n)) ∧ Keeps (fun i => i = mb) w w' ∧ HasMap w' mb kstr accv m' ∧ Book m' (chgS (takeF x) S n)) := by
 have Hbl := Hb.lt
 have Hml := Hm.lt
 have hlen := hB.len
 have K0 : Keeps (fun i => i = mb) w w := (Keeps.refl w).mono (fun _ _ h => h.elim)
 refine q_calls Tryz.func29 (by kernel_rfl) (by kernel_rfl) ?_
 refine qs ?_
 refine qg ?_
 refine Ops.new (o := rowL [(i64 x)] 2) (V := fun b => (ptr b)) (by kernel_rfl) (d := (some 5)) (by kernel_rfl) (fun b => rfl) (fun b1 w2 hb3 H4 K5 hs6 => ?_)
 have lb1b : b < b1 := by have := Hb.lt; omega
 have lb1mb : mb < b1 := by have := Hm.lt; omega
 have nb1 : w.heap.size ≤ b1 := by have := K0.size; omega
 replace K0 := K0.trans K5 (U := (fun i => i = mb)) (fun i h1 h2 => h2) (fun i h1 h2 => by exact h2.elim)
 replace Hb := Hb.keep K5 (fun h => h)
 replace Hm := Hm.keep K5 (fun h => h)
 clear K5 hs6
 refine og 1 [(0, (ptr b)), (1, (Value.string (str n))), (5, (ptr b1)), (6, (i64 0))] 2 ?_
 refine od ?_
 refine qs ?_
 refine qg ?_
 refine og 3 [(6, (i64 0)), (7, (ptr b)), (8, (Value.string (str n))), (9, (Value.func (Fn.func 69) ⟨[]⟩ ⟨[(ptr b1)]⟩))] 3 ?_
 refine Ops.call (by kernel_rfl) (d := (some 10)) (by kernel_rfl) (ChgTake_calls _ b mb m S n b1 x Hb Hm (by omega) hB H4 (by omega) (by omega) (by omega)) ?_
 rintro _ w8 ⟨m7, rfl, K9, H10, hB11⟩
 have hl12 := hB11.len
 refine ⟨_, _, rfl, rfl, ?_⟩
 replace K0 := K0.trans K9 (U := (fun i => i = mb)) (fun i h1 h2 => h2) (fun i h1 h2 => by have h2 : i = mb := h2; show i = mb; omega)
 replace Hb := Hb.keep K9 (by intro h; change b = mb at h; omega)
 replace H4 := H4.keep K9 (by intro h; change b1 = mb at h; omega)
 clear K9
 refine og 1 [(6, (i64 (chgE (takeF x) S n)))] 5 ?_
 refine od ?_
 refine q_ret (by kernel_rfl) ?_
 refine ⟨(i64 (chgE (takeF x) S n)), retv_tmp rfl rfl, ?_⟩
 exact ⟨_, rfl, K0, H10, hB11⟩

theorem Hold1_calls (w : World) (p c : Nat) (A : Int) (O : List UInt8) (x : List UInt8) (Hp : Has w p (rowL [i64 A, .string (str O)] 70)) (Hc : Has w c (rowL [(Value.string (str x))] 9)) (hpc : p ≠ c) (hA : 0 ≤ A ∧ A ≤ 9223372036854775807)  : Calls Tryz.prog 63 ⟨[(ptr p), (ptr c)]⟩ w (fun e w' => e = .returned (i64 (holdF x (A, O)).1) ∧ Keeps (fun i => i = p) w w' ∧ Has w' p (rowL [i64 (holdF x (A, O)).2.1, .string (str (holdF x (A, O)).2.2)] 70)) := by
 have Hpl := Hp.lt
 have Hcl := Hc.lt
 have K0 : Keeps (fun i => i = p) w w := (Keeps.refl w).mono (fun _ _ h => h.elim)
 refine q_calls Tryz.func63 (by kernel_rfl) (by kernel_rfl) ?_
 refine qs ?_
 refine qg ?_
 refine og 1 [(0, (ptr p)), (1, (ptr c)), (3, (i64 0))] 1 ?_
 refine od ?_
 refine qs ?_
 refine q_block (id := 0) (by kernel_rfl) ?_
 refine qs ?_
 refine qg ?_
 refine Ops.go (v := (Value.string (str x))) (by kernel_rfl) (Runs.load (t := 9) (a := ⟨c, 0, none⟩) (by kernel_rfl) (Hc.loads (by kernel_rfl))) (d := (some 5)) (by kernel_rfl) rfl ?_
 refine Ops.go (v := (Value.bool (x == ([] : List UInt8)))) (by kernel_rfl) (Runs.streq (t := 9) (by kernel_rfl)) (d := (some 6)) (by kernel_rfl) rfl ?_
 refine og 1 [(0, (ptr p)), (1, (ptr c)), (3, (i64 0)), (7, (Value.bool (x == ([] : List UInt8))))] 3 ?_
 refine Ops.split (x == ([] : List UInt8)) (fun h1 => ?_) (fun h1 => ?_)
 ·rw [h1]
  have p2 : (x == ([] : List UInt8)) = true := h1
  refine og 5 [(0, (ptr p)), (1, (ptr c)), (3, (i64 0)), (4, (Value.bool true))] 8 ?_
  refine od ?_
  refine q_then (o := .tmp 4) (by kernel_rfl) rfl ?_
  refine qs ?_
  refine qg ?_
  refine og 1 [(0, (ptr p)), (1, (ptr c)), (3, (i64 1))] 1 ?_
  refine od ?_
  refine q_ret (by kernel_rfl) ?_
  refine ⟨(i64 1), retv_tmp rfl rfl, ?_⟩
  have e : holdF x (A, O) = (1, (A, O)) := by unfold holdF; simp only; first | (rw [if_pos (by first | omega | (simp_all; done) | (simp_all; omega))]; done) | (rw [if_neg (by first | omega | (simp_all; done) | (simp_all; omega)), if_pos (by first | omega | (simp_all; done) | (simp_all; omega))]; done) | (rw [if_neg (by first | omega | (simp_all; done) | (simp_all; omega)), if_neg (by first | omega | (simp_all; done) | (simp_all; omega))]; done) | (rw [if_neg (by first | omega | (simp_all; done) | (simp_all; omega))]; done)
  rw [e]
  exact ⟨rfl, K0, Hp⟩
 ·rw [h1]
  have p3 : (x == ([] : List UInt8)) = false := h1
  refine Ops.go (v := (Value.string (str x))) (by kernel_rfl) (Runs.load (t := 9) (a := ⟨c, 0, none⟩) (by kernel_rfl) (Hc.loads (by kernel_rfl))) (d := (some 8)) (by kernel_rfl) rfl ?_
  refine og 4 [(0, (ptr p)), (1, (ptr c)), (3, (i64 0)), (4, (Value.bool (decide (((x.length : Nat) : Int) > 65536))))] 8 ?_
  refine od ?_
  refine q_cond (o := .tmp 4) (b := (decide (((x.length : Nat) : Int) > 65536))) (by kernel_rfl) rfl (fun h4 => ?_) (fun h4 => ?_)
  ·rw [h4]
   have p5 : ((x.length : Nat) : Int) > 65536 := of_decide_eq_true h4
   refine qs ?_
   refine qg ?_
   refine og 1 [(0, (ptr p)), (1, (ptr c)), (3, (i64 1))] 1 ?_
   refine od ?_
   refine q_ret (by kernel_rfl) ?_
   refine ⟨(i64 1), retv_tmp rfl rfl, ?_⟩
   have e : holdF x (A, O) = (1, (A, O)) := by unfold holdF; simp only; first | (rw [if_pos (by first | omega | (simp_all; done) | (simp_all; omega))]; done) | (rw [if_neg (by first | omega | (simp_all; done) | (simp_all; omega)), if_pos (by first | omega | (simp_all; done) | (simp_all; omega))]; done) | (rw [if_neg (by first | omega | (simp_all; done) | (simp_all; omega)), if_neg (by first | omega | (simp_all; done) | (simp_all; omega))]; done) | (rw [if_neg (by first | omega | (simp_all; done) | (simp_all; omega))]; done)
   rw [e]
   exact ⟨rfl, K0, Hp⟩
  ·rw [h4]
   have p6 : ¬ (((x.length : Nat) : Int) > 65536) := of_decide_eq_false h4
   refine qs ?_
   refine q_draw (fun wz => Keeps none_ w wz) 14 (by kernel_rfl) (by kernel_rfl) (by kernel_rfl) (fun w7 K8 _ _ => ⟨K8, ?_⟩)
   replace K0 := K0.trans K8 (U := (fun i => i = p)) (fun i h1 h2 => h2) (fun i h1 h2 => by exact h2.elim)
   replace Hp := Hp.keep K8 (fun h => h)
   replace Hc := Hc.keep K8 (fun h => h)
   refine Dr.strong (S' := (fun wz => Keeps none_ w7 wz)) (Keeps.refl w7) (fun wz hx => K8.trans hx (fun i _ h => h) (fun _ _ h => h)) ?_
   clear K8
   refine Dr.takes (fuel' := 11) (is' := [2, 1, 0]) [0, 1, 2] [(0, (ptr p)), (1, (ptr c)), (3, (i64 0)), (15, (Value.pointer (some ⟨p, 1, none⟩)))] (by kernel_rfl) rfl (by kernel_rfl) ?_
   refine Dr.take (i := 3) (v := (Value.string (str O))) (by kernel_rfl) (by kernel_rfl) (fun wz hS => Runs.load (t := 9) (a := ⟨p, 1, none⟩) (by kernel_rfl) ((Hp.keep hS (fun h => h)).loads (by kernel_rfl))) (d := (some 16)) (by kernel_rfl) rfl ?_
   refine Dr.take (i := 4) (v := (Value.bool (!(O == ([] : List UInt8))))) (by kernel_rfl) (by kernel_rfl) (fun wz hS => Runs.strne (t := 9) (by kernel_rfl)) (d := (some 17)) (by kernel_rfl) rfl ?_
   refine Dr.takes (fuel' := 8) (is' := [5, 4, 3, 2, 1, 0]) [5] [(0, (ptr p)), (1, (ptr c)), (3, (i64 0)), (18, (Value.bool (!(O == ([] : List UInt8)))))] (by kernel_rfl) rfl (by kernel_rfl) ?_
   refine Dr.split (!(O == ([] : List UInt8))) (fun h9 => ?_) (fun h9 => ?_)
   ·rw [h9]
    have p10 : (O == ([] : List UInt8)) = false := (bnot_true h9)
    refine Dr.takes (fuel' := 5) (is' := [8, 7, 6, 5, 4, 3, 2, 1, 0]) [6, 7, 8] [(0, (ptr p)), (1, (ptr c)), (3, (i64 0)), (18, (Value.bool true)), (21, (Value.pointer (some ⟨p, 1, none⟩)))] (by kernel_rfl) rfl (by kernel_rfl) ?_
    refine Dr.take (i := 9) (v := (Value.string (str O))) (by kernel_rfl) (by kernel_rfl) (fun wz hS => Runs.load (t := 9) (a := ⟨p, 1, none⟩) (by kernel_rfl) ((Hp.keep hS (fun h => h)).loads (by kernel_rfl))) (d := (some 22)) (by kernel_rfl) rfl ?_
    refine Dr.take (i := 10) (v := (Value.string (str x))) (by kernel_rfl) (by kernel_rfl) (fun wz hS => Runs.load (t := 9) (a := ⟨c, 0, none⟩) (by kernel_rfl) ((Hc.keep hS (fun h => h)).loads (by kernel_rfl))) (d := (some 23)) (by kernel_rfl) rfl ?_
    refine Dr.take (i := 11) (v := (Value.bool (!(O == x)))) (by kernel_rfl) (by kernel_rfl) (fun wz hS => Runs.strne (t := 9) (by kernel_rfl)) (d := (some 24)) (by kernel_rfl) rfl ?_
    refine Dr.takes (fuel' := 0) (is' := [13, 12, 11, 10, 9, 8, 7, 6, 5, 4, 3, 2, 1, 0]) [12, 13] [(0, (ptr p)), (1, (ptr c)), (3, (i64 0)), (12, (Value.bool (!(O == x))))] (by kernel_rfl) rfl (by kernel_rfl) ?_
    refine Dr.done (by kernel_rfl) ?_
    refine q_cond (o := .tmp 12) (b := (!(O == x))) (by kernel_rfl) rfl (fun h11 => ?_) (fun h11 => ?_)
    ·rw [h11]
     have p12 : (O == x) = false := (bnot_true h11)
     refine qs ?_
     refine qg ?_
     refine og 1 [(0, (ptr p)), (1, (ptr c)), (3, (i64 5))] 1 ?_
     refine od ?_
     refine q_ret (by kernel_rfl) ?_
     refine ⟨(i64 5), retv_tmp rfl rfl, ?_⟩
     have e : holdF x (A, O) = (5, (A, O)) := by unfold holdF; simp only; first | (rw [if_pos (by first | omega | (simp_all; done) | (simp_all; omega))]; done) | (rw [if_neg (by first | omega | (simp_all; done) | (simp_all; omega)), if_pos (by first | omega | (simp_all; done) | (simp_all; omega))]; done) | (rw [if_neg (by first | omega | (simp_all; done) | (simp_all; omega)), if_neg (by first | omega | (simp_all; done) | (simp_all; omega))]; done) | (rw [if_neg (by first | omega | (simp_all; done) | (simp_all; omega))]; done)
     rw [e]
     exact ⟨rfl, K0, Hp⟩
    ·rw [h11]
     have p13 : (O == x) = true := (bnot_false h11)
     refine q_skip (by kernel_rfl) ?_
     refine qs ?_
     refine qg ?_
     refine og 1 [(1, (ptr c)), (3, (i64 0)), (26, (ptr p))] 1 ?_
     refine Ops.go (v := (Value.string (str x))) (by kernel_rfl) (Runs.load (t := 9) (a := ⟨c, 0, none⟩) (by kernel_rfl) (Hc.loads (by kernel_rfl))) (d := (some 27)) (by kernel_rfl) rfl ?_
     refine og 2 [(3, (i64 0)), (27, (Value.string (str x))), (29, (Value.pointer (some ⟨p, 1, none⟩)))] 4 ?_
     refine Ops.put (t := 9) (b := p) (off := 1) (v := (Value.string (str x))) (ys := [(i64 A), (Value.string (str x))]) (by kernel_rfl) (by kernel_rfl) Hp (by kernel_rfl) (d := none) (by kernel_rfl) rfl (fun w14 H15 K16 => ?_)
     clear Hp
     replace K0 := K0.trans K16 (U := (fun i => i = p)) (fun i h1 h2 => h2) (fun i h1 h2 => by have h2 : i = p := h2; show i = p; omega)
     replace Hc := Hc.keep K16 (by intro h; change c = p at h; omega)
     clear K16
     refine od ?_
     refine qs ?_
     refine qg ?_
     refine og 1 [(3, (i64 0))] 1 ?_
     refine od ?_
     refine q_ret (by kernel_rfl) ?_
     refine ⟨(i64 0), retv_tmp rfl rfl, ?_⟩
     have e : holdF x (A, O) = (0, (A, x)) := by unfold holdF; simp only; first | (rw [if_pos (by first | omega | (simp_all; done) | (simp_all; omega))]; done) | (rw [if_neg (by first | omega | (simp_all; done) | (simp_all; omega)), if_pos (by first | omega | (simp_all; done) | (simp_all; omega))]; done) | (rw [if_neg (by first | omega | (simp_all; done) | (simp_all; omega)), if_neg (by first | omega | (simp_all; done) | (simp_all; omega))]; done) | (rw [if_neg (by first | omega | (simp_all; done) | (simp_all; omega))]; done)
     rw [e]
     exact ⟨rfl, K0, H15⟩
   ·rw [h9]
    have p17 : (O == ([] : List UInt8)) = true := (bnot_false h9)
    refine Dr.takes (fuel' := 0) (is' := [13, 12, 11, 10, 9, 8, 7, 6, 5, 4, 3, 2, 1, 0]) [6, 7, 8, 9, 10, 11, 12, 13] [(0, (ptr p)), (1, (ptr c)), (3, (i64 0)), (12, (Value.bool false))] (by kernel_rfl) rfl (by kernel_rfl) ?_
    refine Dr.done (by kernel_rfl) ?_
    refine q_else (o := .tmp 12) (by kernel_rfl) rfl ?_
    refine q_skip (by kernel_rfl) ?_
    refine qs ?_
    refine qg ?_
    refine og 1 [(1, (ptr c)), (3, (i64 0)), (26, (ptr p))] 1 ?_
    refine Ops.go (v := (Value.string (str x))) (by kernel_rfl) (Runs.load (t := 9) (a := ⟨c, 0, none⟩) (by kernel_rfl) (Hc.loads (by kernel_rfl))) (d := (some 27)) (by kernel_rfl) rfl ?_
    refine og 2 [(3, (i64 0)), (27, (Value.string (str x))), (29, (Value.pointer (some ⟨p, 1, none⟩)))] 4 ?_
    refine Ops.put (t := 9) (b := p) (off := 1) (v := (Value.string (str x))) (ys := [(i64 A), (Value.string (str x))]) (by kernel_rfl) (by kernel_rfl) Hp (by kernel_rfl) (d := none) (by kernel_rfl) rfl (fun w18 H19 K20 => ?_)
    clear Hp
    replace K0 := K0.trans K20 (U := (fun i => i = p)) (fun i h1 h2 => h2) (fun i h1 h2 => by have h2 : i = p := h2; show i = p; omega)
    replace Hc := Hc.keep K20 (by intro h; change c = p at h; omega)
    clear K20
    refine od ?_
    refine qs ?_
    refine qg ?_
    refine og 1 [(3, (i64 0))] 1 ?_
    refine od ?_
    refine q_ret (by kernel_rfl) ?_
    refine ⟨(i64 0), retv_tmp rfl rfl, ?_⟩
    have e : holdF x (A, O) = (0, (A, x)) := by unfold holdF; simp only; first | (rw [if_pos (by first | omega | (simp_all; done) | (simp_all; omega))]; done) | (rw [if_neg (by first | omega | (simp_all; done) | (simp_all; omega)), if_pos (by first | omega | (simp_all; done) | (simp_all; omega))]; done) | (rw [if_neg (by first | omega | (simp_all; done) | (simp_all; omega)), if_neg (by first | omega | (simp_all; done) | (simp_all; omega))]; done) | (rw [if_neg (by first | omega | (simp_all; done) | (simp_all; omega))]; done)
    rw [e]
    exact ⟨rfl, K0, H19⟩

theorem ChgHold_none (w : World) (b mb : Nat) (m : List (List UInt8 × AccV)) (S : List AccM) (n : List UInt8) (c : Nat) (x : List UInt8) (Hb : Has w b (rowL [.map (some mb)] 66)) (Hm : HasMap w mb kstr accv m) (hne : b ≠ mb) (hB : Book m S) (Hc : Has w c (rowL [(Value.string (str x))] 9)) (hcb : c ≠ mb) (hcb2 : c ≠ b)  (hg : getS S n = none) : Calls Tryz.prog 62 ⟨[(ptr b), (Value.string (str n)), (Value.func (Fn.func 63) ⟨[]⟩ ⟨[(ptr c)]⟩)]⟩ w (fun e w' => ∃ m', e = .returned (i64 (chgE (holdF x) S n)) ∧ Keeps (fun i => i = mb) w w' ∧ HasMap w' mb kstr accv m' ∧ Book m' (chgS (holdF x) S n)) := by
 have Hbl := Hb.lt
 have Hml := Hm.lt
 have hlen := hB.len
 have Hcl := Hc.lt
 have K0 : Keeps (fun i => i = mb) w w := (Keeps.refl w).mono (fun _ _ h => h.elim)
 have hgm : getM m n = none := by rw [hB.get, hg]; rfl
 refine q_calls Tryz.func62 (by kernel_rfl) (by kernel_rfl) ?_
 refine qs ?_
 refine qg ?_
 refine og 1 [(0, (ptr b)), (1, (Value.string (str n))), (2, (Value.func (Fn.func 63) ⟨[]⟩ ⟨[(ptr c)]⟩)), (6, (i64 0))] 1 ?_
 refine od ?_
 refine qs ?_
 refine qs ?_
 refine qg ?_
 refine og 2 [(0, (ptr b)), (1, (Value.string (str n))), (2, (Value.func (Fn.func 63) ⟨[]⟩ ⟨[(ptr c)]⟩)), (6, (i64 0)), (11, (Value.bool false))] 2 ?_
 refine od ?_
 refine q_else (o := .tmp 11) (by kernel_rfl) rfl ?_
 refine q_skip (by kernel_rfl) ?_
 refine qs ?_
 refine qg ?_
 refine og 3 [(0, (ptr b)), (1, (Value.string (str n))), (2, (Value.func (Fn.func 63) ⟨[]⟩ ⟨[(ptr c)]⟩)), (6, (i64 0)), (15, (ptr b))] 3 ?_
 refine Ops.go (v := (Value.map (some mb))) (by kernel_rfl) (Runs.load (t := 64) (a := ⟨b, 0, none⟩) (by kernel_rfl) (Hb.loads (by kernel_rfl))) (d := (some 16)) (by kernel_rfl) rfl ?_
 refine og 1 [(0, (ptr b)), (1, (Value.string (str n))), (2, (Value.func (Fn.func 63) ⟨[]⟩ ⟨[(ptr c)]⟩)), (6, (i64 0)), (16, (Value.map (some mb))), (17, (Value.string (str n)))] 5 ?_
 refine Ops.go (v := (Value.tuple #[(agg [(i64 0), (Value.string ByteArray.empty)]), (Value.bool false)])) (by kernel_rfl) (Runs.lookup_none (ok := true) (z := (agg [(i64 0), (Value.string ByteArray.empty)])) KT Tryz.underlying64 (by kernel_rfl) Hm hgm (by kernel_rfl)) (d := (some 18)) (by kernel_rfl) rfl ?_
 refine og 3 [(0, (ptr b)), (1, (Value.string (str n))), (2, (Value.func (Fn.func 63) ⟨[]⟩ ⟨[(ptr c)]⟩)), (6, (i64 0)), (19, (agg [(i64 0), (Value.string ByteArray.empty)])), (20, (Value.bool false))] 9 ?_
 refine Ops.new (o := rowL [(i64 0), (Value.string ByteArray.empty)] 70) (V := fun b => (ptr b)) (by kernel_rfl) (d := (some 7)) (by kernel_rfl) (fun b => rfl) (fun b1 w2 hb3 H4 K5 hs6 => ?_)
 have lb1b : b < b1 := by have := Hb.lt; omega
 have lb1mb : mb < b1 := by have := Hm.lt; omega
 have lb1c : c < b1 := by have := Hc.lt; omega
 have nb1 : w.heap.size ≤ b1 := by have := K0.size; omega
 replace K0 := K0.trans K5 (U := (fun i => i = mb)) (fun i h1 h2 => h2) (fun i h1 h2 => by exact h2.elim)
 replace Hb := Hb.keep K5 (fun h => h)
 replace Hm := Hm.keep K5 (fun h => h)
 replace Hc := Hc.keep K5 (fun h => h)
 clear K5 hs6
 refine Ops.put (t := 70) (b := b1) (off := 0) (v := (agg [(i64 0), (Value.string ByteArray.empty)])) (ys := [(i64 0), (Value.string ByteArray.empty)]) (by kernel_rfl) (by kernel_rfl) H4 (by kernel_rfl) (d := none) (by kernel_rfl) rfl (fun w7 H8 K9 => ?_)
 clear H4
 replace K0 := K0.trans K9 (U := (fun i => i = mb)) (fun i h1 h2 => h2) (fun i h1 h2 => by have h2 : i = b1 := h2; show i = mb; omega)
 replace Hb := Hb.keep K9 (by intro h; change b = b1 at h; omega)
 replace Hm := Hm.keep K9 (by intro h; change mb = b1 at h; omega)
 replace Hc := Hc.keep K9 (by intro h; change c = b1 at h; omega)
 clear K9
 refine og 1 [(0, (ptr b)), (1, (Value.string (str n))), (2, (Value.func (Fn.func 63) ⟨[]⟩ ⟨[(ptr c)]⟩)), (6, (i64 0)), (7, (ptr b1)), (8, (Value.bool false))] 12 ?_
 refine od ?_
 refine qs ?_
 refine qs ?_
 refine qg ?_
 refine og 2 [(0, (ptr b)), (1, (Value.string (str n))), (2, (Value.func (Fn.func 63) ⟨[]⟩ ⟨[(ptr c)]⟩)), (6, (i64 0)), (7, (ptr b1)), (22, (Value.bool true))] 2 ?_
 refine od ?_
 refine q_then (o := .tmp 22) (by kernel_rfl) rfl ?_
 refine qs ?_
 refine qg ?_
 refine og 1 [(0, (ptr b)), (1, (Value.string (str n))), (2, (Value.func (Fn.func 63) ⟨[]⟩ ⟨[(ptr c)]⟩)), (6, (i64 40)), (7, (ptr b1))] 1 ?_
 refine od ?_
 refine q_ret (by kernel_rfl) ?_
 refine ⟨(i64 40), retv_tmp rfl rfl, ?_⟩
 exact ⟨m, by unfold chgE; rw [hg], K0, Hm, hB.none hg⟩

theorem ChgHold_some (w : World) (b mb : Nat) (m : List (List UInt8 × AccV)) (S : List AccM) (n : List UInt8) (c : Nat) (x : List UInt8) (Hb : Has w b (rowL [.map (some mb)] 66)) (Hm : HasMap w mb kstr accv m) (hne : b ≠ mb) (hB : Book m S) (Hc : Has w c (rowL [(Value.string (str x))] 9)) (hcb : c ≠ mb) (hcb2 : c ≠ b)  (a : AccM) (hg : getS S n = some a) : Calls Tryz.prog 62 ⟨[(ptr b), (Value.string (str n)), (Value.func (Fn.func 63) ⟨[]⟩ ⟨[(ptr c)]⟩)]⟩ w (fun e w' => ∃ m', e = .returned (i64 (chgE (holdF x) S n)) ∧ Keeps (fun i => i = mb) w w' ∧ HasMap w' mb kstr accv m' ∧ Book m' (chgS (holdF x) S n)) := by
 have Hbl := Hb.lt
 have Hml := Hm.lt
 have hlen := hB.len
 have Hcl := Hc.lt
 have K0 : Keeps (fun i => i = mb) w w := (Keeps.refl w).mono (fun _ _ h => h.elim)
 have hgm : getM m n = some (a.amt, a.own) := by rw [hB.get, hg]; rfl
 have hao := hB.accs.ok a (getS_some hg).1
 have ha1 := hao.lo
 have ha2 := hao.hi
 refine q_calls Tryz.func62 (by kernel_rfl) (by kernel_rfl) ?_
 refine qs ?_
 refine qg ?_
 refine og 1 [(0, (ptr b)), (1, (Value.string (str n))), (2, (Value.func (Fn.func 63) ⟨[]⟩ ⟨[(ptr c)]⟩)), (6, (i64 0))] 1 ?_
 refine od ?_
 refine qs ?_
 refine qs ?_
 refine qg ?_
 refine og 2 [(0, (ptr b)), (1, (Value.string (str n))), (2, (Value.func (Fn.func 63) ⟨[]⟩ ⟨[(ptr c)]⟩)), (6, (i64 0)), (11, (Value.bool false))] 2 ?_
 refine od ?_
 refine q_else (o := .tmp 11) (by kernel_rfl) rfl ?_
 refine q_skip (by kernel_rfl) ?_
 refine qs ?_
 refine qg ?_
 refine og 3 [(0, (ptr b)), (1, (Value.string (str n))), (2, (Value.func (Fn.func 63) ⟨[]⟩ ⟨[(ptr c)]⟩)), (6, (i64 0)), (15, (ptr b))] 3 ?_
 refine Ops.go (v := (Value.map (some mb))) (by kernel_rfl) (Runs.load (t := 64) (a := ⟨b, 0, none⟩) (by kernel_rfl) (Hb.loads (by kernel_rfl))) (d := (some 16)) (by kernel_rfl) rfl ?_
 refine og 1 [(0, (ptr b)), (1, (Value.string (str n))), (2, (Value.func (Fn.func 63) ⟨[]⟩ ⟨[(ptr c)]⟩)), (6, (i64 0)), (16, (Value.map (some mb))), (17, (Value.string (str n)))] 5 ?_
 refine Ops.go (v := (Value.tuple #[(agg [(i64 a.amt), (Value.string (str a.own))]), (Value.bool true)])) (by kernel_rfl) (Runs.lookup_some (ok := true) (vf := accv) (a := (a.amt, a.own)) KT Tryz.underlying64 Hm hgm (by kernel_rfl)) (d := (some 18)) (by kernel_rfl) rfl ?_
 refine og 3 [(0, (ptr b)), (1, (Value.string (str n))), (2, (Value.func (Fn.func 63) ⟨[]⟩ ⟨[(ptr c)]⟩)), (6, (i64 0)), (19, (agg [(i64 a.amt), (Value.string (str a.own))])), (20, (Value.bool true))] 9 ?_
 refine Ops.new (o := rowL [(i64 0), (Value.string ByteArray.empty)] 70) (V := fun b => (ptr b)) (by kernel_rfl) (d := (some 7)) (by kernel_rfl) (fun b => rfl) (fun b1 w2 hb3 H4 K5 hs6 => ?_)
 have lb1b : b < b1 := by have := Hb.lt; omega
 have lb1mb : mb < b1 := by have := Hm.lt; omega
 have lb1c : c < b1 := by have := Hc.lt; omega
 have nb1 : w.heap.size ≤ b1 := by have := K0.size; omega
 replace K0 := K0.trans K5 (U := (fun i => i = mb)) (fun i h1 h2 => h2) (fun i h1 h2 => by exact h2.elim)
 replace Hb := Hb.keep K5 (fun h => h)
 replace Hm := Hm.keep K5 (fun h => h)
 replace Hc := Hc.keep K5 (fun h => h)
 clear K5 hs6
 refine Ops.put (t := 70) (b := b1) (off := 0) (v := (agg [(i64 a.amt), (Value.string (str a.own))])) (ys := [(i64 a.amt), (Value.string (str a.own))]) (by kernel_rfl) (by kernel_rfl) H4 (by kernel_rfl) (d := none) (by kernel_rfl) rfl (fun w7 H8 K9 => ?_)
 clear H4
 replace K0 := K0.trans K9 (U := (fun i => i = mb)) (fun i h1 h2 => h2) (fun i h1 h2 => by have h2 : i = b1 := h2; show i = mb; omega)
 replace Hb := Hb.keep K9 (by intro h; change b = b1 at h; omega)
 replace Hm := Hm.keep K9 (by intro h; change mb = b1 at h; omega)
 replace Hc := Hc.keep K9 (by intro h; change c = b1 at h; omega)
 clear K9
 refine og 1 [(0, (ptr b)), (1, (Value.string (str n))), (2, (Value.func (Fn.func 63) ⟨[]⟩ ⟨[(ptr c)]⟩)), (6, (i64 0)), (7, (ptr b1)), (8, (Value.bool true))] 12 ?_
 refine od ?_
 refine qs ?_
 refine qs ?_
 refine qg ?_
 refine og 2 [(0, (ptr b)), (1, (Value.string (str n))), (2, (Value.func (Fn.func 63) ⟨[]⟩ ⟨[(ptr c)]⟩)), (6, (i64 0)), (7, (ptr b1)), (22, (Value.bool false))] 2 ?_
 refine od ?_
 refine q_else (o := .tmp 22) (by kernel_rfl) rfl ?_
 refine q_skip (by kernel_rfl) ?_
 refine qs ?_
 refine qg ?_
 refine og 1 [(0, (ptr b)), (1, (Value.string (str n))), (6, (i64 0)), (7, (ptr b1)), (23, (Value.func (Fn.func 63) ⟨[]⟩ ⟨[(ptr c)]⟩))] 1 ?_
 refine Ops.call (by kernel_rfl) (d := (some 24)) (by kernel_rfl) (Hold1_calls _ b1 c a.amt a.own x H8 Hc (by omega) (by omega)) ?_
 rintro _ w10 ⟨rfl, K11, H12⟩
 refine ⟨_, _, rfl, rfl, ?_⟩
 replace K0 := K0.trans K11 (U := (fun i => i = mb)) (fun i h1 h2 => h2) (fun i h1 h2 => by have h2 : i = b1 := h2; show i = mb; omega)
 replace Hb := Hb.keep K11 (by intro h; change b = b1 at h; omega)
 replace Hm := Hm.keep K11 (by intro h; change mb = b1 at h; omega)
 replace Hc := Hc.keep K11 (by intro h; change c = b1 at h; omega)
 clear K11
 refine og 1 [(0, (ptr b)), (1, (Value.string (str n))), (6, (i64 0)), (7, (ptr b1)), (9, (i64 ((holdF x (a.amt, a.own)).1)))] 3 ?_
 refine od ?_
 refine qs ?_
 refine q_draw (fun wz => Keeps (fun i => i = mb) w10 wz) 7 (by kernel_rfl) (by kernel_rfl) (by kernel_rfl) (fun w13 K14 _ _ => ⟨(K14.mono (fun _ _ h => h.elim)), ?_⟩)
 replace K0 := K0.trans K14 (U := (fun i => i = mb)) (fun i h1 h2 => h2) (fun i h1 h2 => by exact h2.elim)
 replace Hb := Hb.keep K14 (fun h => h)
 replace Hm := Hm.keep K14 (fun h => h)
 replace Hc := Hc.keep K14 (fun h => h)
 replace H12 := H12.keep K14 (fun h => h)
 refine Dr.strong (S' := (fun wz => Keeps (fun i => i = mb) w13 wz)) ((Keeps.refl w13).mono (fun _ _ h => h.elim)) (fun wz hx => K14.trans hx (fun i _ h => h.elim) (fun _ _ h => h)) ?_
 clear K14
 refine Dr.takes (fuel' := 4) (is' := [2, 1, 0]) [0, 1, 2] [(1, (Value.string (str n))), (6, (i64 0)), (7, (ptr b1)), (9, (i64 ((holdF x (a.amt, a.own)).1))), (27, (ptr b))] (by kernel_rfl) rfl (by kernel_rfl) ?_
 refine Dr.take (i := 3) (v := (Value.map (some mb))) (by kernel_rfl) (by kernel_rfl) (fun wz hS => Runs.load (t := 64) (a := ⟨b, 0, none⟩) (by kernel_rfl) ((Hb.keep hS (by intro h; change b = mb at h; omega)).loads (by kernel_rfl))) (d := (some 28)) (by kernel_rfl) rfl ?_
 refine Dr.takes (fuel' := 2) (is' := [4, 3, 2, 1, 0]) [4] [(6, (i64 0)), (7, (ptr b1)), (9, (i64 ((holdF x (a.amt, a.own)).1))), (28, (Value.map (some mb))), (29, (Value.string (str n)))] (by kernel_rfl) rfl (by kernel_rfl) ?_
 refine Dr.take (i := 5) (v := (agg [(i64 ((holdF x (a.amt, a.own)).2.1)), (Value.string (str ((holdF x (a.amt, a.own)).2.2)))])) (by kernel_rfl) (by kernel_rfl) (fun wz hS => Runs.load (t := 70) (a := ⟨b1, 0, none⟩) (by kernel_rfl) ((H12.keep hS (by intro h; change b1 = mb at h; omega)).loads (by kernel_rfl))) (d := (some 30)) (by kernel_rfl) rfl ?_
 obtain ⟨w15, hr16, K17, H18⟩ := HasMap.update KT Tryz.underlying64 Hm n ((holdF x (a.amt, a.own)).2.1, ((holdF x (a.amt, a.own)).2.2))
 refine Dr.goU (i := 6) (by kernel_rfl) (by kernel_rfl) (RunsU.of_update (by kernel_rfl) hr16) (d := none) (by kernel_rfl) rfl K17 ?_
 clear Hm
 replace K0 := K0.trans K17 (U := (fun i => i = mb)) (fun i h1 h2 => h2) (fun i h1 h2 => by have h2 : i = mb := h2; show i = mb; omega)
 replace Hb := Hb.keep K17 (by intro h; change b = mb at h; omega)
 replace Hc := Hc.keep K17 (by intro h; change c = mb at h; omega)
 replace H12 := H12.keep K17 (by intro h; change b1 = mb at h; omega)
 refine Dr.strong (S' := (fun wz => Keeps (fun i => i = mb) w15 wz)) ((Keeps.refl w15).mono (fun _ _ h => h.elim)) (fun wz hx => K17.trans hx (fun i _ h => by have h : i = mb := h; show i = mb; omega) (fun _ _ h => h)) ?_
 clear K17 hr16
 refine Dr.done (by kernel_rfl) ?_
 refine qs ?_
 refine qg ?_
 refine og 2 [(6, (i64 ((holdF x (a.amt, a.own)).1)))] 2 ?_
 refine od ?_
 refine q_ret (by kernel_rfl) ?_
 refine ⟨(i64 ((holdF x (a.amt, a.own)).1)), retv_tmp rfl rfl, ?_⟩
 exact ⟨_, by unfold chgE; rw [hg], K0, H18, hB.chg (calm_hold x) hg⟩

theorem ChgHold_calls (w : World) (b mb : Nat) (m : List (List UInt8 × AccV)) (S : List AccM) (n : List UInt8) (c : Nat) (x : List UInt8) (Hb : Has w b (rowL [.map (some mb)] 66)) (Hm : HasMap w mb kstr accv m) (hne : b ≠ mb) (hB : Book m S) (Hc : Has w c (rowL [(Value.string (str x))] 9)) (hcb : c ≠ mb) (hcb2 : c ≠ b)  : Calls Tryz.prog 62 ⟨[(ptr b), (Value.string (str n)), (Value.func (Fn.func 63) ⟨[]⟩ ⟨[(ptr c)]⟩)]⟩ w (fun e w' => ∃ m', e = .returned (i64 (chgE (holdF x) S n)) ∧ Keeps (fun i => i = mb) w w' ∧ HasMap w' mb kstr accv m' ∧ Book m' (chgS (holdF x) S n)) := by
 cases hg : getS S n with
 | none => exact ChgHold_none w b mb m S n c x Hb Hm hne hB Hc hcb hcb2 hg
 | some a => exact ChgHold_some w b mb m S n c x Hb Hm hne hB Hc hcb hcb2 a hg

theorem Hold_calls (w : World) (b mb : Nat) (m : List (List UInt8 × AccV)) (S : List AccM) (n : List UInt8) (x : List UInt8) (Hb : Has w b (rowL [.map (some mb)] 66)) (Hm : HasMap w mb kstr accv m) (hne : b ≠ mb) (hB : Book m S)  : Calls Tryz.prog 23 ⟨[(ptr b), (Value.string (str n)), (Value.string (str x))]⟩ w (fun e w' => ∃ m', e = .returned (i64 (chgE (holdF x) S n)) ∧ Keeps (fun i => i = mb) w w' ∧ HasMap w' mb kstr accv m' ∧ Book m' (chgS (holdF x) S n)) := by
 have Hbl := Hb.lt
 have Hml := Hm.lt
 have hlen := hB.len
 have K0 : Keeps (fun i => i = mb) w w := (Keeps.refl w).mono (fun _ _ h => h.elim)
 refine q_calls Tryz.func23 (by kernel_rfl) (by kernel_rfl) ?_
 refine qs ?_
 refine qg ?_
 refine Ops.new (o := rowL [(Value.string (str x))] 9) (V := fun b => (ptr b)) (by kernel_rfl) (d := (some 5)) (by kernel_rfl) (fun b => rfl) (fun b1 w2 hb3 H4 K5 hs6 => ?_)
 have lb1b : b < b1 := by have := Hb.lt; omega
 have lb1mb : mb < b1 := by have := Hm.lt; omega
 have nb1 : w.heap.size ≤ b1 := by have := K0.size; omega
 replace K0 := K0.trans K5 (U := (fun i => i = mb)) (fun i h1 h2 => h2) (fun i h1 h2 => by exact h2.elim)
 replace Hb := Hb.keep K5 (fun h => h)
 replace Hm := Hm.keep K5 (fun h => h)
 clear K5 hs6
 refine og 1 [(0, (ptr b)), (1, (Value.string (str n))), (5, (ptr b1)), (6, (i64 0))] 2 ?_
 refine od ?_
 refine qs ?_
 refine qg ?_
 refine og 3 [(6, (i64 0)), (7, (ptr b)), (8, (Value.string (str n))), (9, (Value.func (Fn.func 63) ⟨[]⟩ ⟨[(ptr b1)]⟩))] 3 ?_
 refine Ops.call (by kernel_rfl) (d := (some 10)) (by kernel_rfl) (ChgHold_calls _ b mb m S n b1 x Hb Hm (by omega) hB H4 (by omega) (by omega)) ?_
 rintro _ w8 ⟨m7, rfl, K9, H10, hB11⟩
 have hl12 := hB11.len
 refine ⟨_, _, rfl, rfl, ?_⟩
 replace K0 := K0.trans K9 (U := (fun i => i = mb)) (fun i h1 h2 => h2) (fun i h1 h2 => by have h2 : i = mb := h2; show i = mb; omega)
 replace Hb := Hb.keep K9 (by intro h; change b = mb at h; omega)
 replace H4 := H4.keep K9 (by intro h; change b1 = mb at h; omega)
 clear K9
 refine og 1 [(6, (i64 (chgE (holdF x) S n)))] 5 ?_
 refine od ?_
 refine q_ret (by kernel_rfl) ?_
 refine ⟨(i64 (chgE (holdF x) S n)), retv_tmp rfl rfl, ?_⟩
 exact ⟨_, rfl, K0, H10, hB11⟩

end Go.Proofs.YtooginpgclcldaaGreatDoor
namespace Go.Q
def RowEq (S R : List AccM) : Prop := S.map AccM.row = R.map AccM.row
theorem RowEq.len {S R : List AccM} (h : RowEq S R) : S.length = R.length := by simpa using congrArg List.length h
theorem RowEq.all {S R : List AccM} (h : RowEq S R) : rowsS S (-1) = rowsS R (-1) := by rw [rows_all, rows_all]; exact h
theorem RowEq.get {S R : List AccM} (h : RowEq S R) (n : List UInt8) : (getS S n).map AccM.row = (getS R n).map AccM.row := by
  unfold getS
  induction S generalizing R with
  | nil =>
    cases R with
    | nil => rfl
    | cons b R => cases h
  | cons a S ih =>
    cases R with
    | nil => cases h
    | cons b R =>
      simp only [RowEq, List.map_cons, List.cons.injEq] at h
      have hn : a.name = b.name := congrArg RowM.name h.1
      rw [List.find?_cons, List.find?_cons, hn]
      by_cases e : b.name = n
      · simp [e, h.1]
      · simpa [e] using ih h.2
theorem RowEq.some {S R : List AccM} (h : RowEq S R) {n : List UInt8} {a : AccM} (ha : getS S n = some a) : ∃ b, getS R n = some b ∧ b.amt = a.amt := by
  have := h.get n
  rw [ha] at this
  cases hb : getS R n with
  | none => rw [hb] at this; cases this
  | some b => rw [hb] at this; exact ⟨b, rfl, (congrArg RowM.amount (Option.some.inj this)).symm⟩
theorem RowEq.none {S R : List AccM} (h : RowEq S R) {n : List UInt8} (ha : getS S n = none) : getS R n = none := by
  have := h.get n
  rw [ha] at this
  cases hb : getS R n with
  | none => rfl
  | some b => rw [hb] at this; cases this
theorem RowEq.putE {S R : List AccM} (h : RowEq S R) (n : List UInt8) (k : Int) : putE S n k = putE R n k := by
  have hs : (getS S n).isSome = (getS R n).isSome := by
    cases ha : getS S n with
    | none => rw [h.none ha]
    | some a => obtain ⟨b, hb, _⟩ := h.some ha; rw [hb]; rfl
  unfold Go.Q.putE
  rw [hs, h.len]
theorem row_ins : ∀ {S R : List AccM} (a : AccM), S.map AccM.row = R.map AccM.row → (insS S a).map AccM.row = (insS R a).map AccM.row
  | [], [], a, _ => rfl
  | [], _ :: _, a, h => by cases h
  | _ :: _, [], a, h => by cases h
  | b :: S, c :: R, a, h => by
    simp only [List.map_cons, List.cons.injEq] at h
    have hn : b.name = c.name := congrArg RowM.name h.1
    unfold insS
    rw [hn]
    split
    · rw [List.map_cons, List.map_cons, h.1, row_ins a h.2]
    · rw [List.map_cons, List.map_cons, List.map_cons, List.map_cons, h.1, h.2]
theorem RowEq.putS {S R : List AccM} (h : RowEq S R) (n : List UInt8) (k : Int) : RowEq (putS S n k) (putS R n k) := by
  unfold Go.Q.putS
  rw [h.putE]
  split
  · exact row_ins _ h
  · exact h
theorem row_set : ∀ {S R : List AccM} (n : List UInt8) (x y : AccV), x.1 = y.1 → S.map AccM.row = R.map AccM.row → (setS S n x).map AccM.row = (setS R n y).map AccM.row
  | [], [], n, x, y, _, _ => rfl
  | [], _ :: _, _, _, _, _, h => by cases h
  | _ :: _, [], _, _, _, _, h => by cases h
  | b :: S, c :: R, n, x, y, hx, h => by
    simp only [List.map_cons, List.cons.injEq] at h
    have hn : b.name = c.name := congrArg RowM.name h.1
    have ih := row_set n x y hx h.2
    unfold setS at ih ⊢
    simp only [List.map_cons, List.cons.injEq]
    refine ⟨?_, ih⟩
    rw [hn]
    split
    · show (⟨n, x.1⟩ : RowM) = ⟨n, y.1⟩; rw [hx]
    · exact h.1
/-- What is changed of an amount does not look at who holds it. -/
def Blind (f : AccV → Int × AccV) : Prop := ∀ k o o', (f (k, o)).1 = (f (k, o')).1 ∧ (f (k, o)).2.1 = (f (k, o')).2.1
theorem RowEq.chgE {S R : List AccM} (h : RowEq S R) {f : AccV → Int × AccV} (hf : Blind f) (n : List UInt8) : chgE f S n = chgE f R n := by
  unfold Go.Q.chgE
  cases ha : getS S n with
  | none => rw [h.none ha]
  | some a =>
    obtain ⟨b, hb, e⟩ := h.some ha
    rw [hb]
    simp only [← e]
    exact ((hf b.amt b.own a.own).1).symm
theorem RowEq.chgS {S R : List AccM} (h : RowEq S R) {f : AccV → Int × AccV} (hf : Blind f) (n : List UInt8) : RowEq (chgS f S n) (chgS f R n) := by
  unfold Go.Q.chgS
  cases ha : getS S n with
  | none => rw [h.none ha]; exact h
  | some a =>
    obtain ⟨b, hb, e⟩ := h.some ha
    rw [hb]
    simp only [← e]
    exact row_set n _ _ ((hf b.amt b.own a.own).2).symm h
theorem set_rows {S : List AccM} {n : List UInt8} {x : AccV} {a : AccM} (hS : Accs S) (ha : getS S n = some a) (hx : x.1 = a.amt) : (setS S n x).map AccM.row = S.map AccM.row := by
  unfold setS
  rw [List.map_map]
  refine List.map_congr_left fun b hb => ?_
  show (if b.name = n then (⟨n, x.1, x.2⟩ : AccM) else b).row = b.row
  split
  · next hn =>
    have := hS.get_of hb
    rw [hn, ha] at this
    obtain rfl := Option.some.inj this
    show (⟨n, x.1⟩ : RowM) = ⟨a.name, a.amt⟩
    rw [hn, hx]
  · rfl
theorem hold_amt (x : List UInt8) (v : AccV) : (holdF x v).2.1 = v.1 := by unfold holdF; split; (rfl); split <;> rfl
theorem RowEq.hold {S R : List AccM} (h : RowEq S R) (hR : Accs R) (x n : List UInt8) : RowEq S (Go.Q.chgS (holdF x) R n) := by
  unfold Go.Q.chgS
  cases ha : getS R n with
  | none => exact h
  | some a => exact h.trans (set_rows hR ha (hold_amt x _)).symm
/-- Nobody holds an account. -/
def NoOwn (S : List AccM) : Prop := ∀ a ∈ S, a.own = []
theorem NoOwn.held {S : List AccM} (h : NoOwn S) : heldN S = 0 := by
  unfold heldN
  rw [List.length_eq_zero_iff, List.filter_eq_nil_iff]
  intro a ha
  simp [h a ha]
theorem NoOwn.put {S : List AccM} (h : NoOwn S) (n : List UInt8) (k : Int) : NoOwn (putS S n k) := by
  unfold putS
  split
  · intro a ha
    rcases List.mem_append.1 ((insS_perm S _).mem_iff.1 ha) with ha | ha
    · exact h a ha
    · rw [List.mem_singleton.1 ha]
  · exact h
theorem NoOwn.chg {S : List AccM} (h : NoOwn S) {f : AccV → Int × AccV} (hf : ∀ v, (f v).2.2 = v.2) (n : List UInt8) : NoOwn (chgS f S n) := by
  unfold chgS
  cases ha : getS S n with
  | none => exact h
  | some a =>
    intro b hb
    unfold setS at hb
    obtain ⟨c, hc, rfl⟩ := List.mem_map.1 hb
    split
    · show (f (a.amt, a.own)).2.2 = []; rw [hf]; exact h a (getS_some ha).1
    · exact h c hc
theorem set_same {S : List AccM} {n : List UInt8} {a : AccM} (hS : Accs S) (ha : getS S n = some a) : setS S n (a.amt, a.own) = S := by
  unfold setS
  refine (List.map_congr_left fun b hb => ?_).trans (List.map_id S)
  show (if b.name = n then (⟨n, a.amt, a.own⟩ : AccM) else b) = b
  split
  · next hn =>
    have := hS.get_of hb
    rw [hn, ha] at this
    obtain rfl := Option.some.inj this
    rw [← hn]
  · rfl
end Go.Q
namespace Go.Q
def loadStep (s : Rdr × List AccM × Int) : Rdr × List AccM × Int :=
  (s.1.bytes.2.int.2.bytes.2,
    if putE s.2.1 s.1.bytes.1 s.1.bytes.2.int.1 = 0 ∧ s.1.bytes.2.int.2.bytes.1 ≠ [] then chgS (holdF s.1.bytes.2.int.2.bytes.1) (putS s.2.1 s.1.bytes.1 s.1.bytes.2.int.1) s.1.bytes.1 else putS s.2.1 s.1.bytes.1 s.1.bytes.2.int.1,
    if putE s.2.1 s.1.bytes.1 s.1.bytes.2.int.1 ≠ 0 ∨ (s.1.bytes.2.int.2.bytes.1 ≠ [] ∧ chgE (holdF s.1.bytes.2.int.2.bytes.1) (putS s.2.1 s.1.bytes.1 s.1.bytes.2.int.1) s.1.bytes.1 ≠ 0) then 11 else s.2.2)
def loadR : Nat → Rdr × List AccM × Int → Rdr × List AccM × Int
  | 0, s => s
  | n + 1, s => loadR n (loadStep s)
def loadN (bs : List UInt8) : Nat × Rdr := (⟨bs, 0, 0⟩ : Rdr).sized 200
def loadE (bs : List UInt8) : Rdr × List AccM × Int := loadR (loadN bs).1 ((loadN bs).2, [], 0)
theorem ins_last {S : List AccM} {a : AccM} (h : ∀ b ∈ S, b.name < a.name) : insS S a = S ++ [a] := by
  induction S with
  | nil => rfl
  | cons b S ih =>
    unfold insS
    rw [if_pos (h b (List.mem_cons_self ..)), ih fun c hc => h c (List.mem_cons_of_mem _ hc)]
    rfl
theorem get_last {S : List AccM} {a : AccM} (h : ∀ b ∈ S, b.name < a.name) : getS (S ++ [a]) a.name = some a := by
  unfold getS
  rw [List.find?_append, List.find?_eq_none.2 fun b hb => by
    have := h b hb
    simp only [decide_eq_true_eq]
    intro e; rw [e] at this; exact ltN_irrefl _ this]
  simp
theorem get_new {S : List AccM} {n : List UInt8} (h : ∀ b ∈ S, b.name < n) : getS S n = none := by
  unfold getS
  refine List.find?_eq_none.2 fun b hb => ?_
  have := h b hb
  simp only [decide_eq_true_eq]
  intro e; rw [e] at this; exact ltN_irrefl _ this
theorem set_last {S : List AccM} {a : AccM} (h : ∀ b ∈ S, b.name < a.name) (x : AccV) : setS (S ++ [a]) a.name x = S ++ [⟨a.name, x.1, x.2⟩] := by
  unfold setS
  rw [List.map_append]
  congr 1
  · refine (List.map_congr_left fun b hb => ?_).trans (List.map_id S)
    show (if b.name = a.name then _ else b) = b
    rw [if_neg]
    intro e
    have := h b hb
    rw [e] at this
    exact ltN_irrefl _ this
  · simp
theorem load_one {S : List AccM} {a : AccM} (ha : a.Ok) (hl : S.length < 200) (h : ∀ b ∈ S, b.name < a.name) :
    putE S a.name a.amt = 0 ∧ (if putE S a.name a.amt = 0 ∧ a.own ≠ [] then chgS (holdF a.own) (putS S a.name a.amt) a.name else putS S a.name a.amt) = S ++ [a] ∧ (a.own ≠ [] → chgE (holdF a.own) (putS S a.name a.amt) a.name = 0) := by
  have hg := get_new h
  have h0 : putE S a.name a.amt = 0 := by
    have := ha.lo
    unfold putE
    rw [if_neg (by rw [ha.name]; decide), if_neg (by omega), if_neg (by rw [hg]; decide), if_neg (by omega)]
  have h1 : putS S a.name a.amt = S ++ [⟨a.name, a.amt, []⟩] := by
    unfold putS
    rw [if_pos h0, ins_last (a := ⟨a.name, a.amt, []⟩) h]
  have hga : getS (S ++ [⟨a.name, a.amt, []⟩]) a.name = some ⟨a.name, a.amt, []⟩ := get_last (a := ⟨a.name, a.amt, []⟩) h
  have hf : a.own ≠ [] → holdF a.own (a.amt, []) = (0, a.amt, a.own) := fun hne => by
    have := ha.own
    unfold holdF
    rw [if_neg (by rintro (q | q); (exact hne q); omega), if_neg (fun q => q.1 rfl)]
  refine ⟨h0, ?_, fun hne => ?_⟩
  · rw [h1]
    by_cases hne : a.own = []
    · rw [if_neg (fun q => q.2 hne)]
      cases a; simp only at hne; subst hne; rfl
    · rw [if_pos ⟨h0, hne⟩]
      unfold chgS
      rw [hga]
      show setS _ a.name (holdF a.own (a.amt, [])).2 = _
      rw [hf hne]
      exact set_last (a := ⟨a.name, a.amt, []⟩) h _
  · rw [h1]
    unfold chgE
    rw [hga]
    show (holdF a.own (a.amt, [])).1 = 0
    rw [hf hne]
theorem loadR_step {n i : Nat} (h : i < n) (s : Rdr × List AccM × Int) : loadR (n - i) s = loadR (n - (i + 1)) (loadStep s) := by
  rw [show n - i = (n - (i + 1)) + 1 from by omega]
  rfl
def loadX (bs : List UInt8) : Int := if (loadE bs).1.end_ ≠ 0 then (loadE bs).1.end_ else if (loadE bs).2.2 ≠ 0 ∨ bookB (loadE bs).2.1 ≠ bs then 11 else 0
theorem loadN_le (bs : List UInt8) : (loadN bs).1 ≤ 200 := by
  have := Rdr.sized_most (⟨bs, 0, 0⟩ : Rdr) 200
  show ((⟨bs, 0, 0⟩ : Rdr).sized 200).1 ≤ 200
  omega
theorem bookB_len {S : List AccM} (h : Accs S) : (bookB S).length ≤ 20000000 := by
  have hone : ∀ a ∈ S, (accB a).length ≤ 65600 := fun a ha => by
    have ho := h.ok a ha
    have h1 := ho.len
    have h2 := ho.own
    have h3 := tv_le (s := a.name) (by omega)
    have h4 := tv_le (s := a.own) (by omega)
    have h5 := iv_length_10 (n := a.amt) ⟨by have := ho.lo; omega, ho.hi⟩
    unfold accB
    simp only [List.length_append]
    omega
  have hsum : ∀ l : List AccM, (∀ a ∈ l, (accB a).length ≤ 65600) → (l.flatMap accB).length ≤ l.length * 65600 := fun l => by
    induction l with
    | nil => intro _; exact Nat.le_refl _
    | cons a l ih =>
      intro hl
      have := ih fun b hb => hl b (List.mem_cons_of_mem _ hb)
      have := hl a (List.mem_cons_self ..)
      rw [List.flatMap_cons, List.length_append, List.length_cons, Nat.add_mul]
      omega
  have h1 := hsum S hone
  have h2 := h.len
  have h3 := uv_length_10 (n := S.length) (by omega)
  unfold bookB
  rw [List.length_append]
  omega
theorem put_same {S : List AccM} {n : List UInt8} {k : Int} (h : ¬ putE S n k = 0) : putS S n k = S := by unfold putS; rw [if_neg h]
end Go.Q
namespace Go.Q
open Go.RowKit
/-- What is wrong of an operation. -/
def wrongE (o : Opm) : Int :=
  if o.kind = 6 then 0
  else if o.kind = 7 then (if o.slot < 0 ∨ 15 < o.slot ∨ o.shard < 1 ∨ 3 < o.shard then 1 else 0)
  else if o.kind < 1 ∨ 7 < o.kind then 1
  else if nameOk o.frm = false then 46
  else if o.kind = 5 then 0
  else if nameOk o.key = false then 46
  else if o.kind = 1 then 0
  else if o.kind = 4 ∧ nameOk o.to = false then 46
  else if o.amount < 1 then 47
  else if o.kind = 4 ∧ o.frm = o.to then 44
  else 0
section
variable {P : Program} {w : World} {t : TypeId}
theorem run_index_str (ht : P.underlying t = some .string) {s : List UInt8} {i : Nat} {c : UInt8} (h : s[i]? = some c) (k : IntKind) : (Instr.index t (.string (str s)) (.int k ((i : Nat) : Int))).run P w = .ok (.int .u8 ((c.toNat : Nat) : Int)) w := by
  have h1 : (str s)[i]? = some c := by
    obtain ⟨hl, he⟩ := List.getElem?_eq_some_iff.1 h
    have hl2 : i < (str s).size := hl
    rw [getElem?_pos (str s) i hl2]
    exact congrArg some he
  simp [Instr.index, asIntOf, run_underlying ht, h1, Result.andThen, go_sem]
def ixv? (L : Loc) (o : Oper) : Option (TypeId × Value × Value) := match o.op with | .index t x y => some (t, ev L x, ev L y) | _ => none
theorem Runs.of_index {L : Loc} {o : Oper} {x y v : Value} {w' : World} (h : ixv? L o = some (t, x, y)) (hr : (Instr.index t x y).run P w = .ok v w') : Runs P L o w v w' := by
  unfold ixv? at h
  cases ho : o.op with
  | index t' x' y' =>
    rw [ho] at h
    simp only [Option.some.injEq, Prod.mk.injEq] at h
    obtain ⟨rfl, hx, hy⟩ := h
    unfold Runs execOp
    simp only [ho, hx, hy, Sem.run_bind, Result.andThen_ok, hr, Sem.run_pure]
  | _ => rw [ho] at h; cases h
end
theorem letterB_t {c : UInt8} (h : (97 ≤ c.toNat ∧ c.toNat ≤ 122) ∨ (48 ≤ c.toNat ∧ c.toNat ≤ 57) ∨ c.toNat = 95) : letterB c = true := decide_eq_true h
theorem letterB_f {c : UInt8} (h : ¬ ((97 ≤ c.toNat ∧ c.toNat ≤ 122) ∨ (48 ≤ c.toNat ∧ c.toNat ≤ 57) ∨ c.toNat = 95)) : letterB c = false := decide_eq_false h
theorem name_short {n : List UInt8} (h : n.length < 1 ∨ 24 < n.length) : nameOk n = false := by
  unfold nameOk
  rw [Bool.and_eq_false_iff]
  left
  exact decide_eq_false (by omega)
theorem name_all {n : List UInt8} (h : 1 ≤ n.length ∧ n.length ≤ 24) : nameOk n = n.all letterB := by
  unfold nameOk
  rw [decide_eq_true h, Bool.true_and]
theorem all_drop {n : List UInt8} {i : Nat} {c : UInt8} (h : n[i]? = some c) : (n.drop i).all letterB = (letterB c && (n.drop (i + 1)).all letterB) := by
  obtain ⟨hl, he⟩ := List.getElem?_eq_some_iff.1 h
  rw [List.drop_eq_getElem_cons hl, List.all_cons, he]
theorem beq_false_ne {a b : List UInt8} (h : (a == b) = false) : ¬ a = b := by simpa using h
theorem beq_true_eq {a b : List UInt8} (h : (a == b) = true) : a = b := by simpa using h
end Go.Q
namespace Go.Proofs.YtooginpgclcldaaGreatDoor
open Go.Q Go.RowKit

set_option maxHeartbeats 4000000 in
theorem Load_calls (w : World) (P : Option Addr) (pc : Nat) (bs : List UInt8) (hP : RdB w (.slice P bs.length pc) bs) (hbl : bs.length ≤ 140737488351232) : Calls Tryz.prog 6 ⟨[(Value.slice P bs.length pc)]⟩ w (fun e w' => ∃ v er, e = .returned (.tuple #[v, i64 er]) ∧ Keeps none_ w w' ∧ ((er ≠ 0 ∧ v = .pointer none ∧ er = loadX bs) ∨ (er = 0 ∧ loadX bs = 0 ∧ ∃ b mb m, v = ptr b ∧ Has w' b (rowL [.map (some mb)] 66) ∧ HasMap w' mb kstr accv m ∧ Book m (loadE bs).2.1 ∧ w.heap.size ≤ b ∧ w.heap.size ≤ mb ∧ b ≠ mb))) := by
 have hN : (loadN bs).1 = ((⟨bs, 0, 0⟩ : Rdr).sized 200).1 := rfl
 have hN2 := loadN_le bs
 have K0 : Keeps none_ w w := Keeps.refl w
 refine q_calls Tryz.func6 (by kernel_rfl) (by kernel_rfl) ?_
 refine qs ?_
 refine qg ?_
 refine og 2 [(0, (Value.slice P bs.length pc)), (2, (Value.pointer none)), (3, (i64 0))] 2 ?_
 refine od ?_
 refine qs ?_
 refine qg ?_
 refine og 1 [(0, (Value.slice P bs.length pc)), (2, (Value.pointer none)), (3, (i64 0)), (10, (Value.slice P bs.length pc))] 1 ?_
 refine Ops.call (by kernel_rfl) (d := (some 11)) (by kernel_rfl) (NewReader_calls _ (Value.slice P bs.length pc) bs (hP.keep0 (by omega) K0) (by first | omega | decide)) ?_
 rintro _ w5 ⟨b1, A2, c3, rfl, q4, K6, H7, hr8, hne9, hge10⟩
 have nb1 : w.heap.size ≤ b1 := by have := K0.size; omega
 have hok11 : Rdr.Ok (⟨bs, 0, 0⟩ : Rdr) := ⟨Nat.zero_le _, by show bs.length ≤ _; first | omega | decide⟩
 clear q4 hge10
 refine ⟨_, _, rfl, rfl, ?_⟩
 replace K0 := K0.t0 K6
 clear K6
 refine og 1 [(0, (Value.slice P bs.length pc)), (2, (Value.pointer none)), (3, (i64 0)), (4, (ptr b1))] 3 ?_
 refine od ?_
 refine qs ?_
 refine qg ?_
 refine Ops.call (by kernel_rfl) (d := (some 12)) (by kernel_rfl) (New_calls _) ?_
 rintro _ w14 ⟨b12, mb13, rfl, K15, H16, Hm17, hb18, hb19, hb20⟩
 have lb12b1 : b1 < b12 := by have := H7.lt; omega
 have lmb13b1 : b1 < mb13 := by have := H7.lt; omega
 have nb12 : w.heap.size ≤ b12 := by have := K0.size; omega
 have nmb13 : w.heap.size ≤ mb13 := by have := K0.size; omega
 have ob21 : ∀ i o s, A2 = some ⟨i, o, s⟩ → i ≠ b12 := fun i o s hi => by have := hr8.2 i o s hi; omega
 have ob22 : ∀ i o s, A2 = some ⟨i, o, s⟩ → i ≠ mb13 := fun i o s hi => by have := hr8.2 i o s hi; omega
 refine ⟨_, _, rfl, rfl, ?_⟩
 replace K0 := K0.t0 K15
 replace H7 := H7.keep K15 (fun h => h)
 replace hr8 := RdO.keep0 hr8 K15
 clear K15
 refine og 1 [(0, (Value.slice P bs.length pc)), (2, (Value.pointer none)), (3, (i64 0)), (4, (ptr b1)), (5, (ptr b12))] 2 ?_
 refine od ?_
 refine qs ?_
 refine qg ?_
 refine og 1 [(0, (Value.slice P bs.length pc)), (2, (Value.pointer none)), (3, (i64 0)), (4, (ptr b1)), (5, (ptr b12)), (6, (i64 0))] 1 ?_
 refine od ?_
 refine qs ?_
 refine qs ?_
 refine qg ?_
 refine og 1 [(0, (Value.slice P bs.length pc)), (2, (Value.pointer none)), (3, (i64 0)), (4, (ptr b1)), (5, (ptr b12)), (6, (i64 0)), (13, (ptr b1))] 1 ?_
 refine Ops.call (by kernel_rfl) (d := (some 14)) (by kernel_rfl) (Count_calls _ b1 A2 c3 (⟨bs, 0, 0⟩ : Rdr) hok11 H7 hr8 hne9 200 (by omega)) ?_
 rintro _ w23 ⟨rfl, K24, H25⟩
 have hok26 : ((⟨bs, 0, 0⟩ : Rdr).sized 200).2.Ok := Rdr.Ok.sized hok11 200
 have hu27 := Rdr.sized_le hok11 200
 have hu28 := Rdr.sized_lt (⟨bs, 0, 0⟩ : Rdr) 200
 refine ⟨_, _, rfl, rfl, ?_⟩
 replace K0 := K0.trans K24 (U := none_) (fun i h1 h2 => h2) (fun i h1 h2 => by have h2 : i = b1 := h2; exfalso; omega)
 replace H16 := H16.keep K24 (by intro h; change b12 = b1 at h; omega)
 replace Hm17 := Hm17.keep K24 (by intro h; change mb13 = b1 at h; omega)
 replace hr8 := RdO.keep hr8 K24 (fun i _ _ hi hs => by have hs : i = b1 := hs; have := hne9 i _ _ hi; omega)
 clear K24
 have F29 : RdO w23 A2 c3 ((⟨bs, 0, 0⟩ : Rdr).sized 200).2.bs := by rw [Rdr.sized_bs]; exact hr8
 clear hr8
 refine og 1 [(0, (Value.slice P bs.length pc)), (2, (Value.pointer none)), (3, (i64 0)), (4, (ptr b1)), (5, (ptr b12)), (6, (i64 0)), (14, (i64 ((((⟨bs, 0, 0⟩ : Rdr).sized 200).1 : Nat) : Int))), (15, (i64 0))] 3 ?_
 refine od ?_
 refine q_block (id := 0) (by kernel_rfl) ?_
 refine q_keep (R := [(0, (Value.slice P bs.length pc)), (2, (Value.pointer none)), (3, (i64 0)), (4, (ptr b1)), (5, (ptr b12)), (6, (i64 0)), (14, (i64 ((((⟨bs, 0, 0⟩ : Rdr).sized 200).1 : Nat) : Int))), (15, (i64 0))]) (by kernel_rfl) ?_
 refine q_loop (fun (gs : Nat × Rdr × Int × (List (List UInt8 × AccV)) × (List AccM)) L (wx : World) => match gs with | (i, R, ev, mm, SS) => L = [(0, (Value.slice P bs.length pc)), (2, (Value.pointer none)), (3, (i64 0)), (4, (ptr b1)), (5, (ptr b12)), (6, (i64 ev)), (14, (i64 ((((⟨bs, 0, 0⟩ : Rdr).sized 200).1 : Nat) : Int))), (15, (i64 ((i : Nat) : Int)))] ∧ RdO wx A2 c3 R.bs ∧ R.Ok ∧ i ≤ (loadN bs).1 ∧ (ev = 0 ∨ ev = 11) ∧ loadR ((loadN bs).1 - i) (R, SS, ev) = loadE bs ∧ Book mm SS ∧ Keeps none_ w wx ∧ Has wx b1 (rowL (rdrL A2 c3 R) 86) ∧ Has wx b12 (rowL [(Value.map (some mb13))] 66) ∧ HasMap wx mb13 kstr accv mm) (fun (gs : Nat × Rdr × Int × (List (List UInt8 × AccV)) × (List AccM)) => match gs with | (i, R, ev, mm, SS) => (loadN bs).1 - i) (0, (loadN bs).2, 0, [], []) (by kernel_rfl) ⟨rfl, F29, hok26, Nat.zero_le _, (.inl rfl), rfl, Book.nil, K0, H25, H16, Hm17⟩ ?_
 clear H25 H16 Hm17 F29 K0
 rintro ⟨i, R, ev, mm, SS⟩ _ w30 ⟨rfl, hRdA2, hokR, hi, hev, hF, hBm, K31, H32, H33, H34⟩
 refine qs ?_
 refine qg ?_
 refine og 1 [(0, (Value.slice P bs.length pc)), (2, (Value.pointer none)), (3, (i64 0)), (4, (ptr b1)), (5, (ptr b12)), (6, (i64 ev)), (14, (i64 ((((⟨bs, 0, 0⟩ : Rdr).sized 200).1 : Nat) : Int))), (15, (i64 ((i : Nat) : Int))), (16, (Value.bool (decide (((i : Nat) : Int) < ((((⟨bs, 0, 0⟩ : Rdr).sized 200).1 : Nat) : Int)))))] 1 ?_
 refine od ?_
 refine qs ?_
 refine q_cond (o := .tmp 16) (b := (decide (((i : Nat) : Int) < ((((⟨bs, 0, 0⟩ : Rdr).sized 200).1 : Nat) : Int)))) (by kernel_rfl) rfl (fun h35 => ?_) (fun h35 => ?_)
 ·rw [h35]
  have p36 : ((i : Nat) : Int) < ((((⟨bs, 0, 0⟩ : Rdr).sized 200).1 : Nat) : Int) := of_decide_eq_true h35
  refine q_skip (by kernel_rfl) ?_
  refine qs ?_
  refine q_block (id := 1) (by kernel_rfl) ?_
  refine qs ?_
  refine qg ?_
  refine og 1 [(0, (Value.slice P bs.length pc)), (2, (Value.pointer none)), (3, (i64 0)), (4, (ptr b1)), (5, (ptr b12)), (6, (i64 ev)), (14, (i64 ((((⟨bs, 0, 0⟩ : Rdr).sized 200).1 : Nat) : Int))), (15, (i64 ((i : Nat) : Int))), (16, (Value.bool true)), (17, (ptr b1))] 1 ?_
  refine Ops.call (by kernel_rfl) (d := (some 18)) (by kernel_rfl) (RdText_calls _ b1 A2 c3 R hokR H32 hRdA2 hne9 ) ?_
  rintro _ w37 ⟨rfl, K38, H39⟩
  have hok40 : (R.bytes).2.Ok := Rdr.Ok.bytes hokR
  have hu41 := Rdr.bytes_le hokR
  refine ⟨_, _, rfl, rfl, ?_⟩
  replace K31 := K31.trans K38 (U := none_) (fun i h1 h2 => h2) (fun i h1 h2 => by have h2 : i = b1 := h2; exfalso; omega)
  replace H33 := H33.keep K38 (by intro h; change b12 = b1 at h; omega)
  replace H34 := H34.keep K38 (by intro h; change mb13 = b1 at h; omega)
  replace hRdA2 := RdO.keep hRdA2 K38 (fun i _ _ hi hs => by have hs : i = b1 := hs; have := hne9 i _ _ hi; omega)
  clear K38
  have F42 : RdO w37 A2 c3 (R.bytes).2.bs := by rw [Rdr.bytes_bs]; exact hRdA2
  clear hRdA2
  refine og 1 [(0, (Value.slice P bs.length pc)), (2, (Value.pointer none)), (3, (i64 0)), (4, (ptr b1)), (5, (ptr b12)), (6, (i64 ev)), (14, (i64 ((((⟨bs, 0, 0⟩ : Rdr).sized 200).1 : Nat) : Int))), (15, (i64 ((i : Nat) : Int))), (16, (Value.bool true)), (19, (agg [(Value.string (str (R.bytes).1)), (i64 0)]))] 3 ?_
  refine Ops.new (o := rowL [(Value.string ByteArray.empty), (i64 0)] 52) (V := fun b => (ptr b)) (by kernel_rfl) (d := (some 7)) (by kernel_rfl) (fun b => rfl) (fun b43 w44 hb45 H46 K47 hs48 => ?_)
  have lb43b1 : b1 < b43 := by have := H39.lt; omega
  have lb43b12 : b12 < b43 := by have := H33.lt; omega
  have lb43mb13 : mb13 < b43 := by have := H34.lt; omega
  have nb43 : w.heap.size ≤ b43 := by have := K31.size; omega
  have ob49 : ∀ i o s, A2 = some ⟨i, o, s⟩ → i ≠ b43 := fun i o s hi => by have := F42.2 i o s hi; omega
  replace K31 := K31.trans K47 (U := none_) (fun i h1 h2 => h2) (fun i h1 h2 => by exact h2)
  replace H39 := H39.keep K47 (fun h => h)
  replace H33 := H33.keep K47 (fun h => h)
  replace H34 := H34.keep K47 (fun h => h)
  replace F42 := RdO.keep0 F42 K47
  clear K47 hs48
  refine Ops.put (t := 52) (b := b43) (off := 0) (v := (agg [(Value.string (str (R.bytes).1)), (i64 0)])) (ys := [(Value.string (str (R.bytes).1)), (i64 0)]) (by kernel_rfl) (by kernel_rfl) H46 (by kernel_rfl) (d := none) (by kernel_rfl) rfl (fun w50 H51 K52 => ?_)
  clear H46
  replace K31 := K31.trans K52 (U := none_) (fun i h1 h2 => h2) (fun i h1 h2 => by have h2 : i = b43 := h2; exfalso; omega)
  replace H39 := H39.keep K52 (by intro h; change b1 = b43 at h; omega)
  replace H33 := H33.keep K52 (by intro h; change b12 = b43 at h; omega)
  replace H34 := H34.keep K52 (by intro h; change mb13 = b43 at h; omega)
  replace F42 := RdO.keep F42 K52 (fun i _ _ hi hs => by have hs : i = b43 := hs; have := ob49 i _ _ hi; omega)
  clear K52
  refine od ?_
  refine qs ?_
  refine qg ?_
  refine og 1 [(0, (Value.slice P bs.length pc)), (2, (Value.pointer none)), (3, (i64 0)), (4, (ptr b1)), (5, (ptr b12)), (6, (i64 ev)), (7, (ptr b43)), (14, (i64 ((((⟨bs, 0, 0⟩ : Rdr).sized 200).1 : Nat) : Int))), (15, (i64 ((i : Nat) : Int))), (16, (Value.bool true)), (20, (ptr b1))] 1 ?_
  refine Ops.call (by kernel_rfl) (d := (some 21)) (by kernel_rfl) (RdInt_calls _ b1 A2 c3 ((R.bytes).2) hok40 H39 F42 hne9) ?_
  rintro _ w53 ⟨rfl, K54, H55⟩
  have hok56 := Rdr.Ok.int hok40
  have hu57 := Rdr.int_range ((R.bytes).2)
  refine ⟨_, _, rfl, rfl, ?_⟩
  replace K31 := K31.trans K54 (U := none_) (fun i h1 h2 => h2) (fun i h1 h2 => by have h2 : i = b1 := h2; exfalso; omega)
  replace H33 := H33.keep K54 (by intro h; change b12 = b1 at h; omega)
  replace H34 := H34.keep K54 (by intro h; change mb13 = b1 at h; omega)
  replace H51 := H51.keep K54 (by intro h; change b43 = b1 at h; omega)
  replace F42 := RdO.keep F42 K54 (fun i _ _ hi hs => by have hs : i = b1 := hs; have := hne9 i _ _ hi; omega)
  clear K54
  have F58 : RdO w53 A2 c3 (((R.bytes).2).int.2).bs := by rw [Rdr.int_bs]; exact F42
  clear F42
  refine og 1 [(0, (Value.slice P bs.length pc)), (2, (Value.pointer none)), (3, (i64 0)), (4, (ptr b1)), (5, (ptr b12)), (6, (i64 ev)), (7, (ptr b43)), (14, (i64 ((((⟨bs, 0, 0⟩ : Rdr).sized 200).1 : Nat) : Int))), (15, (i64 ((i : Nat) : Int))), (16, (Value.bool true)), (21, (i64 (((R.bytes).2).int.1))), (22, (Value.pointer (some ⟨b43, 1, none⟩)))] 3 ?_
  refine Ops.put (t := 2) (b := b43) (off := 1) (v := (i64 (((R.bytes).2).int.1))) (ys := [(Value.string (str (R.bytes).1)), (i64 (((R.bytes).2).int.1))]) (by kernel_rfl) (by kernel_rfl) H51 (by kernel_rfl) (d := none) (by kernel_rfl) rfl (fun w59 H60 K61 => ?_)
  clear H51
  replace K31 := K31.trans K61 (U := none_) (fun i h1 h2 => h2) (fun i h1 h2 => by have h2 : i = b43 := h2; exfalso; omega)
  replace H55 := H55.keep K61 (by intro h; change b1 = b43 at h; omega)
  replace H33 := H33.keep K61 (by intro h; change b12 = b43 at h; omega)
  replace H34 := H34.keep K61 (by intro h; change mb13 = b43 at h; omega)
  replace F58 := RdO.keep F58 K61 (fun i _ _ hi hs => by have hs : i = b43 := hs; have := ob49 i _ _ hi; omega)
  clear K61
  refine od ?_
  refine qs ?_
  refine qg ?_
  refine og 1 [(0, (Value.slice P bs.length pc)), (2, (Value.pointer none)), (3, (i64 0)), (4, (ptr b1)), (5, (ptr b12)), (6, (i64 ev)), (7, (ptr b43)), (14, (i64 ((((⟨bs, 0, 0⟩ : Rdr).sized 200).1 : Nat) : Int))), (15, (i64 ((i : Nat) : Int))), (16, (Value.bool true)), (23, (ptr b1))] 1 ?_
  refine Ops.call (by kernel_rfl) (d := (some 24)) (by kernel_rfl) (RdText_calls _ b1 A2 c3 (((R.bytes).2).int.2) hok56 H55 F58 hne9 ) ?_
  rintro _ w62 ⟨rfl, K63, H64⟩
  have hok65 : ((((R.bytes).2).int.2).bytes).2.Ok := Rdr.Ok.bytes hok56
  have hu66 := Rdr.bytes_le hok56
  refine ⟨_, _, rfl, rfl, ?_⟩
  replace K31 := K31.trans K63 (U := none_) (fun i h1 h2 => h2) (fun i h1 h2 => by have h2 : i = b1 := h2; exfalso; omega)
  replace H33 := H33.keep K63 (by intro h; change b12 = b1 at h; omega)
  replace H34 := H34.keep K63 (by intro h; change mb13 = b1 at h; omega)
  replace H60 := H60.keep K63 (by intro h; change b43 = b1 at h; omega)
  replace F58 := RdO.keep F58 K63 (fun i _ _ hi hs => by have hs : i = b1 := hs; have := hne9 i _ _ hi; omega)
  clear K63
  have F67 : RdO w62 A2 c3 ((((R.bytes).2).int.2).bytes).2.bs := by rw [Rdr.bytes_bs]; exact F58
  clear F58
  refine og 1 [(0, (Value.slice P bs.length pc)), (2, (Value.pointer none)), (3, (i64 0)), (4, (ptr b1)), (5, (ptr b12)), (6, (i64 ev)), (7, (ptr b43)), (8, (Value.string (str ((((R.bytes).2).int.2).bytes).1))), (14, (i64 ((((⟨bs, 0, 0⟩ : Rdr).sized 200).1 : Nat) : Int))), (15, (i64 ((i : Nat) : Int))), (16, (Value.bool true))] 3 ?_
  refine od ?_
  refine qs ?_
  refine qg ?_
  refine og 1 [(0, (Value.slice P bs.length pc)), (2, (Value.pointer none)), (3, (i64 0)), (4, (ptr b1)), (5, (ptr b12)), (6, (i64 ev)), (7, (ptr b43)), (8, (Value.string (str ((((R.bytes).2).int.2).bytes).1))), (14, (i64 ((((⟨bs, 0, 0⟩ : Rdr).sized 200).1 : Nat) : Int))), (15, (i64 ((i : Nat) : Int))), (16, (Value.bool true)), (25, (ptr b12))] 1 ?_
  refine Ops.go (v := (agg [(Value.string (str (R.bytes).1)), (i64 (((R.bytes).2).int.1))])) (by kernel_rfl) (Runs.load (t := 52) (a := ⟨b43, 0, none⟩) (by kernel_rfl) (H60.loads (by kernel_rfl))) (d := (some 26)) (by kernel_rfl) rfl ?_
  refine Ops.call (by kernel_rfl) (d := (some 27)) (by kernel_rfl) (Put_calls _ b12 mb13 mm SS ((R.bytes).1) (((R.bytes).2).int.1) H33 H34 (by omega) hBm (by omega)) ?_
  rintro _ w69 ⟨m68, rfl, K70, H71, hB72⟩
  have hl73 := hB72.len
  refine ⟨_, _, rfl, rfl, ?_⟩
  replace K31 := K31.trans K70 (U := none_) (fun i h1 h2 => h2) (fun i h1 h2 => by have h2 : i = mb13 := h2; exfalso; omega)
  replace H64 := H64.keep K70 (by intro h; change b1 = mb13 at h; omega)
  replace H33 := H33.keep K70 (by intro h; change b12 = mb13 at h; omega)
  replace H60 := H60.keep K70 (by intro h; change b43 = mb13 at h; omega)
  replace F67 := RdO.keep F67 K70 (fun i _ _ hi hs => by have hs : i = mb13 := hs; have := ob22 i _ _ hi; omega)
  clear K70
  refine og 2 [(0, (Value.slice P bs.length pc)), (2, (Value.pointer none)), (3, (i64 0)), (4, (ptr b1)), (5, (ptr b12)), (6, (i64 ev)), (7, (ptr b43)), (8, (Value.string (str ((((R.bytes).2).int.2).bytes).1))), (14, (i64 ((((⟨bs, 0, 0⟩ : Rdr).sized 200).1 : Nat) : Int))), (15, (i64 ((i : Nat) : Int))), (16, (Value.bool true)), (29, (Value.bool ((putE SS ((R.bytes).1) (((R.bytes).2).int.1)) != 0)))] 5 ?_
  refine Ops.split ((putE SS ((R.bytes).1) (((R.bytes).2).int.1)) != 0) (fun h74 => ?_) (fun h74 => ?_)
  ·rw [h74]
   have p75 : ¬ (putE SS ((R.bytes).1) (((R.bytes).2).int.1) = 0) := of_bne_t h74
   refine og 11 [(0, (Value.slice P bs.length pc)), (2, (Value.pointer none)), (3, (i64 0)), (4, (ptr b1)), (5, (ptr b12)), (6, (i64 ev)), (7, (ptr b43)), (8, (Value.string (str ((((R.bytes).2).int.2).bytes).1))), (14, (i64 ((((⟨bs, 0, 0⟩ : Rdr).sized 200).1 : Nat) : Int))), (15, (i64 ((i : Nat) : Int))), (16, (Value.bool true)), (40, (Value.bool true))] 16 ?_
   refine od ?_
   refine q_then (o := .tmp 40) (by kernel_rfl) rfl ?_
   refine qg ?_
   refine og 1 [(0, (Value.slice P bs.length pc)), (2, (Value.pointer none)), (3, (i64 0)), (4, (ptr b1)), (5, (ptr b12)), (6, (i64 11)), (7, (ptr b43)), (8, (Value.string (str ((((R.bytes).2).int.2).bytes).1))), (14, (i64 ((((⟨bs, 0, 0⟩ : Rdr).sized 200).1 : Nat) : Int))), (15, (i64 ((i : Nat) : Int))), (16, (Value.bool true)), (40, (Value.bool true))] 1 ?_
   refine od ?_
   refine qg ?_
   refine og 1 [(0, (Value.slice P bs.length pc)), (2, (Value.pointer none)), (3, (i64 0)), (4, (ptr b1)), (5, (ptr b12)), (6, (i64 11)), (7, (ptr b43)), (8, (Value.string (str ((((R.bytes).2).int.2).bytes).1))), (14, (i64 ((((⟨bs, 0, 0⟩ : Rdr).sized 200).1 : Nat) : Int))), (15, (i64 ((i : Nat) : Int))), (16, (Value.bool true)), (40, (Value.bool true)), (41, (i64 (IntKind.i64.wrap (((i : Nat) : Int) + 1))))] 1 ?_
   have e76 : IntKind.i64.wrap (((i : Nat) : Int) + 1) = ((i + 1 : Nat) : Int) := by rw [wrap_i64 (by omega) (by omega)]; omega
   rw [e76]
   clear e76
   refine og 1 [(0, (Value.slice P bs.length pc)), (2, (Value.pointer none)), (3, (i64 0)), (4, (ptr b1)), (5, (ptr b12)), (6, (i64 11)), (7, (ptr b43)), (8, (Value.string (str ((((R.bytes).2).int.2).bytes).1))), (14, (i64 ((((⟨bs, 0, 0⟩ : Rdr).sized 200).1 : Nat) : Int))), (15, (i64 ((i + 1 : Nat) : Int))), (16, (Value.bool true)), (40, (Value.bool true))] 2 ?_
   have hstep : loadStep (R, SS, ev) = (((((R.bytes).2).int.2).bytes).2, putS SS ((R.bytes).1) (((R.bytes).2).int.1), 11) := by unfold loadStep; simp only; rw [if_neg (fun q => absurd q.1 (by omega)), if_pos (.inl (by omega))]
   refine Ops.keep (R := [(0, (Value.slice P bs.length pc)), (2, (Value.pointer none)), (3, (i64 0)), (4, (ptr b1)), (5, (ptr b12)), (6, (i64 11)), (14, (i64 ((((⟨bs, 0, 0⟩ : Rdr).sized 200).1 : Nat) : Int))), (15, (i64 ((i + 1 : Nat) : Int)))]) (by kernel_rfl) ?_
   refine od ?_
   have hstep : loadStep (R, SS, ev) = (((((R.bytes).2).int.2).bytes).2, putS SS ((R.bytes).1) (((R.bytes).2).int.1), 11) := by unfold loadStep; simp only; rw [if_neg (fun q => absurd q.1 (by omega)), if_pos (.inl (by omega))]
   exact ⟨(i + 1, ((((R.bytes).2).int.2).bytes).2, 11, m68, putS SS ((R.bytes).1) (((R.bytes).2).int.1)), ⟨rfl, F67, hok65, (by omega), (by omega), (by rw [← hF, loadR_step (n := (loadN bs).1) (i := i) (by omega), hstep]), hB72, K31, H64, H33, H71⟩, (show (loadN bs).1 - (i + 1) < (loadN bs).1 - i from by omega)⟩
  ·rw [h74]
   have p77 : putE SS ((R.bytes).1) (((R.bytes).2).int.1) = 0 := of_bne_f h74
   refine og 1 [(0, (Value.slice P bs.length pc)), (2, (Value.pointer none)), (3, (i64 0)), (4, (ptr b1)), (5, (ptr b12)), (6, (i64 ev)), (7, (ptr b43)), (8, (Value.string (str ((((R.bytes).2).int.2).bytes).1))), (14, (i64 ((((⟨bs, 0, 0⟩ : Rdr).sized 200).1 : Nat) : Int))), (15, (i64 ((i : Nat) : Int))), (16, (Value.bool true)), (29, (Value.bool false)), (30, (Value.string (str ((((R.bytes).2).int.2).bytes).1)))] 6 ?_
   refine Ops.go (v := (Value.bool (!(((((R.bytes).2).int.2).bytes).1 == ([] : List UInt8))))) (by kernel_rfl) (Runs.strne (t := 9) (by kernel_rfl)) (d := (some 31)) (by kernel_rfl) rfl ?_
   refine og 1 [(0, (Value.slice P bs.length pc)), (2, (Value.pointer none)), (3, (i64 0)), (4, (ptr b1)), (5, (ptr b12)), (6, (i64 ev)), (7, (ptr b43)), (8, (Value.string (str ((((R.bytes).2).int.2).bytes).1))), (14, (i64 ((((⟨bs, 0, 0⟩ : Rdr).sized 200).1 : Nat) : Int))), (15, (i64 ((i : Nat) : Int))), (16, (Value.bool true)), (29, (Value.bool false)), (32, (Value.bool (!(((((R.bytes).2).int.2).bytes).1 == ([] : List UInt8)))))] 8 ?_
   refine Ops.split (!(((((R.bytes).2).int.2).bytes).1 == ([] : List UInt8))) (fun h78 => ?_) (fun h78 => ?_)
   ·rw [h78]
    have p79 : (((((R.bytes).2).int.2).bytes).1 == ([] : List UInt8)) = false := (bnot_true h78)
    refine og 2 [(0, (Value.slice P bs.length pc)), (2, (Value.pointer none)), (3, (i64 0)), (4, (ptr b1)), (5, (ptr b12)), (6, (i64 ev)), (7, (ptr b43)), (8, (Value.string (str ((((R.bytes).2).int.2).bytes).1))), (14, (i64 ((((⟨bs, 0, 0⟩ : Rdr).sized 200).1 : Nat) : Int))), (15, (i64 ((i : Nat) : Int))), (16, (Value.bool true)), (29, (Value.bool false)), (32, (Value.bool true)), (33, (ptr b12)), (34, (ptr b43))] 10 ?_
    refine Ops.go (v := (Value.string (str (R.bytes).1))) (by kernel_rfl) (Runs.load (t := 9) (a := ⟨b43, 0, none⟩) (by kernel_rfl) (H60.loads (by kernel_rfl))) (d := (some 35)) (by kernel_rfl) rfl ?_
    refine og 1 [(0, (Value.slice P bs.length pc)), (2, (Value.pointer none)), (3, (i64 0)), (4, (ptr b1)), (5, (ptr b12)), (6, (i64 ev)), (7, (ptr b43)), (8, (Value.string (str ((((R.bytes).2).int.2).bytes).1))), (14, (i64 ((((⟨bs, 0, 0⟩ : Rdr).sized 200).1 : Nat) : Int))), (15, (i64 ((i : Nat) : Int))), (16, (Value.bool true)), (29, (Value.bool false)), (32, (Value.bool true)), (33, (ptr b12)), (35, (Value.string (str (R.bytes).1))), (36, (Value.string (str ((((R.bytes).2).int.2).bytes).1)))] 12 ?_
    refine Ops.call (by kernel_rfl) (d := (some 37)) (by kernel_rfl) (Hold_calls _ b12 mb13 m68 (putS SS ((R.bytes).1) (((R.bytes).2).int.1)) ((R.bytes).1) (((((R.bytes).2).int.2).bytes).1) H33 H71 (by omega) hB72) ?_
    rintro _ w81 ⟨m80, rfl, K82, H83, hB84⟩
    have hl85 := hB84.len
    refine ⟨_, _, rfl, rfl, ?_⟩
    replace K31 := K31.trans K82 (U := none_) (fun i h1 h2 => h2) (fun i h1 h2 => by have h2 : i = mb13 := h2; exfalso; omega)
    replace H64 := H64.keep K82 (by intro h; change b1 = mb13 at h; omega)
    replace H33 := H33.keep K82 (by intro h; change b12 = mb13 at h; omega)
    replace H60 := H60.keep K82 (by intro h; change b43 = mb13 at h; omega)
    replace F67 := RdO.keep F67 K82 (fun i _ _ hi hs => by have hs : i = mb13 := hs; have := ob22 i _ _ hi; omega)
    clear K82
    refine og 3 [(0, (Value.slice P bs.length pc)), (2, (Value.pointer none)), (3, (i64 0)), (4, (ptr b1)), (5, (ptr b12)), (6, (i64 ev)), (7, (ptr b43)), (8, (Value.string (str ((((R.bytes).2).int.2).bytes).1))), (14, (i64 ((((⟨bs, 0, 0⟩ : Rdr).sized 200).1 : Nat) : Int))), (15, (i64 ((i : Nat) : Int))), (16, (Value.bool true)), (40, (Value.bool ((chgE (holdF (((((R.bytes).2).int.2).bytes).1)) (putS SS ((R.bytes).1) (((R.bytes).2).int.1)) ((R.bytes).1)) != 0)))] 16 ?_
    refine od ?_
    refine q_cond (o := .tmp 40) (b := ((chgE (holdF (((((R.bytes).2).int.2).bytes).1)) (putS SS ((R.bytes).1) (((R.bytes).2).int.1)) ((R.bytes).1)) != 0)) (by kernel_rfl) rfl (fun h86 => ?_) (fun h86 => ?_)
    ·rw [h86]
     have p87 : ¬ (chgE (holdF (((((R.bytes).2).int.2).bytes).1)) (putS SS ((R.bytes).1) (((R.bytes).2).int.1)) ((R.bytes).1) = 0) := of_bne_t h86
     refine qg ?_
     refine og 1 [(0, (Value.slice P bs.length pc)), (2, (Value.pointer none)), (3, (i64 0)), (4, (ptr b1)), (5, (ptr b12)), (6, (i64 11)), (7, (ptr b43)), (8, (Value.string (str ((((R.bytes).2).int.2).bytes).1))), (14, (i64 ((((⟨bs, 0, 0⟩ : Rdr).sized 200).1 : Nat) : Int))), (15, (i64 ((i : Nat) : Int))), (16, (Value.bool true)), (40, (Value.bool true))] 1 ?_
     refine od ?_
     refine qg ?_
     refine og 1 [(0, (Value.slice P bs.length pc)), (2, (Value.pointer none)), (3, (i64 0)), (4, (ptr b1)), (5, (ptr b12)), (6, (i64 11)), (7, (ptr b43)), (8, (Value.string (str ((((R.bytes).2).int.2).bytes).1))), (14, (i64 ((((⟨bs, 0, 0⟩ : Rdr).sized 200).1 : Nat) : Int))), (15, (i64 ((i : Nat) : Int))), (16, (Value.bool true)), (40, (Value.bool true)), (41, (i64 (IntKind.i64.wrap (((i : Nat) : Int) + 1))))] 1 ?_
     have e88 : IntKind.i64.wrap (((i : Nat) : Int) + 1) = ((i + 1 : Nat) : Int) := by rw [wrap_i64 (by omega) (by omega)]; omega
     rw [e88]
     clear e88
     refine og 1 [(0, (Value.slice P bs.length pc)), (2, (Value.pointer none)), (3, (i64 0)), (4, (ptr b1)), (5, (ptr b12)), (6, (i64 11)), (7, (ptr b43)), (8, (Value.string (str ((((R.bytes).2).int.2).bytes).1))), (14, (i64 ((((⟨bs, 0, 0⟩ : Rdr).sized 200).1 : Nat) : Int))), (15, (i64 ((i + 1 : Nat) : Int))), (16, (Value.bool true)), (40, (Value.bool true))] 2 ?_
     have hby : (R.bytes.2.int.2.bytes).1 ≠ [] := by have h := (bnot_true h78); simpa using h
     have hstep : loadStep (R, SS, ev) = (((((R.bytes).2).int.2).bytes).2, chgS (holdF (((((R.bytes).2).int.2).bytes).1)) (putS SS ((R.bytes).1) (((R.bytes).2).int.1)) ((R.bytes).1), 11) := by unfold loadStep; simp only; rw [if_pos ⟨by omega, hby⟩, if_pos (.inr ⟨hby, by omega⟩)]
     refine Ops.keep (R := [(0, (Value.slice P bs.length pc)), (2, (Value.pointer none)), (3, (i64 0)), (4, (ptr b1)), (5, (ptr b12)), (6, (i64 11)), (14, (i64 ((((⟨bs, 0, 0⟩ : Rdr).sized 200).1 : Nat) : Int))), (15, (i64 ((i + 1 : Nat) : Int)))]) (by kernel_rfl) ?_
     refine od ?_
     have hby : (R.bytes.2.int.2.bytes).1 ≠ [] := by have h := (bnot_true h78); simpa using h
     have hstep : loadStep (R, SS, ev) = (((((R.bytes).2).int.2).bytes).2, chgS (holdF (((((R.bytes).2).int.2).bytes).1)) (putS SS ((R.bytes).1) (((R.bytes).2).int.1)) ((R.bytes).1), 11) := by unfold loadStep; simp only; rw [if_pos ⟨by omega, hby⟩, if_pos (.inr ⟨hby, by omega⟩)]
     exact ⟨(i + 1, ((((R.bytes).2).int.2).bytes).2, 11, m80, chgS (holdF (((((R.bytes).2).int.2).bytes).1)) (putS SS ((R.bytes).1) (((R.bytes).2).int.1)) ((R.bytes).1)), ⟨rfl, F67, hok65, (by omega), (by omega), (by rw [← hF, loadR_step (n := (loadN bs).1) (i := i) (by omega), hstep]), hB84, K31, H64, H33, H83⟩, (show (loadN bs).1 - (i + 1) < (loadN bs).1 - i from by omega)⟩
    ·rw [h86]
     have p89 : chgE (holdF (((((R.bytes).2).int.2).bytes).1)) (putS SS ((R.bytes).1) (((R.bytes).2).int.1)) ((R.bytes).1) = 0 := of_bne_f h86
     refine q_skip (by kernel_rfl) ?_
     refine qg ?_
     refine og 1 [(0, (Value.slice P bs.length pc)), (2, (Value.pointer none)), (3, (i64 0)), (4, (ptr b1)), (5, (ptr b12)), (6, (i64 ev)), (7, (ptr b43)), (8, (Value.string (str ((((R.bytes).2).int.2).bytes).1))), (14, (i64 ((((⟨bs, 0, 0⟩ : Rdr).sized 200).1 : Nat) : Int))), (15, (i64 ((i : Nat) : Int))), (16, (Value.bool true)), (40, (Value.bool false)), (41, (i64 (IntKind.i64.wrap (((i : Nat) : Int) + 1))))] 1 ?_
     have e90 : IntKind.i64.wrap (((i : Nat) : Int) + 1) = ((i + 1 : Nat) : Int) := by rw [wrap_i64 (by omega) (by omega)]; omega
     rw [e90]
     clear e90
     refine og 1 [(0, (Value.slice P bs.length pc)), (2, (Value.pointer none)), (3, (i64 0)), (4, (ptr b1)), (5, (ptr b12)), (6, (i64 ev)), (7, (ptr b43)), (8, (Value.string (str ((((R.bytes).2).int.2).bytes).1))), (14, (i64 ((((⟨bs, 0, 0⟩ : Rdr).sized 200).1 : Nat) : Int))), (15, (i64 ((i + 1 : Nat) : Int))), (16, (Value.bool true)), (40, (Value.bool false))] 2 ?_
     have hby : (R.bytes.2.int.2.bytes).1 ≠ [] := by have h := (bnot_true h78); simpa using h
     have hstep : loadStep (R, SS, ev) = (((((R.bytes).2).int.2).bytes).2, chgS (holdF (((((R.bytes).2).int.2).bytes).1)) (putS SS ((R.bytes).1) (((R.bytes).2).int.1)) ((R.bytes).1), ev) := by unfold loadStep; simp only; rw [if_pos ⟨by omega, hby⟩, if_neg (by rintro (q | q); (omega); (have := q.2; omega))]
     refine Ops.keep (R := [(0, (Value.slice P bs.length pc)), (2, (Value.pointer none)), (3, (i64 0)), (4, (ptr b1)), (5, (ptr b12)), (6, (i64 ev)), (14, (i64 ((((⟨bs, 0, 0⟩ : Rdr).sized 200).1 : Nat) : Int))), (15, (i64 ((i + 1 : Nat) : Int)))]) (by kernel_rfl) ?_
     refine od ?_
     have hby : (R.bytes.2.int.2.bytes).1 ≠ [] := by have h := (bnot_true h78); simpa using h
     have hstep : loadStep (R, SS, ev) = (((((R.bytes).2).int.2).bytes).2, chgS (holdF (((((R.bytes).2).int.2).bytes).1)) (putS SS ((R.bytes).1) (((R.bytes).2).int.1)) ((R.bytes).1), ev) := by unfold loadStep; simp only; rw [if_pos ⟨by omega, hby⟩, if_neg (by rintro (q | q); (omega); (have := q.2; omega))]
     exact ⟨(i + 1, ((((R.bytes).2).int.2).bytes).2, ev, m80, chgS (holdF (((((R.bytes).2).int.2).bytes).1)) (putS SS ((R.bytes).1) (((R.bytes).2).int.1)) ((R.bytes).1)), ⟨rfl, F67, hok65, (by omega), (by omega), (by rw [← hF, loadR_step (n := (loadN bs).1) (i := i) (by omega), hstep]), hB84, K31, H64, H33, H83⟩, (show (loadN bs).1 - (i + 1) < (loadN bs).1 - i from by omega)⟩
   ·rw [h78]
    have p91 : (((((R.bytes).2).int.2).bytes).1 == ([] : List UInt8)) = true := (bnot_false h78)
    refine og 8 [(0, (Value.slice P bs.length pc)), (2, (Value.pointer none)), (3, (i64 0)), (4, (ptr b1)), (5, (ptr b12)), (6, (i64 ev)), (7, (ptr b43)), (8, (Value.string (str ((((R.bytes).2).int.2).bytes).1))), (14, (i64 ((((⟨bs, 0, 0⟩ : Rdr).sized 200).1 : Nat) : Int))), (15, (i64 ((i : Nat) : Int))), (16, (Value.bool true)), (40, (Value.bool false))] 16 ?_
    refine od ?_
    refine q_else (o := .tmp 40) (by kernel_rfl) rfl ?_
    refine q_skip (by kernel_rfl) ?_
    refine qg ?_
    refine og 1 [(0, (Value.slice P bs.length pc)), (2, (Value.pointer none)), (3, (i64 0)), (4, (ptr b1)), (5, (ptr b12)), (6, (i64 ev)), (7, (ptr b43)), (8, (Value.string (str ((((R.bytes).2).int.2).bytes).1))), (14, (i64 ((((⟨bs, 0, 0⟩ : Rdr).sized 200).1 : Nat) : Int))), (15, (i64 ((i : Nat) : Int))), (16, (Value.bool true)), (40, (Value.bool false)), (41, (i64 (IntKind.i64.wrap (((i : Nat) : Int) + 1))))] 1 ?_
    have e92 : IntKind.i64.wrap (((i : Nat) : Int) + 1) = ((i + 1 : Nat) : Int) := by rw [wrap_i64 (by omega) (by omega)]; omega
    rw [e92]
    clear e92
    refine og 1 [(0, (Value.slice P bs.length pc)), (2, (Value.pointer none)), (3, (i64 0)), (4, (ptr b1)), (5, (ptr b12)), (6, (i64 ev)), (7, (ptr b43)), (8, (Value.string (str ((((R.bytes).2).int.2).bytes).1))), (14, (i64 ((((⟨bs, 0, 0⟩ : Rdr).sized 200).1 : Nat) : Int))), (15, (i64 ((i + 1 : Nat) : Int))), (16, (Value.bool true)), (40, (Value.bool false))] 2 ?_
    have hby : (R.bytes.2.int.2.bytes).1 = [] := by have h := (bnot_false h78); simpa using h
    have hstep : loadStep (R, SS, ev) = (((((R.bytes).2).int.2).bytes).2, putS SS ((R.bytes).1) (((R.bytes).2).int.1), ev) := by unfold loadStep; simp only; rw [if_neg (fun q => q.2 hby), if_neg (by rintro (q | q); (omega); (exact q.1 hby))]
    refine Ops.keep (R := [(0, (Value.slice P bs.length pc)), (2, (Value.pointer none)), (3, (i64 0)), (4, (ptr b1)), (5, (ptr b12)), (6, (i64 ev)), (14, (i64 ((((⟨bs, 0, 0⟩ : Rdr).sized 200).1 : Nat) : Int))), (15, (i64 ((i + 1 : Nat) : Int)))]) (by kernel_rfl) ?_
    refine od ?_
    have hby : (R.bytes.2.int.2.bytes).1 = [] := by have h := (bnot_false h78); simpa using h
    have hstep : loadStep (R, SS, ev) = (((((R.bytes).2).int.2).bytes).2, putS SS ((R.bytes).1) (((R.bytes).2).int.1), ev) := by unfold loadStep; simp only; rw [if_neg (fun q => q.2 hby), if_neg (by rintro (q | q); (omega); (exact q.1 hby))]
    exact ⟨(i + 1, ((((R.bytes).2).int.2).bytes).2, ev, m68, putS SS ((R.bytes).1) (((R.bytes).2).int.1)), ⟨rfl, F67, hok65, (by omega), (by omega), (by rw [← hF, loadR_step (n := (loadN bs).1) (i := i) (by omega), hstep]), hB72, K31, H64, H33, H71⟩, (show (loadN bs).1 - (i + 1) < (loadN bs).1 - i from by omega)⟩
 ·rw [h35]
  have p93 : ¬ (((i : Nat) : Int) < ((((⟨bs, 0, 0⟩ : Rdr).sized 200).1 : Nat) : Int)) := of_decide_eq_false h35
  refine q_exit (id := 0) (by kernel_rfl) ?_
  refine qs ?_
  refine qs ?_
  refine qg ?_
  refine og 1 [(0, (Value.slice P bs.length pc)), (2, (Value.pointer none)), (3, (i64 0)), (5, (ptr b12)), (6, (i64 ev)), (42, (ptr b1))] 1 ?_
  refine Ops.call (by kernel_rfl) (d := (some 43)) (by kernel_rfl) (RdEnd_calls _ b1 A2 c3 R hokR H32 hRdA2 hne9) ?_
  rintro _ w94 ⟨rfl, K95⟩
  refine ⟨_, _, rfl, rfl, ?_⟩
  replace K31 := K31.trans K95 (U := none_) (fun i h1 h2 => h2) (fun i h1 h2 => by exact h2)
  replace H32 := H32.keep K95 (fun h => h)
  replace H33 := H33.keep K95 (fun h => h)
  replace H34 := H34.keep K95 (fun h => h)
  replace hRdA2 := RdO.keep0 hRdA2 K95
  clear K95
  refine og 1 [(0, (Value.slice P bs.length pc)), (2, (Value.pointer none)), (3, (i64 0)), (5, (ptr b12)), (6, (i64 ev)), (9, (i64 R.end_))] 3 ?_
  refine od ?_
  refine qs ?_
  refine qg ?_
  refine og 2 [(0, (Value.slice P bs.length pc)), (2, (Value.pointer none)), (3, (i64 0)), (5, (ptr b12)), (6, (i64 ev)), (9, (i64 R.end_)), (45, (Value.bool (R.end_ != 0)))] 2 ?_
  refine od ?_
  refine q_cond (o := .tmp 45) (b := (R.end_ != 0)) (by kernel_rfl) rfl (fun h96 => ?_) (fun h96 => ?_)
  ·rw [h96]
   have p97 : ¬ (R.end_ = 0) := of_bne_t h96
   refine qs ?_
   refine qg ?_
   refine og 3 [(0, (Value.slice P bs.length pc)), (2, (Value.pointer none)), (3, (i64 R.end_)), (5, (ptr b12)), (6, (i64 ev))] 3 ?_
   refine od ?_
   refine q_ret (by kernel_rfl) ?_
   refine ⟨(Value.tuple #[(Value.pointer none), (i64 R.end_)]), retv_tmp2 rfl rfl rfl, ?_⟩
   have hz : (loadN bs).1 - i = 0 := by omega
   rw [hz] at hF
   have hE : loadE bs = (R, SS, ev) := hF.symm
   have hX : loadX bs = R.end_ := by unfold loadX; rw [hE, if_pos (show R.end_ ≠ 0 from by omega)]
   exact ⟨_, R.end_, rfl, K31, .inl ⟨by omega, rfl, hX.symm⟩⟩
  ·rw [h96]
   have p98 : R.end_ = 0 := of_bne_f h96
   refine q_skip (by kernel_rfl) ?_
   refine qs ?_
   refine qs ?_
   refine q_draw (fun wz => Keeps none_ w94 wz) 10 (by kernel_rfl) (by kernel_rfl) (by kernel_rfl) (fun w99 K100 _ _ => ⟨K100, ?_⟩)
   replace K31 := K31.trans K100 (U := none_) (fun i h1 h2 => h2) (fun i h1 h2 => by exact h2)
   replace H32 := H32.keep K100 (fun h => h)
   replace H33 := H33.keep K100 (fun h => h)
   replace H34 := H34.keep K100 (fun h => h)
   replace hRdA2 := RdO.keep0 hRdA2 K100
   refine Dr.strong (S' := (fun wz => Keeps none_ w99 wz)) (Keeps.refl w99) (fun wz hx => K100.trans hx (fun i _ h => h) (fun _ _ h => h)) ?_
   clear K100
   refine Dr.takes (fuel' := 7) (is' := [2, 1, 0]) [0, 1, 2] [(0, (Value.slice P bs.length pc)), (2, (Value.pointer none)), (3, (i64 0)), (5, (ptr b12)), (49, (Value.bool (ev != 0)))] (by kernel_rfl) rfl (by kernel_rfl) ?_
   refine Dr.split (ev != 0) (fun h101 => ?_) (fun h101 => ?_)
   ·rw [h101]
    have p102 : ¬ (ev = 0) := of_bne_t h101
    refine Dr.takes (fuel' := 0) (is' := [9, 8, 7, 6, 5, 4, 3, 2, 1, 0]) [3, 4, 5, 6, 7, 8, 9] [(2, (Value.pointer none)), (3, (i64 0)), (5, (ptr b12)), (56, (Value.bool true))] (by kernel_rfl) rfl (by kernel_rfl) ?_
    refine Dr.done (by kernel_rfl) ?_
    refine q_then (o := .tmp 56) (by kernel_rfl) rfl ?_
    refine qs ?_
    refine qg ?_
    refine og 2 [(2, (Value.pointer none)), (3, (i64 11)), (5, (ptr b12))] 2 ?_
    refine od ?_
    refine q_ret (by kernel_rfl) ?_
    refine ⟨(Value.tuple #[(Value.pointer none), (i64 11)]), retv_tmp2 rfl rfl rfl, ?_⟩
    have hz : (loadN bs).1 - i = 0 := by omega
    rw [hz] at hF
    have hE : loadE bs = (R, SS, ev) := hF.symm
    have hX : loadX bs = 11 := by unfold loadX; rw [hE, if_neg (fun q => q (by omega)), if_pos (.inl (by omega))]
    exact ⟨_, 11, rfl, K31, .inl ⟨by omega, rfl, hX.symm⟩⟩
   ·rw [h101]
    have p103 : ev = 0 := of_bne_f h101
    refine Dr.takes (fuel' := 5) (is' := [6, 3, 2, 1, 0]) [3, 6] [(2, (Value.pointer none)), (3, (i64 0)), (5, (ptr b12)), (49, (Value.bool false)), (50, (ptr b12)), (53, (Value.slice P bs.length pc))] (by kernel_rfl) rfl (by kernel_rfl) ?_
    refine Dr.take (i := 7) (v := (Value.string (str bs))) (by kernel_rfl) (by kernel_rfl) (fun wz hS => Runs.b2s (s := 22) (d := 9) (e := 5) (by kernel_rfl) (by kernel_rfl) (by kernel_rfl) (Rd.keep0 (by omega) (hP.keep0 (by omega) K31) hS)) (d := (some 54)) (by kernel_rfl) rfl ?_
    refine Dr.call (i := 4) (by kernel_rfl) (by kernel_rfl) (d := (some 51)) (by kernel_rfl) (fun _ => Bytes_calls _ b12 mb13 mm SS H33 H34 (by omega) hBm) ?_
    rintro _ w105 ⟨v104, rfl, K106, hO107⟩
    have ob109 : ∀ i, (v104).ownBlock = some i → i ≠ b1 := fun i hi => by have := (World.ownsRow.lt hO107 i hi).1; have := H32.lt; omega
    have ob110 : ∀ i, (v104).ownBlock = some i → i ≠ b12 := fun i hi => by have := (World.ownsRow.lt hO107 i hi).1; have := H33.lt; omega
    have ob111 : ∀ i, (v104).ownBlock = some i → i ≠ mb13 := fun i hi => by have := (World.ownsRow.lt hO107 i hi).1; have := H34.lt; omega
    have oo112 : ∀ i o s, A2 = some ⟨i, o, s⟩ → (v104).ownBlock = some i → False := fun i o s hi hs => by have := (World.ownsRow.lt hO107 i hs).1; have := hRdA2.2 i o s hi; omega
    have O108 := own_base hO107 K31.size
    clear hO107
    replace K31 := K31.trans K106 (U := none_) (fun i h1 h2 => h2) (fun i h1 h2 => by exact h2)
    replace H32 := H32.keep K106 (fun h => h)
    replace H33 := H33.keep K106 (fun h => h)
    replace H34 := H34.keep K106 (fun h => h)
    replace hRdA2 := RdO.keep0 hRdA2 K106
    refine ⟨_, _, rfl, rfl, K106, ?_⟩
    refine Dr.strong (S' := (fun wz => Keeps none_ w105 wz)) (Keeps.refl w105) (fun wz hx => K106.trans hx (fun i _ h => h) (fun _ _ h => h)) ?_
    clear K106
    refine Dr.take (i := 5) (v := (Value.string (str (bookB SS)))) (by kernel_rfl) (by kernel_rfl) (fun wz hS => Runs.b2s (s := 22) (d := 9) (e := 5) (by kernel_rfl) (by kernel_rfl) (by kernel_rfl) (Rd.keep0 (by omega) (OwnB.rd O108) hS)) (d := (some 52)) (by kernel_rfl) rfl ?_
    refine Dr.take (i := 8) (v := (Value.bool (!((bookB SS) == bs)))) (by kernel_rfl) (by kernel_rfl) (fun wz hS => Runs.strne (t := 9) (by kernel_rfl)) (d := (some 55)) (by kernel_rfl) rfl ?_
    refine Dr.takes (fuel' := 0) (is' := [9, 8, 5, 4, 7, 6, 3, 2, 1, 0]) [9] [(2, (Value.pointer none)), (3, (i64 0)), (5, (ptr b12)), (56, (Value.bool (!((bookB SS) == bs))))] (by kernel_rfl) rfl (by kernel_rfl) ?_
    refine Dr.done (by kernel_rfl) ?_
    refine q_cond (o := .tmp 56) (b := (!((bookB SS) == bs))) (by kernel_rfl) rfl (fun h114 => ?_) (fun h114 => ?_)
    ·rw [h114]
     have p115 : ((bookB SS) == bs) = false := (bnot_true h114)
     refine qs ?_
     refine qg ?_
     refine og 2 [(2, (Value.pointer none)), (3, (i64 11)), (5, (ptr b12))] 2 ?_
     refine od ?_
     refine q_ret (by kernel_rfl) ?_
     refine ⟨(Value.tuple #[(Value.pointer none), (i64 11)]), retv_tmp2 rfl rfl rfl, ?_⟩
     have hz : (loadN bs).1 - i = 0 := by omega
     rw [hz] at hF
     have hE : loadE bs = (R, SS, ev) := hF.symm
     have hX : loadX bs = 11 := by unfold loadX; rw [hE, if_neg (fun q => q (by omega)), if_pos (.inr (beq_false_ne (bnot_true h114)))]
     exact ⟨_, 11, rfl, K31, .inl ⟨by omega, rfl, hX.symm⟩⟩
    ·rw [h114]
     have p116 : ((bookB SS) == bs) = true := (bnot_false h114)
     refine q_skip (by kernel_rfl) ?_
     refine qs ?_
     refine qg ?_
     refine og 3 [(2, (ptr b12)), (3, (i64 0))] 3 ?_
     refine od ?_
     refine q_ret (by kernel_rfl) ?_
     refine ⟨(Value.tuple #[(ptr b12), (i64 0)]), retv_tmp2 rfl rfl rfl, ?_⟩
     have hz : (loadN bs).1 - i = 0 := by omega
     rw [hz] at hF
     have hE : loadE bs = (R, SS, ev) := hF.symm
     have hX : loadX bs = 0 := by unfold loadX; rw [hE, if_neg (fun q => q (by omega)), if_neg (by rintro (q | q); (exact q (by omega)); (exact q (beq_true_eq (bnot_false h114))))]
     exact ⟨_, 0, rfl, K31, .inr ⟨rfl, hX, b12, mb13, _, rfl, H33, H34, by rw [hE]; exact hBm, nb12, nmb13, by omega⟩⟩

end Go.Proofs.YtooginpgclcldaaGreatDoor
namespace Go.Proofs.YtooginpgclcldaaGreatDoor
open Go.Q Go.RowKit

theorem Spoil_row (w : World) (g n cap : Nat) (cs : List Value) (H0 : Has w g (rowL cs 5)) (hcs : cs.length = cap) (hnc : n ≤ cap) (hcm : cap ≤ maxLen) (hn : n ≤ 140737488351232) : Calls Tryz.prog 9 ⟨[(Value.slice (some ⟨g, 0, none⟩) n cap)]⟩ w (fun e w' => e = .returned (.tuple #[]) ∧ Keeps (fun i => i = g) w w') := by
 have K0 : Keeps (fun i => i = g) w w := (Keeps.refl w).mono (fun _ _ h => h.elim)
 have Hg := H0.lt
 refine q_calls Tryz.func9 (by kernel_rfl) (by kernel_rfl) ?_
 refine qs ?_
 refine qs ?_
 refine qg ?_
 refine og 1 [(0, (Value.slice (some ⟨g, 0, none⟩) n cap)), (2, (i64 0))] 1 ?_
 refine od ?_
 refine q_block (id := 0) (by kernel_rfl) ?_
 refine q_keep (R := [(0, (Value.slice (some ⟨g, 0, none⟩) n cap)), (2, (i64 0))]) (by kernel_rfl) ?_
 refine q_loop (fun (gs : Nat × (List Value)) L (wx : World) => match gs with | (k, cs) => L = [(0, (Value.slice (some ⟨g, 0, none⟩) n cap)), (2, (i64 ((k : Nat) : Int)))] ∧ cs.length = cap ∧ k ≤ n ∧ Keeps (fun i => i = g) w wx ∧ Has wx g (rowL cs 5)) (fun (gs : Nat × (List Value)) => match gs with | (k, cs) => n - k) (0, cs) (by kernel_rfl) ⟨rfl, hcs, Nat.zero_le _, K0, H0⟩ ?_
 clear H0 K0
 rintro ⟨k, cs⟩ _ w1 ⟨rfl, hcs, hk, K2, H3⟩
 refine qs ?_
 refine qs ?_
 refine qg ?_
 refine og 4 [(0, (Value.slice (some ⟨g, 0, none⟩) n cap)), (2, (i64 ((k : Nat) : Int))), (6, (Value.bool (decide (((k : Nat) : Int) < ((n : Nat) : Int)))))] 4 ?_
 refine od ?_
 refine q_cond (o := .tmp 6) (b := (decide (((k : Nat) : Int) < ((n : Nat) : Int)))) (by kernel_rfl) rfl (fun h4 => ?_) (fun h4 => ?_)
 ·rw [h4]
  have p5 : ((k : Nat) : Int) < ((n : Nat) : Int) := of_decide_eq_true h4
  refine q_skip (by kernel_rfl) ?_
  refine qs ?_
  refine q_block (id := 1) (by kernel_rfl) ?_
  refine qg ?_
  refine og 2 [(0, (Value.slice (some ⟨g, 0, none⟩) n cap)), (2, (i64 ((k : Nat) : Int))), (6, (Value.bool true)), (9, (Value.slice (some ⟨g, 0, none⟩) n cap)), (10, (i64 ((k : Nat) : Int)))] 2 ?_
  refine Ops.go (by kernel_rfl) (Runs.ixSlice (k := IntKind.i64) (t := 22) (b := g) (off := 0) (len := n) (cap := cap) (s := 1) (off' := k) (i := ((k : Nat) : Int)) (by kernel_rfl) (by kernel_rfl) (by omega) (by omega) (by omega)) (d := (some 11)) (by kernel_rfl) rfl ?_
  refine Ops.put (t := 5) (b := g) (off := k) (v := (Value.int IntKind.u8 90)) (ys := (cs.set k (Value.int IntKind.u8 90))) (by kernel_rfl) (by kernel_rfl) H3 (storeC1 (by kernel_rfl) rfl (by rw [hcs]; omega) rfl) (d := none) (by kernel_rfl) rfl (fun w6 H7 K8 => ?_)
  clear H3
  replace K2 := K2.trans K8 (U := (fun i => i = g)) (fun i h1 h2 => h2) (fun i h1 h2 => by have h2 : i = g := h2; show i = g; omega)
  clear K8
  refine od ?_
  refine qg ?_
  refine og 2 [(0, (Value.slice (some ⟨g, 0, none⟩) n cap)), (2, (i64 ((k : Nat) : Int))), (6, (Value.bool true)), (8, (i64 (IntKind.i64.wrap (((k : Nat) : Int) + 1))))] 2 ?_
  have e9 : IntKind.i64.wrap (((k : Nat) : Int) + 1) = ((k + 1 : Nat) : Int) := by rw [wrap_i64 (by omega) (by omega)]; omega
  rw [e9]
  clear e9
  refine og 1 [(0, (Value.slice (some ⟨g, 0, none⟩) n cap)), (2, (i64 ((k + 1 : Nat) : Int))), (6, (Value.bool true))] 3 ?_
  refine Ops.keep (R := [(0, (Value.slice (some ⟨g, 0, none⟩) n cap)), (2, (i64 ((k + 1 : Nat) : Int)))]) (by kernel_rfl) ?_
  refine od ?_
  exact ⟨(k + 1, cs.set k (Value.int IntKind.u8 90)), ⟨rfl, (show (cs.set k (Value.int IntKind.u8 90)).length = cap from by simp [hcs]), (by omega), K2, H7⟩, (show n - (k + 1) < n - k from by omega)⟩
 ·rw [h4]
  have p10 : ¬ (((k : Nat) : Int) < ((n : Nat) : Int)) := of_decide_eq_false h4
  refine q_exit (id := 0) (by kernel_rfl) ?_
  refine qs ?_
  refine qg ?_
  refine og 1 [(0, (Value.slice (some ⟨g, 0, none⟩) n cap)), (12, (Value.slice (some ⟨g, 0, none⟩) n cap))] 1 ?_
  refine Ops.new (o := rowL [(Value.int IntKind.u8 91)] 5) (V := fun b => (Value.slice (some ⟨b, 0, none⟩) 1 1)) (by kernel_rfl) (d := (some 13)) (by kernel_rfl) (fun b => rfl) (fun b11 w12 hb13 H14 K15 hs16 => ?_)
  have lb11 : g < b11 := by have := H3.lt; omega
  have nb11 : w.heap.size ≤ b11 := by have := K2.size; omega
  replace K2 := K2.trans K15 (U := (fun i => i = g)) (fun i h1 h2 => h2) (fun i h1 h2 => by exact h2.elim)
  replace H3 := H3.keep K15 (fun h => h)
  clear K15 hs16
  obtain ⟨g17, cap18, rest19, w20, hr21, H22, fl23, fn24, fm25, K26, hg27⟩ := app_any (ty := 22) tyB H3 hcs (n := n) (by omega) (by omega) (Rd.lit H14 (n := 1) rfl (by decide)) (m := 1) rfl (by omega) rfl (by omega) (by simp only [maxLen] at *; omega)
  have H28 : Has w20 g17 (rowL rest19 5) := H22
  clear H22
  have dg17b11 : g17 ≠ b11 := by have := H14.lt; rcases hg27 with h | h <;> omega
  have ng17 : g17 = g ∨ w.heap.size ≤ g17 := by have := K2.size; rcases hg27 with h | h <;> omega
  refine Ops.go (v := (Value.slice (some ⟨g17, 0, none⟩) (n + 1) cap18)) (by kernel_rfl) (Runs.append (ts := #[22, 22]) (ty := 22) (vs := [(Value.slice (some ⟨g, 0, none⟩) n cap), (Value.slice (some ⟨b11, 0, none⟩) 1 1)]) (by kernel_rfl) hr21) (d := (some 14)) (by kernel_rfl) rfl ?_
  clear H3
  replace K2 := K2.trans K26 (U := (fun i => i = g)) (fun i h1 h2 => h2) (fun i h1 h2 => by have h2 : i = g := h2; show i = g; omega)
  replace H14 := H14.keep K26 (by intro h; change b11 = g at h; omega)
  clear K26 hr21 hg27
  refine og 1 [(0, (Value.slice (some ⟨g17, 0, none⟩) (n + 1) cap18))] 4 ?_
  refine od ?_
  clear H14
  refine qg ?_
  refine og 4 [(15, (Value.slice (some ⟨g17, 0, none⟩) (n + 1) cap18)), (18, (i64 (IntKind.i64.wrap (((n + 1 : Nat) : Int) - 1))))] 4 ?_
  have e29 : IntKind.i64.wrap (((n + 1 : Nat) : Int) - 1) = ((n + 1 : Nat) : Int) - 1 := wrap_i64 (by omega) (by omega)
  rw [e29]
  refine Ops.go (by kernel_rfl) (Runs.ixSlice (k := IntKind.i64) (t := 22) (b := g17) (off := 0) (len := (n + 1)) (cap := cap18) (s := 1) (off' := ((((n + 1 : Nat) : Int) - 1).toNat)) (i := ((n + 1 : Nat) : Int) - 1) (by kernel_rfl) (by kernel_rfl) (by omega) (by omega) (by omega)) (d := (some 19)) (by kernel_rfl) rfl ?_
  refine Ops.put (t := 5) (b := g17) (off := ((((n + 1 : Nat) : Int) - 1).toNat)) (v := (Value.int IntKind.u8 92)) (ys := (rest19.set ((((n + 1 : Nat) : Int) - 1).toNat) (Value.int IntKind.u8 92))) (by kernel_rfl) (by kernel_rfl) H28 (storeC1 (by kernel_rfl) rfl (by rw [fl23]; omega) rfl) (d := none) (by kernel_rfl) rfl (fun w30 H31 K32 => ?_)
  clear H28
  replace K2 := K2.trans K32 (U := (fun i => i = g)) (fun i h1 h2 => h2) (fun i h1 h2 => by have h2 : i = g17 := h2; show i = g; omega)
  clear K32
  refine od ?_
  refine ⟨(Value.tuple #[]), retv_none rfl, ?_⟩
  exact ⟨rfl, K2⟩

theorem Spoil_nil (w : World)   : Calls Tryz.prog 9 ⟨[(Value.slice none 0 0)]⟩ w (fun e w' => e = .returned (.tuple #[]) ∧ Keeps none_ w w') := by
 have K0 : Keeps none_ w w := Keeps.refl w
 refine q_calls Tryz.func9 (by kernel_rfl) (by kernel_rfl) ?_
 refine qs ?_
 refine qs ?_
 refine qg ?_
 refine og 1 [(0, (Value.slice none 0 0)), (2, (i64 0))] 1 ?_
 refine od ?_
 refine q_block (id := 0) (by kernel_rfl) ?_
 refine q_keep (R := [(0, (Value.slice none 0 0)), (2, (i64 0))]) (by kernel_rfl) ?_
 refine q_loop (fun (k : Nat) L (wx : World) => L = [(0, (Value.slice none 0 0)), (2, (i64 ((k : Nat) : Int)))] ∧ k = 0 ∧ Keeps none_ w wx) (fun (k : Nat) => 0 - k) 0 (by kernel_rfl) ⟨rfl, rfl, K0⟩ ?_
 clear K0
 rintro k _ w1 ⟨rfl, hk, K2⟩
 refine qs ?_
 refine qs ?_
 refine qg ?_
 refine og 4 [(0, (Value.slice none 0 0)), (2, (i64 ((k : Nat) : Int))), (6, (Value.bool (decide (((k : Nat) : Int) < 0))))] 4 ?_
 refine od ?_
 have h3 : (decide (((k : Nat) : Int) < 0)) = false := decide_eq_false (by omega)
 rw [h3]
 refine q_else (o := .tmp 6) (by kernel_rfl) rfl ?_
 refine q_exit (id := 0) (by kernel_rfl) ?_
 refine qs ?_
 refine qg ?_
 refine og 1 [(0, (Value.slice none 0 0)), (12, (Value.slice none 0 0))] 1 ?_
 refine Ops.new (o := rowL [(Value.int IntKind.u8 91)] 5) (V := fun b => (Value.slice (some ⟨b, 0, none⟩) 1 1)) (by kernel_rfl) (d := (some 13)) (by kernel_rfl) (fun b => rfl) (fun b4 w5 hb6 H7 K8 hs9 => ?_)
 have nb4 : w.heap.size ≤ b4 := by have := K2.size; omega
 replace K2 := K2.trans K8 (U := none_) (fun i h1 h2 => h2) (fun i h1 h2 => by exact h2)
 clear K8 hs9
 obtain ⟨g10, cap11, rest12, w13, hr14, H15, fl16, fn17, fm18, K19, hg20⟩ := app_row0 (ty := 22) tyB (Rd.lit H7 (n := 1) rfl (by decide)) (m := 1) rfl (by omega) (by omega) (by decide)
 have H21 : Has w13 g10 (rowL ([(Value.int IntKind.u8 91)] ++ rest12) 5) := H15
 clear H15
 have dg10b4 : g10 ≠ b4 := by have := H7.lt; omega
 have ng10 : w.heap.size ≤ g10 := by have := K2.size; omega
 refine Ops.go (v := (Value.slice (some ⟨g10, 0, none⟩) 1 cap11)) (by kernel_rfl) (Runs.append (ts := #[22, 22]) (ty := 22) (vs := [(Value.slice none 0 0), (Value.slice (some ⟨b4, 0, none⟩) 1 1)]) (by kernel_rfl) hr14) (d := (some 14)) (by kernel_rfl) rfl ?_
 replace K2 := K2.trans K19 (U := none_) (fun i h1 h2 => h2) (fun i h1 h2 => by exact h2)
 replace H7 := H7.keep K19 (fun h => h)
 clear K19 hr14 hg20
 refine og 1 [(0, (Value.slice (some ⟨g10, 0, none⟩) 1 cap11))] 4 ?_
 refine od ?_
 refine qg ?_
 refine og 5 [(19, (ptr g10))] 5 ?_
 refine Ops.put (t := 5) (b := g10) (off := 0) (v := (Value.int IntKind.u8 92)) (ys := ([(Value.int IntKind.u8 92)] ++ rest12)) (by kernel_rfl) (by kernel_rfl) H21 (by kernel_rfl) (d := none) (by kernel_rfl) rfl (fun w22 H23 K24 => ?_)
 clear H21
 replace K2 := K2.trans K24 (U := none_) (fun i h1 h2 => h2) (fun i h1 h2 => by have h2 : i = g10 := h2; exfalso; omega)
 replace H7 := H7.keep K24 (by intro h; change b4 = g10 at h; omega)
 clear K24
 refine od ?_
 refine ⟨(Value.tuple #[]), retv_none rfl, ?_⟩
 exact ⟨rfl, K2⟩

theorem Spoil_calls (w : World) (v : Value) (xs : List UInt8) (base : Nat) (hO : OwnB w base 5 v xs) (hn : xs.length ≤ 140737488351232) : Calls Tryz.prog 9 ⟨[v]⟩ w (fun e w' => e = .returned (.tuple #[]) ∧ Keeps (fun i => v.ownBlock = some i) w w') := by
 rcases own_cases hO with rfl | ⟨g, cap, cs, rfl, hb, H, h1, h2, h3⟩
 ·exact (Spoil_nil w).mono fun e w' ⟨he, hk⟩ => ⟨he, hk.mono fun _ _ h => h.elim⟩
 ·exact (Spoil_row w g _ cap cs H h3 h1 h2 hn).mono fun e w' ⟨he, hk⟩ => ⟨he, hk.mono fun i hi hg => by have hg : i = g := hg; subst hg; rfl⟩

theorem Lent_calls (w : World) (B : Option Addr) (bc : Nat) (bs : List UInt8) (hB : RdB w (.slice B bs.length bc) bs) (hbl : bs.length ≤ 140737488351232) : Calls Tryz.prog 5 ⟨[(Value.slice B bs.length bc)]⟩ w (fun e w' => ∃ A c, e = .returned (.slice A bs.length c) ∧ Keeps none_ w w' ∧ OwnB w' w.heap.size 5 (.slice A (bs ++ [byte 167]).length c) (bs ++ [byte 167])) := by
 have hnil : OwnB w w.heap.size 5 (.slice none 0 0) [] := World.ownsRow_nil _ _ _ _
 have K0 : Keeps none_ w w := Keeps.refl w
 refine q_calls Tryz.func5 (by kernel_rfl) (by kernel_rfl) ?_
 refine qs ?_
 refine qg ?_
 refine og 1 [(0, (Value.slice B bs.length bc)), (2, (Value.slice none 0 0))] 1 ?_
 refine od ?_
 refine qs ?_
 refine qg ?_
 refine og 1 [(0, (Value.slice B bs.length bc)), (2, (Value.slice none 0 0)), (3, (Value.slice none 0 0))] 1 ?_
 refine od ?_
 refine qs ?_
 refine qg ?_
 refine og 2 [(0, (Value.slice B bs.length bc)), (2, (Value.slice none 0 0)), (3, (Value.slice none 0 0)), (4, (Value.slice none 0 0)), (5, (Value.slice B bs.length bc))] 2 ?_
 obtain ⟨v1, w2, hr3, hO4, K5⟩ := OwnB.app (ty := 22) tyB hnil (hB.keep0 (by omega) K0) (by (try simp only at *); (try simp only [List.length_append] at *); (try simp only [List.length_cons] at *); (try simp only [List.length_nil] at *); omega) K0.size
 refine Ops.go (v := v1) (by kernel_rfl) (Runs.append (ts := #[22, 22]) (ty := 22) (vs := [(Value.slice none 0 0), (Value.slice B bs.length bc)]) (by kernel_rfl) hr3) (d := (some 6)) (by kernel_rfl) rfl ?_
 have K6 := Keeps.own2 K0 K5
 clear hnil K0 hr3 K5
 refine og 1 [(0, (Value.slice B bs.length bc)), (2, (Value.slice none 0 0)), (3, v1)] 4 ?_
 refine od ?_
 refine qs ?_
 refine qg ?_
 refine og 1 [(0, (Value.slice B bs.length bc)), (2, (Value.slice none 0 0)), (3, v1), (7, v1)] 1 ?_
 refine Ops.new (o := rowL [(Value.int IntKind.u8 167)] 5) (V := fun b => (Value.slice (some ⟨b, 0, none⟩) 1 1)) (by kernel_rfl) (d := (some 8)) (by kernel_rfl) (fun b => rfl) (fun b7 w8 hb9 H10 K11 hs12 => ?_)
 have nb7 : w.heap.size ≤ b7 := by have := K6.size; omega
 have ob13 : ∀ i, (v1).ownBlock = some i → i < b7 := fun i hi => by have := (World.ownsRow.lt hO4 i hi).2; omega
 replace K6 := K6.trans K11 (U := none_) (fun i h1 h2 => h2) (fun i h1 h2 => by exact h2)
 replace hO4 := own_keep0 hO4 K11
 clear K11 hs12
 obtain ⟨v14, w15, hr16, hO17, K18⟩ := OwnB.app (ty := 22) tyB hO4 (lit1 (m := 167) (by decide) H10) (by (try simp only at *); (try simp only [List.length_append] at *); (try simp only [List.length_cons] at *); (try simp only [List.length_nil] at *); omega) K6.size
 refine Ops.go (v := v14) (by kernel_rfl) (Runs.append (ts := #[22, 22]) (ty := 22) (vs := [v1, (Value.slice (some ⟨b7, 0, none⟩) 1 1)]) (by kernel_rfl) hr16) (d := (some 9)) (by kernel_rfl) rfl ?_
 have K19 := Keeps.own2 K6 K18
 clear H10 hO4 K6 hr16 K18
 refine og 1 [(0, (Value.slice B bs.length bc)), (2, (Value.slice none 0 0)), (3, v14)] 4 ?_
 refine od ?_
 refine qs ?_
 refine qg ?_
 refine og 3 [(2, (Value.slice none 0 0)), (10, v14), (12, (i64 ((bs.length : Nat) : Int)))] 3 ?_
 have hE : [] ++ bs ++ [byte 167] = bs ++ [byte 167] := by simp
 rw [hE] at hO17
 obtain ⟨A20, c21, hf⟩ := RdB.form (OwnB.rd hO17)
 subst hf
 have hsl := (OwnB.rd hO17).slice
 rw [List.length_append] at hsl
 simp only [List.length_cons, List.length_nil] at hsl
 have hcut := run_cut (sz := 1) (P := Tryz.prog) (w := w15) (t := 22) (A := A20) (n := (bs ++ [byte 167]).length) (c := c21) 0 bs.length c21 (lo := none) (hi := some (i64 ((bs.length : Nat) : Int))) (mx := none) tyB.slice (by kernel_rfl) (.inl ⟨rfl, rfl⟩) (.inr ⟨_, rfl⟩) (.inl ⟨rfl, rfl⟩) (by omega) (by omega) (by omega)
 have hA0 : (if c21 = 0 then A20 else Option.map (fun q => Addr.add q (0 * 1)) A20) = A20 := by cases A20 <;> simp [Addr.add]
 rw [hA0, Nat.sub_zero, Nat.sub_zero] at hcut
 refine Ops.go (v := (Value.slice A20 bs.length c21)) (by kernel_rfl) (Runs.slice (by kernel_rfl) hcut) (d := (some 13)) (by kernel_rfl) rfl ?_
 clear hcut hA0
 refine og 1 [(2, (Value.slice A20 bs.length c21))] 5 ?_
 refine od ?_
 refine q_ret (by kernel_rfl) ?_
 refine ⟨(Value.slice A20 bs.length c21), retv_tmp rfl rfl, ?_⟩
 exact ⟨_, _, rfl, K19, hO17⟩
end Go.Proofs.YtooginpgclcldaaGreatDoor
