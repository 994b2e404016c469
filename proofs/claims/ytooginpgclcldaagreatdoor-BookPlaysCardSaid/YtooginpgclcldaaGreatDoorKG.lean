/- books: a slot is dropped -/
import Derived.Test.YtooginpgclcldaaGreatDoorProg
import Derived.Test.YtooginpgclcldaaGreatDoorKF
import Derived.Test.YtooginpgclcldaaGreatDoorLX
set_option linter.unusedVariables false
namespace Go.Proofs.YtooginpgclcldaaGreatDoor
open Go.Q Go.RowKit

theorem Drop_calls (w : World) (b mb : Nat) (m : List (List UInt8 × AccV)) (S : List AccM) (k : Int) (Hb : Has w b (rowL [.map (some mb)] 66)) (Hm : HasMap w mb kstr accv m) (hne : b ≠ mb) (hB : Book m S) : Calls Tryz.prog 54 ⟨[(ptr b), (i64 k)]⟩ w (fun e w' => ∃ m', e = .returned (i64 ((dropN S k : Nat) : Int)) ∧ Keeps (fun i => i = mb) w w' ∧ HasMap w' mb kstr accv m' ∧ Book m' (dropS S k)) := by
 have Hbl := Hb.lt
 have Hml := Hm.lt
 have hlen := hB.len
 have K0 : Keeps (fun i => i = mb) w w := (Keeps.refl w).mono (fun _ _ h => h.elim)
 refine q_calls Tryz.func54 (by kernel_rfl) (by kernel_rfl) ?_
 refine qs ?_
 refine qg ?_
 refine og 1 [(0, (ptr b)), (1, (i64 k)), (4, (i64 0))] 1 ?_
 refine od ?_
 refine qs ?_
 refine qs ?_
 refine qg ?_
 refine og 6 [(0, (ptr b)), (1, (i64 k)), (4, (i64 0)), (13, (Value.bool (decide (k < 0))))] 6 ?_
 refine od ?_
 refine q_cond (o := .tmp 13) (b := (decide (k < 0))) (by kernel_rfl) rfl (fun h1 => ?_) (fun h1 => ?_)
 ·rw [h1]
  have p2 : k < 0 := of_decide_eq_true h1
  refine qs ?_
  refine qg ?_
  refine og 1 [(0, (ptr b)), (1, (i64 k)), (4, (i64 0))] 1 ?_
  refine od ?_
  refine q_ret (by kernel_rfl) ?_
  refine ⟨(i64 0), retv_tmp rfl rfl, ?_⟩
  exact ⟨m, by unfold dropN; rw [if_pos (by omega)]; rfl, K0, Hm, by unfold dropS; rw [if_pos (by omega)]; exact hB⟩
 ·rw [h1]
  have p3 : ¬ (k < 0) := of_decide_eq_false h1
  refine q_skip (by kernel_rfl) ?_
  refine qs ?_
  refine qg ?_
  refine og 2 [(0, (ptr b)), (4, (i64 0)), (14, (ptr b)), (15, (i64 k))] 2 ?_
  refine Ops.call (by kernel_rfl) (d := (some 16)) (by kernel_rfl) (Rows_calls _ b mb m S k Hb Hm (by omega) hB) ?_
  rintro _ w6 ⟨A4, c5, rfl, K7, hO8⟩
  have ob10 : ∀ i, ((Value.slice A4 ((rowsS S k).length) c5)).ownBlock = some i → i ≠ b := fun i hi => by have := (World.ownsRow.lt hO8 i hi).1; have := Hb.lt; omega
  have ob11 : ∀ i, ((Value.slice A4 ((rowsS S k).length) c5)).ownBlock = some i → i ≠ mb := fun i hi => by have := (World.ownsRow.lt hO8 i hi).1; have := Hm.lt; omega
  have O9 := own_base hO8 K0.size
  clear hO8
  have hl12 := rowsS_len S k
  have hl13 := hB.accs.len
  refine ⟨_, _, rfl, rfl, ?_⟩
  replace K0 := K0.trans K7 (U := (fun i => i = mb)) (fun i h1 h2 => h2) (fun i h1 h2 => by exact h2.elim)
  replace Hb := Hb.keep K7 (fun h => h)
  replace Hm := Hm.keep K7 (fun h => h)
  clear K7
  refine og 1 [(0, (ptr b)), (4, (i64 0)), (5, (Value.slice A4 ((rowsS S k).length) c5))] 4 ?_
  refine od ?_
  refine qs ?_
  refine qs ?_
  refine qg ?_
  refine og 3 [(0, (ptr b)), (4, (i64 0)), (5, (Value.slice A4 ((rowsS S k).length) c5)), (17, (Value.slice A4 ((rowsS S k).length) c5)), (18, (i64 (((rowsS S k).length : Nat) : Int))), (19, (i64 0))] 3 ?_
  refine od ?_
  refine q_block (id := 0) (by kernel_rfl) ?_
  refine q_keep (R := [(0, (ptr b)), (4, (i64 0)), (5, (Value.slice A4 ((rowsS S k).length) c5)), (17, (Value.slice A4 ((rowsS S k).length) c5)), (18, (i64 (((rowsS S k).length : Nat) : Int))), (19, (i64 0))]) (by kernel_rfl) ?_
  refine q_loop (fun (gs : Nat × (List (List UInt8 × AccV))) L (wx : World) => match gs with | (i, mm) => L = [(0, (ptr b)), (4, (i64 0)), (5, (Value.slice A4 ((rowsS S k).length) c5)), (17, (Value.slice A4 ((rowsS S k).length) c5)), (18, (i64 (((rowsS S k).length : Nat) : Int))), (19, (i64 ((i : Nat) : Int)))] ∧ OwnR wx w.heap.size 52 (Value.slice A4 ((rowsS S k).length) c5) (rowsS S k) ∧ (∀ i, ((Value.slice A4 ((rowsS S k).length) c5)).ownBlock = some i → i ≠ b) ∧ (∀ i, ((Value.slice A4 ((rowsS S k).length) c5)).ownBlock = some i → i ≠ mb) ∧ i ≤ (rowsS S k).length ∧ Book mm (dropL S ((rowsS S k).take i)) ∧ Keeps (fun i => i = mb) w wx ∧ Has wx b (rowL [(Value.map (some mb))] 66) ∧ HasMap wx mb kstr accv mm) (fun (gs : Nat × (List (List UInt8 × AccV))) => match gs with | (i, mm) => (rowsS S k).length - i) (0, m) (by kernel_rfl) ⟨rfl, O9, ob10, ob11, Nat.zero_le _, hB, K0, Hb, Hm⟩ ?_
  clear Hb Hm O9 K0
  rintro ⟨i, mm⟩ _ w14 ⟨rfl, hON, obNb, obNmb, hi, hBm, K15, H16, H17⟩
  refine qs ?_
  refine qg ?_
  refine og 1 [(0, (ptr b)), (4, (i64 0)), (5, (Value.slice A4 ((rowsS S k).length) c5)), (17, (Value.slice A4 ((rowsS S k).length) c5)), (18, (i64 (((rowsS S k).length : Nat) : Int))), (19, (i64 ((i : Nat) : Int))), (20, (Value.bool (decide (((i : Nat) : Int) < (((rowsS S k).length : Nat) : Int)))))] 1 ?_
  refine od ?_
  refine qs ?_
  refine q_cond (o := .tmp 20) (b := (decide (((i : Nat) : Int) < (((rowsS S k).length : Nat) : Int)))) (by kernel_rfl) rfl (fun h18 => ?_) (fun h18 => ?_)
  ·rw [h18]
   have p19 : ((i : Nat) : Int) < (((rowsS S k).length : Nat) : Int) := of_decide_eq_true h18
   obtain ⟨r, hr⟩ : ∃ y, (rowsS S k)[i]? = some y := ⟨_, List.getElem?_eq_getElem (by omega)⟩
   have hdt := dropL_take (S := S) hr
   have hdel := hBm.del r.name
   obtain ⟨rb20, ro21, hA22⟩ := Rd.addr (OwnT.rd hON) (by omega)
   refine q_skip (by kernel_rfl) ?_
   refine qs ?_
   refine q_block (id := 1) (by kernel_rfl) ?_
   refine qs ?_
   refine qg ?_
   refine Ops.go (by kernel_rfl) (Runs.ixSliceE (k := IntKind.i64) (t := 75) (len := ((rowsS S k).length)) (cap := c5) (s := 2) (off' := ro21 + i * 2) (i := ((i : Nat) : Int)) hA22 (by kernel_rfl) (by kernel_rfl) (by omega) (by omega) (by omega)) (d := (some 21)) (by kernel_rfl) rfl ?_
   refine Ops.go (v := (agg [(Value.string (str r.name)), (i64 r.amount)])) (by kernel_rfl) (Runs.load (t := 52) (a := ⟨rb20, ro21 + i * 2, none⟩) (by kernel_rfl) (RdT.ld (f := RowM.cells) (x := r) RowM.two (OwnT.rd hON) (by kernel_rfl) (by kernel_rfl) hA22 hr)) (d := (some 22)) (by kernel_rfl) rfl ?_
   refine Ops.new (o := rowL [(Value.string ByteArray.empty), (i64 0)] 52) (V := fun b => (ptr b)) (by kernel_rfl) (d := (some 7)) (by kernel_rfl) (fun b => rfl) (fun b23 w24 hb25 H26 K27 hs28 => ?_)
   have lb23b : b < b23 := by have := H16.lt; omega
   have lb23mb : mb < b23 := by have := H17.lt; omega
   have nb23 : w.heap.size ≤ b23 := by have := K15.size; omega
   have ob29 : ∀ i, ((Value.slice A4 ((rowsS S k).length) c5)).ownBlock = some i → i < b23 := fun i hi => by have := (World.ownsRow.lt hON i hi).2; omega
   replace K15 := K15.trans K27 (U := (fun i => i = mb)) (fun i h1 h2 => h2) (fun i h1 h2 => by exact h2.elim)
   replace H16 := H16.keep K27 (fun h => h)
   replace H17 := H17.keep K27 (fun h => h)
   replace hON := own_keep0 hON K27
   clear K27 hs28
   refine Ops.put (t := 52) (b := b23) (off := 0) (v := (agg [(Value.string (str r.name)), (i64 r.amount)])) (ys := [(Value.string (str r.name)), (i64 r.amount)]) (by kernel_rfl) (by kernel_rfl) H26 (by kernel_rfl) (d := none) (by kernel_rfl) rfl (fun w30 H31 K32 => ?_)
   clear H26
   replace K15 := K15.trans K32 (U := (fun i => i = mb)) (fun i h1 h2 => h2) (fun i h1 h2 => by have h2 : i = b23 := h2; show i = mb; omega)
   replace H16 := H16.keep K32 (by intro h; change b = b23 at h; omega)
   replace H17 := H17.keep K32 (by intro h; change mb = b23 at h; omega)
   replace hON := own_keep hON K32 (fun i hi hs => by have hs : i = b23 := hs; have := ob29 i hi; omega)
   clear K32
   refine od ?_
   refine q_draw (fun wz => Keeps (fun i => i = mb) w30 wz) 7 (by kernel_rfl) (by kernel_rfl) (by kernel_rfl) (fun w33 K34 _ _ => ⟨(K34.mono (fun _ _ h => h.elim)), ?_⟩)
   replace K15 := K15.trans K34 (U := (fun i => i = mb)) (fun i h1 h2 => h2) (fun i h1 h2 => by exact h2.elim)
   replace H16 := H16.keep K34 (fun h => h)
   replace H17 := H17.keep K34 (fun h => h)
   replace H31 := H31.keep K34 (fun h => h)
   replace hON := own_keep0 hON K34
   refine Dr.strong (S' := (fun wz => Keeps (fun i => i = mb) w33 wz)) ((Keeps.refl w33).mono (fun _ _ h => h.elim)) (fun wz hx => K34.trans hx (fun i _ h => h.elim) (fun _ _ h => h)) ?_
   clear K34
   refine Dr.takes (fuel' := 4) (is' := [2, 1, 0]) [0, 1, 2] [(0, (ptr b)), (4, (i64 0)), (5, (Value.slice A4 ((rowsS S k).length) c5)), (7, (ptr b23)), (17, (Value.slice A4 ((rowsS S k).length) c5)), (18, (i64 (((rowsS S k).length : Nat) : Int))), (19, (i64 ((i : Nat) : Int))), (20, (Value.bool true)), (25, (ptr b))] (by kernel_rfl) rfl (by kernel_rfl) ?_
   refine Dr.take (i := 3) (v := (Value.map (some mb))) (by kernel_rfl) (by kernel_rfl) (fun wz hS => Runs.load (t := 64) (a := ⟨b, 0, none⟩) (by kernel_rfl) ((H16.keep hS (by intro h; change b = mb at h; omega)).loads (by kernel_rfl))) (d := (some 26)) (by kernel_rfl) rfl ?_
   refine Dr.takes (fuel' := 2) (is' := [4, 3, 2, 1, 0]) [4] [(0, (ptr b)), (4, (i64 0)), (5, (Value.slice A4 ((rowsS S k).length) c5)), (7, (ptr b23)), (17, (Value.slice A4 ((rowsS S k).length) c5)), (18, (i64 (((rowsS S k).length : Nat) : Int))), (19, (i64 ((i : Nat) : Int))), (20, (Value.bool true)), (26, (Value.map (some mb))), (27, (ptr b23))] (by kernel_rfl) rfl (by kernel_rfl) ?_
   refine Dr.take (i := 5) (v := (Value.string (str r.name))) (by kernel_rfl) (by kernel_rfl) (fun wz hS => Runs.load (t := 9) (a := ⟨b23, 0, none⟩) (by kernel_rfl) ((H31.keep hS (by intro h; change b23 = mb at h; omega)).loads (by kernel_rfl))) (d := (some 28)) (by kernel_rfl) rfl ?_
   obtain ⟨w35, hr36, K37, H38⟩ := HasMap.delete (ts := #[64, 9]) (t0 := 64) KT rfl Tryz.underlying64 H17 r.name 0
   refine Dr.go (i := 6) (v := (Value.tuple #[])) (by kernel_rfl) (by kernel_rfl) (Runs.of_delete (by kernel_rfl) hr36) (d := none) (by kernel_rfl) rfl K37 ?_
   clear H17
   replace K15 := K15.trans K37 (U := (fun i => i = mb)) (fun i h1 h2 => h2) (fun i h1 h2 => by have h2 : i = mb := h2; show i = mb; omega)
   replace H16 := H16.keep K37 (by intro h; change b = mb at h; omega)
   replace H31 := H31.keep K37 (by intro h; change b23 = mb at h; omega)
   replace hON := own_keep hON K37 (fun i hi hs => by have hs : i = mb := hs; have := obNmb i hi; omega)
   refine Dr.strong (S' := (fun wz => Keeps (fun i => i = mb) w35 wz)) ((Keeps.refl w35).mono (fun _ _ h => h.elim)) (fun wz hx => K37.trans hx (fun i _ h => by have h : i = mb := h; show i = mb; omega) (fun _ _ h => h)) ?_
   clear K37 hr36
   refine Dr.done (by kernel_rfl) ?_
   refine qg ?_
   refine og 1 [(0, (ptr b)), (4, (i64 0)), (5, (Value.slice A4 ((rowsS S k).length) c5)), (7, (ptr b23)), (17, (Value.slice A4 ((rowsS S k).length) c5)), (18, (i64 (((rowsS S k).length : Nat) : Int))), (19, (i64 ((i : Nat) : Int))), (20, (Value.bool true)), (29, (i64 (IntKind.i64.wrap (((i : Nat) : Int) + 1))))] 1 ?_
   have e39 : IntKind.i64.wrap (((i : Nat) : Int) + 1) = ((i + 1 : Nat) : Int) := by rw [wrap_i64 (by omega) (by omega)]; omega
   rw [e39]
   clear e39
   refine og 1 [(0, (ptr b)), (4, (i64 0)), (5, (Value.slice A4 ((rowsS S k).length) c5)), (7, (ptr b23)), (17, (Value.slice A4 ((rowsS S k).length) c5)), (18, (i64 (((rowsS S k).length : Nat) : Int))), (19, (i64 ((i + 1 : Nat) : Int))), (20, (Value.bool true))] 2 ?_
   refine Ops.keep (R := [(0, (ptr b)), (4, (i64 0)), (5, (Value.slice A4 ((rowsS S k).length) c5)), (17, (Value.slice A4 ((rowsS S k).length) c5)), (18, (i64 (((rowsS S k).length : Nat) : Int))), (19, (i64 ((i + 1 : Nat) : Int)))]) (by kernel_rfl) ?_
   refine od ?_
   exact ⟨(i + 1, delM mm r.name), ⟨rfl, hON, obNb, obNmb, (by omega), (by rw [hdt]; exact hdel), K15, H16, H38⟩, (show (rowsS S k).length - (i + 1) < (rowsS S k).length - i from by omega)⟩
  ·rw [h18]
   have p40 : ¬ (((i : Nat) : Int) < (((rowsS S k).length : Nat) : Int)) := of_decide_eq_false h18
   refine q_exit (id := 0) (by kernel_rfl) ?_
   refine qs ?_
   refine qg ?_
   refine og 3 [(4, (i64 (((rowsS S k).length : Nat) : Int)))] 3 ?_
   refine od ?_
   refine q_ret (by kernel_rfl) ?_
   refine ⟨(i64 (((rowsS S k).length : Nat) : Int)), retv_tmp rfl rfl, ?_⟩
   have e : dropL S ((rowsS S k).take i) = dropS S k := by rw [List.take_of_length_le (by omega)]; exact dropL_rows hB.accs (by omega)
   exact ⟨_, by unfold dropN; rw [if_neg (by omega)], K15, H17, by rw [← e]; exact hBm⟩
end Go.Proofs.YtooginpgclcldaaGreatDoor
