/- one call of both books -/
import Derived.Test.YtooginpgclcldaaGreatDoorProg
import Derived.Test.YtooginpgclcldaaGreatDoorRB
import Derived.Test.YtooginpgclcldaaGreatDoorRD
import Derived.Test.YtooginpgclcldaaGreatDoorRE
import Derived.Test.YtooginpgclcldaaGreatDoorKC
import Derived.Test.YtooginpgclcldaaGreatDoorKG
import Derived.Test.YtooginpgclcldaaGreatDoorOF
import Derived.Test.YtooginpgclcldaaGreatDoorOL
import Derived.Test.YtooginpgclcldaaGreatDoorLX
set_option linter.unusedVariables false
namespace Go.Proofs.YtooginpgclcldaaGreatDoor
open Go.Q Go.RowKit

set_option maxHeartbeats 4000000 in
theorem step_calls (w : World) (b mb base r : Nat) (m : List (List UInt8 × AccV)) (A : Option Addr) (c : Nat) (S : List AccM) (o : BopM) (Hb : Has w b (rowL [.map (some mb)] 66)) (Hm : HasMap w mb kstr accv m) (hne0 : b ≠ mb) (hB : Book m S) (Hr : Has w r (rowL [.slice A S.length c] 43)) (hO : OwnT w base 97 3 AccM.cells (.slice A S.length c) S) (hor : ∀ i, (Value.slice A S.length c).ownBlock = some i → i ≠ r) (hob : ∀ i, (Value.slice A S.length c).ownBlock = some i → i ≠ b) (hom : ∀ i, (Value.slice A S.length c).ownBlock = some i → i ≠ mb) (hbr : b ≠ r) (hmr : mb ≠ r) (hbw : base ≤ w.heap.size) (ho : o.Ok) : Calls Tryz.prog 15 ⟨[(ptr b), (ptr r), (agg [(i64 o.kind), (Value.string (str o.name)), (Value.string (str o.own)), (i64 o.n), (i64 o.slot)])]⟩ w (fun e w' => ∃ m' S' A' c', e = .returned (.bool true) ∧ Keeps (fun i => i = mb ∨ i = r ∨ (Value.slice A S.length c).ownBlock = some i) w w' ∧ HasMap w' mb kstr accv m' ∧ Book m' S' ∧ Has w' r (rowL [.slice A' S'.length c'] 43) ∧ OwnT w' base 97 3 AccM.cells (.slice A' S'.length c') S' ∧ ∀ i, (Value.slice A' S'.length c').ownBlock = some i → (Value.slice A S.length c).ownBlock = some i ∨ w.heap.size ≤ i) := by
 have hS := hB.accs
 have hlen := hB.len
 have hSl := hS.len
 have Hbl := Hb.lt
 have Hml := Hm.lt
 have Hrl := Hr.lt
 have ho1 := ho.kind
 have ho2 := ho.n
 have ho3 := ho.slot
 have hcap := RdT.len AccM.three (by decide) (OwnT.rd hO)
 unfold maxLen at hcap
 have K0 : Keeps (fun i => i = mb ∨ i = r ∨ (Value.slice A S.length c).ownBlock = some i) w w := (Keeps.refl w).mono (fun _ _ h => h.elim)
 refine q_calls Tryz.func15 (by kernel_rfl) (by kernel_rfl) ?_
 refine qs ?_
 refine qg ?_
 refine Ops.new (o := rowL [(i64 o.kind), (Value.string (str o.name)), (Value.string (str o.own)), (i64 o.n), (i64 o.slot)] 37) (V := fun b => (ptr b)) (by kernel_rfl) (d := (some 5)) (by kernel_rfl) (fun b => rfl) (fun b1 w2 hb3 H4 K5 hs6 => ?_)
 have lb1b : b < b1 := by have := Hb.lt; omega
 have lb1mb : mb < b1 := by have := Hm.lt; omega
 have lb1r : r < b1 := by have := Hr.lt; omega
 have nb1 : w.heap.size ≤ b1 := by have := K0.size; omega
 have ob7 : ∀ i, ((Value.slice A S.length c)).ownBlock = some i → i < b1 := fun i hi => by have := (World.ownsRow.lt hO i hi).2; omega
 replace K0 := K0.trans K5 (U := (fun i => i = mb ∨ i = r ∨ ((Value.slice A S.length c)).ownBlock = some i)) (fun i h1 h2 => h2) (fun i h1 h2 => by exact h2.elim)
 replace Hb := Hb.keep K5 (fun h => h)
 replace Hm := Hm.keep K5 (fun h => h)
 replace Hr := Hr.keep K5 (fun h => h)
 replace hO := own_keep0 hO K5
 clear K5 hs6
 refine og 1 [(0, (ptr b)), (1, (ptr r)), (5, (ptr b1)), (6, (Value.bool false))] 2 ?_
 refine od ?_
 refine qs ?_
 refine qs ?_
 refine qg ?_
 refine og 1 [(0, (ptr b)), (1, (ptr r)), (5, (ptr b1)), (6, (Value.bool false)), (10, (ptr b1))] 1 ?_
 refine Ops.go (v := (i64 o.kind)) (by kernel_rfl) (Runs.load (t := 3) (a := ⟨b1, 0, none⟩) (by kernel_rfl) (H4.loads (by kernel_rfl))) (d := (some 11)) (by kernel_rfl) rfl ?_
 refine od ?_
 refine q_block (id := 0) (by kernel_rfl) ?_
 refine qs ?_
 refine qs ?_
 refine qg ?_
 refine og 2 [(0, (ptr b)), (1, (ptr r)), (5, (ptr b1)), (6, (Value.bool false)), (11, (i64 o.kind)), (12, (Value.bool (o.kind == 0)))] 2 ?_
 refine od ?_
 refine q_cond (o := .tmp 12) (b := (o.kind == 0)) (by kernel_rfl) rfl (fun h8 => ?_) (fun h8 => ?_)
 ·rw [h8]
  have p9 : o.kind = 0 := of_beq_t h8
  refine q_skip (by kernel_rfl) ?_
  refine q_then (o := .tmp 12) (by kernel_rfl) rfl ?_
  refine qs ?_
  refine q_draw (fun wz => Keeps (fun i => ((Value.slice A S.length c)).ownBlock = some i ∨ i = mb ∨ i = r) w2 wz) 10 (by kernel_rfl) (by kernel_rfl) (by kernel_rfl) (fun w10 K11 _ _ => ⟨(K11.mono (fun _ _ h => h.elim)), ?_⟩)
  replace K0 := K0.trans K11 (U := (fun i => i = mb ∨ i = r ∨ ((Value.slice A S.length c)).ownBlock = some i)) (fun i h1 h2 => h2) (fun i h1 h2 => by exact h2.elim)
  replace Hb := Hb.keep K11 (fun h => h)
  replace Hm := Hm.keep K11 (fun h => h)
  replace Hr := Hr.keep K11 (fun h => h)
  replace H4 := H4.keep K11 (fun h => h)
  replace hO := own_keep0 hO K11
  refine Dr.strong (S' := (fun wz => Keeps (fun i => ((Value.slice A S.length c)).ownBlock = some i ∨ i = mb ∨ i = r) w10 wz)) ((Keeps.refl w10).mono (fun _ _ h => h.elim)) (fun wz hx => K11.trans hx (fun i _ h => h.elim) (fun _ _ h => h)) ?_
  clear K11
  refine Dr.takes (fuel' := 8) (is' := [1, 0]) [0, 1] [(0, (ptr b)), (1, (ptr r)), (5, (ptr b1)), (6, (Value.bool false)), (11, (i64 o.kind)), (15, (ptr b)), (16, (Value.pointer (some ⟨b1, 1, none⟩)))] (by kernel_rfl) rfl (by kernel_rfl) ?_
  refine Dr.take (i := 2) (v := (Value.string (str o.name))) (by kernel_rfl) (by kernel_rfl) (fun wz hS => Runs.load (t := 9) (a := ⟨b1, 1, none⟩) (by kernel_rfl) ((H4.keep hS (by intro h; change ((Value.slice A S.length c)).ownBlock = some b1 ∨ b1 = mb ∨ b1 = r at h; rcases h with h | h | h; (have := ob7 b1 h; omega); (omega); (omega))).loads (by kernel_rfl))) (d := (some 17)) (by kernel_rfl) rfl ?_
  refine Dr.takes (fuel' := 5) (is' := [5, 4, 2, 1, 0]) [4, 5] [(0, (ptr b)), (1, (ptr r)), (5, (ptr b1)), (6, (Value.bool false)), (11, (i64 o.kind)), (15, (ptr b)), (17, (Value.string (str o.name))), (19, (ptr r)), (20, (Value.pointer (some ⟨b1, 1, none⟩)))] (by kernel_rfl) rfl (by kernel_rfl) ?_
  refine Dr.take (i := 6) (v := (Value.string (str o.name))) (by kernel_rfl) (by kernel_rfl) (fun wz hS => Runs.load (t := 9) (a := ⟨b1, 1, none⟩) (by kernel_rfl) ((H4.keep hS (by intro h; change ((Value.slice A S.length c)).ownBlock = some b1 ∨ b1 = mb ∨ b1 = r at h; rcases h with h | h | h; (have := ob7 b1 h; omega); (omega); (omega))).loads (by kernel_rfl))) (d := (some 21)) (by kernel_rfl) rfl ?_
  refine Dr.call (i := 3) (by kernel_rfl) (by kernel_rfl) (d := (some 18)) (by kernel_rfl) (fun _ => Open_calls _ b mb m S o.name Hb Hm (by omega) hB) ?_
  rintro _ w13 ⟨m12, rfl, K14, H15, hB16⟩
  have hl17 := hB16.len
  replace K0 := K0.trans K14 (U := (fun i => i = mb ∨ i = r ∨ ((Value.slice A S.length c)).ownBlock = some i)) (fun i h1 h2 => h2) (fun i h1 h2 => by have h2 : i = mb := h2; exact .inl h2)
  replace Hb := Hb.keep K14 (by intro h; change b = mb at h; omega)
  replace Hr := Hr.keep K14 (by intro h; change r = mb at h; omega)
  replace H4 := H4.keep K14 (by intro h; change b1 = mb at h; omega)
  replace hO := own_keep hO K14 (fun i hi hs => by have hs : i = mb := hs; have := hom i hi; omega)
  refine ⟨_, _, rfl, rfl, (K14.mono (fun i _ h => by have h : i = mb := h; show ((Value.slice A S.length c)).ownBlock = some i ∨ i = mb ∨ i = r; exact (.inr (.inl h)))), ?_⟩
  refine Dr.strong (S' := (fun wz => Keeps (fun i => ((Value.slice A S.length c)).ownBlock = some i ∨ i = mb ∨ i = r) w13 wz)) ((Keeps.refl w13).mono (fun _ _ h => h.elim)) (fun wz hx => K14.trans hx (fun i _ h => by have h : i = mb := h; show ((Value.slice A S.length c)).ownBlock = some i ∨ i = mb ∨ i = r; exact (.inr (.inl h))) (fun _ _ h => h)) ?_
  clear K14
  refine Dr.call (i := 7) (by kernel_rfl) (by kernel_rfl) (d := (some 22)) (by kernel_rfl) (fun _ => ROpen_calls _ base r A c S o.name Hr hO hor hS (Nat.le_trans hbw K0.size)) ?_
  rintro _ w20 ⟨A18, c19, rfl, K21, H22, hO23, hg24⟩
  have ob25 : ∀ i, ((Value.slice A18 ((putS S o.name 0).length) c19)).ownBlock = some i → i ≠ b := fun i hi => by rcases hg24 i hi with h | h; (have := hob i h; omega); (have := Hb.lt; omega)
  have ob26 : ∀ i, ((Value.slice A18 ((putS S o.name 0).length) c19)).ownBlock = some i → i ≠ mb := fun i hi => by rcases hg24 i hi with h | h; (have := hom i h; omega); (have := H15.lt; omega)
  have ob27 : ∀ i, ((Value.slice A18 ((putS S o.name 0).length) c19)).ownBlock = some i → i ≠ r := fun i hi => by rcases hg24 i hi with h | h; (have := hor i h; omega); (have := Hr.lt; omega)
  have ob28 : ∀ i, ((Value.slice A18 ((putS S o.name 0).length) c19)).ownBlock = some i → i ≠ b1 := fun i hi => by rcases hg24 i hi with h | h; (have := ob7 i h; omega); (have := H4.lt; omega)
  have hgw29 : ∀ i, ((Value.slice A18 ((putS S o.name 0).length) c19)).ownBlock = some i → ((Value.slice A S.length c)).ownBlock = some i ∨ w.heap.size ≤ i := fun i hi => (hg24 i hi).elim .inl fun h => .inr (Nat.le_trans K0.size h)
  replace K0 := K0.trans K21 (U := (fun i => i = mb ∨ i = r ∨ ((Value.slice A S.length c)).ownBlock = some i)) (fun i h1 h2 => h2) (fun i h1 h2 => by have h2 : i = r ∨ ((Value.slice A S.length c)).ownBlock = some i := h2; rcases h2 with h2 | h2; (exact .inr (.inl h2)); (exact .inr (.inr (h2))))
  replace Hb := Hb.keep K21 (by intro h; change b = r ∨ ((Value.slice A S.length c)).ownBlock = some b at h; rcases h with h | h; (omega); (have := hob b h; omega))
  replace H15 := H15.keep K21 (by intro h; change mb = r ∨ ((Value.slice A S.length c)).ownBlock = some mb at h; rcases h with h | h; (omega); (have := hom mb h; omega))
  replace H4 := H4.keep K21 (by intro h; change b1 = r ∨ ((Value.slice A S.length c)).ownBlock = some b1 at h; rcases h with h | h; (omega); (have := ob7 b1 h; omega))
  clear hO
  refine ⟨_, _, rfl, rfl, (K21.mono (fun i _ h => by have h : i = r ∨ ((Value.slice A S.length c)).ownBlock = some i := h; show ((Value.slice A S.length c)).ownBlock = some i ∨ i = mb ∨ i = r; rcases h with h | h; (exact (.inr (.inr h))); (exact (.inl h)))), ?_⟩
  refine Dr.strong (S' := (fun wz => Keeps (fun i => ((Value.slice A S.length c)).ownBlock = some i ∨ i = mb ∨ i = r) w20 wz)) ((Keeps.refl w20).mono (fun _ _ h => h.elim)) (fun wz hx => K21.trans hx (fun i _ h => by have h : i = r ∨ ((Value.slice A S.length c)).ownBlock = some i := h; show ((Value.slice A S.length c)).ownBlock = some i ∨ i = mb ∨ i = r; rcases h with h | h; (exact (.inr (.inr h))); (exact (.inl h))) (fun _ _ h => h)) ?_
  clear K21
  refine Dr.takes (fuel' := 0) (is' := [9, 8, 7, 3, 6, 5, 4, 2, 1, 0]) [8, 9] [(0, (ptr b)), (1, (ptr r)), (5, (ptr b1)), (6, (Value.bool ((putE S o.name 0) == (putE S o.name 0)))), (11, (i64 o.kind))] (by kernel_rfl) rfl (by kernel_rfl) ?_
  refine Dr.done (by kernel_rfl) ?_
  refine q_ret (by kernel_rfl) ?_
  refine ⟨(Value.bool ((putE S o.name 0) == (putE S o.name 0))), retv_tmp rfl rfl, ?_⟩
  exact ⟨_, _, _, _, by rw [show ((putE S o.name 0) == (putE S o.name 0)) = true from by simp], K0, H15, hB16, H22, hO23, hgw29⟩
 ·rw [h8]
  have p30 : ¬ (o.kind = 0) := of_beq_f h8
  refine qg ?_
  refine og 2 [(0, (ptr b)), (1, (ptr r)), (5, (ptr b1)), (6, (Value.bool false)), (11, (i64 o.kind)), (12, (Value.bool (o.kind == 1)))] 2 ?_
  refine od ?_
  refine q_cond (o := .tmp 12) (b := (o.kind == 1)) (by kernel_rfl) rfl (fun h31 => ?_) (fun h31 => ?_)
  ·rw [h31]
   have p32 : o.kind = 1 := of_beq_t h31
   refine qs ?_
   refine q_draw (fun wz => Keeps (fun i => ((Value.slice A S.length c)).ownBlock = some i ∨ i = mb ∨ i = r) w2 wz) 10 (by kernel_rfl) (by kernel_rfl) (by kernel_rfl) (fun w33 K34 _ _ => ⟨(K34.mono (fun _ _ h => h.elim)), ?_⟩)
   replace K0 := K0.trans K34 (U := (fun i => i = mb ∨ i = r ∨ ((Value.slice A S.length c)).ownBlock = some i)) (fun i h1 h2 => h2) (fun i h1 h2 => by exact h2.elim)
   replace Hb := Hb.keep K34 (fun h => h)
   replace Hm := Hm.keep K34 (fun h => h)
   replace Hr := Hr.keep K34 (fun h => h)
   replace H4 := H4.keep K34 (fun h => h)
   replace hO := own_keep0 hO K34
   refine Dr.strong (S' := (fun wz => Keeps (fun i => ((Value.slice A S.length c)).ownBlock = some i ∨ i = mb ∨ i = r) w33 wz)) ((Keeps.refl w33).mono (fun _ _ h => h.elim)) (fun wz hx => K34.trans hx (fun i _ h => h.elim) (fun _ _ h => h)) ?_
   clear K34
   refine Dr.takes (fuel' := 8) (is' := [1, 0]) [0, 1] [(0, (ptr b)), (1, (ptr r)), (5, (ptr b1)), (6, (Value.bool false)), (11, (i64 o.kind)), (15, (ptr b)), (16, (Value.pointer (some ⟨b1, 1, none⟩)))] (by kernel_rfl) rfl (by kernel_rfl) ?_
   refine Dr.take (i := 2) (v := (Value.string (str o.name))) (by kernel_rfl) (by kernel_rfl) (fun wz hS => Runs.load (t := 9) (a := ⟨b1, 1, none⟩) (by kernel_rfl) ((H4.keep hS (by intro h; change ((Value.slice A S.length c)).ownBlock = some b1 ∨ b1 = mb ∨ b1 = r at h; rcases h with h | h | h; (have := ob7 b1 h; omega); (omega); (omega))).loads (by kernel_rfl))) (d := (some 17)) (by kernel_rfl) rfl ?_
   refine Dr.takes (fuel' := 5) (is' := [5, 4, 2, 1, 0]) [4, 5] [(0, (ptr b)), (1, (ptr r)), (5, (ptr b1)), (6, (Value.bool false)), (11, (i64 o.kind)), (15, (ptr b)), (17, (Value.string (str o.name))), (19, (ptr r)), (20, (Value.pointer (some ⟨b1, 1, none⟩)))] (by kernel_rfl) rfl (by kernel_rfl) ?_
   refine Dr.take (i := 6) (v := (Value.string (str o.name))) (by kernel_rfl) (by kernel_rfl) (fun wz hS => Runs.load (t := 9) (a := ⟨b1, 1, none⟩) (by kernel_rfl) ((H4.keep hS (by intro h; change ((Value.slice A S.length c)).ownBlock = some b1 ∨ b1 = mb ∨ b1 = r at h; rcases h with h | h | h; (have := ob7 b1 h; omega); (omega); (omega))).loads (by kernel_rfl))) (d := (some 21)) (by kernel_rfl) rfl ?_
   refine Dr.call (i := 3) (by kernel_rfl) (by kernel_rfl) (d := (some 18)) (by kernel_rfl) (fun _ => Open_calls _ b mb m S o.name Hb Hm (by omega) hB) ?_
   rintro _ w36 ⟨m35, rfl, K37, H38, hB39⟩
   have hl40 := hB39.len
   replace K0 := K0.trans K37 (U := (fun i => i = mb ∨ i = r ∨ ((Value.slice A S.length c)).ownBlock = some i)) (fun i h1 h2 => h2) (fun i h1 h2 => by have h2 : i = mb := h2; exact .inl h2)
   replace Hb := Hb.keep K37 (by intro h; change b = mb at h; omega)
   replace Hr := Hr.keep K37 (by intro h; change r = mb at h; omega)
   replace H4 := H4.keep K37 (by intro h; change b1 = mb at h; omega)
   replace hO := own_keep hO K37 (fun i hi hs => by have hs : i = mb := hs; have := hom i hi; omega)
   refine ⟨_, _, rfl, rfl, (K37.mono (fun i _ h => by have h : i = mb := h; show ((Value.slice A S.length c)).ownBlock = some i ∨ i = mb ∨ i = r; exact (.inr (.inl h)))), ?_⟩
   refine Dr.strong (S' := (fun wz => Keeps (fun i => ((Value.slice A S.length c)).ownBlock = some i ∨ i = mb ∨ i = r) w36 wz)) ((Keeps.refl w36).mono (fun _ _ h => h.elim)) (fun wz hx => K37.trans hx (fun i _ h => by have h : i = mb := h; show ((Value.slice A S.length c)).ownBlock = some i ∨ i = mb ∨ i = r; exact (.inr (.inl h))) (fun _ _ h => h)) ?_
   clear K37
   refine Dr.call (i := 7) (by kernel_rfl) (by kernel_rfl) (d := (some 22)) (by kernel_rfl) (fun _ => ROpen_calls _ base r A c S o.name Hr hO hor hS (Nat.le_trans hbw K0.size)) ?_
   rintro _ w43 ⟨A41, c42, rfl, K44, H45, hO46, hg47⟩
   have ob48 : ∀ i, ((Value.slice A41 ((putS S o.name 0).length) c42)).ownBlock = some i → i ≠ b := fun i hi => by rcases hg47 i hi with h | h; (have := hob i h; omega); (have := Hb.lt; omega)
   have ob49 : ∀ i, ((Value.slice A41 ((putS S o.name 0).length) c42)).ownBlock = some i → i ≠ mb := fun i hi => by rcases hg47 i hi with h | h; (have := hom i h; omega); (have := H38.lt; omega)
   have ob50 : ∀ i, ((Value.slice A41 ((putS S o.name 0).length) c42)).ownBlock = some i → i ≠ r := fun i hi => by rcases hg47 i hi with h | h; (have := hor i h; omega); (have := Hr.lt; omega)
   have ob51 : ∀ i, ((Value.slice A41 ((putS S o.name 0).length) c42)).ownBlock = some i → i ≠ b1 := fun i hi => by rcases hg47 i hi with h | h; (have := ob7 i h; omega); (have := H4.lt; omega)
   have hgw52 : ∀ i, ((Value.slice A41 ((putS S o.name 0).length) c42)).ownBlock = some i → ((Value.slice A S.length c)).ownBlock = some i ∨ w.heap.size ≤ i := fun i hi => (hg47 i hi).elim .inl fun h => .inr (Nat.le_trans K0.size h)
   replace K0 := K0.trans K44 (U := (fun i => i = mb ∨ i = r ∨ ((Value.slice A S.length c)).ownBlock = some i)) (fun i h1 h2 => h2) (fun i h1 h2 => by have h2 : i = r ∨ ((Value.slice A S.length c)).ownBlock = some i := h2; rcases h2 with h2 | h2; (exact .inr (.inl h2)); (exact .inr (.inr (h2))))
   replace Hb := Hb.keep K44 (by intro h; change b = r ∨ ((Value.slice A S.length c)).ownBlock = some b at h; rcases h with h | h; (omega); (have := hob b h; omega))
   replace H38 := H38.keep K44 (by intro h; change mb = r ∨ ((Value.slice A S.length c)).ownBlock = some mb at h; rcases h with h | h; (omega); (have := hom mb h; omega))
   replace H4 := H4.keep K44 (by intro h; change b1 = r ∨ ((Value.slice A S.length c)).ownBlock = some b1 at h; rcases h with h | h; (omega); (have := ob7 b1 h; omega))
   clear hO
   refine ⟨_, _, rfl, rfl, (K44.mono (fun i _ h => by have h : i = r ∨ ((Value.slice A S.length c)).ownBlock = some i := h; show ((Value.slice A S.length c)).ownBlock = some i ∨ i = mb ∨ i = r; rcases h with h | h; (exact (.inr (.inr h))); (exact (.inl h)))), ?_⟩
   refine Dr.strong (S' := (fun wz => Keeps (fun i => ((Value.slice A S.length c)).ownBlock = some i ∨ i = mb ∨ i = r) w43 wz)) ((Keeps.refl w43).mono (fun _ _ h => h.elim)) (fun wz hx => K44.trans hx (fun i _ h => by have h : i = r ∨ ((Value.slice A S.length c)).ownBlock = some i := h; show ((Value.slice A S.length c)).ownBlock = some i ∨ i = mb ∨ i = r; rcases h with h | h; (exact (.inr (.inr h))); (exact (.inl h))) (fun _ _ h => h)) ?_
   clear K44
   refine Dr.takes (fuel' := 0) (is' := [9, 8, 7, 3, 6, 5, 4, 2, 1, 0]) [8, 9] [(0, (ptr b)), (1, (ptr r)), (5, (ptr b1)), (6, (Value.bool ((putE S o.name 0) == (putE S o.name 0)))), (11, (i64 o.kind))] (by kernel_rfl) rfl (by kernel_rfl) ?_
   refine Dr.done (by kernel_rfl) ?_
   refine q_ret (by kernel_rfl) ?_
   refine ⟨(Value.bool ((putE S o.name 0) == (putE S o.name 0))), retv_tmp rfl rfl, ?_⟩
   exact ⟨_, _, _, _, by rw [show ((putE S o.name 0) == (putE S o.name 0)) = true from by simp], K0, H38, hB39, H45, hO46, hgw52⟩
  ·rw [h31]
   have p53 : ¬ (o.kind = 1) := of_beq_f h31
   refine qs ?_
   refine qs ?_
   refine qg ?_
   refine og 2 [(0, (ptr b)), (1, (ptr r)), (5, (ptr b1)), (6, (Value.bool false)), (11, (i64 o.kind)), (24, (Value.bool (o.kind == 2)))] 2 ?_
   refine od ?_
   refine q_cond (o := .tmp 24) (b := (o.kind == 2)) (by kernel_rfl) rfl (fun h54 => ?_) (fun h54 => ?_)
   ·rw [h54]
    have p55 : o.kind = 2 := of_beq_t h54
    refine q_skip (by kernel_rfl) ?_
    refine q_then (o := .tmp 24) (by kernel_rfl) rfl ?_
    refine qs ?_
    refine q_draw (fun wz => Keeps (fun i => ((Value.slice A S.length c)).ownBlock = some i ∨ i = mb ∨ i = r) w2 wz) 14 (by kernel_rfl) (by kernel_rfl) (by kernel_rfl) (fun w56 K57 _ _ => ⟨(K57.mono (fun _ _ h => h.elim)), ?_⟩)
    replace K0 := K0.trans K57 (U := (fun i => i = mb ∨ i = r ∨ ((Value.slice A S.length c)).ownBlock = some i)) (fun i h1 h2 => h2) (fun i h1 h2 => by exact h2.elim)
    replace Hb := Hb.keep K57 (fun h => h)
    replace Hm := Hm.keep K57 (fun h => h)
    replace Hr := Hr.keep K57 (fun h => h)
    replace H4 := H4.keep K57 (fun h => h)
    replace hO := own_keep0 hO K57
    refine Dr.strong (S' := (fun wz => Keeps (fun i => ((Value.slice A S.length c)).ownBlock = some i ∨ i = mb ∨ i = r) w56 wz)) ((Keeps.refl w56).mono (fun _ _ h => h.elim)) (fun wz hx => K57.trans hx (fun i _ h => h.elim) (fun _ _ h => h)) ?_
    clear K57
    refine Dr.takes (fuel' := 12) (is' := [1, 0]) [0, 1] [(0, (ptr b)), (1, (ptr r)), (5, (ptr b1)), (6, (Value.bool false)), (11, (i64 o.kind)), (27, (ptr b)), (28, (Value.pointer (some ⟨b1, 1, none⟩)))] (by kernel_rfl) rfl (by kernel_rfl) ?_
    refine Dr.take (i := 2) (v := (Value.string (str o.name))) (by kernel_rfl) (by kernel_rfl) (fun wz hS => Runs.load (t := 9) (a := ⟨b1, 1, none⟩) (by kernel_rfl) ((H4.keep hS (by intro h; change ((Value.slice A S.length c)).ownBlock = some b1 ∨ b1 = mb ∨ b1 = r at h; rcases h with h | h | h; (have := ob7 b1 h; omega); (omega); (omega))).loads (by kernel_rfl))) (d := (some 29)) (by kernel_rfl) rfl ?_
    refine Dr.takes (fuel' := 10) (is' := [3, 2, 1, 0]) [3] [(0, (ptr b)), (1, (ptr r)), (5, (ptr b1)), (6, (Value.bool false)), (11, (i64 o.kind)), (27, (ptr b)), (29, (Value.string (str o.name))), (30, (Value.pointer (some ⟨b1, 3, none⟩)))] (by kernel_rfl) rfl (by kernel_rfl) ?_
    refine Dr.take (i := 4) (v := (i64 o.n)) (by kernel_rfl) (by kernel_rfl) (fun wz hS => Runs.load (t := 2) (a := ⟨b1, 3, none⟩) (by kernel_rfl) ((H4.keep hS (by intro h; change ((Value.slice A S.length c)).ownBlock = some b1 ∨ b1 = mb ∨ b1 = r at h; rcases h with h | h | h; (have := ob7 b1 h; omega); (omega); (omega))).loads (by kernel_rfl))) (d := (some 31)) (by kernel_rfl) rfl ?_
    refine Dr.takes (fuel' := 7) (is' := [7, 6, 4, 3, 2, 1, 0]) [6, 7] [(0, (ptr b)), (1, (ptr r)), (5, (ptr b1)), (6, (Value.bool false)), (11, (i64 o.kind)), (27, (ptr b)), (29, (Value.string (str o.name))), (31, (i64 o.n)), (33, (ptr r)), (34, (Value.pointer (some ⟨b1, 1, none⟩)))] (by kernel_rfl) rfl (by kernel_rfl) ?_
    refine Dr.take (i := 8) (v := (Value.string (str o.name))) (by kernel_rfl) (by kernel_rfl) (fun wz hS => Runs.load (t := 9) (a := ⟨b1, 1, none⟩) (by kernel_rfl) ((H4.keep hS (by intro h; change ((Value.slice A S.length c)).ownBlock = some b1 ∨ b1 = mb ∨ b1 = r at h; rcases h with h | h | h; (have := ob7 b1 h; omega); (omega); (omega))).loads (by kernel_rfl))) (d := (some 35)) (by kernel_rfl) rfl ?_
    refine Dr.takes (fuel' := 5) (is' := [9, 8, 7, 6, 4, 3, 2, 1, 0]) [9] [(0, (ptr b)), (1, (ptr r)), (5, (ptr b1)), (6, (Value.bool false)), (11, (i64 o.kind)), (27, (ptr b)), (29, (Value.string (str o.name))), (31, (i64 o.n)), (33, (ptr r)), (35, (Value.string (str o.name))), (36, (Value.pointer (some ⟨b1, 3, none⟩)))] (by kernel_rfl) rfl (by kernel_rfl) ?_
    refine Dr.take (i := 10) (v := (i64 o.n)) (by kernel_rfl) (by kernel_rfl) (fun wz hS => Runs.load (t := 2) (a := ⟨b1, 3, none⟩) (by kernel_rfl) ((H4.keep hS (by intro h; change ((Value.slice A S.length c)).ownBlock = some b1 ∨ b1 = mb ∨ b1 = r at h; rcases h with h | h | h; (have := ob7 b1 h; omega); (omega); (omega))).loads (by kernel_rfl))) (d := (some 37)) (by kernel_rfl) rfl ?_
    refine Dr.call (i := 5) (by kernel_rfl) (by kernel_rfl) (d := (some 32)) (by kernel_rfl) (fun _ => Add_calls _ b mb m S o.name o.n Hb Hm (by omega) hB (by omega)) ?_
    rintro _ w59 ⟨m58, rfl, K60, H61, hB62⟩
    have hl63 := hB62.len
    replace K0 := K0.trans K60 (U := (fun i => i = mb ∨ i = r ∨ ((Value.slice A S.length c)).ownBlock = some i)) (fun i h1 h2 => h2) (fun i h1 h2 => by have h2 : i = mb := h2; exact .inl h2)
    replace Hb := Hb.keep K60 (by intro h; change b = mb at h; omega)
    replace Hr := Hr.keep K60 (by intro h; change r = mb at h; omega)
    replace H4 := H4.keep K60 (by intro h; change b1 = mb at h; omega)
    replace hO := own_keep hO K60 (fun i hi hs => by have hs : i = mb := hs; have := hom i hi; omega)
    refine ⟨_, _, rfl, rfl, (K60.mono (fun i _ h => by have h : i = mb := h; show ((Value.slice A S.length c)).ownBlock = some i ∨ i = mb ∨ i = r; exact (.inr (.inl h)))), ?_⟩
    refine Dr.strong (S' := (fun wz => Keeps (fun i => ((Value.slice A S.length c)).ownBlock = some i ∨ i = mb ∨ i = r) w59 wz)) ((Keeps.refl w59).mono (fun _ _ h => h.elim)) (fun wz hx => K60.trans hx (fun i _ h => by have h : i = mb := h; show ((Value.slice A S.length c)).ownBlock = some i ∨ i = mb ∨ i = r; exact (.inr (.inl h))) (fun _ _ h => h)) ?_
    clear K60
    refine Dr.call (i := 11) (by kernel_rfl) (by kernel_rfl) (d := (some 38)) (by kernel_rfl) (fun _ => RAdd_calls _ base r A c S o.name o.n Hr hO hor hS (by omega)) ?_
    rintro _ w66 ⟨A64, c65, rfl, K67, H68, hO69, hg70⟩
    have ob71 : ∀ i, ((Value.slice A64 ((chgS (addF o.n) S o.name).length) c65)).ownBlock = some i → i ≠ b := fun i hi => by rcases hg70 i hi with h | h; (have := hob i h; omega); (have := Hb.lt; omega)
    have ob72 : ∀ i, ((Value.slice A64 ((chgS (addF o.n) S o.name).length) c65)).ownBlock = some i → i ≠ mb := fun i hi => by rcases hg70 i hi with h | h; (have := hom i h; omega); (have := H61.lt; omega)
    have ob73 : ∀ i, ((Value.slice A64 ((chgS (addF o.n) S o.name).length) c65)).ownBlock = some i → i ≠ r := fun i hi => by rcases hg70 i hi with h | h; (have := hor i h; omega); (have := Hr.lt; omega)
    have ob74 : ∀ i, ((Value.slice A64 ((chgS (addF o.n) S o.name).length) c65)).ownBlock = some i → i ≠ b1 := fun i hi => by rcases hg70 i hi with h | h; (have := ob7 i h; omega); (have := H4.lt; omega)
    have hgw75 : ∀ i, ((Value.slice A64 ((chgS (addF o.n) S o.name).length) c65)).ownBlock = some i → ((Value.slice A S.length c)).ownBlock = some i ∨ w.heap.size ≤ i := fun i hi => (hg70 i hi).elim .inl fun h => .inr (Nat.le_trans K0.size h)
    replace K0 := K0.trans K67 (U := (fun i => i = mb ∨ i = r ∨ ((Value.slice A S.length c)).ownBlock = some i)) (fun i h1 h2 => h2) (fun i h1 h2 => by have h2 : i = r ∨ ((Value.slice A S.length c)).ownBlock = some i := h2; rcases h2 with h2 | h2; (exact .inr (.inl h2)); (exact .inr (.inr (h2))))
    replace Hb := Hb.keep K67 (by intro h; change b = r ∨ ((Value.slice A S.length c)).ownBlock = some b at h; rcases h with h | h; (omega); (have := hob b h; omega))
    replace H61 := H61.keep K67 (by intro h; change mb = r ∨ ((Value.slice A S.length c)).ownBlock = some mb at h; rcases h with h | h; (omega); (have := hom mb h; omega))
    replace H4 := H4.keep K67 (by intro h; change b1 = r ∨ ((Value.slice A S.length c)).ownBlock = some b1 at h; rcases h with h | h; (omega); (have := ob7 b1 h; omega))
    clear hO
    refine ⟨_, _, rfl, rfl, (K67.mono (fun i _ h => by have h : i = r ∨ ((Value.slice A S.length c)).ownBlock = some i := h; show ((Value.slice A S.length c)).ownBlock = some i ∨ i = mb ∨ i = r; rcases h with h | h; (exact (.inr (.inr h))); (exact (.inl h)))), ?_⟩
    refine Dr.strong (S' := (fun wz => Keeps (fun i => ((Value.slice A S.length c)).ownBlock = some i ∨ i = mb ∨ i = r) w66 wz)) ((Keeps.refl w66).mono (fun _ _ h => h.elim)) (fun wz hx => K67.trans hx (fun i _ h => by have h : i = r ∨ ((Value.slice A S.length c)).ownBlock = some i := h; show ((Value.slice A S.length c)).ownBlock = some i ∨ i = mb ∨ i = r; rcases h with h | h; (exact (.inr (.inr h))); (exact (.inl h))) (fun _ _ h => h)) ?_
    clear K67
    refine Dr.takes (fuel' := 0) (is' := [13, 12, 11, 5, 10, 9, 8, 7, 6, 4, 3, 2, 1, 0]) [12, 13] [(0, (ptr b)), (1, (ptr r)), (5, (ptr b1)), (6, (Value.bool ((chgE (addF o.n) S o.name) == (chgE (addF o.n) S o.name)))), (11, (i64 o.kind))] (by kernel_rfl) rfl (by kernel_rfl) ?_
    refine Dr.done (by kernel_rfl) ?_
    refine q_ret (by kernel_rfl) ?_
    refine ⟨(Value.bool ((chgE (addF o.n) S o.name) == (chgE (addF o.n) S o.name))), retv_tmp rfl rfl, ?_⟩
    exact ⟨_, _, _, _, by rw [show ((chgE (addF o.n) S o.name) == (chgE (addF o.n) S o.name)) = true from by simp], K0, H61, hB62, H68, hO69, hgw75⟩
   ·rw [h54]
    have p76 : ¬ (o.kind = 2) := of_beq_f h54
    refine qg ?_
    refine og 2 [(0, (ptr b)), (1, (ptr r)), (5, (ptr b1)), (6, (Value.bool false)), (11, (i64 o.kind)), (24, (Value.bool (o.kind == 3)))] 2 ?_
    refine od ?_
    refine q_cond (o := .tmp 24) (b := (o.kind == 3)) (by kernel_rfl) rfl (fun h77 => ?_) (fun h77 => ?_)
    ·rw [h77]
     have p78 : o.kind = 3 := of_beq_t h77
     refine qs ?_
     refine q_draw (fun wz => Keeps (fun i => ((Value.slice A S.length c)).ownBlock = some i ∨ i = mb ∨ i = r) w2 wz) 14 (by kernel_rfl) (by kernel_rfl) (by kernel_rfl) (fun w79 K80 _ _ => ⟨(K80.mono (fun _ _ h => h.elim)), ?_⟩)
     replace K0 := K0.trans K80 (U := (fun i => i = mb ∨ i = r ∨ ((Value.slice A S.length c)).ownBlock = some i)) (fun i h1 h2 => h2) (fun i h1 h2 => by exact h2.elim)
     replace Hb := Hb.keep K80 (fun h => h)
     replace Hm := Hm.keep K80 (fun h => h)
     replace Hr := Hr.keep K80 (fun h => h)
     replace H4 := H4.keep K80 (fun h => h)
     replace hO := own_keep0 hO K80
     refine Dr.strong (S' := (fun wz => Keeps (fun i => ((Value.slice A S.length c)).ownBlock = some i ∨ i = mb ∨ i = r) w79 wz)) ((Keeps.refl w79).mono (fun _ _ h => h.elim)) (fun wz hx => K80.trans hx (fun i _ h => h.elim) (fun _ _ h => h)) ?_
     clear K80
     refine Dr.takes (fuel' := 12) (is' := [1, 0]) [0, 1] [(0, (ptr b)), (1, (ptr r)), (5, (ptr b1)), (6, (Value.bool false)), (11, (i64 o.kind)), (27, (ptr b)), (28, (Value.pointer (some ⟨b1, 1, none⟩)))] (by kernel_rfl) rfl (by kernel_rfl) ?_
     refine Dr.take (i := 2) (v := (Value.string (str o.name))) (by kernel_rfl) (by kernel_rfl) (fun wz hS => Runs.load (t := 9) (a := ⟨b1, 1, none⟩) (by kernel_rfl) ((H4.keep hS (by intro h; change ((Value.slice A S.length c)).ownBlock = some b1 ∨ b1 = mb ∨ b1 = r at h; rcases h with h | h | h; (have := ob7 b1 h; omega); (omega); (omega))).loads (by kernel_rfl))) (d := (some 29)) (by kernel_rfl) rfl ?_
     refine Dr.takes (fuel' := 10) (is' := [3, 2, 1, 0]) [3] [(0, (ptr b)), (1, (ptr r)), (5, (ptr b1)), (6, (Value.bool false)), (11, (i64 o.kind)), (27, (ptr b)), (29, (Value.string (str o.name))), (30, (Value.pointer (some ⟨b1, 3, none⟩)))] (by kernel_rfl) rfl (by kernel_rfl) ?_
     refine Dr.take (i := 4) (v := (i64 o.n)) (by kernel_rfl) (by kernel_rfl) (fun wz hS => Runs.load (t := 2) (a := ⟨b1, 3, none⟩) (by kernel_rfl) ((H4.keep hS (by intro h; change ((Value.slice A S.length c)).ownBlock = some b1 ∨ b1 = mb ∨ b1 = r at h; rcases h with h | h | h; (have := ob7 b1 h; omega); (omega); (omega))).loads (by kernel_rfl))) (d := (some 31)) (by kernel_rfl) rfl ?_
     refine Dr.takes (fuel' := 7) (is' := [7, 6, 4, 3, 2, 1, 0]) [6, 7] [(0, (ptr b)), (1, (ptr r)), (5, (ptr b1)), (6, (Value.bool false)), (11, (i64 o.kind)), (27, (ptr b)), (29, (Value.string (str o.name))), (31, (i64 o.n)), (33, (ptr r)), (34, (Value.pointer (some ⟨b1, 1, none⟩)))] (by kernel_rfl) rfl (by kernel_rfl) ?_
     refine Dr.take (i := 8) (v := (Value.string (str o.name))) (by kernel_rfl) (by kernel_rfl) (fun wz hS => Runs.load (t := 9) (a := ⟨b1, 1, none⟩) (by kernel_rfl) ((H4.keep hS (by intro h; change ((Value.slice A S.length c)).ownBlock = some b1 ∨ b1 = mb ∨ b1 = r at h; rcases h with h | h | h; (have := ob7 b1 h; omega); (omega); (omega))).loads (by kernel_rfl))) (d := (some 35)) (by kernel_rfl) rfl ?_
     refine Dr.takes (fuel' := 5) (is' := [9, 8, 7, 6, 4, 3, 2, 1, 0]) [9] [(0, (ptr b)), (1, (ptr r)), (5, (ptr b1)), (6, (Value.bool false)), (11, (i64 o.kind)), (27, (ptr b)), (29, (Value.string (str o.name))), (31, (i64 o.n)), (33, (ptr r)), (35, (Value.string (str o.name))), (36, (Value.pointer (some ⟨b1, 3, none⟩)))] (by kernel_rfl) rfl (by kernel_rfl) ?_
     refine Dr.take (i := 10) (v := (i64 o.n)) (by kernel_rfl) (by kernel_rfl) (fun wz hS => Runs.load (t := 2) (a := ⟨b1, 3, none⟩) (by kernel_rfl) ((H4.keep hS (by intro h; change ((Value.slice A S.length c)).ownBlock = some b1 ∨ b1 = mb ∨ b1 = r at h; rcases h with h | h | h; (have := ob7 b1 h; omega); (omega); (omega))).loads (by kernel_rfl))) (d := (some 37)) (by kernel_rfl) rfl ?_
     refine Dr.call (i := 5) (by kernel_rfl) (by kernel_rfl) (d := (some 32)) (by kernel_rfl) (fun _ => Add_calls _ b mb m S o.name o.n Hb Hm (by omega) hB (by omega)) ?_
     rintro _ w82 ⟨m81, rfl, K83, H84, hB85⟩
     have hl86 := hB85.len
     replace K0 := K0.trans K83 (U := (fun i => i = mb ∨ i = r ∨ ((Value.slice A S.length c)).ownBlock = some i)) (fun i h1 h2 => h2) (fun i h1 h2 => by have h2 : i = mb := h2; exact .inl h2)
     replace Hb := Hb.keep K83 (by intro h; change b = mb at h; omega)
     replace Hr := Hr.keep K83 (by intro h; change r = mb at h; omega)
     replace H4 := H4.keep K83 (by intro h; change b1 = mb at h; omega)
     replace hO := own_keep hO K83 (fun i hi hs => by have hs : i = mb := hs; have := hom i hi; omega)
     refine ⟨_, _, rfl, rfl, (K83.mono (fun i _ h => by have h : i = mb := h; show ((Value.slice A S.length c)).ownBlock = some i ∨ i = mb ∨ i = r; exact (.inr (.inl h)))), ?_⟩
     refine Dr.strong (S' := (fun wz => Keeps (fun i => ((Value.slice A S.length c)).ownBlock = some i ∨ i = mb ∨ i = r) w82 wz)) ((Keeps.refl w82).mono (fun _ _ h => h.elim)) (fun wz hx => K83.trans hx (fun i _ h => by have h : i = mb := h; show ((Value.slice A S.length c)).ownBlock = some i ∨ i = mb ∨ i = r; exact (.inr (.inl h))) (fun _ _ h => h)) ?_
     clear K83
     refine Dr.call (i := 11) (by kernel_rfl) (by kernel_rfl) (d := (some 38)) (by kernel_rfl) (fun _ => RAdd_calls _ base r A c S o.name o.n Hr hO hor hS (by omega)) ?_
     rintro _ w89 ⟨A87, c88, rfl, K90, H91, hO92, hg93⟩
     have ob94 : ∀ i, ((Value.slice A87 ((chgS (addF o.n) S o.name).length) c88)).ownBlock = some i → i ≠ b := fun i hi => by rcases hg93 i hi with h | h; (have := hob i h; omega); (have := Hb.lt; omega)
     have ob95 : ∀ i, ((Value.slice A87 ((chgS (addF o.n) S o.name).length) c88)).ownBlock = some i → i ≠ mb := fun i hi => by rcases hg93 i hi with h | h; (have := hom i h; omega); (have := H84.lt; omega)
     have ob96 : ∀ i, ((Value.slice A87 ((chgS (addF o.n) S o.name).length) c88)).ownBlock = some i → i ≠ r := fun i hi => by rcases hg93 i hi with h | h; (have := hor i h; omega); (have := Hr.lt; omega)
     have ob97 : ∀ i, ((Value.slice A87 ((chgS (addF o.n) S o.name).length) c88)).ownBlock = some i → i ≠ b1 := fun i hi => by rcases hg93 i hi with h | h; (have := ob7 i h; omega); (have := H4.lt; omega)
     have hgw98 : ∀ i, ((Value.slice A87 ((chgS (addF o.n) S o.name).length) c88)).ownBlock = some i → ((Value.slice A S.length c)).ownBlock = some i ∨ w.heap.size ≤ i := fun i hi => (hg93 i hi).elim .inl fun h => .inr (Nat.le_trans K0.size h)
     replace K0 := K0.trans K90 (U := (fun i => i = mb ∨ i = r ∨ ((Value.slice A S.length c)).ownBlock = some i)) (fun i h1 h2 => h2) (fun i h1 h2 => by have h2 : i = r ∨ ((Value.slice A S.length c)).ownBlock = some i := h2; rcases h2 with h2 | h2; (exact .inr (.inl h2)); (exact .inr (.inr (h2))))
     replace Hb := Hb.keep K90 (by intro h; change b = r ∨ ((Value.slice A S.length c)).ownBlock = some b at h; rcases h with h | h; (omega); (have := hob b h; omega))
     replace H84 := H84.keep K90 (by intro h; change mb = r ∨ ((Value.slice A S.length c)).ownBlock = some mb at h; rcases h with h | h; (omega); (have := hom mb h; omega))
     replace H4 := H4.keep K90 (by intro h; change b1 = r ∨ ((Value.slice A S.length c)).ownBlock = some b1 at h; rcases h with h | h; (omega); (have := ob7 b1 h; omega))
     clear hO
     refine ⟨_, _, rfl, rfl, (K90.mono (fun i _ h => by have h : i = r ∨ ((Value.slice A S.length c)).ownBlock = some i := h; show ((Value.slice A S.length c)).ownBlock = some i ∨ i = mb ∨ i = r; rcases h with h | h; (exact (.inr (.inr h))); (exact (.inl h)))), ?_⟩
     refine Dr.strong (S' := (fun wz => Keeps (fun i => ((Value.slice A S.length c)).ownBlock = some i ∨ i = mb ∨ i = r) w89 wz)) ((Keeps.refl w89).mono (fun _ _ h => h.elim)) (fun wz hx => K90.trans hx (fun i _ h => by have h : i = r ∨ ((Value.slice A S.length c)).ownBlock = some i := h; show ((Value.slice A S.length c)).ownBlock = some i ∨ i = mb ∨ i = r; rcases h with h | h; (exact (.inr (.inr h))); (exact (.inl h))) (fun _ _ h => h)) ?_
     clear K90
     refine Dr.takes (fuel' := 0) (is' := [13, 12, 11, 5, 10, 9, 8, 7, 6, 4, 3, 2, 1, 0]) [12, 13] [(0, (ptr b)), (1, (ptr r)), (5, (ptr b1)), (6, (Value.bool ((chgE (addF o.n) S o.name) == (chgE (addF o.n) S o.name)))), (11, (i64 o.kind))] (by kernel_rfl) rfl (by kernel_rfl) ?_
     refine Dr.done (by kernel_rfl) ?_
     refine q_ret (by kernel_rfl) ?_
     refine ⟨(Value.bool ((chgE (addF o.n) S o.name) == (chgE (addF o.n) S o.name))), retv_tmp rfl rfl, ?_⟩
     exact ⟨_, _, _, _, by rw [show ((chgE (addF o.n) S o.name) == (chgE (addF o.n) S o.name)) = true from by simp], K0, H84, hB85, H91, hO92, hgw98⟩
    ·rw [h77]
     have p99 : ¬ (o.kind = 3) := of_beq_f h77
     refine qs ?_
     refine qs ?_
     refine qg ?_
     refine og 2 [(0, (ptr b)), (1, (ptr r)), (5, (ptr b1)), (6, (Value.bool false)), (11, (i64 o.kind)), (40, (Value.bool (o.kind == 4)))] 2 ?_
     refine od ?_
     refine q_cond (o := .tmp 40) (b := (o.kind == 4)) (by kernel_rfl) rfl (fun h100 => ?_) (fun h100 => ?_)
     ·rw [h100]
      have p101 : o.kind = 4 := of_beq_t h100
      refine q_skip (by kernel_rfl) ?_
      refine q_then (o := .tmp 40) (by kernel_rfl) rfl ?_
      refine qs ?_
      refine q_draw (fun wz => Keeps (fun i => ((Value.slice A S.length c)).ownBlock = some i ∨ i = mb ∨ i = r) w2 wz) 14 (by kernel_rfl) (by kernel_rfl) (by kernel_rfl) (fun w102 K103 _ _ => ⟨(K103.mono (fun _ _ h => h.elim)), ?_⟩)
      replace K0 := K0.trans K103 (U := (fun i => i = mb ∨ i = r ∨ ((Value.slice A S.length c)).ownBlock = some i)) (fun i h1 h2 => h2) (fun i h1 h2 => by exact h2.elim)
      replace Hb := Hb.keep K103 (fun h => h)
      replace Hm := Hm.keep K103 (fun h => h)
      replace Hr := Hr.keep K103 (fun h => h)
      replace H4 := H4.keep K103 (fun h => h)
      replace hO := own_keep0 hO K103
      refine Dr.strong (S' := (fun wz => Keeps (fun i => ((Value.slice A S.length c)).ownBlock = some i ∨ i = mb ∨ i = r) w102 wz)) ((Keeps.refl w102).mono (fun _ _ h => h.elim)) (fun wz hx => K103.trans hx (fun i _ h => h.elim) (fun _ _ h => h)) ?_
      clear K103
      refine Dr.takes (fuel' := 12) (is' := [1, 0]) [0, 1] [(0, (ptr b)), (1, (ptr r)), (5, (ptr b1)), (6, (Value.bool false)), (11, (i64 o.kind)), (43, (ptr b)), (44, (Value.pointer (some ⟨b1, 1, none⟩)))] (by kernel_rfl) rfl (by kernel_rfl) ?_
      refine Dr.take (i := 2) (v := (Value.string (str o.name))) (by kernel_rfl) (by kernel_rfl) (fun wz hS => Runs.load (t := 9) (a := ⟨b1, 1, none⟩) (by kernel_rfl) ((H4.keep hS (by intro h; change ((Value.slice A S.length c)).ownBlock = some b1 ∨ b1 = mb ∨ b1 = r at h; rcases h with h | h | h; (have := ob7 b1 h; omega); (omega); (omega))).loads (by kernel_rfl))) (d := (some 45)) (by kernel_rfl) rfl ?_
      refine Dr.takes (fuel' := 10) (is' := [3, 2, 1, 0]) [3] [(0, (ptr b)), (1, (ptr r)), (5, (ptr b1)), (6, (Value.bool false)), (11, (i64 o.kind)), (43, (ptr b)), (45, (Value.string (str o.name))), (46, (Value.pointer (some ⟨b1, 3, none⟩)))] (by kernel_rfl) rfl (by kernel_rfl) ?_
      refine Dr.take (i := 4) (v := (i64 o.n)) (by kernel_rfl) (by kernel_rfl) (fun wz hS => Runs.load (t := 2) (a := ⟨b1, 3, none⟩) (by kernel_rfl) ((H4.keep hS (by intro h; change ((Value.slice A S.length c)).ownBlock = some b1 ∨ b1 = mb ∨ b1 = r at h; rcases h with h | h | h; (have := ob7 b1 h; omega); (omega); (omega))).loads (by kernel_rfl))) (d := (some 47)) (by kernel_rfl) rfl ?_
      refine Dr.takes (fuel' := 7) (is' := [7, 6, 4, 3, 2, 1, 0]) [6, 7] [(0, (ptr b)), (1, (ptr r)), (5, (ptr b1)), (6, (Value.bool false)), (11, (i64 o.kind)), (43, (ptr b)), (45, (Value.string (str o.name))), (47, (i64 o.n)), (49, (ptr r)), (50, (Value.pointer (some ⟨b1, 1, none⟩)))] (by kernel_rfl) rfl (by kernel_rfl) ?_
      refine Dr.take (i := 8) (v := (Value.string (str o.name))) (by kernel_rfl) (by kernel_rfl) (fun wz hS => Runs.load (t := 9) (a := ⟨b1, 1, none⟩) (by kernel_rfl) ((H4.keep hS (by intro h; change ((Value.slice A S.length c)).ownBlock = some b1 ∨ b1 = mb ∨ b1 = r at h; rcases h with h | h | h; (have := ob7 b1 h; omega); (omega); (omega))).loads (by kernel_rfl))) (d := (some 51)) (by kernel_rfl) rfl ?_
      refine Dr.takes (fuel' := 5) (is' := [9, 8, 7, 6, 4, 3, 2, 1, 0]) [9] [(0, (ptr b)), (1, (ptr r)), (5, (ptr b1)), (6, (Value.bool false)), (11, (i64 o.kind)), (43, (ptr b)), (45, (Value.string (str o.name))), (47, (i64 o.n)), (49, (ptr r)), (51, (Value.string (str o.name))), (52, (Value.pointer (some ⟨b1, 3, none⟩)))] (by kernel_rfl) rfl (by kernel_rfl) ?_
      refine Dr.take (i := 10) (v := (i64 o.n)) (by kernel_rfl) (by kernel_rfl) (fun wz hS => Runs.load (t := 2) (a := ⟨b1, 3, none⟩) (by kernel_rfl) ((H4.keep hS (by intro h; change ((Value.slice A S.length c)).ownBlock = some b1 ∨ b1 = mb ∨ b1 = r at h; rcases h with h | h | h; (have := ob7 b1 h; omega); (omega); (omega))).loads (by kernel_rfl))) (d := (some 53)) (by kernel_rfl) rfl ?_
      refine Dr.call (i := 5) (by kernel_rfl) (by kernel_rfl) (d := (some 48)) (by kernel_rfl) (fun _ => Take_calls _ b mb m S o.name o.n Hb Hm (by omega) hB (by omega)) ?_
      rintro _ w105 ⟨m104, rfl, K106, H107, hB108⟩
      have hl109 := hB108.len
      replace K0 := K0.trans K106 (U := (fun i => i = mb ∨ i = r ∨ ((Value.slice A S.length c)).ownBlock = some i)) (fun i h1 h2 => h2) (fun i h1 h2 => by have h2 : i = mb := h2; exact .inl h2)
      replace Hb := Hb.keep K106 (by intro h; change b = mb at h; omega)
      replace Hr := Hr.keep K106 (by intro h; change r = mb at h; omega)
      replace H4 := H4.keep K106 (by intro h; change b1 = mb at h; omega)
      replace hO := own_keep hO K106 (fun i hi hs => by have hs : i = mb := hs; have := hom i hi; omega)
      refine ⟨_, _, rfl, rfl, (K106.mono (fun i _ h => by have h : i = mb := h; show ((Value.slice A S.length c)).ownBlock = some i ∨ i = mb ∨ i = r; exact (.inr (.inl h)))), ?_⟩
      refine Dr.strong (S' := (fun wz => Keeps (fun i => ((Value.slice A S.length c)).ownBlock = some i ∨ i = mb ∨ i = r) w105 wz)) ((Keeps.refl w105).mono (fun _ _ h => h.elim)) (fun wz hx => K106.trans hx (fun i _ h => by have h : i = mb := h; show ((Value.slice A S.length c)).ownBlock = some i ∨ i = mb ∨ i = r; exact (.inr (.inl h))) (fun _ _ h => h)) ?_
      clear K106
      refine Dr.call (i := 11) (by kernel_rfl) (by kernel_rfl) (d := (some 54)) (by kernel_rfl) (fun _ => RTake_calls _ base r A c S o.name o.n Hr hO hor hS (by omega)) ?_
      rintro _ w112 ⟨A110, c111, rfl, K113, H114, hO115, hg116⟩
      have ob117 : ∀ i, ((Value.slice A110 ((chgS (takeF o.n) S o.name).length) c111)).ownBlock = some i → i ≠ b := fun i hi => by rcases hg116 i hi with h | h; (have := hob i h; omega); (have := Hb.lt; omega)
      have ob118 : ∀ i, ((Value.slice A110 ((chgS (takeF o.n) S o.name).length) c111)).ownBlock = some i → i ≠ mb := fun i hi => by rcases hg116 i hi with h | h; (have := hom i h; omega); (have := H107.lt; omega)
      have ob119 : ∀ i, ((Value.slice A110 ((chgS (takeF o.n) S o.name).length) c111)).ownBlock = some i → i ≠ r := fun i hi => by rcases hg116 i hi with h | h; (have := hor i h; omega); (have := Hr.lt; omega)
      have ob120 : ∀ i, ((Value.slice A110 ((chgS (takeF o.n) S o.name).length) c111)).ownBlock = some i → i ≠ b1 := fun i hi => by rcases hg116 i hi with h | h; (have := ob7 i h; omega); (have := H4.lt; omega)
      have hgw121 : ∀ i, ((Value.slice A110 ((chgS (takeF o.n) S o.name).length) c111)).ownBlock = some i → ((Value.slice A S.length c)).ownBlock = some i ∨ w.heap.size ≤ i := fun i hi => (hg116 i hi).elim .inl fun h => .inr (Nat.le_trans K0.size h)
      replace K0 := K0.trans K113 (U := (fun i => i = mb ∨ i = r ∨ ((Value.slice A S.length c)).ownBlock = some i)) (fun i h1 h2 => h2) (fun i h1 h2 => by have h2 : i = r ∨ ((Value.slice A S.length c)).ownBlock = some i := h2; rcases h2 with h2 | h2; (exact .inr (.inl h2)); (exact .inr (.inr (h2))))
      replace Hb := Hb.keep K113 (by intro h; change b = r ∨ ((Value.slice A S.length c)).ownBlock = some b at h; rcases h with h | h; (omega); (have := hob b h; omega))
      replace H107 := H107.keep K113 (by intro h; change mb = r ∨ ((Value.slice A S.length c)).ownBlock = some mb at h; rcases h with h | h; (omega); (have := hom mb h; omega))
      replace H4 := H4.keep K113 (by intro h; change b1 = r ∨ ((Value.slice A S.length c)).ownBlock = some b1 at h; rcases h with h | h; (omega); (have := ob7 b1 h; omega))
      clear hO
      refine ⟨_, _, rfl, rfl, (K113.mono (fun i _ h => by have h : i = r ∨ ((Value.slice A S.length c)).ownBlock = some i := h; show ((Value.slice A S.length c)).ownBlock = some i ∨ i = mb ∨ i = r; rcases h with h | h; (exact (.inr (.inr h))); (exact (.inl h)))), ?_⟩
      refine Dr.strong (S' := (fun wz => Keeps (fun i => ((Value.slice A S.length c)).ownBlock = some i ∨ i = mb ∨ i = r) w112 wz)) ((Keeps.refl w112).mono (fun _ _ h => h.elim)) (fun wz hx => K113.trans hx (fun i _ h => by have h : i = r ∨ ((Value.slice A S.length c)).ownBlock = some i := h; show ((Value.slice A S.length c)).ownBlock = some i ∨ i = mb ∨ i = r; rcases h with h | h; (exact (.inr (.inr h))); (exact (.inl h))) (fun _ _ h => h)) ?_
      clear K113
      refine Dr.takes (fuel' := 0) (is' := [13, 12, 11, 5, 10, 9, 8, 7, 6, 4, 3, 2, 1, 0]) [12, 13] [(0, (ptr b)), (1, (ptr r)), (5, (ptr b1)), (6, (Value.bool ((chgE (takeF o.n) S o.name) == (chgE (takeF o.n) S o.name)))), (11, (i64 o.kind))] (by kernel_rfl) rfl (by kernel_rfl) ?_
      refine Dr.done (by kernel_rfl) ?_
      refine q_ret (by kernel_rfl) ?_
      refine ⟨(Value.bool ((chgE (takeF o.n) S o.name) == (chgE (takeF o.n) S o.name))), retv_tmp rfl rfl, ?_⟩
      exact ⟨_, _, _, _, by rw [show ((chgE (takeF o.n) S o.name) == (chgE (takeF o.n) S o.name)) = true from by simp], K0, H107, hB108, H114, hO115, hgw121⟩
     ·rw [h100]
      have p122 : ¬ (o.kind = 4) := of_beq_f h100
      refine qg ?_
      refine og 2 [(0, (ptr b)), (1, (ptr r)), (5, (ptr b1)), (6, (Value.bool false)), (11, (i64 o.kind)), (40, (Value.bool (o.kind == 5)))] 2 ?_
      refine od ?_
      refine q_cond (o := .tmp 40) (b := (o.kind == 5)) (by kernel_rfl) rfl (fun h123 => ?_) (fun h123 => ?_)
      ·rw [h123]
       have p124 : o.kind = 5 := of_beq_t h123
       refine qs ?_
       refine q_draw (fun wz => Keeps (fun i => ((Value.slice A S.length c)).ownBlock = some i ∨ i = mb ∨ i = r) w2 wz) 14 (by kernel_rfl) (by kernel_rfl) (by kernel_rfl) (fun w125 K126 _ _ => ⟨(K126.mono (fun _ _ h => h.elim)), ?_⟩)
       replace K0 := K0.trans K126 (U := (fun i => i = mb ∨ i = r ∨ ((Value.slice A S.length c)).ownBlock = some i)) (fun i h1 h2 => h2) (fun i h1 h2 => by exact h2.elim)
       replace Hb := Hb.keep K126 (fun h => h)
       replace Hm := Hm.keep K126 (fun h => h)
       replace Hr := Hr.keep K126 (fun h => h)
       replace H4 := H4.keep K126 (fun h => h)
       replace hO := own_keep0 hO K126
       refine Dr.strong (S' := (fun wz => Keeps (fun i => ((Value.slice A S.length c)).ownBlock = some i ∨ i = mb ∨ i = r) w125 wz)) ((Keeps.refl w125).mono (fun _ _ h => h.elim)) (fun wz hx => K126.trans hx (fun i _ h => h.elim) (fun _ _ h => h)) ?_
       clear K126
       refine Dr.takes (fuel' := 12) (is' := [1, 0]) [0, 1] [(0, (ptr b)), (1, (ptr r)), (5, (ptr b1)), (6, (Value.bool false)), (11, (i64 o.kind)), (43, (ptr b)), (44, (Value.pointer (some ⟨b1, 1, none⟩)))] (by kernel_rfl) rfl (by kernel_rfl) ?_
       refine Dr.take (i := 2) (v := (Value.string (str o.name))) (by kernel_rfl) (by kernel_rfl) (fun wz hS => Runs.load (t := 9) (a := ⟨b1, 1, none⟩) (by kernel_rfl) ((H4.keep hS (by intro h; change ((Value.slice A S.length c)).ownBlock = some b1 ∨ b1 = mb ∨ b1 = r at h; rcases h with h | h | h; (have := ob7 b1 h; omega); (omega); (omega))).loads (by kernel_rfl))) (d := (some 45)) (by kernel_rfl) rfl ?_
       refine Dr.takes (fuel' := 10) (is' := [3, 2, 1, 0]) [3] [(0, (ptr b)), (1, (ptr r)), (5, (ptr b1)), (6, (Value.bool false)), (11, (i64 o.kind)), (43, (ptr b)), (45, (Value.string (str o.name))), (46, (Value.pointer (some ⟨b1, 3, none⟩)))] (by kernel_rfl) rfl (by kernel_rfl) ?_
       refine Dr.take (i := 4) (v := (i64 o.n)) (by kernel_rfl) (by kernel_rfl) (fun wz hS => Runs.load (t := 2) (a := ⟨b1, 3, none⟩) (by kernel_rfl) ((H4.keep hS (by intro h; change ((Value.slice A S.length c)).ownBlock = some b1 ∨ b1 = mb ∨ b1 = r at h; rcases h with h | h | h; (have := ob7 b1 h; omega); (omega); (omega))).loads (by kernel_rfl))) (d := (some 47)) (by kernel_rfl) rfl ?_
       refine Dr.takes (fuel' := 7) (is' := [7, 6, 4, 3, 2, 1, 0]) [6, 7] [(0, (ptr b)), (1, (ptr r)), (5, (ptr b1)), (6, (Value.bool false)), (11, (i64 o.kind)), (43, (ptr b)), (45, (Value.string (str o.name))), (47, (i64 o.n)), (49, (ptr r)), (50, (Value.pointer (some ⟨b1, 1, none⟩)))] (by kernel_rfl) rfl (by kernel_rfl) ?_
       refine Dr.take (i := 8) (v := (Value.string (str o.name))) (by kernel_rfl) (by kernel_rfl) (fun wz hS => Runs.load (t := 9) (a := ⟨b1, 1, none⟩) (by kernel_rfl) ((H4.keep hS (by intro h; change ((Value.slice A S.length c)).ownBlock = some b1 ∨ b1 = mb ∨ b1 = r at h; rcases h with h | h | h; (have := ob7 b1 h; omega); (omega); (omega))).loads (by kernel_rfl))) (d := (some 51)) (by kernel_rfl) rfl ?_
       refine Dr.takes (fuel' := 5) (is' := [9, 8, 7, 6, 4, 3, 2, 1, 0]) [9] [(0, (ptr b)), (1, (ptr r)), (5, (ptr b1)), (6, (Value.bool false)), (11, (i64 o.kind)), (43, (ptr b)), (45, (Value.string (str o.name))), (47, (i64 o.n)), (49, (ptr r)), (51, (Value.string (str o.name))), (52, (Value.pointer (some ⟨b1, 3, none⟩)))] (by kernel_rfl) rfl (by kernel_rfl) ?_
       refine Dr.take (i := 10) (v := (i64 o.n)) (by kernel_rfl) (by kernel_rfl) (fun wz hS => Runs.load (t := 2) (a := ⟨b1, 3, none⟩) (by kernel_rfl) ((H4.keep hS (by intro h; change ((Value.slice A S.length c)).ownBlock = some b1 ∨ b1 = mb ∨ b1 = r at h; rcases h with h | h | h; (have := ob7 b1 h; omega); (omega); (omega))).loads (by kernel_rfl))) (d := (some 53)) (by kernel_rfl) rfl ?_
       refine Dr.call (i := 5) (by kernel_rfl) (by kernel_rfl) (d := (some 48)) (by kernel_rfl) (fun _ => Take_calls _ b mb m S o.name o.n Hb Hm (by omega) hB (by omega)) ?_
       rintro _ w128 ⟨m127, rfl, K129, H130, hB131⟩
       have hl132 := hB131.len
       replace K0 := K0.trans K129 (U := (fun i => i = mb ∨ i = r ∨ ((Value.slice A S.length c)).ownBlock = some i)) (fun i h1 h2 => h2) (fun i h1 h2 => by have h2 : i = mb := h2; exact .inl h2)
       replace Hb := Hb.keep K129 (by intro h; change b = mb at h; omega)
       replace Hr := Hr.keep K129 (by intro h; change r = mb at h; omega)
       replace H4 := H4.keep K129 (by intro h; change b1 = mb at h; omega)
       replace hO := own_keep hO K129 (fun i hi hs => by have hs : i = mb := hs; have := hom i hi; omega)
       refine ⟨_, _, rfl, rfl, (K129.mono (fun i _ h => by have h : i = mb := h; show ((Value.slice A S.length c)).ownBlock = some i ∨ i = mb ∨ i = r; exact (.inr (.inl h)))), ?_⟩
       refine Dr.strong (S' := (fun wz => Keeps (fun i => ((Value.slice A S.length c)).ownBlock = some i ∨ i = mb ∨ i = r) w128 wz)) ((Keeps.refl w128).mono (fun _ _ h => h.elim)) (fun wz hx => K129.trans hx (fun i _ h => by have h : i = mb := h; show ((Value.slice A S.length c)).ownBlock = some i ∨ i = mb ∨ i = r; exact (.inr (.inl h))) (fun _ _ h => h)) ?_
       clear K129
       refine Dr.call (i := 11) (by kernel_rfl) (by kernel_rfl) (d := (some 54)) (by kernel_rfl) (fun _ => RTake_calls _ base r A c S o.name o.n Hr hO hor hS (by omega)) ?_
       rintro _ w135 ⟨A133, c134, rfl, K136, H137, hO138, hg139⟩
       have ob140 : ∀ i, ((Value.slice A133 ((chgS (takeF o.n) S o.name).length) c134)).ownBlock = some i → i ≠ b := fun i hi => by rcases hg139 i hi with h | h; (have := hob i h; omega); (have := Hb.lt; omega)
       have ob141 : ∀ i, ((Value.slice A133 ((chgS (takeF o.n) S o.name).length) c134)).ownBlock = some i → i ≠ mb := fun i hi => by rcases hg139 i hi with h | h; (have := hom i h; omega); (have := H130.lt; omega)
       have ob142 : ∀ i, ((Value.slice A133 ((chgS (takeF o.n) S o.name).length) c134)).ownBlock = some i → i ≠ r := fun i hi => by rcases hg139 i hi with h | h; (have := hor i h; omega); (have := Hr.lt; omega)
       have ob143 : ∀ i, ((Value.slice A133 ((chgS (takeF o.n) S o.name).length) c134)).ownBlock = some i → i ≠ b1 := fun i hi => by rcases hg139 i hi with h | h; (have := ob7 i h; omega); (have := H4.lt; omega)
       have hgw144 : ∀ i, ((Value.slice A133 ((chgS (takeF o.n) S o.name).length) c134)).ownBlock = some i → ((Value.slice A S.length c)).ownBlock = some i ∨ w.heap.size ≤ i := fun i hi => (hg139 i hi).elim .inl fun h => .inr (Nat.le_trans K0.size h)
       replace K0 := K0.trans K136 (U := (fun i => i = mb ∨ i = r ∨ ((Value.slice A S.length c)).ownBlock = some i)) (fun i h1 h2 => h2) (fun i h1 h2 => by have h2 : i = r ∨ ((Value.slice A S.length c)).ownBlock = some i := h2; rcases h2 with h2 | h2; (exact .inr (.inl h2)); (exact .inr (.inr (h2))))
       replace Hb := Hb.keep K136 (by intro h; change b = r ∨ ((Value.slice A S.length c)).ownBlock = some b at h; rcases h with h | h; (omega); (have := hob b h; omega))
       replace H130 := H130.keep K136 (by intro h; change mb = r ∨ ((Value.slice A S.length c)).ownBlock = some mb at h; rcases h with h | h; (omega); (have := hom mb h; omega))
       replace H4 := H4.keep K136 (by intro h; change b1 = r ∨ ((Value.slice A S.length c)).ownBlock = some b1 at h; rcases h with h | h; (omega); (have := ob7 b1 h; omega))
       clear hO
       refine ⟨_, _, rfl, rfl, (K136.mono (fun i _ h => by have h : i = r ∨ ((Value.slice A S.length c)).ownBlock = some i := h; show ((Value.slice A S.length c)).ownBlock = some i ∨ i = mb ∨ i = r; rcases h with h | h; (exact (.inr (.inr h))); (exact (.inl h)))), ?_⟩
       refine Dr.strong (S' := (fun wz => Keeps (fun i => ((Value.slice A S.length c)).ownBlock = some i ∨ i = mb ∨ i = r) w135 wz)) ((Keeps.refl w135).mono (fun _ _ h => h.elim)) (fun wz hx => K136.trans hx (fun i _ h => by have h : i = r ∨ ((Value.slice A S.length c)).ownBlock = some i := h; show ((Value.slice A S.length c)).ownBlock = some i ∨ i = mb ∨ i = r; rcases h with h | h; (exact (.inr (.inr h))); (exact (.inl h))) (fun _ _ h => h)) ?_
       clear K136
       refine Dr.takes (fuel' := 0) (is' := [13, 12, 11, 5, 10, 9, 8, 7, 6, 4, 3, 2, 1, 0]) [12, 13] [(0, (ptr b)), (1, (ptr r)), (5, (ptr b1)), (6, (Value.bool ((chgE (takeF o.n) S o.name) == (chgE (takeF o.n) S o.name)))), (11, (i64 o.kind))] (by kernel_rfl) rfl (by kernel_rfl) ?_
       refine Dr.done (by kernel_rfl) ?_
       refine q_ret (by kernel_rfl) ?_
       refine ⟨(Value.bool ((chgE (takeF o.n) S o.name) == (chgE (takeF o.n) S o.name))), retv_tmp rfl rfl, ?_⟩
       exact ⟨_, _, _, _, by rw [show ((chgE (takeF o.n) S o.name) == (chgE (takeF o.n) S o.name)) = true from by simp], K0, H130, hB131, H137, hO138, hgw144⟩
      ·rw [h123]
       have p145 : ¬ (o.kind = 5) := of_beq_f h123
       refine qs ?_
       refine qg ?_
       refine og 2 [(0, (ptr b)), (1, (ptr r)), (5, (ptr b1)), (6, (Value.bool false)), (11, (i64 o.kind)), (56, (Value.bool (o.kind == 6)))] 2 ?_
       refine od ?_
       refine q_cond (o := .tmp 56) (b := (o.kind == 6)) (by kernel_rfl) rfl (fun h146 => ?_) (fun h146 => ?_)
       ·rw [h146]
        have p147 : o.kind = 6 := of_beq_t h146
        refine qs ?_
        refine q_draw (fun wz => Keeps (fun i => ((Value.slice A S.length c)).ownBlock = some i ∨ i = mb ∨ i = r) w2 wz) 14 (by kernel_rfl) (by kernel_rfl) (by kernel_rfl) (fun w148 K149 _ _ => ⟨(K149.mono (fun _ _ h => h.elim)), ?_⟩)
        replace K0 := K0.trans K149 (U := (fun i => i = mb ∨ i = r ∨ ((Value.slice A S.length c)).ownBlock = some i)) (fun i h1 h2 => h2) (fun i h1 h2 => by exact h2.elim)
        replace Hb := Hb.keep K149 (fun h => h)
        replace Hm := Hm.keep K149 (fun h => h)
        replace Hr := Hr.keep K149 (fun h => h)
        replace H4 := H4.keep K149 (fun h => h)
        replace hO := own_keep0 hO K149
        refine Dr.strong (S' := (fun wz => Keeps (fun i => ((Value.slice A S.length c)).ownBlock = some i ∨ i = mb ∨ i = r) w148 wz)) ((Keeps.refl w148).mono (fun _ _ h => h.elim)) (fun wz hx => K149.trans hx (fun i _ h => h.elim) (fun _ _ h => h)) ?_
        clear K149
        refine Dr.takes (fuel' := 12) (is' := [1, 0]) [0, 1] [(0, (ptr b)), (1, (ptr r)), (5, (ptr b1)), (6, (Value.bool false)), (11, (i64 o.kind)), (58, (ptr b)), (59, (Value.pointer (some ⟨b1, 1, none⟩)))] (by kernel_rfl) rfl (by kernel_rfl) ?_
        refine Dr.take (i := 2) (v := (Value.string (str o.name))) (by kernel_rfl) (by kernel_rfl) (fun wz hS => Runs.load (t := 9) (a := ⟨b1, 1, none⟩) (by kernel_rfl) ((H4.keep hS (by intro h; change ((Value.slice A S.length c)).ownBlock = some b1 ∨ b1 = mb ∨ b1 = r at h; rcases h with h | h | h; (have := ob7 b1 h; omega); (omega); (omega))).loads (by kernel_rfl))) (d := (some 60)) (by kernel_rfl) rfl ?_
        refine Dr.takes (fuel' := 10) (is' := [3, 2, 1, 0]) [3] [(0, (ptr b)), (1, (ptr r)), (5, (ptr b1)), (6, (Value.bool false)), (11, (i64 o.kind)), (58, (ptr b)), (60, (Value.string (str o.name))), (61, (Value.pointer (some ⟨b1, 2, none⟩)))] (by kernel_rfl) rfl (by kernel_rfl) ?_
        refine Dr.take (i := 4) (v := (Value.string (str o.own))) (by kernel_rfl) (by kernel_rfl) (fun wz hS => Runs.load (t := 9) (a := ⟨b1, 2, none⟩) (by kernel_rfl) ((H4.keep hS (by intro h; change ((Value.slice A S.length c)).ownBlock = some b1 ∨ b1 = mb ∨ b1 = r at h; rcases h with h | h | h; (have := ob7 b1 h; omega); (omega); (omega))).loads (by kernel_rfl))) (d := (some 62)) (by kernel_rfl) rfl ?_
        refine Dr.takes (fuel' := 7) (is' := [7, 6, 4, 3, 2, 1, 0]) [6, 7] [(0, (ptr b)), (1, (ptr r)), (5, (ptr b1)), (6, (Value.bool false)), (11, (i64 o.kind)), (58, (ptr b)), (60, (Value.string (str o.name))), (62, (Value.string (str o.own))), (64, (ptr r)), (65, (Value.pointer (some ⟨b1, 1, none⟩)))] (by kernel_rfl) rfl (by kernel_rfl) ?_
        refine Dr.take (i := 8) (v := (Value.string (str o.name))) (by kernel_rfl) (by kernel_rfl) (fun wz hS => Runs.load (t := 9) (a := ⟨b1, 1, none⟩) (by kernel_rfl) ((H4.keep hS (by intro h; change ((Value.slice A S.length c)).ownBlock = some b1 ∨ b1 = mb ∨ b1 = r at h; rcases h with h | h | h; (have := ob7 b1 h; omega); (omega); (omega))).loads (by kernel_rfl))) (d := (some 66)) (by kernel_rfl) rfl ?_
        refine Dr.takes (fuel' := 5) (is' := [9, 8, 7, 6, 4, 3, 2, 1, 0]) [9] [(0, (ptr b)), (1, (ptr r)), (5, (ptr b1)), (6, (Value.bool false)), (11, (i64 o.kind)), (58, (ptr b)), (60, (Value.string (str o.name))), (62, (Value.string (str o.own))), (64, (ptr r)), (66, (Value.string (str o.name))), (67, (Value.pointer (some ⟨b1, 2, none⟩)))] (by kernel_rfl) rfl (by kernel_rfl) ?_
        refine Dr.take (i := 10) (v := (Value.string (str o.own))) (by kernel_rfl) (by kernel_rfl) (fun wz hS => Runs.load (t := 9) (a := ⟨b1, 2, none⟩) (by kernel_rfl) ((H4.keep hS (by intro h; change ((Value.slice A S.length c)).ownBlock = some b1 ∨ b1 = mb ∨ b1 = r at h; rcases h with h | h | h; (have := ob7 b1 h; omega); (omega); (omega))).loads (by kernel_rfl))) (d := (some 68)) (by kernel_rfl) rfl ?_
        refine Dr.call (i := 5) (by kernel_rfl) (by kernel_rfl) (d := (some 63)) (by kernel_rfl) (fun _ => Hold_calls _ b mb m S o.name o.own Hb Hm (by omega) hB) ?_
        rintro _ w151 ⟨m150, rfl, K152, H153, hB154⟩
        have hl155 := hB154.len
        replace K0 := K0.trans K152 (U := (fun i => i = mb ∨ i = r ∨ ((Value.slice A S.length c)).ownBlock = some i)) (fun i h1 h2 => h2) (fun i h1 h2 => by have h2 : i = mb := h2; exact .inl h2)
        replace Hb := Hb.keep K152 (by intro h; change b = mb at h; omega)
        replace Hr := Hr.keep K152 (by intro h; change r = mb at h; omega)
        replace H4 := H4.keep K152 (by intro h; change b1 = mb at h; omega)
        replace hO := own_keep hO K152 (fun i hi hs => by have hs : i = mb := hs; have := hom i hi; omega)
        refine ⟨_, _, rfl, rfl, (K152.mono (fun i _ h => by have h : i = mb := h; show ((Value.slice A S.length c)).ownBlock = some i ∨ i = mb ∨ i = r; exact (.inr (.inl h)))), ?_⟩
        refine Dr.strong (S' := (fun wz => Keeps (fun i => ((Value.slice A S.length c)).ownBlock = some i ∨ i = mb ∨ i = r) w151 wz)) ((Keeps.refl w151).mono (fun _ _ h => h.elim)) (fun wz hx => K152.trans hx (fun i _ h => by have h : i = mb := h; show ((Value.slice A S.length c)).ownBlock = some i ∨ i = mb ∨ i = r; exact (.inr (.inl h))) (fun _ _ h => h)) ?_
        clear K152
        refine Dr.call (i := 11) (by kernel_rfl) (by kernel_rfl) (d := (some 69)) (by kernel_rfl) (fun _ => RHold_calls _ base r A c S o.name o.own Hr hO hor hS) ?_
        rintro _ w158 ⟨A156, c157, rfl, K159, H160, hO161, hg162⟩
        have ob163 : ∀ i, ((Value.slice A156 ((chgS (holdF o.own) S o.name).length) c157)).ownBlock = some i → i ≠ b := fun i hi => by rcases hg162 i hi with h | h; (have := hob i h; omega); (have := Hb.lt; omega)
        have ob164 : ∀ i, ((Value.slice A156 ((chgS (holdF o.own) S o.name).length) c157)).ownBlock = some i → i ≠ mb := fun i hi => by rcases hg162 i hi with h | h; (have := hom i h; omega); (have := H153.lt; omega)
        have ob165 : ∀ i, ((Value.slice A156 ((chgS (holdF o.own) S o.name).length) c157)).ownBlock = some i → i ≠ r := fun i hi => by rcases hg162 i hi with h | h; (have := hor i h; omega); (have := Hr.lt; omega)
        have ob166 : ∀ i, ((Value.slice A156 ((chgS (holdF o.own) S o.name).length) c157)).ownBlock = some i → i ≠ b1 := fun i hi => by rcases hg162 i hi with h | h; (have := ob7 i h; omega); (have := H4.lt; omega)
        have hgw167 : ∀ i, ((Value.slice A156 ((chgS (holdF o.own) S o.name).length) c157)).ownBlock = some i → ((Value.slice A S.length c)).ownBlock = some i ∨ w.heap.size ≤ i := fun i hi => (hg162 i hi).elim .inl fun h => .inr (Nat.le_trans K0.size h)
        replace K0 := K0.trans K159 (U := (fun i => i = mb ∨ i = r ∨ ((Value.slice A S.length c)).ownBlock = some i)) (fun i h1 h2 => h2) (fun i h1 h2 => by have h2 : i = r ∨ ((Value.slice A S.length c)).ownBlock = some i := h2; rcases h2 with h2 | h2; (exact .inr (.inl h2)); (exact .inr (.inr (h2))))
        replace Hb := Hb.keep K159 (by intro h; change b = r ∨ ((Value.slice A S.length c)).ownBlock = some b at h; rcases h with h | h; (omega); (have := hob b h; omega))
        replace H153 := H153.keep K159 (by intro h; change mb = r ∨ ((Value.slice A S.length c)).ownBlock = some mb at h; rcases h with h | h; (omega); (have := hom mb h; omega))
        replace H4 := H4.keep K159 (by intro h; change b1 = r ∨ ((Value.slice A S.length c)).ownBlock = some b1 at h; rcases h with h | h; (omega); (have := ob7 b1 h; omega))
        clear hO
        refine ⟨_, _, rfl, rfl, (K159.mono (fun i _ h => by have h : i = r ∨ ((Value.slice A S.length c)).ownBlock = some i := h; show ((Value.slice A S.length c)).ownBlock = some i ∨ i = mb ∨ i = r; rcases h with h | h; (exact (.inr (.inr h))); (exact (.inl h)))), ?_⟩
        refine Dr.strong (S' := (fun wz => Keeps (fun i => ((Value.slice A S.length c)).ownBlock = some i ∨ i = mb ∨ i = r) w158 wz)) ((Keeps.refl w158).mono (fun _ _ h => h.elim)) (fun wz hx => K159.trans hx (fun i _ h => by have h : i = r ∨ ((Value.slice A S.length c)).ownBlock = some i := h; show ((Value.slice A S.length c)).ownBlock = some i ∨ i = mb ∨ i = r; rcases h with h | h; (exact (.inr (.inr h))); (exact (.inl h))) (fun _ _ h => h)) ?_
        clear K159
        refine Dr.takes (fuel' := 0) (is' := [13, 12, 11, 5, 10, 9, 8, 7, 6, 4, 3, 2, 1, 0]) [12, 13] [(0, (ptr b)), (1, (ptr r)), (5, (ptr b1)), (6, (Value.bool ((chgE (holdF o.own) S o.name) == (chgE (holdF o.own) S o.name)))), (11, (i64 o.kind))] (by kernel_rfl) rfl (by kernel_rfl) ?_
        refine Dr.done (by kernel_rfl) ?_
        refine q_ret (by kernel_rfl) ?_
        refine ⟨(Value.bool ((chgE (holdF o.own) S o.name) == (chgE (holdF o.own) S o.name))), retv_tmp rfl rfl, ?_⟩
        exact ⟨_, _, _, _, by rw [show ((chgE (holdF o.own) S o.name) == (chgE (holdF o.own) S o.name)) = true from by simp], K0, H153, hB154, H160, hO161, hgw167⟩
       ·rw [h146]
        have p168 : ¬ (o.kind = 6) := of_beq_f h146
        refine qs ?_
        refine qg ?_
        refine og 2 [(0, (ptr b)), (1, (ptr r)), (5, (ptr b1)), (6, (Value.bool false)), (11, (i64 o.kind)), (71, (Value.bool (o.kind == 7)))] 2 ?_
        refine od ?_
        refine q_cond (o := .tmp 71) (b := (o.kind == 7)) (by kernel_rfl) rfl (fun h169 => ?_) (fun h169 => ?_)
        ·rw [h169]
         have p170 : o.kind = 7 := of_beq_t h169
         refine qs ?_
         refine q_draw (fun wz => Keeps (fun i => ((Value.slice A S.length c)).ownBlock = some i ∨ i = mb ∨ i = r) w2 wz) 14 (by kernel_rfl) (by kernel_rfl) (by kernel_rfl) (fun w171 K172 _ _ => ⟨(K172.mono (fun _ _ h => h.elim)), ?_⟩)
         replace K0 := K0.trans K172 (U := (fun i => i = mb ∨ i = r ∨ ((Value.slice A S.length c)).ownBlock = some i)) (fun i h1 h2 => h2) (fun i h1 h2 => by exact h2.elim)
         replace Hb := Hb.keep K172 (fun h => h)
         replace Hm := Hm.keep K172 (fun h => h)
         replace Hr := Hr.keep K172 (fun h => h)
         replace H4 := H4.keep K172 (fun h => h)
         replace hO := own_keep0 hO K172
         refine Dr.strong (S' := (fun wz => Keeps (fun i => ((Value.slice A S.length c)).ownBlock = some i ∨ i = mb ∨ i = r) w171 wz)) ((Keeps.refl w171).mono (fun _ _ h => h.elim)) (fun wz hx => K172.trans hx (fun i _ h => h.elim) (fun _ _ h => h)) ?_
         clear K172
         refine Dr.takes (fuel' := 12) (is' := [1, 0]) [0, 1] [(0, (ptr b)), (1, (ptr r)), (5, (ptr b1)), (6, (Value.bool false)), (11, (i64 o.kind)), (73, (ptr b)), (74, (Value.pointer (some ⟨b1, 1, none⟩)))] (by kernel_rfl) rfl (by kernel_rfl) ?_
         refine Dr.take (i := 2) (v := (Value.string (str o.name))) (by kernel_rfl) (by kernel_rfl) (fun wz hS => Runs.load (t := 9) (a := ⟨b1, 1, none⟩) (by kernel_rfl) ((H4.keep hS (by intro h; change ((Value.slice A S.length c)).ownBlock = some b1 ∨ b1 = mb ∨ b1 = r at h; rcases h with h | h | h; (have := ob7 b1 h; omega); (omega); (omega))).loads (by kernel_rfl))) (d := (some 75)) (by kernel_rfl) rfl ?_
         refine Dr.takes (fuel' := 10) (is' := [3, 2, 1, 0]) [3] [(0, (ptr b)), (1, (ptr r)), (5, (ptr b1)), (6, (Value.bool false)), (11, (i64 o.kind)), (73, (ptr b)), (75, (Value.string (str o.name))), (76, (Value.pointer (some ⟨b1, 2, none⟩)))] (by kernel_rfl) rfl (by kernel_rfl) ?_
         refine Dr.take (i := 4) (v := (Value.string (str o.own))) (by kernel_rfl) (by kernel_rfl) (fun wz hS => Runs.load (t := 9) (a := ⟨b1, 2, none⟩) (by kernel_rfl) ((H4.keep hS (by intro h; change ((Value.slice A S.length c)).ownBlock = some b1 ∨ b1 = mb ∨ b1 = r at h; rcases h with h | h | h; (have := ob7 b1 h; omega); (omega); (omega))).loads (by kernel_rfl))) (d := (some 77)) (by kernel_rfl) rfl ?_
         refine Dr.takes (fuel' := 7) (is' := [7, 6, 4, 3, 2, 1, 0]) [6, 7] [(0, (ptr b)), (1, (ptr r)), (5, (ptr b1)), (6, (Value.bool false)), (11, (i64 o.kind)), (73, (ptr b)), (75, (Value.string (str o.name))), (77, (Value.string (str o.own))), (79, (ptr r)), (80, (Value.pointer (some ⟨b1, 1, none⟩)))] (by kernel_rfl) rfl (by kernel_rfl) ?_
         refine Dr.take (i := 8) (v := (Value.string (str o.name))) (by kernel_rfl) (by kernel_rfl) (fun wz hS => Runs.load (t := 9) (a := ⟨b1, 1, none⟩) (by kernel_rfl) ((H4.keep hS (by intro h; change ((Value.slice A S.length c)).ownBlock = some b1 ∨ b1 = mb ∨ b1 = r at h; rcases h with h | h | h; (have := ob7 b1 h; omega); (omega); (omega))).loads (by kernel_rfl))) (d := (some 81)) (by kernel_rfl) rfl ?_
         refine Dr.takes (fuel' := 5) (is' := [9, 8, 7, 6, 4, 3, 2, 1, 0]) [9] [(0, (ptr b)), (1, (ptr r)), (5, (ptr b1)), (6, (Value.bool false)), (11, (i64 o.kind)), (73, (ptr b)), (75, (Value.string (str o.name))), (77, (Value.string (str o.own))), (79, (ptr r)), (81, (Value.string (str o.name))), (82, (Value.pointer (some ⟨b1, 2, none⟩)))] (by kernel_rfl) rfl (by kernel_rfl) ?_
         refine Dr.take (i := 10) (v := (Value.string (str o.own))) (by kernel_rfl) (by kernel_rfl) (fun wz hS => Runs.load (t := 9) (a := ⟨b1, 2, none⟩) (by kernel_rfl) ((H4.keep hS (by intro h; change ((Value.slice A S.length c)).ownBlock = some b1 ∨ b1 = mb ∨ b1 = r at h; rcases h with h | h | h; (have := ob7 b1 h; omega); (omega); (omega))).loads (by kernel_rfl))) (d := (some 83)) (by kernel_rfl) rfl ?_
         refine Dr.call (i := 5) (by kernel_rfl) (by kernel_rfl) (d := (some 78)) (by kernel_rfl) (fun _ => Free_calls _ b mb m S o.name o.own Hb Hm (by omega) hB) ?_
         rintro _ w174 ⟨m173, rfl, K175, H176, hB177⟩
         have hl178 := hB177.len
         replace K0 := K0.trans K175 (U := (fun i => i = mb ∨ i = r ∨ ((Value.slice A S.length c)).ownBlock = some i)) (fun i h1 h2 => h2) (fun i h1 h2 => by have h2 : i = mb := h2; exact .inl h2)
         replace Hb := Hb.keep K175 (by intro h; change b = mb at h; omega)
         replace Hr := Hr.keep K175 (by intro h; change r = mb at h; omega)
         replace H4 := H4.keep K175 (by intro h; change b1 = mb at h; omega)
         replace hO := own_keep hO K175 (fun i hi hs => by have hs : i = mb := hs; have := hom i hi; omega)
         refine ⟨_, _, rfl, rfl, (K175.mono (fun i _ h => by have h : i = mb := h; show ((Value.slice A S.length c)).ownBlock = some i ∨ i = mb ∨ i = r; exact (.inr (.inl h)))), ?_⟩
         refine Dr.strong (S' := (fun wz => Keeps (fun i => ((Value.slice A S.length c)).ownBlock = some i ∨ i = mb ∨ i = r) w174 wz)) ((Keeps.refl w174).mono (fun _ _ h => h.elim)) (fun wz hx => K175.trans hx (fun i _ h => by have h : i = mb := h; show ((Value.slice A S.length c)).ownBlock = some i ∨ i = mb ∨ i = r; exact (.inr (.inl h))) (fun _ _ h => h)) ?_
         clear K175
         refine Dr.call (i := 11) (by kernel_rfl) (by kernel_rfl) (d := (some 84)) (by kernel_rfl) (fun _ => RFree_calls _ base r A c S o.name o.own Hr hO hor hS) ?_
         rintro _ w181 ⟨A179, c180, rfl, K182, H183, hO184, hg185⟩
         have ob186 : ∀ i, ((Value.slice A179 ((chgS (freeF o.own) S o.name).length) c180)).ownBlock = some i → i ≠ b := fun i hi => by rcases hg185 i hi with h | h; (have := hob i h; omega); (have := Hb.lt; omega)
         have ob187 : ∀ i, ((Value.slice A179 ((chgS (freeF o.own) S o.name).length) c180)).ownBlock = some i → i ≠ mb := fun i hi => by rcases hg185 i hi with h | h; (have := hom i h; omega); (have := H176.lt; omega)
         have ob188 : ∀ i, ((Value.slice A179 ((chgS (freeF o.own) S o.name).length) c180)).ownBlock = some i → i ≠ r := fun i hi => by rcases hg185 i hi with h | h; (have := hor i h; omega); (have := Hr.lt; omega)
         have ob189 : ∀ i, ((Value.slice A179 ((chgS (freeF o.own) S o.name).length) c180)).ownBlock = some i → i ≠ b1 := fun i hi => by rcases hg185 i hi with h | h; (have := ob7 i h; omega); (have := H4.lt; omega)
         have hgw190 : ∀ i, ((Value.slice A179 ((chgS (freeF o.own) S o.name).length) c180)).ownBlock = some i → ((Value.slice A S.length c)).ownBlock = some i ∨ w.heap.size ≤ i := fun i hi => (hg185 i hi).elim .inl fun h => .inr (Nat.le_trans K0.size h)
         replace K0 := K0.trans K182 (U := (fun i => i = mb ∨ i = r ∨ ((Value.slice A S.length c)).ownBlock = some i)) (fun i h1 h2 => h2) (fun i h1 h2 => by have h2 : i = r ∨ ((Value.slice A S.length c)).ownBlock = some i := h2; rcases h2 with h2 | h2; (exact .inr (.inl h2)); (exact .inr (.inr (h2))))
         replace Hb := Hb.keep K182 (by intro h; change b = r ∨ ((Value.slice A S.length c)).ownBlock = some b at h; rcases h with h | h; (omega); (have := hob b h; omega))
         replace H176 := H176.keep K182 (by intro h; change mb = r ∨ ((Value.slice A S.length c)).ownBlock = some mb at h; rcases h with h | h; (omega); (have := hom mb h; omega))
         replace H4 := H4.keep K182 (by intro h; change b1 = r ∨ ((Value.slice A S.length c)).ownBlock = some b1 at h; rcases h with h | h; (omega); (have := ob7 b1 h; omega))
         clear hO
         refine ⟨_, _, rfl, rfl, (K182.mono (fun i _ h => by have h : i = r ∨ ((Value.slice A S.length c)).ownBlock = some i := h; show ((Value.slice A S.length c)).ownBlock = some i ∨ i = mb ∨ i = r; rcases h with h | h; (exact (.inr (.inr h))); (exact (.inl h)))), ?_⟩
         refine Dr.strong (S' := (fun wz => Keeps (fun i => ((Value.slice A S.length c)).ownBlock = some i ∨ i = mb ∨ i = r) w181 wz)) ((Keeps.refl w181).mono (fun _ _ h => h.elim)) (fun wz hx => K182.trans hx (fun i _ h => by have h : i = r ∨ ((Value.slice A S.length c)).ownBlock = some i := h; show ((Value.slice A S.length c)).ownBlock = some i ∨ i = mb ∨ i = r; rcases h with h | h; (exact (.inr (.inr h))); (exact (.inl h))) (fun _ _ h => h)) ?_
         clear K182
         refine Dr.takes (fuel' := 0) (is' := [13, 12, 11, 5, 10, 9, 8, 7, 6, 4, 3, 2, 1, 0]) [12, 13] [(0, (ptr b)), (1, (ptr r)), (5, (ptr b1)), (6, (Value.bool ((chgE (freeF o.own) S o.name) == (chgE (freeF o.own) S o.name)))), (11, (i64 o.kind))] (by kernel_rfl) rfl (by kernel_rfl) ?_
         refine Dr.done (by kernel_rfl) ?_
         refine q_ret (by kernel_rfl) ?_
         refine ⟨(Value.bool ((chgE (freeF o.own) S o.name) == (chgE (freeF o.own) S o.name))), retv_tmp rfl rfl, ?_⟩
         exact ⟨_, _, _, _, by rw [show ((chgE (freeF o.own) S o.name) == (chgE (freeF o.own) S o.name)) = true from by simp], K0, H176, hB177, H183, hO184, hgw190⟩
        ·rw [h169]
         have p191 : ¬ (o.kind = 7) := of_beq_f h169
         refine qs ?_
         refine qg ?_
         refine og 2 [(0, (ptr b)), (1, (ptr r)), (5, (ptr b1)), (6, (Value.bool false)), (11, (i64 o.kind)), (86, (Value.bool (o.kind == 8)))] 2 ?_
         refine od ?_
         refine q_cond (o := .tmp 86) (b := (o.kind == 8)) (by kernel_rfl) rfl (fun h192 => ?_) (fun h192 => ?_)
         ·rw [h192]
          have p193 : o.kind = 8 := of_beq_t h192
          refine qs ?_
          refine qg ?_
          refine og 1 [(0, (ptr b)), (1, (ptr r)), (5, (ptr b1)), (6, (Value.bool false)), (11, (i64 o.kind)), (88, (Value.pointer (some ⟨b1, 1, none⟩)))] 1 ?_
          refine Ops.go (v := (Value.string (str o.name))) (by kernel_rfl) (Runs.load (t := 9) (a := ⟨b1, 1, none⟩) (by kernel_rfl) (H4.loads (by kernel_rfl))) (d := (some 89)) (by kernel_rfl) rfl ?_
          refine og 1 [(0, (ptr b)), (1, (ptr r)), (5, (ptr b1)), (6, (Value.bool false)), (11, (i64 o.kind)), (89, (Value.string (str o.name))), (90, (Value.pointer (some ⟨b1, 3, none⟩)))] 3 ?_
          refine Ops.go (v := (i64 o.n)) (by kernel_rfl) (Runs.load (t := 2) (a := ⟨b1, 3, none⟩) (by kernel_rfl) (H4.loads (by kernel_rfl))) (d := (some 91)) (by kernel_rfl) rfl ?_
          refine og 1 [(0, (ptr b)), (1, (ptr r)), (5, (ptr b1)), (6, (Value.bool false)), (11, (i64 o.kind)), (92, (agg [(Value.string (str o.name)), (i64 o.n)]))] 5 ?_
          refine Ops.new (o := rowL [(Value.string ByteArray.empty), (i64 0)] 52) (V := fun b => (ptr b)) (by kernel_rfl) (d := (some 7)) (by kernel_rfl) (fun b => rfl) (fun b194 w195 hb196 H197 K198 hs199 => ?_)
          have lb194b : b < b194 := by have := Hb.lt; omega
          have lb194mb : mb < b194 := by have := Hm.lt; omega
          have lb194r : r < b194 := by have := Hr.lt; omega
          have lb194b1 : b1 < b194 := by have := H4.lt; omega
          have nb194 : w.heap.size ≤ b194 := by have := K0.size; omega
          have ob200 : ∀ i, ((Value.slice A S.length c)).ownBlock = some i → i < b194 := fun i hi => by have := (World.ownsRow.lt hO i hi).2; omega
          replace K0 := K0.trans K198 (U := (fun i => i = mb ∨ i = r ∨ ((Value.slice A S.length c)).ownBlock = some i)) (fun i h1 h2 => h2) (fun i h1 h2 => by exact h2.elim)
          replace Hb := Hb.keep K198 (fun h => h)
          replace Hm := Hm.keep K198 (fun h => h)
          replace Hr := Hr.keep K198 (fun h => h)
          replace H4 := H4.keep K198 (fun h => h)
          replace hO := own_keep0 hO K198
          clear K198 hs199
          refine Ops.put (t := 52) (b := b194) (off := 0) (v := (agg [(Value.string (str o.name)), (i64 o.n)])) (ys := [(Value.string (str o.name)), (i64 o.n)]) (by kernel_rfl) (by kernel_rfl) H197 (by kernel_rfl) (d := none) (by kernel_rfl) rfl (fun w201 H202 K203 => ?_)
          clear H197
          replace K0 := K0.trans K203 (U := (fun i => i = mb ∨ i = r ∨ ((Value.slice A S.length c)).ownBlock = some i)) (fun i h1 h2 => h2) (fun i h1 h2 => by have h2 : i = b194 := h2; exfalso; omega)
          replace Hb := Hb.keep K203 (by intro h; change b = b194 at h; omega)
          replace Hm := Hm.keep K203 (by intro h; change mb = b194 at h; omega)
          replace Hr := Hr.keep K203 (by intro h; change r = b194 at h; omega)
          replace H4 := H4.keep K203 (by intro h; change b1 = b194 at h; omega)
          replace hO := own_keep hO K203 (fun i hi hs => by have hs : i = b194 := hs; have := ob200 i hi; omega)
          clear K203
          refine od ?_
          refine qs ?_
          refine q_draw (fun wz => Keeps (fun i => ((Value.slice A S.length c)).ownBlock = some i ∨ i = mb ∨ i = r) w201 wz) 8 (by kernel_rfl) (by kernel_rfl) (by kernel_rfl) (fun w204 K205 _ _ => ⟨(K205.mono (fun _ _ h => h.elim)), ?_⟩)
          replace K0 := K0.trans K205 (U := (fun i => i = mb ∨ i = r ∨ ((Value.slice A S.length c)).ownBlock = some i)) (fun i h1 h2 => h2) (fun i h1 h2 => by exact h2.elim)
          replace Hb := Hb.keep K205 (fun h => h)
          replace Hm := Hm.keep K205 (fun h => h)
          replace Hr := Hr.keep K205 (fun h => h)
          replace H4 := H4.keep K205 (fun h => h)
          replace H202 := H202.keep K205 (fun h => h)
          replace hO := own_keep0 hO K205
          refine Dr.strong (S' := (fun wz => Keeps (fun i => ((Value.slice A S.length c)).ownBlock = some i ∨ i = mb ∨ i = r) w204 wz)) ((Keeps.refl w204).mono (fun _ _ h => h.elim)) (fun wz hx => K205.trans hx (fun i _ h => h.elim) (fun _ _ h => h)) ?_
          clear K205
          refine Dr.takes (fuel' := 7) (is' := [0]) [0] [(0, (ptr b)), (1, (ptr r)), (5, (ptr b1)), (6, (Value.bool false)), (7, (ptr b194)), (11, (i64 o.kind)), (93, (ptr b))] (by kernel_rfl) rfl (by kernel_rfl) ?_
          refine Dr.take (i := 1) (v := (agg [(Value.string (str o.name)), (i64 o.n)])) (by kernel_rfl) (by kernel_rfl) (fun wz hS => Runs.load (t := 52) (a := ⟨b194, 0, none⟩) (by kernel_rfl) ((H202.keep hS (by intro h; change ((Value.slice A S.length c)).ownBlock = some b194 ∨ b194 = mb ∨ b194 = r at h; rcases h with h | h | h; (have := ob200 b194 h; omega); (omega); (omega))).loads (by kernel_rfl))) (d := (some 94)) (by kernel_rfl) rfl ?_
          refine Dr.takes (fuel' := 5) (is' := [3, 1, 0]) [3] [(0, (ptr b)), (1, (ptr r)), (5, (ptr b1)), (6, (Value.bool false)), (7, (ptr b194)), (11, (i64 o.kind)), (93, (ptr b)), (94, (agg [(Value.string (str o.name)), (i64 o.n)])), (96, (ptr r))] (by kernel_rfl) rfl (by kernel_rfl) ?_
          refine Dr.take (i := 4) (v := (agg [(Value.string (str o.name)), (i64 o.n)])) (by kernel_rfl) (by kernel_rfl) (fun wz hS => Runs.load (t := 52) (a := ⟨b194, 0, none⟩) (by kernel_rfl) ((H202.keep hS (by intro h; change ((Value.slice A S.length c)).ownBlock = some b194 ∨ b194 = mb ∨ b194 = r at h; rcases h with h | h | h; (have := ob200 b194 h; omega); (omega); (omega))).loads (by kernel_rfl))) (d := (some 97)) (by kernel_rfl) rfl ?_
          refine Dr.call (i := 2) (by kernel_rfl) (by kernel_rfl) (d := (some 95)) (by kernel_rfl) (fun _ => Put_calls _ b mb m S o.name o.n Hb Hm (by omega) hB (by omega)) ?_
          rintro _ w207 ⟨m206, rfl, K208, H209, hB210⟩
          have hl211 := hB210.len
          replace K0 := K0.trans K208 (U := (fun i => i = mb ∨ i = r ∨ ((Value.slice A S.length c)).ownBlock = some i)) (fun i h1 h2 => h2) (fun i h1 h2 => by have h2 : i = mb := h2; exact .inl h2)
          replace Hb := Hb.keep K208 (by intro h; change b = mb at h; omega)
          replace Hr := Hr.keep K208 (by intro h; change r = mb at h; omega)
          replace H4 := H4.keep K208 (by intro h; change b1 = mb at h; omega)
          replace H202 := H202.keep K208 (by intro h; change b194 = mb at h; omega)
          replace hO := own_keep hO K208 (fun i hi hs => by have hs : i = mb := hs; have := hom i hi; omega)
          refine ⟨_, _, rfl, rfl, (K208.mono (fun i _ h => by have h : i = mb := h; show ((Value.slice A S.length c)).ownBlock = some i ∨ i = mb ∨ i = r; exact (.inr (.inl h)))), ?_⟩
          refine Dr.strong (S' := (fun wz => Keeps (fun i => ((Value.slice A S.length c)).ownBlock = some i ∨ i = mb ∨ i = r) w207 wz)) ((Keeps.refl w207).mono (fun _ _ h => h.elim)) (fun wz hx => K208.trans hx (fun i _ h => by have h : i = mb := h; show ((Value.slice A S.length c)).ownBlock = some i ∨ i = mb ∨ i = r; exact (.inr (.inl h))) (fun _ _ h => h)) ?_
          clear K208
          refine Dr.call (i := 5) (by kernel_rfl) (by kernel_rfl) (d := (some 98)) (by kernel_rfl) (fun _ => RPut_calls _ base r A c S o.name o.n Hr hO hor hS (Nat.le_trans hbw K0.size) (by omega)) ?_
          rintro _ w214 ⟨A212, c213, rfl, K215, H216, hO217, hg218⟩
          have ob219 : ∀ i, ((Value.slice A212 ((putS S o.name o.n).length) c213)).ownBlock = some i → i ≠ b := fun i hi => by rcases hg218 i hi with h | h; (have := hob i h; omega); (have := Hb.lt; omega)
          have ob220 : ∀ i, ((Value.slice A212 ((putS S o.name o.n).length) c213)).ownBlock = some i → i ≠ mb := fun i hi => by rcases hg218 i hi with h | h; (have := hom i h; omega); (have := H209.lt; omega)
          have ob221 : ∀ i, ((Value.slice A212 ((putS S o.name o.n).length) c213)).ownBlock = some i → i ≠ r := fun i hi => by rcases hg218 i hi with h | h; (have := hor i h; omega); (have := Hr.lt; omega)
          have ob222 : ∀ i, ((Value.slice A212 ((putS S o.name o.n).length) c213)).ownBlock = some i → i ≠ b1 := fun i hi => by rcases hg218 i hi with h | h; (have := ob7 i h; omega); (have := H4.lt; omega)
          have ob223 : ∀ i, ((Value.slice A212 ((putS S o.name o.n).length) c213)).ownBlock = some i → i ≠ b194 := fun i hi => by rcases hg218 i hi with h | h; (have := ob200 i h; omega); (have := H202.lt; omega)
          have hgw224 : ∀ i, ((Value.slice A212 ((putS S o.name o.n).length) c213)).ownBlock = some i → ((Value.slice A S.length c)).ownBlock = some i ∨ w.heap.size ≤ i := fun i hi => (hg218 i hi).elim .inl fun h => .inr (Nat.le_trans K0.size h)
          replace K0 := K0.trans K215 (U := (fun i => i = mb ∨ i = r ∨ ((Value.slice A S.length c)).ownBlock = some i)) (fun i h1 h2 => h2) (fun i h1 h2 => by have h2 : i = r ∨ ((Value.slice A S.length c)).ownBlock = some i := h2; rcases h2 with h2 | h2; (exact .inr (.inl h2)); (exact .inr (.inr (h2))))
          replace Hb := Hb.keep K215 (by intro h; change b = r ∨ ((Value.slice A S.length c)).ownBlock = some b at h; rcases h with h | h; (omega); (have := hob b h; omega))
          replace H209 := H209.keep K215 (by intro h; change mb = r ∨ ((Value.slice A S.length c)).ownBlock = some mb at h; rcases h with h | h; (omega); (have := hom mb h; omega))
          replace H4 := H4.keep K215 (by intro h; change b1 = r ∨ ((Value.slice A S.length c)).ownBlock = some b1 at h; rcases h with h | h; (omega); (have := ob7 b1 h; omega))
          replace H202 := H202.keep K215 (by intro h; change b194 = r ∨ ((Value.slice A S.length c)).ownBlock = some b194 at h; rcases h with h | h; (omega); (have := ob200 b194 h; omega))
          clear hO
          refine ⟨_, _, rfl, rfl, (K215.mono (fun i _ h => by have h : i = r ∨ ((Value.slice A S.length c)).ownBlock = some i := h; show ((Value.slice A S.length c)).ownBlock = some i ∨ i = mb ∨ i = r; rcases h with h | h; (exact (.inr (.inr h))); (exact (.inl h)))), ?_⟩
          refine Dr.strong (S' := (fun wz => Keeps (fun i => ((Value.slice A S.length c)).ownBlock = some i ∨ i = mb ∨ i = r) w214 wz)) ((Keeps.refl w214).mono (fun _ _ h => h.elim)) (fun wz hx => K215.trans hx (fun i _ h => by have h : i = r ∨ ((Value.slice A S.length c)).ownBlock = some i := h; show ((Value.slice A S.length c)).ownBlock = some i ∨ i = mb ∨ i = r; rcases h with h | h; (exact (.inr (.inr h))); (exact (.inl h))) (fun _ _ h => h)) ?_
          clear K215
          refine Dr.takes (fuel' := 0) (is' := [7, 6, 5, 2, 4, 3, 1, 0]) [6, 7] [(0, (ptr b)), (1, (ptr r)), (5, (ptr b1)), (6, (Value.bool ((putE S o.name o.n) == (putE S o.name o.n)))), (11, (i64 o.kind))] (by kernel_rfl) rfl (by kernel_rfl) ?_
          refine Dr.done (by kernel_rfl) ?_
          refine q_ret (by kernel_rfl) ?_
          refine ⟨(Value.bool ((putE S o.name o.n) == (putE S o.name o.n))), retv_tmp rfl rfl, ?_⟩
          exact ⟨_, _, _, _, by rw [show ((putE S o.name o.n) == (putE S o.name o.n)) = true from by simp], K0, H209, hB210, H216, hO217, hgw224⟩
         ·rw [h192]
          have p225 : ¬ (o.kind = 8) := of_beq_f h192
          refine qs ?_
          refine qg ?_
          refine og 2 [(0, (ptr b)), (1, (ptr r)), (5, (ptr b1)), (6, (Value.bool false)), (11, (i64 o.kind)), (100, (Value.bool (o.kind == 9)))] 2 ?_
          refine od ?_
          refine q_cond (o := .tmp 100) (b := (o.kind == 9)) (by kernel_rfl) rfl (fun h226 => ?_) (fun h226 => ?_)
          ·rw [h226]
           have p227 : o.kind = 9 := of_beq_t h226
           refine qs ?_
           refine q_draw (fun wz => Keeps (fun i => ((Value.slice A S.length c)).ownBlock = some i ∨ i = mb ∨ i = r) w2 wz) 10 (by kernel_rfl) (by kernel_rfl) (by kernel_rfl) (fun w228 K229 _ _ => ⟨(K229.mono (fun _ _ h => h.elim)), ?_⟩)
           replace K0 := K0.trans K229 (U := (fun i => i = mb ∨ i = r ∨ ((Value.slice A S.length c)).ownBlock = some i)) (fun i h1 h2 => h2) (fun i h1 h2 => by exact h2.elim)
           replace Hb := Hb.keep K229 (fun h => h)
           replace Hm := Hm.keep K229 (fun h => h)
           replace Hr := Hr.keep K229 (fun h => h)
           replace H4 := H4.keep K229 (fun h => h)
           replace hO := own_keep0 hO K229
           refine Dr.strong (S' := (fun wz => Keeps (fun i => ((Value.slice A S.length c)).ownBlock = some i ∨ i = mb ∨ i = r) w228 wz)) ((Keeps.refl w228).mono (fun _ _ h => h.elim)) (fun wz hx => K229.trans hx (fun i _ h => h.elim) (fun _ _ h => h)) ?_
           clear K229
           refine Dr.takes (fuel' := 8) (is' := [1, 0]) [0, 1] [(0, (ptr b)), (1, (ptr r)), (5, (ptr b1)), (6, (Value.bool false)), (11, (i64 o.kind)), (102, (ptr b)), (103, (Value.pointer (some ⟨b1, 4, none⟩)))] (by kernel_rfl) rfl (by kernel_rfl) ?_
           refine Dr.take (i := 2) (v := (i64 o.slot)) (by kernel_rfl) (by kernel_rfl) (fun wz hS => Runs.load (t := 3) (a := ⟨b1, 4, none⟩) (by kernel_rfl) ((H4.keep hS (by intro h; change ((Value.slice A S.length c)).ownBlock = some b1 ∨ b1 = mb ∨ b1 = r at h; rcases h with h | h | h; (have := ob7 b1 h; omega); (omega); (omega))).loads (by kernel_rfl))) (d := (some 104)) (by kernel_rfl) rfl ?_
           refine Dr.takes (fuel' := 5) (is' := [5, 4, 2, 1, 0]) [4, 5] [(0, (ptr b)), (1, (ptr r)), (6, (Value.bool false)), (11, (i64 o.kind)), (102, (ptr b)), (104, (i64 o.slot)), (106, (ptr r)), (107, (Value.pointer (some ⟨b1, 4, none⟩)))] (by kernel_rfl) rfl (by kernel_rfl) ?_
           refine Dr.take (i := 6) (v := (i64 o.slot)) (by kernel_rfl) (by kernel_rfl) (fun wz hS => Runs.load (t := 3) (a := ⟨b1, 4, none⟩) (by kernel_rfl) ((H4.keep hS (by intro h; change ((Value.slice A S.length c)).ownBlock = some b1 ∨ b1 = mb ∨ b1 = r at h; rcases h with h | h | h; (have := ob7 b1 h; omega); (omega); (omega))).loads (by kernel_rfl))) (d := (some 108)) (by kernel_rfl) rfl ?_
           refine Dr.call (i := 3) (by kernel_rfl) (by kernel_rfl) (d := (some 105)) (by kernel_rfl) (fun _ => Drop_calls _ b mb m S o.slot Hb Hm (by omega) hB) ?_
           rintro _ w231 ⟨m230, rfl, K232, H233, hB234⟩
           have hl235 := hB234.len
           replace K0 := K0.trans K232 (U := (fun i => i = mb ∨ i = r ∨ ((Value.slice A S.length c)).ownBlock = some i)) (fun i h1 h2 => h2) (fun i h1 h2 => by have h2 : i = mb := h2; exact .inl h2)
           replace Hb := Hb.keep K232 (by intro h; change b = mb at h; omega)
           replace Hr := Hr.keep K232 (by intro h; change r = mb at h; omega)
           replace H4 := H4.keep K232 (by intro h; change b1 = mb at h; omega)
           replace hO := own_keep hO K232 (fun i hi hs => by have hs : i = mb := hs; have := hom i hi; omega)
           refine ⟨_, _, rfl, rfl, (K232.mono (fun i _ h => by have h : i = mb := h; show ((Value.slice A S.length c)).ownBlock = some i ∨ i = mb ∨ i = r; exact (.inr (.inl h)))), ?_⟩
           refine Dr.strong (S' := (fun wz => Keeps (fun i => ((Value.slice A S.length c)).ownBlock = some i ∨ i = mb ∨ i = r) w231 wz)) ((Keeps.refl w231).mono (fun _ _ h => h.elim)) (fun wz hx => K232.trans hx (fun i _ h => by have h : i = mb := h; show ((Value.slice A S.length c)).ownBlock = some i ∨ i = mb ∨ i = r; exact (.inr (.inl h))) (fun _ _ h => h)) ?_
           clear K232
           refine Dr.call (i := 7) (by kernel_rfl) (by kernel_rfl) (d := (some 109)) (by kernel_rfl) (fun _ => RDrop_calls _ base r A c S o.slot Hr hO hor hS (Nat.le_trans hbw K0.size)) ?_
           rintro _ w238 ⟨A236, c237, rfl, K239, H240, hO241, hg242⟩
           have ob243 : ∀ i, ((Value.slice A236 ((dropS S o.slot).length) c237)).ownBlock = some i → i ≠ b := fun i hi => by rcases hg242 i hi with h | h; (have := hob i h; omega); (have := Hb.lt; omega)
           have ob244 : ∀ i, ((Value.slice A236 ((dropS S o.slot).length) c237)).ownBlock = some i → i ≠ mb := fun i hi => by rcases hg242 i hi with h | h; (have := hom i h; omega); (have := H233.lt; omega)
           have ob245 : ∀ i, ((Value.slice A236 ((dropS S o.slot).length) c237)).ownBlock = some i → i ≠ r := fun i hi => by rcases hg242 i hi with h | h; (have := hor i h; omega); (have := Hr.lt; omega)
           have ob246 : ∀ i, ((Value.slice A236 ((dropS S o.slot).length) c237)).ownBlock = some i → i ≠ b1 := fun i hi => by rcases hg242 i hi with h | h; (have := ob7 i h; omega); (have := H4.lt; omega)
           have hgw247 : ∀ i, ((Value.slice A236 ((dropS S o.slot).length) c237)).ownBlock = some i → ((Value.slice A S.length c)).ownBlock = some i ∨ w.heap.size ≤ i := fun i hi => (hg242 i hi).elim .inl fun h => .inr (Nat.le_trans K0.size h)
           replace K0 := K0.trans K239 (U := (fun i => i = mb ∨ i = r ∨ ((Value.slice A S.length c)).ownBlock = some i)) (fun i h1 h2 => h2) (fun i h1 h2 => by have h2 : i = r ∨ ((Value.slice A S.length c)).ownBlock = some i := h2; rcases h2 with h2 | h2; (exact .inr (.inl h2)); (exact .inr (.inr (h2))))
           replace Hb := Hb.keep K239 (by intro h; change b = r ∨ ((Value.slice A S.length c)).ownBlock = some b at h; rcases h with h | h; (omega); (have := hob b h; omega))
           replace H233 := H233.keep K239 (by intro h; change mb = r ∨ ((Value.slice A S.length c)).ownBlock = some mb at h; rcases h with h | h; (omega); (have := hom mb h; omega))
           replace H4 := H4.keep K239 (by intro h; change b1 = r ∨ ((Value.slice A S.length c)).ownBlock = some b1 at h; rcases h with h | h; (omega); (have := ob7 b1 h; omega))
           clear hO
           refine ⟨_, _, rfl, rfl, (K239.mono (fun i _ h => by have h : i = r ∨ ((Value.slice A S.length c)).ownBlock = some i := h; show ((Value.slice A S.length c)).ownBlock = some i ∨ i = mb ∨ i = r; rcases h with h | h; (exact (.inr (.inr h))); (exact (.inl h)))), ?_⟩
           refine Dr.strong (S' := (fun wz => Keeps (fun i => ((Value.slice A S.length c)).ownBlock = some i ∨ i = mb ∨ i = r) w238 wz)) ((Keeps.refl w238).mono (fun _ _ h => h.elim)) (fun wz hx => K239.trans hx (fun i _ h => by have h : i = r ∨ ((Value.slice A S.length c)).ownBlock = some i := h; show ((Value.slice A S.length c)).ownBlock = some i ∨ i = mb ∨ i = r; rcases h with h | h; (exact (.inr (.inr h))); (exact (.inl h))) (fun _ _ h => h)) ?_
           clear K239
           refine Dr.takes (fuel' := 0) (is' := [9, 8, 7, 3, 6, 5, 4, 2, 1, 0]) [8, 9] [(0, (ptr b)), (1, (ptr r)), (6, (Value.bool (((dropN S o.slot : Nat) : Int) == ((dropN S o.slot : Nat) : Int)))), (11, (i64 o.kind))] (by kernel_rfl) rfl (by kernel_rfl) ?_
           refine Dr.done (by kernel_rfl) ?_
           refine q_ret (by kernel_rfl) ?_
           refine ⟨(Value.bool (((dropN S o.slot : Nat) : Int) == ((dropN S o.slot : Nat) : Int))), retv_tmp rfl rfl, ?_⟩
           exact ⟨_, _, _, _, by rw [show (((dropN S o.slot : Nat) : Int) == ((dropN S o.slot : Nat) : Int)) = true from by simp], K0, H233, hB234, H240, hO241, hgw247⟩
          ·rw [h226]
           have p248 : ¬ (o.kind = 9) := of_beq_f h226
           refine qs ?_
           refine qg ?_
           refine og 2 [(0, (ptr b)), (1, (ptr r)), (6, (Value.bool false)), (111, (Value.bool (o.kind == 11)))] 2 ?_
           refine od ?_
           refine q_cond (o := .tmp 111) (b := (o.kind == 11)) (by kernel_rfl) rfl (fun h249 => ?_) (fun h249 => ?_)
           ·rw [h249]
            have p250 : o.kind = 11 := of_beq_t h249
            refine qs ?_
            refine qg ?_
            refine og 1 [(0, (ptr b)), (1, (ptr r)), (6, (Value.bool false)), (8, (i64 0))] 1 ?_
            refine od ?_
            refine q_block (id := 1) (by kernel_rfl) ?_
            refine q_keep (R := [(0, (ptr b)), (1, (ptr r)), (8, (i64 0))]) (by kernel_rfl) ?_
            refine q_loop (fun (gs : Nat × (List (List UInt8 × AccV)) × (List AccM) × (Option Addr) × Nat) L (wx : World) => match gs with | (q, mm, SS, VA, vc) => L = [(0, (ptr b)), (1, (ptr r)), (8, (i64 ((q : Nat) : Int)))] ∧ OwnT wx base 97 3 AccM.cells (Value.slice VA SS.length vc) SS ∧ (∀ i, ((Value.slice VA SS.length vc)).ownBlock = some i → i ≠ b) ∧ (∀ i, ((Value.slice VA SS.length vc)).ownBlock = some i → i ≠ mb) ∧ (∀ i, ((Value.slice VA SS.length vc)).ownBlock = some i → i ≠ r) ∧ q ≤ 201 ∧ Book mm SS ∧ (∀ i, (Value.slice VA SS.length vc).ownBlock = some i → (Value.slice A S.length c).ownBlock = some i ∨ w.heap.size ≤ i) ∧ Keeps (fun i => i = mb ∨ i = r ∨ ((Value.slice A S.length c)).ownBlock = some i) w wx ∧ Has wx b (rowL [(Value.map (some mb))] 66) ∧ HasMap wx mb kstr accv mm ∧ Has wx r (rowL [(Value.slice VA SS.length vc)] 43)) (fun (gs : Nat × (List (List UInt8 × AccV)) × (List AccM) × (Option Addr) × Nat) => match gs with | (q, mm, SS, VA, vc) => 201 - q) (0, m, S, A, c) (by kernel_rfl) ⟨rfl, hO, hob, hom, hor, Nat.zero_le _, hB, (fun _ h => .inl h), K0, Hb, Hm, Hr⟩ ?_
            clear Hb Hm Hr hO K0
            rintro ⟨q, mm, SS, VA, vc⟩ _ w251 ⟨rfl, hOV, obVb, obVmb, obVr, hi, hBm, hgw, K252, H253, H254, H255⟩
            refine qs ?_
            refine qs ?_
            refine qg ?_
            refine og 2 [(0, (ptr b)), (1, (ptr r)), (8, (i64 ((q : Nat) : Int))), (114, (Value.bool (decide (((q : Nat) : Int) < 201))))] 2 ?_
            refine od ?_
            refine q_cond (o := .tmp 114) (b := (decide (((q : Nat) : Int) < 201))) (by kernel_rfl) rfl (fun h256 => ?_) (fun h256 => ?_)
            ·rw [h256]
             have p257 : ((q : Nat) : Int) < 201 := of_decide_eq_true h256
             refine q_skip (by kernel_rfl) ?_
             refine qs ?_
             refine q_block (id := 2) (by kernel_rfl) ?_
             refine qs ?_
             refine qg ?_
             refine og 2 [(0, (ptr b)), (1, (ptr r)), (8, (i64 ((q : Nat) : Int))), (114, (Value.bool true)), (118, (i64 ((((q : Nat) : Int)).tmod 26)))] 2 ?_
             have e258 : (((q : Nat) : Int)).tmod 26 = ((q % 26 : Nat) : Int) := tmod_nat q 26
             rw [e258]
             clear e258
             refine og 1 [(0, (ptr b)), (1, (ptr r)), (8, (i64 ((q : Nat) : Int))), (114, (Value.bool true)), (119, (i64 (IntKind.i64.wrap (97 + ((q % 26 : Nat) : Int)))))] 3 ?_
             have e259 : IntKind.i64.wrap (97 + ((q % 26 : Nat) : Int)) = ((97 + (q % 26) : Nat) : Int) := by rw [wrap_i64 (by omega) (by omega)]; omega
             rw [e259]
             clear e259
             refine og 1 [(0, (ptr b)), (1, (ptr r)), (8, (i64 ((q : Nat) : Int))), (114, (Value.bool true)), (120, (Value.int IntKind.u8 (IntKind.u8.wrap ((97 + (q % 26) : Nat) : Int))))] 4 ?_
             have e260 : IntKind.u8.wrap ((97 + (q % 26) : Nat) : Int) = (((97 + (q % 26)) % 256 : Nat) : Int) := u8_wrap (97 + (q % 26))
             rw [e260]
             clear e260
             refine og 2 [(0, (ptr b)), (1, (ptr r)), (8, (i64 ((q : Nat) : Int))), (114, (Value.bool true)), (120, (Value.int IntKind.u8 (((97 + (q % 26)) % 256 : Nat) : Int))), (122, (i64 (IntKind.i64.wrap ((((q : Nat) : Int)).tdiv 26))))] 6 ?_
             have e261 : IntKind.i64.wrap ((((q : Nat) : Int)).tdiv 26) = ((q / 26 : Nat) : Int) := (congrArg (IntKind.i64.wrap ·) (tdiv_nat q 26)).trans (wrap_i64 (by omega) (by omega))
             rw [e261]
             clear e261
             refine og 1 [(0, (ptr b)), (1, (ptr r)), (8, (i64 ((q : Nat) : Int))), (114, (Value.bool true)), (120, (Value.int IntKind.u8 (((97 + (q % 26)) % 256 : Nat) : Int))), (123, (i64 (IntKind.i64.wrap (97 + ((q / 26 : Nat) : Int)))))] 7 ?_
             have e262 : IntKind.i64.wrap (97 + ((q / 26 : Nat) : Int)) = ((97 + (q / 26) : Nat) : Int) := by rw [wrap_i64 (by omega) (by omega)]; omega
             rw [e262]
             clear e262
             refine og 1 [(0, (ptr b)), (1, (ptr r)), (8, (i64 ((q : Nat) : Int))), (114, (Value.bool true)), (120, (Value.int IntKind.u8 (((97 + (q % 26)) % 256 : Nat) : Int))), (124, (Value.int IntKind.u8 (IntKind.u8.wrap ((97 + (q / 26) : Nat) : Int))))] 8 ?_
             have e263 : IntKind.u8.wrap ((97 + (q / 26) : Nat) : Int) = (((97 + (q / 26)) % 256 : Nat) : Int) := u8_wrap (97 + (q / 26))
             rw [e263]
             clear e263
             refine Ops.new (o := rowL [(Value.int IntKind.u8 (((97 + (q % 26)) % 256 : Nat) : Int)), (Value.int IntKind.u8 (((97 + (q / 26)) % 256 : Nat) : Int))] 5) (V := fun b => (Value.slice (some ⟨b, 0, none⟩) 2 2)) (by kernel_rfl) (d := (some 125)) (by kernel_rfl) (fun b => rfl) (fun b264 w265 hb266 H267 K268 hs269 => ?_)
             have lb264b : b < b264 := by have := H253.lt; omega
             have lb264mb : mb < b264 := by have := H254.lt; omega
             have lb264r : r < b264 := by have := H255.lt; omega
             have nb264 : w.heap.size ≤ b264 := by have := K252.size; omega
             have ob270 : ∀ i, ((Value.slice VA SS.length vc)).ownBlock = some i → i < b264 := fun i hi => by have := (World.ownsRow.lt hOV i hi).2; omega
             replace K252 := K252.trans K268 (U := (fun i => i = mb ∨ i = r ∨ ((Value.slice A S.length c)).ownBlock = some i)) (fun i h1 h2 => h2) (fun i h1 h2 => by exact h2.elim)
             replace H253 := H253.keep K268 (fun h => h)
             replace H254 := H254.keep K268 (fun h => h)
             replace H255 := H255.keep K268 (fun h => h)
             replace hOV := own_keep0 hOV K268
             clear K268 hs269
             refine Ops.go (v := (Value.string (str [byte ((97 + (q % 26)) % 256), byte ((97 + (q / 26)) % 256)]))) (by kernel_rfl) (Runs.b2s (s := 22) (d := 9) (e := 5) (by kernel_rfl) (by kernel_rfl) (by kernel_rfl) (lit2 (by omega) (by omega) H267)) (d := (some 126)) (by kernel_rfl) rfl ?_
             refine Ops.go (v := (Value.string (str ([110] ++ [byte ((97 + (q % 26)) % 256), byte ((97 + (q / 26)) % 256)])))) (by kernel_rfl) (Runs.stradd (t := 9) (a := [110]) (b := [byte ((97 + (q % 26)) % 256), byte ((97 + (q / 26)) % 256)]) (by kernel_rfl) (Nat.le_of_ble_eq_true rfl)) (d := (some 127)) (by kernel_rfl) rfl ?_
             refine og 1 [(0, (ptr b)), (1, (ptr r)), (8, (i64 ((q : Nat) : Int))), (9, (Value.string (str ([110] ++ [byte ((97 + (q % 26)) % 256), byte ((97 + (q / 26)) % 256)])))), (114, (Value.bool true))] 12 ?_
             refine od ?_
             refine qs ?_
             refine qg ?_
             refine og 2 [(0, (ptr b)), (1, (ptr r)), (8, (i64 ((q : Nat) : Int))), (9, (Value.string (str ([110] ++ [byte ((97 + (q % 26)) % 256), byte ((97 + (q / 26)) % 256)])))), (114, (Value.bool true)), (128, (ptr b)), (129, (Value.string (str ([110] ++ [byte ((97 + (q % 26)) % 256), byte ((97 + (q / 26)) % 256)]))))] 2 ?_
             refine Ops.call (by kernel_rfl) (d := (some 130)) (by kernel_rfl) (Open_calls _ b mb mm SS ([110] ++ [byte ((97 + (q % 26)) % 256), byte ((97 + (q / 26)) % 256)]) H253 H254 (by omega) hBm) ?_
             rintro _ w272 ⟨m271, rfl, K273, H274, hB275⟩
             have hl276 := hB275.len
             refine ⟨_, _, rfl, rfl, ?_⟩
             replace K252 := K252.trans K273 (U := (fun i => i = mb ∨ i = r ∨ ((Value.slice A S.length c)).ownBlock = some i)) (fun i h1 h2 => h2) (fun i h1 h2 => by have h2 : i = mb := h2; exact .inl h2)
             replace H253 := H253.keep K273 (by intro h; change b = mb at h; omega)
             replace H255 := H255.keep K273 (by intro h; change r = mb at h; omega)
             replace H267 := H267.keep K273 (by intro h; change b264 = mb at h; omega)
             replace hOV := own_keep hOV K273 (fun i hi hs => by have hs : i = mb := hs; have := obVmb i hi; omega)
             clear K273
             refine og 2 [(0, (ptr b)), (1, (ptr r)), (8, (i64 ((q : Nat) : Int))), (9, (Value.string (str ([110] ++ [byte ((97 + (q % 26)) % 256), byte ((97 + (q / 26)) % 256)])))), (114, (Value.bool true)), (130, (i64 (putE SS ([110] ++ [byte ((97 + (q % 26)) % 256), byte ((97 + (q / 26)) % 256)]) 0))), (131, (ptr r)), (132, (Value.string (str ([110] ++ [byte ((97 + (q % 26)) % 256), byte ((97 + (q / 26)) % 256)]))))] 5 ?_
             refine Ops.call (by kernel_rfl) (d := (some 133)) (by kernel_rfl) (ROpen_calls _ base r VA vc SS ([110] ++ [byte ((97 + (q % 26)) % 256), byte ((97 + (q / 26)) % 256)]) H255 hOV obVr hBm.accs (Nat.le_trans hbw K252.size)) ?_
             rintro _ w279 ⟨A277, c278, rfl, K280, H281, hO282, hg283⟩
             have ob284 : ∀ i, ((Value.slice A277 ((putS SS ([110] ++ [byte ((97 + (q % 26)) % 256), byte ((97 + (q / 26)) % 256)]) 0).length) c278)).ownBlock = some i → i ≠ b := fun i hi => by rcases hg283 i hi with h | h; (have := obVb i h; omega); (have := H253.lt; omega)
             have ob285 : ∀ i, ((Value.slice A277 ((putS SS ([110] ++ [byte ((97 + (q % 26)) % 256), byte ((97 + (q / 26)) % 256)]) 0).length) c278)).ownBlock = some i → i ≠ mb := fun i hi => by rcases hg283 i hi with h | h; (have := obVmb i h; omega); (have := H274.lt; omega)
             have ob286 : ∀ i, ((Value.slice A277 ((putS SS ([110] ++ [byte ((97 + (q % 26)) % 256), byte ((97 + (q / 26)) % 256)]) 0).length) c278)).ownBlock = some i → i ≠ r := fun i hi => by rcases hg283 i hi with h | h; (have := obVr i h; omega); (have := H255.lt; omega)
             have ob287 : ∀ i, ((Value.slice A277 ((putS SS ([110] ++ [byte ((97 + (q % 26)) % 256), byte ((97 + (q / 26)) % 256)]) 0).length) c278)).ownBlock = some i → i ≠ b264 := fun i hi => by rcases hg283 i hi with h | h; (have := ob270 i h; omega); (have := H267.lt; omega)
             have hgw288 : ∀ i, ((Value.slice A277 ((putS SS ([110] ++ [byte ((97 + (q % 26)) % 256), byte ((97 + (q / 26)) % 256)]) 0).length) c278)).ownBlock = some i → ((Value.slice A S.length c)).ownBlock = some i ∨ w.heap.size ≤ i := fun i hi => (hg283 i hi).elim (fun h => hgw i h) fun h => .inr (Nat.le_trans K252.size h)
             refine ⟨_, _, rfl, rfl, ?_⟩
             replace K252 := K252.trans K280 (U := (fun i => i = mb ∨ i = r ∨ ((Value.slice A S.length c)).ownBlock = some i)) (fun i h1 h2 => h2) (fun i h1 h2 => by have h2 : i = r ∨ ((Value.slice VA SS.length vc)).ownBlock = some i := h2; rcases h2 with h2 | h2; (exact .inr (.inl h2)); (rcases hgw i h2 with h | h; (exact .inr (.inr (h))); (exfalso; omega)))
             replace H253 := H253.keep K280 (by intro h; change b = r ∨ ((Value.slice VA SS.length vc)).ownBlock = some b at h; rcases h with h | h; (omega); (have := obVb b h; omega))
             replace H274 := H274.keep K280 (by intro h; change mb = r ∨ ((Value.slice VA SS.length vc)).ownBlock = some mb at h; rcases h with h | h; (omega); (have := obVmb mb h; omega))
             replace H267 := H267.keep K280 (by intro h; change b264 = r ∨ ((Value.slice VA SS.length vc)).ownBlock = some b264 at h; rcases h with h | h; (omega); (have := ob270 b264 h; omega))
             clear hOV
             clear K280
             refine og 1 [(0, (ptr b)), (1, (ptr r)), (8, (i64 ((q : Nat) : Int))), (9, (Value.string (str ([110] ++ [byte ((97 + (q % 26)) % 256), byte ((97 + (q / 26)) % 256)])))), (114, (Value.bool true)), (134, (Value.bool ((putE SS ([110] ++ [byte ((97 + (q % 26)) % 256), byte ((97 + (q / 26)) % 256)]) 0) != (putE SS ([110] ++ [byte ((97 + (q % 26)) % 256), byte ((97 + (q / 26)) % 256)]) 0))))] 7 ?_
             refine od ?_
             have h289 : ((putE SS ([110] ++ [byte ((97 + (q % 26)) % 256), byte ((97 + (q / 26)) % 256)]) 0) != (putE SS ([110] ++ [byte ((97 + (q % 26)) % 256), byte ((97 + (q / 26)) % 256)]) 0)) = false := by simp
             rw [h289]
             refine q_else (o := .tmp 134) (by kernel_rfl) rfl ?_
             refine q_skip (by kernel_rfl) ?_
             refine qg ?_
             refine og 2 [(0, (ptr b)), (1, (ptr r)), (8, (i64 ((q : Nat) : Int))), (9, (Value.string (str ([110] ++ [byte ((97 + (q % 26)) % 256), byte ((97 + (q / 26)) % 256)])))), (114, (Value.bool true)), (116, (i64 (IntKind.i64.wrap (((q : Nat) : Int) + 1)))), (134, (Value.bool false))] 2 ?_
             have e290 : IntKind.i64.wrap (((q : Nat) : Int) + 1) = ((q + 1 : Nat) : Int) := by rw [wrap_i64 (by omega) (by omega)]; omega
             rw [e290]
             clear e290
             refine og 1 [(0, (ptr b)), (1, (ptr r)), (8, (i64 ((q + 1 : Nat) : Int))), (9, (Value.string (str ([110] ++ [byte ((97 + (q % 26)) % 256), byte ((97 + (q / 26)) % 256)])))), (114, (Value.bool true)), (134, (Value.bool false))] 3 ?_
             refine Ops.keep (R := [(0, (ptr b)), (1, (ptr r)), (8, (i64 ((q + 1 : Nat) : Int)))]) (by kernel_rfl) ?_
             refine od ?_
             exact ⟨(q + 1, m271, putS SS ([110] ++ [byte ((97 + (q % 26)) % 256), byte ((97 + (q / 26)) % 256)]) 0, A277, c278), ⟨rfl, hO282, ob284, ob285, ob286, (by omega), hB275, hgw288, K252, H253, H274, H281⟩, (show 201 - (q + 1) < 201 - q from by omega)⟩
            ·rw [h256]
             have p291 : ¬ (((q : Nat) : Int) < 201) := of_decide_eq_false h256
             refine q_exit (id := 1) (by kernel_rfl) ?_
             refine qs ?_
             refine qg ?_
             refine og 1 [(6, (Value.bool true))] 1 ?_
             refine od ?_
             refine q_ret (by kernel_rfl) ?_
             refine ⟨(Value.bool true), retv_tmp rfl rfl, ?_⟩
             exact ⟨_, _, _, _, rfl, K252, H254, hBm, H255, hOV, hgw⟩
           ·rw [h249]
            have p292 : ¬ (o.kind = 11) := of_beq_f h249
            refine q_skip (by kernel_rfl) ?_
            refine qs ?_
            refine qg ?_
            refine og 1 [(6, (Value.bool true))] 1 ?_
            refine od ?_
            refine q_ret (by kernel_rfl) ?_
            refine ⟨(Value.bool true), retv_tmp rfl rfl, ?_⟩
            exact ⟨_, _, _, _, rfl, K0, Hm, hB, Hr, hO, (fun _ h => .inl h)⟩
end Go.Proofs.YtooginpgclcldaaGreatDoor
