/- the reference's book: a slot is dropped -/
import Derived.Test.YtooginpgclcldaaGreatDoorProg
import Derived.Test.YtooginpgclcldaaGreatDoorRC
import Derived.Test.YtooginpgclcldaaGreatDoorLX
set_option linter.unusedVariables false
namespace Go.Proofs.YtooginpgclcldaaGreatDoor
open Go.Q Go.RowKit

theorem RDrop_calls (w : World) (base r : Nat) (A : Option Addr) (c : Nat) (S : List AccM) (k : Int) (Hr : Has w r (rowL [.slice A S.length c] 43)) (hO : OwnT w base 97 3 AccM.cells (.slice A S.length c) S) (hne : ∀ i, (Value.slice A S.length c).ownBlock = some i → i ≠ r) (hS : Accs S) (hbw : base ≤ w.heap.size) : Calls Tryz.prog 55 ⟨[(ptr r), (i64 k)]⟩ w (fun e w' => ∃ A' c', e = .returned (i64 ((dropN S k : Nat) : Int)) ∧ Keeps (fun i => i = r ∨ (Value.slice A S.length c).ownBlock = some i) w w' ∧ Has w' r (rowL [.slice A' (dropS S k).length c'] 43) ∧ OwnT w' base 97 3 AccM.cells (.slice A' (dropS S k).length c') (dropS S k) ∧ ∀ i, (Value.slice A' (dropS S k).length c').ownBlock = some i → (Value.slice A S.length c).ownBlock = some i ∨ w.heap.size ≤ i) := by
 have hR := OwnT.rd hO
 have Hrl := Hr.lt
 have hcap := RdT.len AccM.three (by decide) hR
 unfold maxLen at hcap
 have hSl := hS.len
 have K0 : Keeps (fun i => i = r) w w := (Keeps.refl w).mono (fun _ _ h => h.elim)
 refine q_calls Tryz.func55 (by kernel_rfl) (by kernel_rfl) ?_
 refine qs ?_
 refine qg ?_
 refine og 1 [(0, (ptr r)), (1, (i64 k)), (4, (i64 0))] 1 ?_
 refine od ?_
 refine qs ?_
 refine qg ?_
 refine og 1 [(0, (ptr r)), (1, (i64 k)), (4, (i64 0)), (5, (Value.slice none 0 0))] 1 ?_
 refine od ?_
 refine qs ?_
 refine qs ?_
 refine qg ?_
 refine og 1 [(0, (ptr r)), (1, (i64 k)), (4, (i64 0)), (5, (Value.slice none 0 0)), (6, (i64 0))] 1 ?_
 refine od ?_
 refine q_block (id := 0) (by kernel_rfl) ?_
 refine q_keep (R := [(0, (ptr r)), (1, (i64 k)), (4, (i64 0)), (5, (Value.slice none 0 0)), (6, (i64 0))]) (by kernel_rfl) ?_
 refine q_loop (fun (gs : (Option Addr) × Nat × Nat × (List AccM)) L (wx : World) => match gs with | (VA, vc, i, l) => L = [(0, (ptr r)), (1, (i64 k)), (4, (i64 0)), (5, (Value.slice VA l.length vc)), (6, (i64 ((i : Nat) : Int)))] ∧ OwnT wx base 97 3 AccM.cells (Value.slice A S.length c) S ∧ (∀ i, ((Value.slice A S.length c)).ownBlock = some i → i ≠ r) ∧ (∀ i, ((Value.slice VA l.length vc)).ownBlock = some i → ((Value.slice A S.length c)).ownBlock = some i → False) ∧ OwnT wx w.heap.size 97 3 AccM.cells (Value.slice VA l.length vc) l ∧ (∀ i, ((Value.slice VA l.length vc)).ownBlock = some i → i ≠ r) ∧ (∀ i, ((Value.slice A S.length c)).ownBlock = some i → ((Value.slice VA l.length vc)).ownBlock = some i → False) ∧ i ≤ S.length ∧ l.length ≤ i ∧ l = keepS (S.take i) k ∧ Keeps (fun i => i = r) w wx ∧ Has wx r (rowL [(Value.slice A S.length c)] 43)) (fun (gs : (Option Addr) × Nat × Nat × (List AccM)) => match gs with | (VA, vc, i, l) => S.length - i) (none, 0, 0, []) (by kernel_rfl) ⟨rfl, hO, hne, (fun _ h => by cases h), (OwnT.nil _ _ _ _ _), (fun i hi => by cases hi), (fun _ _ h => by cases h), Nat.zero_le _, Nat.zero_le _, rfl, K0, Hr⟩ ?_
 clear Hr hO K0
 rintro ⟨VA, vc, i, l⟩ _ w1 ⟨rfl, hON, obNr, ooNV, hOV, obVr, ooVN, hi, hli, hE, K2, H3⟩
 refine qs ?_
 refine qs ?_
 refine qg ?_
 refine og 4 [(0, (ptr r)), (1, (i64 k)), (4, (i64 0)), (5, (Value.slice VA l.length vc)), (6, (i64 ((i : Nat) : Int))), (8, (i64 ((i : Nat) : Int))), (11, (ptr r))] 4 ?_
 refine Ops.go (v := (Value.slice A S.length c)) (by kernel_rfl) (Runs.load (t := 41) (a := ⟨r, 0, none⟩) (by kernel_rfl) (H3.loads (by kernel_rfl))) (d := (some 12)) (by kernel_rfl) rfl ?_
 refine og 2 [(0, (ptr r)), (1, (i64 k)), (4, (i64 0)), (5, (Value.slice VA l.length vc)), (6, (i64 ((i : Nat) : Int))), (14, (Value.bool (decide (((i : Nat) : Int) < ((S.length : Nat) : Int)))))] 7 ?_
 refine od ?_
 refine q_cond (o := .tmp 14) (b := (decide (((i : Nat) : Int) < ((S.length : Nat) : Int)))) (by kernel_rfl) rfl (fun h4 => ?_) (fun h4 => ?_)
 ·rw [h4]
  have p5 : ((i : Nat) : Int) < ((S.length : Nat) : Int) := of_decide_eq_true h4
  obtain ⟨a, ha⟩ : ∃ y, S[i]? = some y := ⟨_, List.getElem?_eq_getElem (by omega)⟩
  have hao := hS.ok a (List.mem_of_getElem? ha)
  have hal := hao.len
  have hkt := keep_take k ha
  have hsl := slotB_lt a.name
  obtain ⟨rb6, ro7, hA8⟩ := Rd.addr (OwnT.rd hON) (by omega)
  refine q_skip (by kernel_rfl) ?_
  refine qs ?_
  refine q_block (id := 1) (by kernel_rfl) ?_
  refine qs ?_
  refine qg ?_
  refine og 3 [(0, (ptr r)), (1, (i64 k)), (4, (i64 0)), (5, (Value.slice VA l.length vc)), (6, (i64 ((i : Nat) : Int))), (14, (Value.bool true)), (19, (ptr r))] 3 ?_
  refine Ops.go (v := (Value.slice A S.length c)) (by kernel_rfl) (Runs.load (t := 41) (a := ⟨r, 0, none⟩) (by kernel_rfl) (H3.loads (by kernel_rfl))) (d := (some 20)) (by kernel_rfl) rfl ?_
  refine og 1 [(0, (ptr r)), (1, (i64 k)), (4, (i64 0)), (5, (Value.slice VA l.length vc)), (6, (i64 ((i : Nat) : Int))), (14, (Value.bool true)), (20, (Value.slice A S.length c)), (21, (i64 ((i : Nat) : Int)))] 5 ?_
  refine Ops.go (by kernel_rfl) (Runs.ixSliceE (k := IntKind.i64) (t := 41) (len := S.length) (cap := c) (s := 3) (off' := ro7 + i * 3) (i := ((i : Nat) : Int)) hA8 (by kernel_rfl) (by kernel_rfl) (by omega) (by omega) (by omega)) (d := (some 22)) (by kernel_rfl) rfl ?_
  refine og 1 [(0, (ptr r)), (1, (i64 k)), (4, (i64 0)), (5, (Value.slice VA l.length vc)), (6, (i64 ((i : Nat) : Int))), (14, (Value.bool true)), (23, (Value.pointer (some ⟨rb6, ro7 + i * 3, none⟩)))] 7 ?_
  refine Ops.go (v := (Value.string (str a.name))) (by kernel_rfl) (Runs.load (t := 9) (a := ⟨rb6, ro7 + i * 3, none⟩) (by kernel_rfl) (RdT.ldf (f := AccM.cells) (x := a) (o := 0) AccM.three (OwnT.rd hON) (by kernel_rfl) hA8 ha rfl)) (d := (some 24)) (by kernel_rfl) rfl ?_
  refine Ops.call (by kernel_rfl) (d := (some 25)) (by kernel_rfl) (RSlot_calls _ a.name (by omega)) ?_
  rintro _ w10 ⟨rfl, K9⟩
  refine ⟨_, _, rfl, rfl, ?_⟩
  replace K2 := K2.trans K9 (U := (fun i => i = r)) (fun i h1 h2 => h2) (fun i h1 h2 => by exact h2.elim)
  replace H3 := H3.keep K9 (fun h => h)
  replace hON := own_keep0 hON K9
  replace hOV := own_keep0 hOV K9
  clear K9
  refine og 2 [(0, (ptr r)), (1, (i64 k)), (4, (i64 0)), (5, (Value.slice VA l.length vc)), (6, (i64 ((i : Nat) : Int))), (14, (Value.bool true)), (27, (Value.bool (((slotB a.name : Nat) : Int) != k)))] 11 ?_
  refine od ?_
  refine q_cond (o := .tmp 27) (b := (((slotB a.name : Nat) : Int) != k)) (by kernel_rfl) rfl (fun h11 => ?_) (fun h11 => ?_)
  ·rw [h11]
   have p12 : ¬ (((slotB a.name : Nat) : Int) = k) := of_bne_t h11
   refine qg ?_
   refine og 4 [(0, (ptr r)), (1, (i64 k)), (4, (i64 0)), (5, (Value.slice VA l.length vc)), (6, (i64 ((i : Nat) : Int))), (14, (Value.bool true)), (27, (Value.bool true)), (28, (Value.slice VA l.length vc)), (31, (ptr r))] 4 ?_
   refine Ops.go (v := (Value.slice A S.length c)) (by kernel_rfl) (Runs.load (t := 41) (a := ⟨r, 0, none⟩) (by kernel_rfl) (H3.loads (by kernel_rfl))) (d := (some 32)) (by kernel_rfl) rfl ?_
   refine og 1 [(0, (ptr r)), (1, (i64 k)), (4, (i64 0)), (5, (Value.slice VA l.length vc)), (6, (i64 ((i : Nat) : Int))), (14, (Value.bool true)), (27, (Value.bool true)), (28, (Value.slice VA l.length vc)), (32, (Value.slice A S.length c)), (33, (i64 ((i : Nat) : Int)))] 6 ?_
   refine Ops.go (by kernel_rfl) (Runs.ixSliceE (k := IntKind.i64) (t := 41) (len := S.length) (cap := c) (s := 3) (off' := ro7 + i * 3) (i := ((i : Nat) : Int)) hA8 (by kernel_rfl) (by kernel_rfl) (by omega) (by omega) (by omega)) (d := (some 34)) (by kernel_rfl) rfl ?_
   refine Ops.go (v := (agg [(Value.string (str a.name)), (i64 a.amt), (Value.string (str a.own))])) (by kernel_rfl) (Runs.load (t := 97) (a := ⟨rb6, ro7 + i * 3, none⟩) (by kernel_rfl) (RdT.ld (f := AccM.cells) (x := a) AccM.three (OwnT.rd hON) (by kernel_rfl) (by kernel_rfl) hA8 ha)) (d := (some 35)) (by kernel_rfl) rfl ?_
   refine Ops.new (o := rowL [(Value.string (str a.name)), (i64 a.amt), (Value.string (str a.own))] 97) (V := fun b => (Value.slice (some ⟨b, 0, none⟩) 1 1)) (by kernel_rfl) (d := (some 36)) (by kernel_rfl) (fun b => rfl) (fun b13 w14 hb15 H16 K17 hs18 => ?_)
   have lb13r : r < b13 := by have := H3.lt; omega
   have nb13 : w.heap.size ≤ b13 := by have := K2.size; omega
   have ob19 : ∀ i, ((Value.slice A S.length c)).ownBlock = some i → i < b13 := fun i hi => by have := (World.ownsRow.lt hON i hi).2; omega
   have ob20 : ∀ i, ((Value.slice VA l.length vc)).ownBlock = some i → i < b13 := fun i hi => by have := (World.ownsRow.lt hOV i hi).2; omega
   replace K2 := K2.trans K17 (U := (fun i => i = r)) (fun i h1 h2 => h2) (fun i h1 h2 => by exact h2.elim)
   replace H3 := H3.keep K17 (fun h => h)
   replace hON := own_keep0 hON K17
   replace hOV := own_keep0 hOV K17
   clear K17 hs18
   obtain ⟨v21, w22, hr23, hO24, hK25, hg26⟩ := OwnT.app (ty := 41) AccM.three AccM.one tyA hOV (show RdT _ 3 AccM.cells _ [a] from Rd.lit H16 (n := 1) rfl (by decide)) (by (try simp only [List.length_append]); (try simp only [List.length_cons]); (try simp only [List.length_nil]); omega) (by (try simp only [List.length_append]); (try simp only [List.length_cons]); (try simp only [List.length_nil]); omega) K2.size
   obtain ⟨A28, c29, rfl⟩ := RdT.form AccM.three (by decide) (OwnT.rd hO24)
   obtain ⟨l30, hl31⟩ : ∃ z, z = l ++ [a] := ⟨_, rfl⟩
   rw [← hl31] at hr23 hO24 hg26
   have hn32 : l30.length = l.length + 1 := by simp [hl31]
   have ob33 : ∀ i, ((Value.slice A28 l30.length c29)).ownBlock = some i → i ≠ r := fun i hi => by rcases hg26 i hi with h | h; (have := obVr i h; omega); (have := H3.lt; omega)
   have ob34 : ∀ i, ((Value.slice A28 l30.length c29)).ownBlock = some i → i ≠ b13 := fun i hi => by rcases hg26 i hi with h | h; (have := ob20 i h; omega); (have := H16.lt; omega)
   have oo35 : ∀ i, ((Value.slice A S.length c)).ownBlock = some i → ((Value.slice A28 l30.length c29)).ownBlock = some i → False := fun i hi hs => by rcases hg26 i hs with h | h; (exact ooVN i hi h); (have := (World.ownsRow.lt hON i hi).2; omega)
   have oo36 : ∀ i, ((Value.slice A28 l30.length c29)).ownBlock = some i → ((Value.slice A S.length c)).ownBlock = some i → False := fun i hi hs => oo35 i hs hi
   have K27 := hK25
   refine Ops.go (v := (Value.slice A28 l30.length c29)) (by kernel_rfl) (Runs.append (ts := #[41, 41]) (ty := 41) (vs := [(Value.slice VA l.length vc), (Value.slice (some ⟨b13, 0, none⟩) 1 1)]) (by kernel_rfl) hr23) (d := (some 37)) (by kernel_rfl) rfl ?_
   replace K2 := K2.trans K27 (U := (fun i => i = r)) (fun i h1 h2 => h2) (fun i h1 h2 => by have h2 : ((Value.slice VA l.length vc)).ownBlock = some i := h2; exfalso; have := (World.ownsRow.lt hOV i h2).1; omega)
   replace H3 := H3.keep K27 (by intro h; change ((Value.slice VA l.length vc)).ownBlock = some r at h; have := obVr r h; omega)
   replace H16 := H16.keep K27 (by intro h; change ((Value.slice VA l.length vc)).ownBlock = some b13 at h; have := ob20 b13 h; omega)
   replace hON := own_keep hON K27 (fun i hi hs => by have hs : ((Value.slice VA l.length vc)).ownBlock = some i := hs; exact ooVN i hi hs)
   clear hOV
   clear K27 hr23 hK25 hg26
   refine og 1 [(0, (ptr r)), (1, (i64 k)), (4, (i64 0)), (5, (Value.slice A28 l30.length c29)), (6, (i64 ((i : Nat) : Int))), (14, (Value.bool true)), (27, (Value.bool true))] 11 ?_
   refine od ?_
   refine qg ?_
   refine og 2 [(0, (ptr r)), (1, (i64 k)), (4, (i64 0)), (5, (Value.slice A28 l30.length c29)), (6, (i64 ((i : Nat) : Int))), (14, (Value.bool true)), (16, (i64 (IntKind.i64.wrap (((i : Nat) : Int) + 1)))), (27, (Value.bool true))] 2 ?_
   have e37 : IntKind.i64.wrap (((i : Nat) : Int) + 1) = ((i + 1 : Nat) : Int) := by rw [wrap_i64 (by omega) (by omega)]; omega
   rw [e37]
   clear e37
   refine og 1 [(0, (ptr r)), (1, (i64 k)), (4, (i64 0)), (5, (Value.slice A28 l30.length c29)), (6, (i64 ((i + 1 : Nat) : Int))), (14, (Value.bool true)), (27, (Value.bool true))] 3 ?_
   refine Ops.keep (R := [(0, (ptr r)), (1, (i64 k)), (4, (i64 0)), (5, (Value.slice A28 l30.length c29)), (6, (i64 ((i + 1 : Nat) : Int)))]) (by kernel_rfl) ?_
   refine od ?_
   exact ⟨(A28, c29, i + 1, l30), ⟨rfl, hON, obNr, oo36, hO24, ob33, oo35, (by omega), (by omega), (by rw [hl31, hkt, ← hE, if_pos (by omega)]), K2, H3⟩, (show S.length - (i + 1) < S.length - i from by omega)⟩
  ·rw [h11]
   have p38 : ((slotB a.name : Nat) : Int) = k := of_bne_f h11
   refine q_skip (by kernel_rfl) ?_
   refine qg ?_
   refine og 2 [(0, (ptr r)), (1, (i64 k)), (4, (i64 0)), (5, (Value.slice VA l.length vc)), (6, (i64 ((i : Nat) : Int))), (14, (Value.bool true)), (16, (i64 (IntKind.i64.wrap (((i : Nat) : Int) + 1)))), (27, (Value.bool false))] 2 ?_
   have e39 : IntKind.i64.wrap (((i : Nat) : Int) + 1) = ((i + 1 : Nat) : Int) := by rw [wrap_i64 (by omega) (by omega)]; omega
   rw [e39]
   clear e39
   refine og 1 [(0, (ptr r)), (1, (i64 k)), (4, (i64 0)), (5, (Value.slice VA l.length vc)), (6, (i64 ((i + 1 : Nat) : Int))), (14, (Value.bool true)), (27, (Value.bool false))] 3 ?_
   refine Ops.keep (R := [(0, (ptr r)), (1, (i64 k)), (4, (i64 0)), (5, (Value.slice VA l.length vc)), (6, (i64 ((i + 1 : Nat) : Int)))]) (by kernel_rfl) ?_
   refine od ?_
   exact ⟨(VA, vc, i + 1, l), ⟨rfl, hON, obNr, ooNV, hOV, obVr, ooVN, (by omega), (by omega), (by rw [hkt, ← hE, if_neg (by omega), List.append_nil]), K2, H3⟩, (show S.length - (i + 1) < S.length - i from by omega)⟩
 ·rw [h4]
  have p40 : ¬ (((i : Nat) : Int) < ((S.length : Nat) : Int)) := of_decide_eq_false h4
  refine q_exit (id := 0) (by kernel_rfl) ?_
  refine qs ?_
  refine qg ?_
  refine og 3 [(0, (ptr r)), (4, (i64 0)), (5, (Value.slice VA l.length vc)), (40, (ptr r))] 3 ?_
  refine Ops.go (v := (Value.slice A S.length c)) (by kernel_rfl) (Runs.load (t := 41) (a := ⟨r, 0, none⟩) (by kernel_rfl) (H3.loads (by kernel_rfl))) (d := (some 41)) (by kernel_rfl) rfl ?_
  refine og 4 [(0, (ptr r)), (4, (i64 0)), (5, (Value.slice VA l.length vc)), (45, (i64 (IntKind.i64.wrap (((S.length : Nat) : Int) - ((l.length : Nat) : Int)))))] 8 ?_
  have e41 : IntKind.i64.wrap (((S.length : Nat) : Int) - ((l.length : Nat) : Int)) = ((S.length : Nat) : Int) - ((l.length : Nat) : Int) := wrap_i64 (by omega) (by omega)
  rw [e41]
  refine og 1 [(0, (ptr r)), (4, (i64 0)), (5, (Value.slice VA l.length vc)), (7, (i64 (((S.length : Nat) : Int) - ((l.length : Nat) : Int))))] 9 ?_
  refine od ?_
  refine qs ?_
  refine qg ?_
  refine og 4 [(4, (i64 0)), (7, (i64 (((S.length : Nat) : Int) - ((l.length : Nat) : Int)))), (47, (Value.slice VA l.length vc)), (49, (ptr r))] 4 ?_
  refine Ops.put (t := 41) (b := r) (off := 0) (v := (Value.slice VA l.length vc)) (ys := [(Value.slice VA l.length vc)]) (by kernel_rfl) (by kernel_rfl) H3 (by kernel_rfl) (d := none) (by kernel_rfl) rfl (fun w42 H43 K44 => ?_)
  clear H3
  replace K2 := K2.trans K44 (U := (fun i => i = r)) (fun i h1 h2 => h2) (fun i h1 h2 => by have h2 : i = r := h2; show i = r; omega)
  replace hON := own_keep hON K44 (fun i hi hs => by have hs : i = r := hs; have := obNr i hi; omega)
  replace hOV := own_keep hOV K44 (fun i hi hs => by have hs : i = r := hs; have := obVr i hi; omega)
  clear K44
  refine od ?_
  refine qs ?_
  refine qg ?_
  refine og 2 [(4, (i64 (((S.length : Nat) : Int) - ((l.length : Nat) : Int))))] 2 ?_
  refine od ?_
  refine q_ret (by kernel_rfl) ?_
  refine ⟨(i64 (((S.length : Nat) : Int) - ((l.length : Nat) : Int))), retv_tmp rfl rfl, ?_⟩
  have hdc := drop_count S k
  have e : l = dropS S k := by rw [hE, List.take_of_length_le (by omega), keepS_eq]
  rw [← e] at hdc
  have e1 : ((S.length : Nat) : Int) - ((l.length : Nat) : Int) = ((dropN S k : Nat) : Int) := by omega
  rw [e1, ← e]
  exact ⟨_, _, rfl, K2.mono (fun i _ h => .inl h), H43, own_base hOV hbw, fun i hi => .inr (World.ownsRow.lt hOV i hi).1⟩
end Go.Proofs.YtooginpgclcldaaGreatDoor
