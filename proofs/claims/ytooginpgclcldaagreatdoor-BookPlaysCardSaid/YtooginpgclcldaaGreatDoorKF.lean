/- books: the rows of a slot -/
import Derived.Test.YtooginpgclcldaaGreatDoorProg
import Derived.Test.YtooginpgclcldaaGreatDoorKE
import Derived.Test.YtooginpgclcldaaGreatDoorLX
set_option linter.unusedVariables false
namespace Go.Proofs.YtooginpgclcldaaGreatDoor
open Go.Q Go.RowKit
theorem tyR : ElemTy Tryz.prog 75 52 2 24 := elemTy (by kernel_rfl)

theorem Rows_calls (w : World) (b mb : Nat) (m : List (List UInt8 × AccV)) (S : List AccM) (k : Int) (Hb : Has w b (rowL [.map (some mb)] 66)) (Hm : HasMap w mb kstr accv m) (hne : b ≠ mb) (hB : Book m S) : Calls Tryz.prog 36 ⟨[(ptr b), (i64 k)]⟩ w (fun e w' => ∃ A c, e = .returned (.slice A (rowsS S k).length c) ∧ Keeps none_ w w' ∧ OwnR w' w.heap.size 52 (.slice A (rowsS S k).length c) (rowsS S k)) := by
 have Hbl := Hb.lt
 have Hml := Hm.lt
 have hlen := hB.len
 have hSl := hB.accs.len
 have K0 : Keeps none_ w w := Keeps.refl w
 refine q_calls Tryz.func36 (by kernel_rfl) (by kernel_rfl) ?_
 refine qs ?_
 refine qg ?_
 refine og 1 [(0, (ptr b)), (1, (i64 k)), (4, (Value.slice none 0 0))] 1 ?_
 refine od ?_
 refine qs ?_
 refine qs ?_
 refine qg ?_
 refine og 2 [(0, (ptr b)), (1, (i64 k)), (4, (Value.slice none 0 0)), (9, (Value.bool false))] 2 ?_
 refine od ?_
 refine q_else (o := .tmp 9) (by kernel_rfl) rfl ?_
 refine q_skip (by kernel_rfl) ?_
 refine qs ?_
 refine qg ?_
 refine og 1 [(0, (ptr b)), (1, (i64 k)), (4, (Value.slice none 0 0)), (5, (Value.slice none 0 0))] 1 ?_
 refine od ?_
 refine qs ?_
 refine qs ?_
 refine qg ?_
 refine og 1 [(0, (ptr b)), (1, (i64 k)), (4, (Value.slice none 0 0)), (5, (Value.slice none 0 0)), (10, (ptr b))] 1 ?_
 refine Ops.call (by kernel_rfl) (d := (some 11)) (by kernel_rfl) (names_calls _ b mb m S Hb Hm (by omega) hB) ?_
 rintro _ w3 ⟨A1, c2, rfl, K4, hO5⟩
 have ob7 : ∀ i, ((Value.slice A1 ((S.map (·.name)).length) c2)).ownBlock = some i → i ≠ b := fun i hi => by have := (World.ownsRow.lt hO5 i hi).1; have := Hb.lt; omega
 have ob8 : ∀ i, ((Value.slice A1 ((S.map (·.name)).length) c2)).ownBlock = some i → i ≠ mb := fun i hi => by have := (World.ownsRow.lt hO5 i hi).1; have := Hm.lt; omega
 have O6 := own_base hO5 K0.size
 clear hO5
 have hl9 : (S.map (·.name)).length = S.length := List.length_map ..
 refine ⟨_, _, rfl, rfl, ?_⟩
 replace K0 := K0.t0 K4
 replace Hb := Hb.keep K4 (fun h => h)
 replace Hm := Hm.keep K4 (fun h => h)
 clear K4
 refine og 2 [(0, (ptr b)), (1, (i64 k)), (4, (Value.slice none 0 0)), (5, (Value.slice none 0 0)), (11, (Value.slice A1 ((S.map (·.name)).length) c2)), (12, (i64 (((S.map (·.name)).length : Nat) : Int))), (13, (i64 0))] 4 ?_
 refine od ?_
 refine q_block (id := 0) (by kernel_rfl) ?_
 refine q_keep (R := [(0, (ptr b)), (1, (i64 k)), (4, (Value.slice none 0 0)), (5, (Value.slice none 0 0)), (11, (Value.slice A1 ((S.map (·.name)).length) c2)), (12, (i64 (((S.map (·.name)).length : Nat) : Int))), (13, (i64 0))]) (by kernel_rfl) ?_
 refine q_loop (fun (gs : (Option Addr) × Nat × Nat × (List RowM)) L (wx : World) => match gs with | (VA, vc, i, l) => L = [(0, (ptr b)), (1, (i64 k)), (4, (Value.slice none 0 0)), (5, (Value.slice VA l.length vc)), (11, (Value.slice A1 ((S.map (·.name)).length) c2)), (12, (i64 (((S.map (·.name)).length : Nat) : Int))), (13, (i64 ((i : Nat) : Int)))] ∧ OwnT wx w.heap.size 9 1 kcell (Value.slice A1 ((S.map (·.name)).length) c2) (S.map (·.name)) ∧ (∀ i, ((Value.slice A1 ((S.map (·.name)).length) c2)).ownBlock = some i → i ≠ b) ∧ (∀ i, ((Value.slice A1 ((S.map (·.name)).length) c2)).ownBlock = some i → i ≠ mb) ∧ (∀ i, ((Value.slice VA l.length vc)).ownBlock = some i → ((Value.slice A1 ((S.map (·.name)).length) c2)).ownBlock = some i → False) ∧ OwnR wx w.heap.size 52 (Value.slice VA l.length vc) l ∧ (∀ i, ((Value.slice VA l.length vc)).ownBlock = some i → i ≠ b) ∧ (∀ i, ((Value.slice VA l.length vc)).ownBlock = some i → i ≠ mb) ∧ (∀ i, ((Value.slice A1 ((S.map (·.name)).length) c2)).ownBlock = some i → ((Value.slice VA l.length vc)).ownBlock = some i → False) ∧ i ≤ S.length ∧ l = rowsS (S.take i) k ∧ Keeps none_ w wx ∧ Has wx b (rowL [(Value.map (some mb))] 66) ∧ HasMap wx mb kstr accv m) (fun (gs : (Option Addr) × Nat × Nat × (List RowM)) => match gs with | (VA, vc, i, l) => S.length - i) (none, 0, 0, []) (by kernel_rfl) ⟨rfl, O6, ob7, ob8, (fun _ h => by cases h), (OwnT.nil _ _ _ _ _), (fun i hi => by cases hi), (fun i hi => by cases hi), (fun _ _ h => by cases h), Nat.zero_le _, rfl, K0, Hb, Hm⟩ ?_
 clear Hb Hm O6 K0
 rintro ⟨VA, vc, i, l⟩ _ w10 ⟨rfl, hON, obNb, obNmb, ooNV, hOV, obVb, obVmb, ooVN, hi, hE, K11, H12, H13⟩
 have hrl := rowsS_len (S.take i) k
 rw [List.length_take, ← hE] at hrl
 refine qs ?_
 refine qg ?_
 refine og 1 [(0, (ptr b)), (1, (i64 k)), (4, (Value.slice none 0 0)), (5, (Value.slice VA l.length vc)), (11, (Value.slice A1 ((S.map (·.name)).length) c2)), (12, (i64 (((S.map (·.name)).length : Nat) : Int))), (13, (i64 ((i : Nat) : Int))), (14, (Value.bool (decide (((i : Nat) : Int) < (((S.map (·.name)).length : Nat) : Int)))))] 1 ?_
 refine od ?_
 refine qs ?_
 refine q_cond (o := .tmp 14) (b := (decide (((i : Nat) : Int) < (((S.map (·.name)).length : Nat) : Int)))) (by kernel_rfl) rfl (fun h14 => ?_) (fun h14 => ?_)
 ·rw [h14]
  have p15 : ((i : Nat) : Int) < (((S.map (·.name)).length : Nat) : Int) := of_decide_eq_true h14
  obtain ⟨a, ha⟩ : ∃ y, S[i]? = some y := ⟨_, List.getElem?_eq_getElem (by omega)⟩
  have hga := hB.accs.get_of (List.mem_of_getElem? ha)
  have hgm : getM m a.name = some (a.amt, a.own) := by rw [hB.get, hga]; rfl
  have hao := hB.accs.ok a (List.mem_of_getElem? ha)
  have hal := hao.len
  have hna := name_at ha
  have hrt := rows_take k ha
  obtain ⟨rb16, ro17, hA18⟩ := Rd.addr (OwnT.rd hON) (by omega)
  refine q_skip (by kernel_rfl) ?_
  refine qs ?_
  refine q_block (id := 1) (by kernel_rfl) ?_
  refine qs ?_
  refine qg ?_
  refine Ops.go (by kernel_rfl) (Runs.ixSliceE (k := IntKind.i64) (t := 67) (len := ((S.map (·.name)).length)) (cap := c2) (s := 1) (off' := ro17 + i) (i := ((i : Nat) : Int)) hA18 (by kernel_rfl) (by kernel_rfl) (by omega) (by omega) (by omega)) (d := (some 15)) (by kernel_rfl) rfl ?_
  refine Ops.go (v := (Value.string (str a.name))) (by kernel_rfl) (Runs.load (t := 9) (a := ⟨rb16, ro17 + i, none⟩) (by kernel_rfl) (RdT.ld1 (f := kcell) (x := a.name) kcell_len (OwnT.rd hON) (by kernel_rfl) hA18 hna rfl)) (d := (some 16)) (by kernel_rfl) rfl ?_
  refine og 1 [(0, (ptr b)), (1, (i64 k)), (4, (Value.slice none 0 0)), (5, (Value.slice VA l.length vc)), (7, (Value.string (str a.name))), (11, (Value.slice A1 ((S.map (·.name)).length) c2)), (12, (i64 (((S.map (·.name)).length : Nat) : Int))), (13, (i64 ((i : Nat) : Int))), (14, (Value.bool true))] 3 ?_
  refine od ?_
  refine qs ?_
  refine qg ?_
  refine og 3 [(0, (ptr b)), (1, (i64 k)), (4, (Value.slice none 0 0)), (5, (Value.slice VA l.length vc)), (7, (Value.string (str a.name))), (11, (Value.slice A1 ((S.map (·.name)).length) c2)), (12, (i64 (((S.map (·.name)).length : Nat) : Int))), (13, (i64 ((i : Nat) : Int))), (14, (Value.bool true)), (19, (Value.bool (k == (-1))))] 3 ?_
  refine Ops.split (k == (-1)) (fun h19 => ?_) (fun h19 => ?_)
  ·rw [h19]
   have p20 : k = (-1) := of_beq_t h19
   refine og 5 [(0, (ptr b)), (1, (i64 k)), (4, (Value.slice none 0 0)), (5, (Value.slice VA l.length vc)), (7, (Value.string (str a.name))), (11, (Value.slice A1 ((S.map (·.name)).length) c2)), (12, (i64 (((S.map (·.name)).length : Nat) : Int))), (13, (i64 ((i : Nat) : Int))), (14, (Value.bool true)), (24, (Value.bool true))] 8 ?_
   refine od ?_
   refine q_then (o := .tmp 24) (by kernel_rfl) rfl ?_
   refine qg ?_
   refine og 5 [(0, (ptr b)), (1, (i64 k)), (4, (Value.slice none 0 0)), (5, (Value.slice VA l.length vc)), (7, (Value.string (str a.name))), (11, (Value.slice A1 ((S.map (·.name)).length) c2)), (12, (i64 (((S.map (·.name)).length : Nat) : Int))), (13, (i64 ((i : Nat) : Int))), (14, (Value.bool true)), (24, (Value.bool true)), (25, (Value.slice VA l.length vc)), (26, (Value.string (str a.name))), (29, (ptr b))] 5 ?_
   refine Ops.go (v := (Value.map (some mb))) (by kernel_rfl) (Runs.load (t := 64) (a := ⟨b, 0, none⟩) (by kernel_rfl) (H12.loads (by kernel_rfl))) (d := (some 30)) (by kernel_rfl) rfl ?_
   refine og 1 [(0, (ptr b)), (1, (i64 k)), (4, (Value.slice none 0 0)), (5, (Value.slice VA l.length vc)), (7, (Value.string (str a.name))), (11, (Value.slice A1 ((S.map (·.name)).length) c2)), (12, (i64 (((S.map (·.name)).length : Nat) : Int))), (13, (i64 ((i : Nat) : Int))), (14, (Value.bool true)), (24, (Value.bool true)), (25, (Value.slice VA l.length vc)), (26, (Value.string (str a.name))), (30, (Value.map (some mb))), (31, (Value.string (str a.name)))] 7 ?_
   refine Ops.go (v := (agg [(i64 a.amt), (Value.string (str a.own))])) (by kernel_rfl) (Runs.lookup_some (ok := false) (vf := accv) (a := (a.amt, a.own)) KT Tryz.underlying64 H13 hgm (by kernel_rfl)) (d := (some 32)) (by kernel_rfl) rfl ?_
   refine og 2 [(0, (ptr b)), (1, (i64 k)), (4, (Value.slice none 0 0)), (5, (Value.slice VA l.length vc)), (7, (Value.string (str a.name))), (11, (Value.slice A1 ((S.map (·.name)).length) c2)), (12, (i64 (((S.map (·.name)).length : Nat) : Int))), (13, (i64 ((i : Nat) : Int))), (14, (Value.bool true)), (24, (Value.bool true)), (25, (Value.slice VA l.length vc)), (34, (agg [(Value.string (str a.name)), (i64 a.amt)]))] 10 ?_
   refine Ops.new (o := rowL [(Value.string (str a.name)), (i64 a.amt)] 52) (V := fun b => (Value.slice (some ⟨b, 0, none⟩) 1 1)) (by kernel_rfl) (d := (some 35)) (by kernel_rfl) (fun b => rfl) (fun b21 w22 hb23 H24 K25 hs26 => ?_)
   have lb21b : b < b21 := by have := H12.lt; omega
   have lb21mb : mb < b21 := by have := H13.lt; omega
   have nb21 : w.heap.size ≤ b21 := by have := K11.size; omega
   have ob27 : ∀ i, ((Value.slice A1 ((S.map (·.name)).length) c2)).ownBlock = some i → i < b21 := fun i hi => by have := (World.ownsRow.lt hON i hi).2; omega
   have ob28 : ∀ i, ((Value.slice VA l.length vc)).ownBlock = some i → i < b21 := fun i hi => by have := (World.ownsRow.lt hOV i hi).2; omega
   replace K11 := K11.trans K25 (U := none_) (fun i h1 h2 => h2) (fun i h1 h2 => by exact h2)
   replace H12 := H12.keep K25 (fun h => h)
   replace H13 := H13.keep K25 (fun h => h)
   replace hON := own_keep0 hON K25
   replace hOV := own_keep0 hOV K25
   clear K25 hs26
   obtain ⟨v29, w30, hr31, hO32, hK33, hg34⟩ := OwnT.app (ty := 75) RowM.two RowM.one tyR hOV (show RdT _ 2 RowM.cells _ [(⟨a.name, a.amt⟩ : RowM)] from Rd.lit H24 (n := 1) rfl (by decide)) (by simp only [List.length_cons, List.length_nil]; omega) (by simp only [List.length_cons, List.length_nil]; omega) K11.size
   obtain ⟨A36, c37, rfl⟩ := RdT.form RowM.two (by decide) (OwnT.rd hO32)
   have ob38 : ∀ i, ((Value.slice A36 ((l ++ [(⟨a.name, a.amt⟩ : RowM)]).length) c37)).ownBlock = some i → i ≠ b := fun i hi => by rcases hg34 i hi with h | h; (have := obVb i h; omega); (have := H12.lt; omega)
   have ob39 : ∀ i, ((Value.slice A36 ((l ++ [(⟨a.name, a.amt⟩ : RowM)]).length) c37)).ownBlock = some i → i ≠ mb := fun i hi => by rcases hg34 i hi with h | h; (have := obVmb i h; omega); (have := H13.lt; omega)
   have ob40 : ∀ i, ((Value.slice A36 ((l ++ [(⟨a.name, a.amt⟩ : RowM)]).length) c37)).ownBlock = some i → i ≠ b21 := fun i hi => by rcases hg34 i hi with h | h; (have := ob28 i h; omega); (have := H24.lt; omega)
   have oo41 : ∀ i, ((Value.slice A1 ((S.map (·.name)).length) c2)).ownBlock = some i → ((Value.slice A36 ((l ++ [(⟨a.name, a.amt⟩ : RowM)]).length) c37)).ownBlock = some i → False := fun i hi hs => by rcases hg34 i hs with h | h; (exact ooVN i hi h); (have := (World.ownsRow.lt hON i hi).2; omega)
   have oo42 : ∀ i, ((Value.slice A36 ((l ++ [(⟨a.name, a.amt⟩ : RowM)]).length) c37)).ownBlock = some i → ((Value.slice A1 ((S.map (·.name)).length) c2)).ownBlock = some i → False := fun i hi hs => oo41 i hs hi
   have K35 := hK33
   refine Ops.go (v := (Value.slice A36 ((l ++ [(⟨a.name, a.amt⟩ : RowM)]).length) c37)) (by kernel_rfl) (Runs.append (ts := #[75, 75]) (ty := 75) (vs := [(Value.slice VA l.length vc), (Value.slice (some ⟨b21, 0, none⟩) 1 1)]) (by kernel_rfl) hr31) (d := (some 36)) (by kernel_rfl) rfl ?_
   replace K11 := K11.trans K35 (U := none_) (fun i h1 h2 => h2) (fun i h1 h2 => by have h2 : ((Value.slice VA l.length vc)).ownBlock = some i := h2; exfalso; have := (World.ownsRow.lt hOV i h2).1; omega)
   replace H12 := H12.keep K35 (by intro h; change ((Value.slice VA l.length vc)).ownBlock = some b at h; have := obVb b h; omega)
   replace H13 := H13.keep K35 (by intro h; change ((Value.slice VA l.length vc)).ownBlock = some mb at h; have := obVmb mb h; omega)
   replace H24 := H24.keep K35 (by intro h; change ((Value.slice VA l.length vc)).ownBlock = some b21 at h; have := ob28 b21 h; omega)
   replace hON := own_keep hON K35 (fun i hi hs => by have hs : ((Value.slice VA l.length vc)).ownBlock = some i := hs; exact ooVN i hi hs)
   clear hOV
   clear K35 hr31 hK33 hg34
   refine og 1 [(0, (ptr b)), (1, (i64 k)), (4, (Value.slice none 0 0)), (5, (Value.slice A36 ((l ++ [(⟨a.name, a.amt⟩ : RowM)]).length) c37)), (7, (Value.string (str a.name))), (11, (Value.slice A1 ((S.map (·.name)).length) c2)), (12, (i64 (((S.map (·.name)).length : Nat) : Int))), (13, (i64 ((i : Nat) : Int))), (14, (Value.bool true)), (24, (Value.bool true))] 13 ?_
   refine od ?_
   refine qg ?_
   refine og 1 [(0, (ptr b)), (1, (i64 k)), (4, (Value.slice none 0 0)), (5, (Value.slice A36 ((l ++ [(⟨a.name, a.amt⟩ : RowM)]).length) c37)), (7, (Value.string (str a.name))), (11, (Value.slice A1 ((S.map (·.name)).length) c2)), (12, (i64 (((S.map (·.name)).length : Nat) : Int))), (13, (i64 ((i : Nat) : Int))), (14, (Value.bool true)), (24, (Value.bool true)), (37, (i64 (IntKind.i64.wrap (((i : Nat) : Int) + 1))))] 1 ?_
   have e43 : IntKind.i64.wrap (((i : Nat) : Int) + 1) = ((i + 1 : Nat) : Int) := by rw [wrap_i64 (by omega) (by omega)]; omega
   rw [e43]
   clear e43
   refine og 1 [(0, (ptr b)), (1, (i64 k)), (4, (Value.slice none 0 0)), (5, (Value.slice A36 ((l ++ [(⟨a.name, a.amt⟩ : RowM)]).length) c37)), (7, (Value.string (str a.name))), (11, (Value.slice A1 ((S.map (·.name)).length) c2)), (12, (i64 (((S.map (·.name)).length : Nat) : Int))), (13, (i64 ((i + 1 : Nat) : Int))), (14, (Value.bool true)), (24, (Value.bool true))] 2 ?_
   refine Ops.keep (R := [(0, (ptr b)), (1, (i64 k)), (4, (Value.slice none 0 0)), (5, (Value.slice A36 ((l ++ [(⟨a.name, a.amt⟩ : RowM)]).length) c37)), (11, (Value.slice A1 ((S.map (·.name)).length) c2)), (12, (i64 (((S.map (·.name)).length : Nat) : Int))), (13, (i64 ((i + 1 : Nat) : Int)))]) (by kernel_rfl) ?_
   refine od ?_
   exact ⟨(A36, c37, i + 1, l ++ [(⟨a.name, a.amt⟩ : RowM)]), ⟨rfl, hON, obNb, obNmb, oo42, hO32, ob38, ob39, oo41, (by omega), (by rw [hrt, ← hE, inSlot_t (by omega), if_pos rfl]; first | done | rfl), K11, H12, H13⟩, (show S.length - (i + 1) < S.length - i from by omega)⟩
  ·rw [h19]
   have p44 : ¬ (k = (-1)) := of_beq_f h19
   refine og 1 [(0, (ptr b)), (1, (i64 k)), (4, (Value.slice none 0 0)), (5, (Value.slice VA l.length vc)), (7, (Value.string (str a.name))), (11, (Value.slice A1 ((S.map (·.name)).length) c2)), (12, (i64 (((S.map (·.name)).length : Nat) : Int))), (13, (i64 ((i : Nat) : Int))), (14, (Value.bool true)), (19, (Value.bool false)), (20, (Value.string (str a.name)))] 4 ?_
   refine Ops.call (by kernel_rfl) (d := (some 21)) (by kernel_rfl) (Slot_calls _ a.name (by omega)) ?_
   rintro _ w46 ⟨rfl, K45⟩
   have hs47 : slotB a.name < 16 := Nat.mod_lt _ (by decide)
   refine ⟨_, _, rfl, rfl, ?_⟩
   replace K11 := K11.trans K45 (U := none_) (fun i h1 h2 => h2) (fun i h1 h2 => by exact h2)
   replace H12 := H12.keep K45 (fun h => h)
   replace H13 := H13.keep K45 (fun h => h)
   replace hON := own_keep0 hON K45
   replace hOV := own_keep0 hOV K45
   clear K45
   refine og 3 [(0, (ptr b)), (1, (i64 k)), (4, (Value.slice none 0 0)), (5, (Value.slice VA l.length vc)), (7, (Value.string (str a.name))), (11, (Value.slice A1 ((S.map (·.name)).length) c2)), (12, (i64 (((S.map (·.name)).length : Nat) : Int))), (13, (i64 ((i : Nat) : Int))), (14, (Value.bool true)), (24, (Value.bool (((slotB a.name : Nat) : Int) == k)))] 8 ?_
   refine od ?_
   refine q_cond (o := .tmp 24) (b := (((slotB a.name : Nat) : Int) == k)) (by kernel_rfl) rfl (fun h48 => ?_) (fun h48 => ?_)
   ·rw [h48]
    have p49 : ((slotB a.name : Nat) : Int) = k := of_beq_t h48
    refine qg ?_
    refine og 5 [(0, (ptr b)), (1, (i64 k)), (4, (Value.slice none 0 0)), (5, (Value.slice VA l.length vc)), (7, (Value.string (str a.name))), (11, (Value.slice A1 ((S.map (·.name)).length) c2)), (12, (i64 (((S.map (·.name)).length : Nat) : Int))), (13, (i64 ((i : Nat) : Int))), (14, (Value.bool true)), (24, (Value.bool true)), (25, (Value.slice VA l.length vc)), (26, (Value.string (str a.name))), (29, (ptr b))] 5 ?_
    refine Ops.go (v := (Value.map (some mb))) (by kernel_rfl) (Runs.load (t := 64) (a := ⟨b, 0, none⟩) (by kernel_rfl) (H12.loads (by kernel_rfl))) (d := (some 30)) (by kernel_rfl) rfl ?_
    refine og 1 [(0, (ptr b)), (1, (i64 k)), (4, (Value.slice none 0 0)), (5, (Value.slice VA l.length vc)), (7, (Value.string (str a.name))), (11, (Value.slice A1 ((S.map (·.name)).length) c2)), (12, (i64 (((S.map (·.name)).length : Nat) : Int))), (13, (i64 ((i : Nat) : Int))), (14, (Value.bool true)), (24, (Value.bool true)), (25, (Value.slice VA l.length vc)), (26, (Value.string (str a.name))), (30, (Value.map (some mb))), (31, (Value.string (str a.name)))] 7 ?_
    refine Ops.go (v := (agg [(i64 a.amt), (Value.string (str a.own))])) (by kernel_rfl) (Runs.lookup_some (ok := false) (vf := accv) (a := (a.amt, a.own)) KT Tryz.underlying64 H13 hgm (by kernel_rfl)) (d := (some 32)) (by kernel_rfl) rfl ?_
    refine og 2 [(0, (ptr b)), (1, (i64 k)), (4, (Value.slice none 0 0)), (5, (Value.slice VA l.length vc)), (7, (Value.string (str a.name))), (11, (Value.slice A1 ((S.map (·.name)).length) c2)), (12, (i64 (((S.map (·.name)).length : Nat) : Int))), (13, (i64 ((i : Nat) : Int))), (14, (Value.bool true)), (24, (Value.bool true)), (25, (Value.slice VA l.length vc)), (34, (agg [(Value.string (str a.name)), (i64 a.amt)]))] 10 ?_
    refine Ops.new (o := rowL [(Value.string (str a.name)), (i64 a.amt)] 52) (V := fun b => (Value.slice (some ⟨b, 0, none⟩) 1 1)) (by kernel_rfl) (d := (some 35)) (by kernel_rfl) (fun b => rfl) (fun b50 w51 hb52 H53 K54 hs55 => ?_)
    have lb50b : b < b50 := by have := H12.lt; omega
    have lb50mb : mb < b50 := by have := H13.lt; omega
    have nb50 : w.heap.size ≤ b50 := by have := K11.size; omega
    have ob56 : ∀ i, ((Value.slice A1 ((S.map (·.name)).length) c2)).ownBlock = some i → i < b50 := fun i hi => by have := (World.ownsRow.lt hON i hi).2; omega
    have ob57 : ∀ i, ((Value.slice VA l.length vc)).ownBlock = some i → i < b50 := fun i hi => by have := (World.ownsRow.lt hOV i hi).2; omega
    replace K11 := K11.trans K54 (U := none_) (fun i h1 h2 => h2) (fun i h1 h2 => by exact h2)
    replace H12 := H12.keep K54 (fun h => h)
    replace H13 := H13.keep K54 (fun h => h)
    replace hON := own_keep0 hON K54
    replace hOV := own_keep0 hOV K54
    clear K54 hs55
    obtain ⟨v58, w59, hr60, hO61, hK62, hg63⟩ := OwnT.app (ty := 75) RowM.two RowM.one tyR hOV (show RdT _ 2 RowM.cells _ [(⟨a.name, a.amt⟩ : RowM)] from Rd.lit H53 (n := 1) rfl (by decide)) (by simp only [List.length_cons, List.length_nil]; omega) (by simp only [List.length_cons, List.length_nil]; omega) K11.size
    obtain ⟨A65, c66, rfl⟩ := RdT.form RowM.two (by decide) (OwnT.rd hO61)
    have ob67 : ∀ i, ((Value.slice A65 ((l ++ [(⟨a.name, a.amt⟩ : RowM)]).length) c66)).ownBlock = some i → i ≠ b := fun i hi => by rcases hg63 i hi with h | h; (have := obVb i h; omega); (have := H12.lt; omega)
    have ob68 : ∀ i, ((Value.slice A65 ((l ++ [(⟨a.name, a.amt⟩ : RowM)]).length) c66)).ownBlock = some i → i ≠ mb := fun i hi => by rcases hg63 i hi with h | h; (have := obVmb i h; omega); (have := H13.lt; omega)
    have ob69 : ∀ i, ((Value.slice A65 ((l ++ [(⟨a.name, a.amt⟩ : RowM)]).length) c66)).ownBlock = some i → i ≠ b50 := fun i hi => by rcases hg63 i hi with h | h; (have := ob57 i h; omega); (have := H53.lt; omega)
    have oo70 : ∀ i, ((Value.slice A1 ((S.map (·.name)).length) c2)).ownBlock = some i → ((Value.slice A65 ((l ++ [(⟨a.name, a.amt⟩ : RowM)]).length) c66)).ownBlock = some i → False := fun i hi hs => by rcases hg63 i hs with h | h; (exact ooVN i hi h); (have := (World.ownsRow.lt hON i hi).2; omega)
    have oo71 : ∀ i, ((Value.slice A65 ((l ++ [(⟨a.name, a.amt⟩ : RowM)]).length) c66)).ownBlock = some i → ((Value.slice A1 ((S.map (·.name)).length) c2)).ownBlock = some i → False := fun i hi hs => oo70 i hs hi
    have K64 := hK62
    refine Ops.go (v := (Value.slice A65 ((l ++ [(⟨a.name, a.amt⟩ : RowM)]).length) c66)) (by kernel_rfl) (Runs.append (ts := #[75, 75]) (ty := 75) (vs := [(Value.slice VA l.length vc), (Value.slice (some ⟨b50, 0, none⟩) 1 1)]) (by kernel_rfl) hr60) (d := (some 36)) (by kernel_rfl) rfl ?_
    replace K11 := K11.trans K64 (U := none_) (fun i h1 h2 => h2) (fun i h1 h2 => by have h2 : ((Value.slice VA l.length vc)).ownBlock = some i := h2; exfalso; have := (World.ownsRow.lt hOV i h2).1; omega)
    replace H12 := H12.keep K64 (by intro h; change ((Value.slice VA l.length vc)).ownBlock = some b at h; have := obVb b h; omega)
    replace H13 := H13.keep K64 (by intro h; change ((Value.slice VA l.length vc)).ownBlock = some mb at h; have := obVmb mb h; omega)
    replace H53 := H53.keep K64 (by intro h; change ((Value.slice VA l.length vc)).ownBlock = some b50 at h; have := ob57 b50 h; omega)
    replace hON := own_keep hON K64 (fun i hi hs => by have hs : ((Value.slice VA l.length vc)).ownBlock = some i := hs; exact ooVN i hi hs)
    clear hOV
    clear K64 hr60 hK62 hg63
    refine og 1 [(0, (ptr b)), (1, (i64 k)), (4, (Value.slice none 0 0)), (5, (Value.slice A65 ((l ++ [(⟨a.name, a.amt⟩ : RowM)]).length) c66)), (7, (Value.string (str a.name))), (11, (Value.slice A1 ((S.map (·.name)).length) c2)), (12, (i64 (((S.map (·.name)).length : Nat) : Int))), (13, (i64 ((i : Nat) : Int))), (14, (Value.bool true)), (24, (Value.bool true))] 13 ?_
    refine od ?_
    refine qg ?_
    refine og 1 [(0, (ptr b)), (1, (i64 k)), (4, (Value.slice none 0 0)), (5, (Value.slice A65 ((l ++ [(⟨a.name, a.amt⟩ : RowM)]).length) c66)), (7, (Value.string (str a.name))), (11, (Value.slice A1 ((S.map (·.name)).length) c2)), (12, (i64 (((S.map (·.name)).length : Nat) : Int))), (13, (i64 ((i : Nat) : Int))), (14, (Value.bool true)), (24, (Value.bool true)), (37, (i64 (IntKind.i64.wrap (((i : Nat) : Int) + 1))))] 1 ?_
    have e72 : IntKind.i64.wrap (((i : Nat) : Int) + 1) = ((i + 1 : Nat) : Int) := by rw [wrap_i64 (by omega) (by omega)]; omega
    rw [e72]
    clear e72
    refine og 1 [(0, (ptr b)), (1, (i64 k)), (4, (Value.slice none 0 0)), (5, (Value.slice A65 ((l ++ [(⟨a.name, a.amt⟩ : RowM)]).length) c66)), (7, (Value.string (str a.name))), (11, (Value.slice A1 ((S.map (·.name)).length) c2)), (12, (i64 (((S.map (·.name)).length : Nat) : Int))), (13, (i64 ((i + 1 : Nat) : Int))), (14, (Value.bool true)), (24, (Value.bool true))] 2 ?_
    refine Ops.keep (R := [(0, (ptr b)), (1, (i64 k)), (4, (Value.slice none 0 0)), (5, (Value.slice A65 ((l ++ [(⟨a.name, a.amt⟩ : RowM)]).length) c66)), (11, (Value.slice A1 ((S.map (·.name)).length) c2)), (12, (i64 (((S.map (·.name)).length : Nat) : Int))), (13, (i64 ((i + 1 : Nat) : Int)))]) (by kernel_rfl) ?_
    refine od ?_
    exact ⟨(A65, c66, i + 1, l ++ [(⟨a.name, a.amt⟩ : RowM)]), ⟨rfl, hON, obNb, obNmb, oo71, hO61, ob67, ob68, oo70, (by omega), (by rw [hrt, ← hE, inSlot_t (by omega), if_pos rfl]; first | done | rfl), K11, H12, H13⟩, (show S.length - (i + 1) < S.length - i from by omega)⟩
   ·rw [h48]
    have p73 : ¬ (((slotB a.name : Nat) : Int) = k) := of_beq_f h48
    refine q_skip (by kernel_rfl) ?_
    refine qg ?_
    refine og 1 [(0, (ptr b)), (1, (i64 k)), (4, (Value.slice none 0 0)), (5, (Value.slice VA l.length vc)), (7, (Value.string (str a.name))), (11, (Value.slice A1 ((S.map (·.name)).length) c2)), (12, (i64 (((S.map (·.name)).length : Nat) : Int))), (13, (i64 ((i : Nat) : Int))), (14, (Value.bool true)), (24, (Value.bool false)), (37, (i64 (IntKind.i64.wrap (((i : Nat) : Int) + 1))))] 1 ?_
    have e74 : IntKind.i64.wrap (((i : Nat) : Int) + 1) = ((i + 1 : Nat) : Int) := by rw [wrap_i64 (by omega) (by omega)]; omega
    rw [e74]
    clear e74
    refine og 1 [(0, (ptr b)), (1, (i64 k)), (4, (Value.slice none 0 0)), (5, (Value.slice VA l.length vc)), (7, (Value.string (str a.name))), (11, (Value.slice A1 ((S.map (·.name)).length) c2)), (12, (i64 (((S.map (·.name)).length : Nat) : Int))), (13, (i64 ((i + 1 : Nat) : Int))), (14, (Value.bool true)), (24, (Value.bool false))] 2 ?_
    refine Ops.keep (R := [(0, (ptr b)), (1, (i64 k)), (4, (Value.slice none 0 0)), (5, (Value.slice VA l.length vc)), (11, (Value.slice A1 ((S.map (·.name)).length) c2)), (12, (i64 (((S.map (·.name)).length : Nat) : Int))), (13, (i64 ((i + 1 : Nat) : Int)))]) (by kernel_rfl) ?_
    refine od ?_
    exact ⟨(VA, vc, i + 1, l), ⟨rfl, hON, obNb, obNmb, ooNV, hOV, obVb, obVmb, ooVN, (by omega), (by rw [hrt, ← hE, inSlot_f (by omega), if_neg (by decide), List.append_nil]), K11, H12, H13⟩, (show S.length - (i + 1) < S.length - i from by omega)⟩
 ·rw [h14]
  have p75 : ¬ (((i : Nat) : Int) < (((S.map (·.name)).length : Nat) : Int)) := of_decide_eq_false h14
  refine q_exit (id := 0) (by kernel_rfl) ?_
  refine qs ?_
  refine qg ?_
  refine og 2 [(4, (Value.slice VA l.length vc))] 2 ?_
  refine od ?_
  refine q_ret (by kernel_rfl) ?_
  refine ⟨(Value.slice VA l.length vc), retv_tmp rfl rfl, ?_⟩
  have e : l = rowsS S k := by rw [hE, List.take_of_length_le (by omega)]
  rw [e] at hOV
  rw [e]
  exact ⟨_, _, rfl, K11, hOV⟩
end Go.Proofs.YtooginpgclcldaaGreatDoor
