/- What the claim stands on, part 9: rules of the walk, contracts of the functions, plain laws. -/
import Derived.Test.YtooginpgclcldaaGreatDoorLoads8
import Derived.ChangeMaps5
import Derived.Test.YtooginpgclcldaaGreatDoorLoads5
import Derived.Test.YtooginpgclcldaaGreatDoorLoads6
import Derived.Test.YtooginpgclcldaaGreatDoorProg
import Derived.Test.YtooginpgclcldaaGreatDoorLoads7
set_option linter.unusedVariables false
namespace Go.Q
open Go.ChangeShapes Go.WideShapes Go.ChangeAt Go.RowKit Go.Deep

def fieldOf? (P : Program) (fs : Array Field) (j : Nat) : Option TypeDesc := match fs[j]? with
  | some f => P.underlying f.type
  | none => none

section
variable {H : Type} {enc : TypeId × Value → H} {P : Program} {w : World} {base : Nat} {spare : Nat → Bool} {held : Bool}

def RowM.Ok (x : RowM) : Prop := -9223372036854775808 ≤ x.amount ∧ x.amount ≤ 9223372036854775807
end
end Go.Q
namespace Go.Q
open Go.ChangeShapes Go.WideShapes Go.ChangeAt Go.RowKit Go.Deep
def total (S : List AccM) : Int := (S.map (·.amt)).sum
def sumR (l : List RowM) : Int := (l.map (·.amount)).sum
theorem rows_all (S : List AccM) : rowsS S (-1) = S.map AccM.row := by
  unfold rowsS
  rw [List.filter_eq_self.2 fun a _ => inSlot_t (.inl rfl)]
/-- A call of a book. -/
structure BopM where
  kind : Int
  name : List UInt8
  own : List UInt8
  n : Int
  slot : Int
def BopM.cells (x : BopM) : List Value := [i64 x.kind, .string (str x.name), .string (str x.own), i64 x.n, i64 x.slot]
structure BopM.Ok (x : BopM) : Prop where
  kind : -9223372036854775808 ≤ x.kind ∧ x.kind ≤ 9223372036854775807
  n : -9223372036854775808 ≤ x.n ∧ x.n ≤ 9223372036854775807
  slot : -9223372036854775808 ≤ x.slot ∧ x.slot ≤ 9223372036854775807
section
variable {H : Type} {enc : TypeId × Value → H} {P : Program} {w : World} {base : Nat} {spare : Nat → Bool} {held : Bool}
end
end Go.Q
namespace Go.Q
def cntS (S : List AccM) (k : Nat) : Nat := (S.filter fun a => decide (slotB a.name < k)).length
def restS (S : List AccM) (k : Nat) : List AccM := S.filter fun a => decide (k ≤ slotB a.name)
end Go.Q
namespace Go.Q
section
variable {α : Type} {f : α → List Value} {sz : Nat} {P : Program} {w : World} {t e : TypeId} {A : Option Addr} {c k : Nat} {l : List α}
theorem flat_take (hf : ∀ x, (f x).length = sz) : ∀ (l : List α) (k : Nat), (l.flatMap f).take (k * sz) = (l.take k).flatMap f
  | [], k => by simp
  | x :: l, 0 => by simp
  | x :: l, k + 1 => by
    rw [List.flatMap_cons, List.take_succ_cons, List.flatMap_cons, List.take_append, hf, List.take_of_length_le (by rw [hf, Nat.add_mul]; omega), show (k + 1) * sz - sz = k * sz from by rw [Nat.add_mul]; omega, flat_take hf l k]
theorem flat_drop (hf : ∀ x, (f x).length = sz) : ∀ (l : List α) (k : Nat), (l.flatMap f).drop (k * sz) = (l.drop k).flatMap f
  | [], k => by simp
  | x :: l, 0 => by simp
  | x :: l, k + 1 => by
    rw [List.flatMap_cons, List.drop_succ_cons, List.drop_append, hf, List.drop_of_length_le (by rw [hf, Nat.add_mul]; omega), List.nil_append, show (k + 1) * sz - sz = k * sz from by rw [Nat.add_mul]; omega, flat_drop hf l k]
theorem run_hi (hf : ∀ x, (f x).length = sz) (h0 : 0 < sz) (ht : P.underlying t = some (.slice e)) (hs : size? P e = some sz) (hR : RdT w sz f (.slice A l.length c) l) (hk : k ≤ l.length) :
    (Instr.sliceAt t (.slice A l.length c) none (some (i64 ((k : Nat) : Int))) none).run P w = .ok (.slice A k c) w ∧ RdT w sz f (.slice A k c) (l.take k) := by
  have hc := (RdT.len hf h0 hR).2
  have h := run_cut (sz := sz) (P := P) (w := w) (t := t) (A := A) (n := l.length) (c := c) 0 k c (lo := none) (hi := some (i64 ((k : Nat) : Int))) (mx := none) ht hs (.inl ⟨rfl, rfl⟩) (.inr ⟨_, rfl⟩) (.inl ⟨rfl, rfl⟩) (Nat.zero_le _) (by omega) (Nat.le_refl _)
  have hr := Rd.cut hR 0 k c (Nat.zero_le _) (by omega) (Nat.le_refl _) hk
  have hA0 : (if c = 0 then A else A.map (·.add (0 * sz))) = A := by cases A <;> simp [Addr.add]
  rw [hA0, Nat.sub_zero, Nat.sub_zero] at h hr
  refine ⟨h, ?_⟩
  rw [Nat.zero_mul, List.drop_zero, flat_take hf] at hr
  exact hr
theorem run_lo (hf : ∀ x, (f x).length = sz) (h0 : 0 < sz) (ht : P.underlying t = some (.slice e)) (hs : size? P e = some sz) (hR : RdT w sz f (.slice A l.length c) l) (hk : k ≤ l.length) :
    ∃ A2, (Instr.sliceAt t (.slice A l.length c) (some (i64 ((k : Nat) : Int))) none none).run P w = .ok (.slice A2 (l.length - k) (c - k)) w ∧ RdT w sz f (.slice A2 (l.length - k) (c - k)) (l.drop k) := by
  have hc := (RdT.len hf h0 hR).2
  have h := run_cut (sz := sz) (P := P) (w := w) (t := t) (A := A) (n := l.length) (c := c) k l.length c (lo := some (i64 ((k : Nat) : Int))) (hi := none) (mx := none) ht hs (.inr ⟨_, rfl⟩) (.inl ⟨rfl, rfl, rfl⟩) (.inl ⟨rfl, rfl⟩) hk hc.1 (Nat.le_refl _)
  have hr := Rd.cut hR k l.length c hk hc.1 (Nat.le_refl _) (Nat.le_refl _)
  refine ⟨_, h, ?_⟩
  rw [flat_drop hf, flat_take hf, List.take_of_length_le (by rw [List.length_drop]; omega)] at hr
  exact hr
end
theorem held_take {S : List AccM} {i : Nat} {a : AccM} (h : S[i]? = some a) : heldN (S.take (i + 1)) = heldN (S.take i) + heldB a.own := by
  have e : ∀ T : List AccM, heldN (T ++ [a]) = heldN T + heldB a.own := fun T => by rw [← heldL_accs, ← heldL_accs, List.map_append]; exact heldL_next _ _
  rw [List.take_add_one, h, Option.toList_some, e]
theorem heldB_t {O : List UInt8} (h : (O == ([] : List UInt8)) = true) : heldB O = 0 := by unfold heldB; rw [if_pos (by simpa using h)]
theorem heldB_f {O : List UInt8} (h : (O == ([] : List UInt8)) = false) : heldB O = 1 := by unfold heldB; rw [if_neg (by simpa using h)]
def keepS (S : List AccM) (k : Int) : List AccM := S.filter fun a => decide (((slotB a.name : Nat) : Int) ≠ k)
end Go.Q
namespace Go.Proofs.YtooginpgclcldaaGreatDoor
open Go.Q Go.RowKit

theorem New_calls (w : World)   : Calls Tryz.prog 13 ⟨[]⟩ w (fun e w' => ∃ b mb, e = .returned (ptr b) ∧ Keeps none_ w w' ∧ Has w' b (rowL [.map (some mb)] 66) ∧ HasMap w' mb kstr accv ([] : List (List UInt8 × AccV)) ∧ w.heap.size ≤ b ∧ w.heap.size ≤ mb ∧ b ≠ mb) := by
 have K0 : Keeps none_ w w := Keeps.refl w
 refine q_calls Tryz.func13 (by kernel_rfl) (by kernel_rfl) ?_
 refine qs ?_
 refine qg ?_
 refine og 1 [(0, (Value.pointer none))] 1 ?_
 refine od ?_
 refine qs ?_
 refine qg ?_
 obtain ⟨mb5, w1, hr2, K3, hb6, H4⟩ := HasMap.made Tryz.prog w 64 kstr (accv)
 refine Ops.go (v := (Value.map (some mb5))) (by kernel_rfl) (Runs.of_makeMap (by kernel_rfl) hr2) (d := (some 1)) (by kernel_rfl) rfl ?_
 have nmb5 : w.heap.size ≤ mb5 := by have := K0.size; omega
 replace K0 := K0.t0 K3
 clear K3 hr2
 refine og 1 [(0, (Value.pointer none)), (2, (agg [(Value.map (some mb5))]))] 2 ?_
 refine Ops.new (o := rowL [(Value.map (some mb5))] 66) (V := fun b => (ptr b)) (by kernel_rfl) (d := (some 3)) (by kernel_rfl) (fun b => rfl) (fun b7 w8 hb9 H10 K11 hs12 => ?_)
 have lb7mb5 : mb5 < b7 := by have := H4.lt; omega
 have nb7 : w.heap.size ≤ b7 := by have := K0.size; omega
 replace K0 := K0.t0 K11
 replace H4 := H4.keep K11 (fun h => h)
 clear K11 hs12
 refine og 1 [(0, (ptr b7))] 4 ?_
 refine od ?_
 refine q_ret (by kernel_rfl) ?_
 refine ⟨(ptr b7), retv_tmp rfl rfl, ?_⟩
 exact ⟨b7, mb5, rfl, K0, H10, H4, nb7, nmb5, by omega⟩

theorem Put_none (w : World) (b mb : Nat) (m : List (List UInt8 × AccV)) (S : List AccM) (n : List UInt8) (k : Int) (Hb : Has w b (rowL [.map (some mb)] 66)) (Hm : HasMap w mb kstr accv m) (hne : b ≠ mb) (hB : Book m S) (hk : -9223372036854775808 ≤ k ∧ k ≤ 9223372036854775807) (hg : getS S n = none) : Calls Tryz.prog 22 ⟨[(ptr b), (agg [(Value.string (str n)), (i64 k)])]⟩ w (fun e w' => ∃ m', e = .returned (i64 (putE S n k)) ∧ Keeps (fun i => i = mb) w w' ∧ HasMap w' mb kstr accv m' ∧ Book m' (putS S n k)) := by
 have Hbl := Hb.lt
 have Hml := Hm.lt
 have hlen := hB.len
 have K0 : Keeps (fun i => i = mb) w w := (Keeps.refl w).mono (fun _ _ h => h.elim)
 have hgm : getM m n = none := by rw [hB.get, hg]; rfl
 refine q_calls Tryz.func22 (by kernel_rfl) (by kernel_rfl) ?_
 refine qs ?_
 refine qg ?_
 refine Ops.new (o := rowL [(Value.string (str n)), (i64 k)] 52) (V := fun b => (ptr b)) (by kernel_rfl) (d := (some 3)) (by kernel_rfl) (fun b => rfl) (fun b1 w2 hb3 H4 K5 hs6 => ?_)
 have lb1b : b < b1 := by have := Hb.lt; omega
 have lb1mb : mb < b1 := by have := Hm.lt; omega
 have nb1 : w.heap.size ≤ b1 := by have := K0.size; omega
 replace K0 := K0.trans K5 (U := (fun i => i = mb)) (fun i h1 h2 => h2) (fun i h1 h2 => by exact h2.elim)
 replace Hb := Hb.keep K5 (fun h => h)
 replace Hm := Hm.keep K5 (fun h => h)
 clear K5 hs6
 refine og 1 [(0, (ptr b)), (3, (ptr b1)), (4, (i64 0))] 2 ?_
 refine od ?_
 refine qs ?_
 refine qs ?_
 refine qg ?_
 refine og 2 [(0, (ptr b)), (3, (ptr b1)), (4, (i64 0)), (8, (Value.bool false))] 2 ?_
 refine od ?_
 refine q_else (o := .tmp 8) (by kernel_rfl) rfl ?_
 refine q_skip (by kernel_rfl) ?_
 refine qs ?_
 refine q_draw (fun wz => Keeps none_ w2 wz) 13 (by kernel_rfl) (by kernel_rfl) (by kernel_rfl) (fun w7 K8 _ _ => ⟨K8, ?_⟩)
 replace K0 := K0.trans K8 (U := (fun i => i = mb)) (fun i h1 h2 => h2) (fun i h1 h2 => by exact h2.elim)
 replace Hb := Hb.keep K8 (fun h => h)
 replace Hm := Hm.keep K8 (fun h => h)
 replace H4 := H4.keep K8 (fun h => h)
 refine Dr.strong (S' := (fun wz => Keeps none_ w7 wz)) (Keeps.refl w7) (fun wz hx => K8.trans hx (fun i _ h => h) (fun _ _ h => h)) ?_
 clear K8
 refine Dr.takes (fuel' := 10) (is' := [2, 1, 0]) [0, 1, 2] [(0, (ptr b)), (3, (ptr b1)), (4, (i64 0)), (12, (ptr b))] (by kernel_rfl) rfl (by kernel_rfl) ?_
 refine Dr.take (i := 3) (v := (Value.map (some mb))) (by kernel_rfl) (by kernel_rfl) (fun wz hS => Runs.load (t := 64) (a := ⟨b, 0, none⟩) (by kernel_rfl) ((Hb.keep hS (fun h => h)).loads (by kernel_rfl))) (d := (some 13)) (by kernel_rfl) rfl ?_
 refine Dr.takes (fuel' := 8) (is' := [4, 3, 2, 1, 0]) [4] [(0, (ptr b)), (3, (ptr b1)), (4, (i64 0)), (13, (Value.map (some mb))), (14, (ptr b1))] (by kernel_rfl) rfl (by kernel_rfl) ?_
 refine Dr.take (i := 5) (v := (Value.string (str n))) (by kernel_rfl) (by kernel_rfl) (fun wz hS => Runs.load (t := 9) (a := ⟨b1, 0, none⟩) (by kernel_rfl) ((H4.keep hS (fun h => h)).loads (by kernel_rfl))) (d := (some 15)) (by kernel_rfl) rfl ?_
 refine Dr.take (i := 6) (v := (Value.tuple #[(agg [(i64 0), (Value.string ByteArray.empty)]), (Value.bool false)])) (by kernel_rfl) (by kernel_rfl) (fun wz hS => Runs.lookup_none (ok := true) (z := (agg [(i64 0), (Value.string ByteArray.empty)])) KT Tryz.underlying64 (by kernel_rfl) (Hm.keep hS (fun h => h)) hgm (by kernel_rfl)) (d := (some 16)) (by kernel_rfl) rfl ?_
 refine Dr.takes (fuel' := 3) (is' := [9, 8, 7, 6, 5, 4, 3, 2, 1, 0]) [7, 8, 9] [(0, (ptr b)), (3, (ptr b1)), (4, (i64 0)), (17, (agg [(i64 0), (Value.string ByteArray.empty)])), (18, (Value.bool false))] (by kernel_rfl) rfl (by kernel_rfl) ?_
 refine Dr.new (i := 10) (o := rowL [(i64 0), (Value.string ByteArray.empty)] 70) (V := fun b => (ptr b)) (by kernel_rfl) (by kernel_rfl) (d := (some 5)) (by kernel_rfl) (fun b => rfl) (fun b9 w10 hb11 H12 K13 hs14 => ?_)
 have lb9b : b < b9 := by have := Hb.lt; omega
 have lb9mb : mb < b9 := by have := Hm.lt; omega
 have lb9b1 : b1 < b9 := by have := H4.lt; omega
 have nb9 : w.heap.size ≤ b9 := by have := K0.size; omega
 replace K0 := K0.trans K13 (U := (fun i => i = mb)) (fun i h1 h2 => h2) (fun i h1 h2 => by exact h2.elim)
 replace Hb := Hb.keep K13 (fun h => h)
 replace Hm := Hm.keep K13 (fun h => h)
 replace H4 := H4.keep K13 (fun h => h)
 refine ⟨K13, ?_⟩
 refine Dr.strong (S' := (fun wz => Keeps (fun i => i = b9) w10 wz)) ((Keeps.refl w10).mono (fun _ _ h => h.elim)) (fun wz hx => K13.trans hx (U := none_) (fun i _ h => h) (fun i hi h => by have h : i = b9 := h; exfalso; omega)) ?_
 clear K13 hs14
 refine Dr.put (i := 11) (t := 70) (b := b9) (off := 0) (v := (agg [(i64 0), (Value.string ByteArray.empty)])) (ys := [(i64 0), (Value.string ByteArray.empty)]) (by kernel_rfl) (by kernel_rfl) (by kernel_rfl) H12 (by kernel_rfl) (d := none) (by kernel_rfl) rfl (fun w15 H16 K17 => ?_)
 clear H12
 replace K0 := K0.trans K17 (U := (fun i => i = mb)) (fun i h1 h2 => h2) (fun i h1 h2 => by have h2 : i = b9 := h2; show i = mb; omega)
 replace Hb := Hb.keep K17 (by intro h; change b = b9 at h; omega)
 replace Hm := Hm.keep K17 (by intro h; change mb = b9 at h; omega)
 replace H4 := H4.keep K17 (by intro h; change b1 = b9 at h; omega)
 refine ⟨K17, ?_⟩
 refine Dr.strong (S' := (fun wz => Keeps (fun i => i = b9) w15 wz)) ((Keeps.refl w15).mono (fun _ _ h => h.elim)) (fun wz hx => K17.trans hx (fun i _ h => by have h : i = b9 := h; show i = b9; omega) (fun _ _ h => h)) ?_
 clear K17
 refine Dr.takes (fuel' := 0) (is' := [12, 11, 10, 9, 8, 7, 6, 5, 4, 3, 2, 1, 0]) [12] [(0, (ptr b)), (3, (ptr b1)), (4, (i64 0)), (6, (Value.bool false))] (by kernel_rfl) rfl (by kernel_rfl) ?_
 refine Dr.done (by kernel_rfl) ?_
 refine qs ?_
 refine q_block (id := 0) (by kernel_rfl) ?_
 refine qs ?_
 refine qg ?_
 refine og 1 [(0, (ptr b)), (3, (ptr b1)), (4, (i64 0)), (6, (Value.bool false)), (20, (ptr b1))] 1 ?_
 refine Ops.go (v := (Value.string (str n))) (by kernel_rfl) (Runs.load (t := 9) (a := ⟨b1, 0, none⟩) (by kernel_rfl) (H4.loads (by kernel_rfl))) (d := (some 21)) (by kernel_rfl) rfl ?_
 refine Ops.call (by kernel_rfl) (d := (some 22)) (by kernel_rfl) (Name_calls _ n) ?_
 rintro _ w19 ⟨rfl, K18⟩
 refine ⟨_, _, rfl, rfl, ?_⟩
 replace K0 := K0.trans K18 (U := (fun i => i = mb)) (fun i h1 h2 => h2) (fun i h1 h2 => by exact h2.elim)
 replace Hb := Hb.keep K18 (fun h => h)
 replace Hm := Hm.keep K18 (fun h => h)
 replace H4 := H4.keep K18 (fun h => h)
 replace H16 := H16.keep K18 (fun h => h)
 clear K18
 refine og 2 [(0, (ptr b)), (3, (ptr b1)), (4, (i64 0)), (6, (Value.bool false)), (19, (Value.bool (!(nameOk n))))] 5 ?_
 refine od ?_
 refine q_cond (o := .tmp 19) (b := (!(nameOk n))) (by kernel_rfl) rfl (fun h20 => ?_) (fun h20 => ?_)
 ·rw [h20]
  have p21 : (nameOk n) = false := (bnot_true h20)
  refine qs ?_
  refine qg ?_
  refine og 1 [(0, (ptr b)), (3, (ptr b1)), (4, (i64 46)), (6, (Value.bool false))] 1 ?_
  refine od ?_
  refine q_ret (by kernel_rfl) ?_
  refine ⟨(i64 46), retv_tmp rfl rfl, ?_⟩
  have e : putE S n k = 46 := by unfold putE; rw [if_pos (bnot_true h20)]
  exact ⟨m, by rw [e], K0, Hm, hB.keep (by rw [e]; decide)⟩
 ·rw [h20]
  have p22 : (nameOk n) = true := (bnot_false h20)
  refine qs ?_
  refine qg ?_
  refine og 1 [(0, (ptr b)), (3, (ptr b1)), (4, (i64 0)), (6, (Value.bool false)), (25, (Value.pointer (some ⟨b1, 1, none⟩)))] 1 ?_
  refine Ops.go (v := (i64 k)) (by kernel_rfl) (Runs.load (t := 2) (a := ⟨b1, 1, none⟩) (by kernel_rfl) (H4.loads (by kernel_rfl))) (d := (some 26)) (by kernel_rfl) rfl ?_
  refine og 2 [(0, (ptr b)), (3, (ptr b1)), (4, (i64 0)), (6, (Value.bool false)), (24, (Value.bool (decide (k < 0))))] 4 ?_
  refine od ?_
  refine q_cond (o := .tmp 24) (b := (decide (k < 0))) (by kernel_rfl) rfl (fun h23 => ?_) (fun h23 => ?_)
  ·rw [h23]
   have p24 : k < 0 := of_decide_eq_true h23
   refine qs ?_
   refine qg ?_
   refine og 1 [(0, (ptr b)), (3, (ptr b1)), (4, (i64 47)), (6, (Value.bool false))] 1 ?_
   refine od ?_
   refine q_ret (by kernel_rfl) ?_
   refine ⟨(i64 47), retv_tmp rfl rfl, ?_⟩
   have e : putE S n k = 47 := by unfold putE; rw [if_neg (by rw [(bnot_false h20)]; decide)]; rw [if_pos (by omega)]
   exact ⟨m, by rw [e], K0, Hm, hB.keep (by rw [e]; decide)⟩
  ·rw [h23]
   have p25 : ¬ (k < 0) := of_decide_eq_false h23
   refine qs ?_
   refine qg ?_
   refine og 2 [(0, (ptr b)), (3, (ptr b1)), (4, (i64 0)), (28, (Value.bool false))] 2 ?_
   refine od ?_
   refine q_else (o := .tmp 28) (by kernel_rfl) rfl ?_
   refine qs ?_
   refine qg ?_
   refine og 3 [(0, (ptr b)), (3, (ptr b1)), (4, (i64 0)), (33, (ptr b))] 3 ?_
   refine Ops.go (v := (Value.map (some mb))) (by kernel_rfl) (Runs.load (t := 64) (a := ⟨b, 0, none⟩) (by kernel_rfl) (Hb.loads (by kernel_rfl))) (d := (some 34)) (by kernel_rfl) rfl ?_
   refine Ops.go (v := (i64 ((m.length : Nat) : Int))) (by kernel_rfl) (Runs.maplen (ts := #[64]) (t0 := 64) (ty := 3) rfl Tryz.underlying64 Hm (by kernel_rfl)) (d := (some 35)) (by kernel_rfl) rfl ?_
   refine og 2 [(0, (ptr b)), (3, (ptr b1)), (4, (i64 0)), (30, (Value.bool (decide (((m.length : Nat) : Int) ≥ 200))))] 7 ?_
   refine od ?_
   refine q_cond (o := .tmp 30) (b := (decide (((m.length : Nat) : Int) ≥ 200))) (by kernel_rfl) rfl (fun h26 => ?_) (fun h26 => ?_)
   ·rw [h26]
    have p27 : ((m.length : Nat) : Int) ≥ 200 := of_decide_eq_true h26
    refine qs ?_
    refine qg ?_
    refine og 1 [(0, (ptr b)), (3, (ptr b1)), (4, (i64 4))] 1 ?_
    refine od ?_
    refine q_ret (by kernel_rfl) ?_
    refine ⟨(i64 4), retv_tmp rfl rfl, ?_⟩
    have e : putE S n k = 4 := by unfold putE; rw [if_neg (by rw [(bnot_false h20)]; decide)]; rw [if_neg (by omega), if_neg (by rw [hg]; decide), if_pos (by omega)]
    exact ⟨m, by rw [e], K0, Hm, hB.keep (by rw [e]; decide)⟩
   ·rw [h26]
    have p28 : ¬ (((m.length : Nat) : Int) ≥ 200) := of_decide_eq_false h26
    refine q_skip (by kernel_rfl) ?_
    refine qs ?_
    refine q_draw (fun wz => Keeps (fun i => i = mb) w19 wz) 10 (by kernel_rfl) (by kernel_rfl) (by kernel_rfl) (fun w29 K30 _ _ => ⟨(K30.mono (fun _ _ h => h.elim)), ?_⟩)
    replace K0 := K0.trans K30 (U := (fun i => i = mb)) (fun i h1 h2 => h2) (fun i h1 h2 => by exact h2.elim)
    replace Hb := Hb.keep K30 (fun h => h)
    replace Hm := Hm.keep K30 (fun h => h)
    replace H4 := H4.keep K30 (fun h => h)
    replace H16 := H16.keep K30 (fun h => h)
    refine Dr.strong (S' := (fun wz => Keeps (fun i => i = mb) w29 wz)) ((Keeps.refl w29).mono (fun _ _ h => h.elim)) (fun wz hx => K30.trans hx (fun i _ h => h.elim) (fun _ _ h => h)) ?_
    clear K30
    refine Dr.takes (fuel' := 7) (is' := [2, 1, 0]) [0, 1, 2] [(3, (ptr b1)), (4, (i64 0)), (39, (ptr b))] (by kernel_rfl) rfl (by kernel_rfl) ?_
    refine Dr.take (i := 3) (v := (Value.map (some mb))) (by kernel_rfl) (by kernel_rfl) (fun wz hS => Runs.load (t := 64) (a := ⟨b, 0, none⟩) (by kernel_rfl) ((Hb.keep hS (by intro h; change b = mb at h; omega)).loads (by kernel_rfl))) (d := (some 40)) (by kernel_rfl) rfl ?_
    refine Dr.takes (fuel' := 5) (is' := [4, 3, 2, 1, 0]) [4] [(3, (ptr b1)), (4, (i64 0)), (40, (Value.map (some mb))), (41, (ptr b1))] (by kernel_rfl) rfl (by kernel_rfl) ?_
    refine Dr.take (i := 5) (v := (Value.string (str n))) (by kernel_rfl) (by kernel_rfl) (fun wz hS => Runs.load (t := 9) (a := ⟨b1, 0, none⟩) (by kernel_rfl) ((H4.keep hS (by intro h; change b1 = mb at h; omega)).loads (by kernel_rfl))) (d := (some 42)) (by kernel_rfl) rfl ?_
    refine Dr.takes (fuel' := 3) (is' := [6, 5, 4, 3, 2, 1, 0]) [6] [(4, (i64 0)), (40, (Value.map (some mb))), (42, (Value.string (str n))), (43, (Value.pointer (some ⟨b1, 1, none⟩)))] (by kernel_rfl) rfl (by kernel_rfl) ?_
    refine Dr.take (i := 7) (v := (i64 k)) (by kernel_rfl) (by kernel_rfl) (fun wz hS => Runs.load (t := 2) (a := ⟨b1, 1, none⟩) (by kernel_rfl) ((H4.keep hS (by intro h; change b1 = mb at h; omega)).loads (by kernel_rfl))) (d := (some 44)) (by kernel_rfl) rfl ?_
    refine Dr.takes (fuel' := 1) (is' := [8, 7, 6, 5, 4, 3, 2, 1, 0]) [8] [(4, (i64 0)), (40, (Value.map (some mb))), (42, (Value.string (str n))), (45, (agg [(i64 k), (Value.string ByteArray.empty)]))] (by kernel_rfl) rfl (by kernel_rfl) ?_
    obtain ⟨w31, hr32, K33, H34⟩ := HasMap.update KT Tryz.underlying64 Hm n (k, ([] : List UInt8))
    refine Dr.goU (i := 9) (by kernel_rfl) (by kernel_rfl) (RunsU.of_update (by kernel_rfl) hr32) (d := none) (by kernel_rfl) rfl K33 ?_
    clear Hm
    replace K0 := K0.trans K33 (U := (fun i => i = mb)) (fun i h1 h2 => h2) (fun i h1 h2 => by have h2 : i = mb := h2; show i = mb; omega)
    replace Hb := Hb.keep K33 (by intro h; change b = mb at h; omega)
    replace H4 := H4.keep K33 (by intro h; change b1 = mb at h; omega)
    replace H16 := H16.keep K33 (by intro h; change b9 = mb at h; omega)
    refine Dr.strong (S' := (fun wz => Keeps (fun i => i = mb) w31 wz)) ((Keeps.refl w31).mono (fun _ _ h => h.elim)) (fun wz hx => K33.trans hx (fun i _ h => by have h : i = mb := h; show i = mb; omega) (fun _ _ h => h)) ?_
    clear K33 hr32
    refine Dr.done (by kernel_rfl) ?_
    refine qs ?_
    refine qg ?_
    refine og 1 [(4, (i64 0))] 1 ?_
    refine od ?_
    refine q_ret (by kernel_rfl) ?_
    refine ⟨(i64 0), retv_tmp rfl rfl, ?_⟩
    have e : putE S n k = 0 := by unfold putE; rw [if_neg (by rw [(bnot_false h20)]; decide)]; rw [if_neg (by omega), if_neg (by rw [hg]; decide), if_neg (by omega)]
    exact ⟨_, by rw [e], K0, H34, hB.put hk.2 e⟩

theorem Put_some (w : World) (b mb : Nat) (m : List (List UInt8 × AccV)) (S : List AccM) (n : List UInt8) (k : Int) (Hb : Has w b (rowL [.map (some mb)] 66)) (Hm : HasMap w mb kstr accv m) (hne : b ≠ mb) (hB : Book m S) (hk : -9223372036854775808 ≤ k ∧ k ≤ 9223372036854775807) (a : AccM) (hg : getS S n = some a) : Calls Tryz.prog 22 ⟨[(ptr b), (agg [(Value.string (str n)), (i64 k)])]⟩ w (fun e w' => ∃ m', e = .returned (i64 (putE S n k)) ∧ Keeps (fun i => i = mb) w w' ∧ HasMap w' mb kstr accv m' ∧ Book m' (putS S n k)) := by
 have Hbl := Hb.lt
 have Hml := Hm.lt
 have hlen := hB.len
 have K0 : Keeps (fun i => i = mb) w w := (Keeps.refl w).mono (fun _ _ h => h.elim)
 have hgm : getM m n = some (a.amt, a.own) := by rw [hB.get, hg]; rfl
 refine q_calls Tryz.func22 (by kernel_rfl) (by kernel_rfl) ?_
 refine qs ?_
 refine qg ?_
 refine Ops.new (o := rowL [(Value.string (str n)), (i64 k)] 52) (V := fun b => (ptr b)) (by kernel_rfl) (d := (some 3)) (by kernel_rfl) (fun b => rfl) (fun b1 w2 hb3 H4 K5 hs6 => ?_)
 have lb1b : b < b1 := by have := Hb.lt; omega
 have lb1mb : mb < b1 := by have := Hm.lt; omega
 have nb1 : w.heap.size ≤ b1 := by have := K0.size; omega
 replace K0 := K0.trans K5 (U := (fun i => i = mb)) (fun i h1 h2 => h2) (fun i h1 h2 => by exact h2.elim)
 replace Hb := Hb.keep K5 (fun h => h)
 replace Hm := Hm.keep K5 (fun h => h)
 clear K5 hs6
 refine og 1 [(0, (ptr b)), (3, (ptr b1)), (4, (i64 0))] 2 ?_
 refine od ?_
 refine qs ?_
 refine qs ?_
 refine qg ?_
 refine og 2 [(0, (ptr b)), (3, (ptr b1)), (4, (i64 0)), (8, (Value.bool false))] 2 ?_
 refine od ?_
 refine q_else (o := .tmp 8) (by kernel_rfl) rfl ?_
 refine q_skip (by kernel_rfl) ?_
 refine qs ?_
 refine q_draw (fun wz => Keeps none_ w2 wz) 13 (by kernel_rfl) (by kernel_rfl) (by kernel_rfl) (fun w7 K8 _ _ => ⟨K8, ?_⟩)
 replace K0 := K0.trans K8 (U := (fun i => i = mb)) (fun i h1 h2 => h2) (fun i h1 h2 => by exact h2.elim)
 replace Hb := Hb.keep K8 (fun h => h)
 replace Hm := Hm.keep K8 (fun h => h)
 replace H4 := H4.keep K8 (fun h => h)
 refine Dr.strong (S' := (fun wz => Keeps none_ w7 wz)) (Keeps.refl w7) (fun wz hx => K8.trans hx (fun i _ h => h) (fun _ _ h => h)) ?_
 clear K8
 refine Dr.takes (fuel' := 10) (is' := [2, 1, 0]) [0, 1, 2] [(0, (ptr b)), (3, (ptr b1)), (4, (i64 0)), (12, (ptr b))] (by kernel_rfl) rfl (by kernel_rfl) ?_
 refine Dr.take (i := 3) (v := (Value.map (some mb))) (by kernel_rfl) (by kernel_rfl) (fun wz hS => Runs.load (t := 64) (a := ⟨b, 0, none⟩) (by kernel_rfl) ((Hb.keep hS (fun h => h)).loads (by kernel_rfl))) (d := (some 13)) (by kernel_rfl) rfl ?_
 refine Dr.takes (fuel' := 8) (is' := [4, 3, 2, 1, 0]) [4] [(0, (ptr b)), (3, (ptr b1)), (4, (i64 0)), (13, (Value.map (some mb))), (14, (ptr b1))] (by kernel_rfl) rfl (by kernel_rfl) ?_
 refine Dr.take (i := 5) (v := (Value.string (str n))) (by kernel_rfl) (by kernel_rfl) (fun wz hS => Runs.load (t := 9) (a := ⟨b1, 0, none⟩) (by kernel_rfl) ((H4.keep hS (fun h => h)).loads (by kernel_rfl))) (d := (some 15)) (by kernel_rfl) rfl ?_
 refine Dr.take (i := 6) (v := (Value.tuple #[(agg [(i64 a.amt), (Value.string (str a.own))]), (Value.bool true)])) (by kernel_rfl) (by kernel_rfl) (fun wz hS => Runs.lookup_some (ok := true) (vf := accv) (a := (a.amt, a.own)) KT Tryz.underlying64 (Hm.keep hS (fun h => h)) hgm (by kernel_rfl)) (d := (some 16)) (by kernel_rfl) rfl ?_
 refine Dr.takes (fuel' := 3) (is' := [9, 8, 7, 6, 5, 4, 3, 2, 1, 0]) [7, 8, 9] [(0, (ptr b)), (3, (ptr b1)), (4, (i64 0)), (17, (agg [(i64 a.amt), (Value.string (str a.own))])), (18, (Value.bool true))] (by kernel_rfl) rfl (by kernel_rfl) ?_
 refine Dr.new (i := 10) (o := rowL [(i64 0), (Value.string ByteArray.empty)] 70) (V := fun b => (ptr b)) (by kernel_rfl) (by kernel_rfl) (d := (some 5)) (by kernel_rfl) (fun b => rfl) (fun b9 w10 hb11 H12 K13 hs14 => ?_)
 have lb9b : b < b9 := by have := Hb.lt; omega
 have lb9mb : mb < b9 := by have := Hm.lt; omega
 have lb9b1 : b1 < b9 := by have := H4.lt; omega
 have nb9 : w.heap.size ≤ b9 := by have := K0.size; omega
 replace K0 := K0.trans K13 (U := (fun i => i = mb)) (fun i h1 h2 => h2) (fun i h1 h2 => by exact h2.elim)
 replace Hb := Hb.keep K13 (fun h => h)
 replace Hm := Hm.keep K13 (fun h => h)
 replace H4 := H4.keep K13 (fun h => h)
 refine ⟨K13, ?_⟩
 refine Dr.strong (S' := (fun wz => Keeps (fun i => i = b9) w10 wz)) ((Keeps.refl w10).mono (fun _ _ h => h.elim)) (fun wz hx => K13.trans hx (U := none_) (fun i _ h => h) (fun i hi h => by have h : i = b9 := h; exfalso; omega)) ?_
 clear K13 hs14
 refine Dr.put (i := 11) (t := 70) (b := b9) (off := 0) (v := (agg [(i64 a.amt), (Value.string (str a.own))])) (ys := [(i64 a.amt), (Value.string (str a.own))]) (by kernel_rfl) (by kernel_rfl) (by kernel_rfl) H12 (by kernel_rfl) (d := none) (by kernel_rfl) rfl (fun w15 H16 K17 => ?_)
 clear H12
 replace K0 := K0.trans K17 (U := (fun i => i = mb)) (fun i h1 h2 => h2) (fun i h1 h2 => by have h2 : i = b9 := h2; show i = mb; omega)
 replace Hb := Hb.keep K17 (by intro h; change b = b9 at h; omega)
 replace Hm := Hm.keep K17 (by intro h; change mb = b9 at h; omega)
 replace H4 := H4.keep K17 (by intro h; change b1 = b9 at h; omega)
 refine ⟨K17, ?_⟩
 refine Dr.strong (S' := (fun wz => Keeps (fun i => i = b9) w15 wz)) ((Keeps.refl w15).mono (fun _ _ h => h.elim)) (fun wz hx => K17.trans hx (fun i _ h => by have h : i = b9 := h; show i = b9; omega) (fun _ _ h => h)) ?_
 clear K17
 refine Dr.takes (fuel' := 0) (is' := [12, 11, 10, 9, 8, 7, 6, 5, 4, 3, 2, 1, 0]) [12] [(0, (ptr b)), (3, (ptr b1)), (4, (i64 0)), (6, (Value.bool true))] (by kernel_rfl) rfl (by kernel_rfl) ?_
 refine Dr.done (by kernel_rfl) ?_
 refine qs ?_
 refine q_block (id := 0) (by kernel_rfl) ?_
 refine qs ?_
 refine qg ?_
 refine og 1 [(0, (ptr b)), (3, (ptr b1)), (4, (i64 0)), (6, (Value.bool true)), (20, (ptr b1))] 1 ?_
 refine Ops.go (v := (Value.string (str n))) (by kernel_rfl) (Runs.load (t := 9) (a := ⟨b1, 0, none⟩) (by kernel_rfl) (H4.loads (by kernel_rfl))) (d := (some 21)) (by kernel_rfl) rfl ?_
 refine Ops.call (by kernel_rfl) (d := (some 22)) (by kernel_rfl) (Name_calls _ n) ?_
 rintro _ w19 ⟨rfl, K18⟩
 refine ⟨_, _, rfl, rfl, ?_⟩
 replace K0 := K0.trans K18 (U := (fun i => i = mb)) (fun i h1 h2 => h2) (fun i h1 h2 => by exact h2.elim)
 replace Hb := Hb.keep K18 (fun h => h)
 replace Hm := Hm.keep K18 (fun h => h)
 replace H4 := H4.keep K18 (fun h => h)
 replace H16 := H16.keep K18 (fun h => h)
 clear K18
 refine og 2 [(0, (ptr b)), (3, (ptr b1)), (4, (i64 0)), (6, (Value.bool true)), (19, (Value.bool (!(nameOk n))))] 5 ?_
 refine od ?_
 refine q_cond (o := .tmp 19) (b := (!(nameOk n))) (by kernel_rfl) rfl (fun h20 => ?_) (fun h20 => ?_)
 ·rw [h20]
  have p21 : (nameOk n) = false := (bnot_true h20)
  refine qs ?_
  refine qg ?_
  refine og 1 [(0, (ptr b)), (3, (ptr b1)), (4, (i64 46)), (6, (Value.bool true))] 1 ?_
  refine od ?_
  refine q_ret (by kernel_rfl) ?_
  refine ⟨(i64 46), retv_tmp rfl rfl, ?_⟩
  have e : putE S n k = 46 := by unfold putE; rw [if_pos (bnot_true h20)]
  exact ⟨m, by rw [e], K0, Hm, hB.keep (by rw [e]; decide)⟩
 ·rw [h20]
  have p22 : (nameOk n) = true := (bnot_false h20)
  refine qs ?_
  refine qg ?_
  refine og 1 [(0, (ptr b)), (3, (ptr b1)), (4, (i64 0)), (6, (Value.bool true)), (25, (Value.pointer (some ⟨b1, 1, none⟩)))] 1 ?_
  refine Ops.go (v := (i64 k)) (by kernel_rfl) (Runs.load (t := 2) (a := ⟨b1, 1, none⟩) (by kernel_rfl) (H4.loads (by kernel_rfl))) (d := (some 26)) (by kernel_rfl) rfl ?_
  refine og 2 [(0, (ptr b)), (3, (ptr b1)), (4, (i64 0)), (6, (Value.bool true)), (24, (Value.bool (decide (k < 0))))] 4 ?_
  refine od ?_
  refine q_cond (o := .tmp 24) (b := (decide (k < 0))) (by kernel_rfl) rfl (fun h23 => ?_) (fun h23 => ?_)
  ·rw [h23]
   have p24 : k < 0 := of_decide_eq_true h23
   refine qs ?_
   refine qg ?_
   refine og 1 [(0, (ptr b)), (3, (ptr b1)), (4, (i64 47)), (6, (Value.bool true))] 1 ?_
   refine od ?_
   refine q_ret (by kernel_rfl) ?_
   refine ⟨(i64 47), retv_tmp rfl rfl, ?_⟩
   have e : putE S n k = 47 := by unfold putE; rw [if_neg (by rw [(bnot_false h20)]; decide)]; rw [if_pos (by omega)]
   exact ⟨m, by rw [e], K0, Hm, hB.keep (by rw [e]; decide)⟩
  ·rw [h23]
   have p25 : ¬ (k < 0) := of_decide_eq_false h23
   refine qs ?_
   refine qg ?_
   refine og 2 [(0, (ptr b)), (3, (ptr b1)), (4, (i64 0)), (28, (Value.bool true))] 2 ?_
   refine od ?_
   refine q_then (o := .tmp 28) (by kernel_rfl) rfl ?_
   refine qs ?_
   refine qg ?_
   refine og 1 [(0, (ptr b)), (3, (ptr b1)), (4, (i64 41))] 1 ?_
   refine od ?_
   refine q_ret (by kernel_rfl) ?_
   refine ⟨(i64 41), retv_tmp rfl rfl, ?_⟩
   have e : putE S n k = 41 := by unfold putE; rw [if_neg (by rw [(bnot_false h20)]; decide)]; rw [if_neg (by omega), if_pos (by rw [hg]; rfl)]
   exact ⟨m, by rw [e], K0, Hm, hB.keep (by rw [e]; decide)⟩

theorem Put_calls (w : World) (b mb : Nat) (m : List (List UInt8 × AccV)) (S : List AccM) (n : List UInt8) (k : Int) (Hb : Has w b (rowL [.map (some mb)] 66)) (Hm : HasMap w mb kstr accv m) (hne : b ≠ mb) (hB : Book m S) (hk : -9223372036854775808 ≤ k ∧ k ≤ 9223372036854775807) : Calls Tryz.prog 22 ⟨[(ptr b), (agg [(Value.string (str n)), (i64 k)])]⟩ w (fun e w' => ∃ m', e = .returned (i64 (putE S n k)) ∧ Keeps (fun i => i = mb) w w' ∧ HasMap w' mb kstr accv m' ∧ Book m' (putS S n k)) := by
 cases hg : getS S n with
 | none => exact Put_none w b mb m S n k Hb Hm hne hB hk hg
 | some a => exact Put_some w b mb m S n k Hb Hm hne hB hk a hg

theorem Open_calls (w : World) (b mb : Nat) (m : List (List UInt8 × AccV)) (S : List AccM) (n : List UInt8) (Hb : Has w b (rowL [.map (some mb)] 66)) (Hm : HasMap w mb kstr accv m) (hne : b ≠ mb) (hB : Book m S) : Calls Tryz.prog 17 ⟨[(ptr b), (Value.string (str n))]⟩ w (fun e w' => ∃ m', e = .returned (i64 (putE S n 0)) ∧ Keeps (fun i => i = mb) w w' ∧ HasMap w' mb kstr accv m' ∧ Book m' (putS S n 0)) := by
 have Hbl := Hb.lt
 have Hml := Hm.lt
 have hlen := hB.len
 have K0 : Keeps (fun i => i = mb) w w := (Keeps.refl w).mono (fun _ _ h => h.elim)
 refine q_calls Tryz.func17 (by kernel_rfl) (by kernel_rfl) ?_
 refine qs ?_
 refine qg ?_
 refine og 1 [(0, (ptr b)), (1, (Value.string (str n))), (4, (i64 0))] 1 ?_
 refine od ?_
 refine qs ?_
 refine qg ?_
 refine og 3 [(4, (i64 0)), (5, (ptr b)), (7, (agg [(Value.string (str n)), (i64 0)]))] 3 ?_
 refine Ops.call (by kernel_rfl) (d := (some 8)) (by kernel_rfl) (Put_calls _ b mb m S n 0 Hb Hm (by omega) hB (by omega)) ?_
 rintro _ w2 ⟨m1, rfl, K3, H4, hB5⟩
 have hl6 := hB5.len
 refine ⟨_, _, rfl, rfl, ?_⟩
 replace K0 := K0.trans K3 (U := (fun i => i = mb)) (fun i h1 h2 => h2) (fun i h1 h2 => by have h2 : i = mb := h2; show i = mb; omega)
 replace Hb := Hb.keep K3 (by intro h; change b = mb at h; omega)
 clear K3
 refine og 1 [(4, (i64 (putE S n 0)))] 5 ?_
 refine od ?_
 refine q_ret (by kernel_rfl) ?_
 refine ⟨(i64 (putE S n 0)), retv_tmp rfl rfl, ?_⟩
 exact ⟨_, rfl, K0, H4, hB5⟩
end Go.Proofs.YtooginpgclcldaaGreatDoor
namespace Go.Proofs.YtooginpgclcldaaGreatDoor
open Go.Q Go.RowKit

theorem Get_none (w : World) (b mb : Nat) (m : List (List UInt8 × AccV)) (S : List AccM) (n : List UInt8) (Hb : Has w b (rowL [.map (some mb)] 66)) (Hm : HasMap w mb kstr accv m) (hne : b ≠ mb) (hB : Book m S) (hg : getS S n = none) : Calls Tryz.prog 34 ⟨[(ptr b), (Value.string (str n))]⟩ w (fun e w' => e = .returned (Value.tuple #[(i64 ((amtE S n).1)), (i64 ((amtE S n).2))]) ∧ Keeps none_ w w') := by
 have Hbl := Hb.lt
 have Hml := Hm.lt
 have hlen := hB.len
 have K0 : Keeps none_ w w := Keeps.refl w
 have hgm : getM m n = none := by rw [hB.get, hg]; rfl
 refine q_calls Tryz.func34 (by kernel_rfl) (by kernel_rfl) ?_
 refine qs ?_
 refine qg ?_
 refine og 2 [(0, (ptr b)), (1, (Value.string (str n))), (4, (i64 0)), (5, (i64 0))] 2 ?_
 refine od ?_
 refine qs ?_
 refine qs ?_
 refine qg ?_
 refine og 2 [(0, (ptr b)), (1, (Value.string (str n))), (4, (i64 0)), (5, (i64 0)), (9, (Value.bool false))] 2 ?_
 refine od ?_
 refine q_else (o := .tmp 9) (by kernel_rfl) rfl ?_
 refine q_skip (by kernel_rfl) ?_
 refine qs ?_
 refine qg ?_
 refine og 3 [(1, (Value.string (str n))), (4, (i64 0)), (5, (i64 0)), (13, (ptr b))] 3 ?_
 refine Ops.go (v := (Value.map (some mb))) (by kernel_rfl) (Runs.load (t := 64) (a := ⟨b, 0, none⟩) (by kernel_rfl) (Hb.loads (by kernel_rfl))) (d := (some 14)) (by kernel_rfl) rfl ?_
 refine og 1 [(4, (i64 0)), (5, (i64 0)), (14, (Value.map (some mb))), (15, (Value.string (str n)))] 5 ?_
 refine Ops.go (v := (Value.tuple #[(agg [(i64 0), (Value.string ByteArray.empty)]), (Value.bool false)])) (by kernel_rfl) (Runs.lookup_none (ok := true) (z := (agg [(i64 0), (Value.string ByteArray.empty)])) KT Tryz.underlying64 (by kernel_rfl) Hm hgm (by kernel_rfl)) (d := (some 16)) (by kernel_rfl) rfl ?_
 refine og 3 [(4, (i64 0)), (5, (i64 0)), (17, (agg [(i64 0), (Value.string ByteArray.empty)])), (18, (Value.bool false))] 9 ?_
 refine Ops.new (o := rowL [(i64 0), (Value.string ByteArray.empty)] 70) (V := fun b => (ptr b)) (by kernel_rfl) (d := (some 6)) (by kernel_rfl) (fun b => rfl) (fun b1 w2 hb3 H4 K5 hs6 => ?_)
 have lb1b : b < b1 := by have := Hb.lt; omega
 have lb1mb : mb < b1 := by have := Hm.lt; omega
 have nb1 : w.heap.size ≤ b1 := by have := K0.size; omega
 replace K0 := K0.t0 K5
 replace Hb := Hb.keep K5 (fun h => h)
 replace Hm := Hm.keep K5 (fun h => h)
 clear K5 hs6
 refine Ops.put (t := 70) (b := b1) (off := 0) (v := (agg [(i64 0), (Value.string ByteArray.empty)])) (ys := [(i64 0), (Value.string ByteArray.empty)]) (by kernel_rfl) (by kernel_rfl) H4 (by kernel_rfl) (d := none) (by kernel_rfl) rfl (fun w7 H8 K9 => ?_)
 clear H4
 replace K0 := K0.trans K9 (U := none_) (fun i h1 h2 => h2) (fun i h1 h2 => by have h2 : i = b1 := h2; exfalso; omega)
 replace Hb := Hb.keep K9 (by intro h; change b = b1 at h; omega)
 replace Hm := Hm.keep K9 (by intro h; change mb = b1 at h; omega)
 clear K9
 refine og 1 [(4, (i64 0)), (5, (i64 0)), (6, (ptr b1)), (7, (Value.bool false))] 12 ?_
 refine od ?_
 refine qs ?_
 refine qs ?_
 refine qg ?_
 refine og 2 [(4, (i64 0)), (5, (i64 0)), (6, (ptr b1)), (20, (Value.bool true))] 2 ?_
 refine od ?_
 refine q_then (o := .tmp 20) (by kernel_rfl) rfl ?_
 refine qs ?_
 refine qg ?_
 refine og 2 [(4, (i64 0)), (5, (i64 40)), (6, (ptr b1))] 2 ?_
 refine od ?_
 refine q_ret (by kernel_rfl) ?_
 refine ⟨(Value.tuple #[(i64 0), (i64 40)]), retv_tmp2 rfl rfl rfl, ?_⟩
 exact ⟨by unfold amtE; rw [hg] <;> rfl, K0⟩

theorem Get_some (w : World) (b mb : Nat) (m : List (List UInt8 × AccV)) (S : List AccM) (n : List UInt8) (a : AccM) (Hb : Has w b (rowL [.map (some mb)] 66)) (Hm : HasMap w mb kstr accv m) (hne : b ≠ mb) (hB : Book m S) (hg : getS S n = some a) : Calls Tryz.prog 34 ⟨[(ptr b), (Value.string (str n))]⟩ w (fun e w' => e = .returned (Value.tuple #[(i64 ((amtE S n).1)), (i64 ((amtE S n).2))]) ∧ Keeps none_ w w') := by
 have Hbl := Hb.lt
 have Hml := Hm.lt
 have hlen := hB.len
 have K0 : Keeps none_ w w := Keeps.refl w
 have hgm : getM m n = some (a.amt, a.own) := by rw [hB.get, hg]; rfl
 refine q_calls Tryz.func34 (by kernel_rfl) (by kernel_rfl) ?_
 refine qs ?_
 refine qg ?_
 refine og 2 [(0, (ptr b)), (1, (Value.string (str n))), (4, (i64 0)), (5, (i64 0))] 2 ?_
 refine od ?_
 refine qs ?_
 refine qs ?_
 refine qg ?_
 refine og 2 [(0, (ptr b)), (1, (Value.string (str n))), (4, (i64 0)), (5, (i64 0)), (9, (Value.bool false))] 2 ?_
 refine od ?_
 refine q_else (o := .tmp 9) (by kernel_rfl) rfl ?_
 refine q_skip (by kernel_rfl) ?_
 refine qs ?_
 refine qg ?_
 refine og 3 [(1, (Value.string (str n))), (4, (i64 0)), (5, (i64 0)), (13, (ptr b))] 3 ?_
 refine Ops.go (v := (Value.map (some mb))) (by kernel_rfl) (Runs.load (t := 64) (a := ⟨b, 0, none⟩) (by kernel_rfl) (Hb.loads (by kernel_rfl))) (d := (some 14)) (by kernel_rfl) rfl ?_
 refine og 1 [(4, (i64 0)), (5, (i64 0)), (14, (Value.map (some mb))), (15, (Value.string (str n)))] 5 ?_
 refine Ops.go (v := (Value.tuple #[(agg [(i64 a.amt), (Value.string (str a.own))]), (Value.bool true)])) (by kernel_rfl) (Runs.lookup_some (ok := true) (vf := accv) (a := (a.amt, a.own)) KT Tryz.underlying64 Hm hgm (by kernel_rfl)) (d := (some 16)) (by kernel_rfl) rfl ?_
 refine og 3 [(4, (i64 0)), (5, (i64 0)), (17, (agg [(i64 a.amt), (Value.string (str a.own))])), (18, (Value.bool true))] 9 ?_
 refine Ops.new (o := rowL [(i64 0), (Value.string ByteArray.empty)] 70) (V := fun b => (ptr b)) (by kernel_rfl) (d := (some 6)) (by kernel_rfl) (fun b => rfl) (fun b1 w2 hb3 H4 K5 hs6 => ?_)
 have lb1b : b < b1 := by have := Hb.lt; omega
 have lb1mb : mb < b1 := by have := Hm.lt; omega
 have nb1 : w.heap.size ≤ b1 := by have := K0.size; omega
 replace K0 := K0.t0 K5
 replace Hb := Hb.keep K5 (fun h => h)
 replace Hm := Hm.keep K5 (fun h => h)
 clear K5 hs6
 refine Ops.put (t := 70) (b := b1) (off := 0) (v := (agg [(i64 a.amt), (Value.string (str a.own))])) (ys := [(i64 a.amt), (Value.string (str a.own))]) (by kernel_rfl) (by kernel_rfl) H4 (by kernel_rfl) (d := none) (by kernel_rfl) rfl (fun w7 H8 K9 => ?_)
 clear H4
 replace K0 := K0.trans K9 (U := none_) (fun i h1 h2 => h2) (fun i h1 h2 => by have h2 : i = b1 := h2; exfalso; omega)
 replace Hb := Hb.keep K9 (by intro h; change b = b1 at h; omega)
 replace Hm := Hm.keep K9 (by intro h; change mb = b1 at h; omega)
 clear K9
 refine og 1 [(4, (i64 0)), (5, (i64 0)), (6, (ptr b1)), (7, (Value.bool true))] 12 ?_
 refine od ?_
 refine qs ?_
 refine qs ?_
 refine qg ?_
 refine og 2 [(4, (i64 0)), (5, (i64 0)), (6, (ptr b1)), (20, (Value.bool false))] 2 ?_
 refine od ?_
 refine q_else (o := .tmp 20) (by kernel_rfl) rfl ?_
 refine q_skip (by kernel_rfl) ?_
 refine qs ?_
 refine qg ?_
 refine og 1 [(4, (i64 0)), (5, (i64 0)), (21, (ptr b1))] 1 ?_
 refine Ops.go (v := (i64 a.amt)) (by kernel_rfl) (Runs.load (t := 2) (a := ⟨b1, 0, none⟩) (by kernel_rfl) (H8.loads (by kernel_rfl))) (d := (some 22)) (by kernel_rfl) rfl ?_
 refine og 2 [(4, (i64 a.amt)), (5, (i64 0))] 4 ?_
 refine od ?_
 refine q_ret (by kernel_rfl) ?_
 refine ⟨(Value.tuple #[(i64 a.amt), (i64 0)]), retv_tmp2 rfl rfl rfl, ?_⟩
 exact ⟨by unfold amtE; rw [hg] <;> rfl, K0⟩

theorem Get_calls (w : World) (b mb : Nat) (m : List (List UInt8 × AccV)) (S : List AccM) (n : List UInt8) (Hb : Has w b (rowL [.map (some mb)] 66)) (Hm : HasMap w mb kstr accv m) (hne : b ≠ mb) (hB : Book m S) : Calls Tryz.prog 34 ⟨[(ptr b), (Value.string (str n))]⟩ w (fun e w' => e = .returned (Value.tuple #[(i64 ((amtE S n).1)), (i64 ((amtE S n).2))]) ∧ Keeps none_ w w') := by
 cases hg : getS S n with
 | none => exact Get_none w b mb m S n Hb Hm hne hB hg
 | some a => exact Get_some w b mb m S n a Hb Hm hne hB hg

theorem By_none (w : World) (b mb : Nat) (m : List (List UInt8 × AccV)) (S : List AccM) (n : List UInt8) (Hb : Has w b (rowL [.map (some mb)] 66)) (Hm : HasMap w mb kstr accv m) (hne : b ≠ mb) (hB : Book m S) (hg : getS S n = none) : Calls Tryz.prog 37 ⟨[(ptr b), (Value.string (str n))]⟩ w (fun e w' => e = .returned (Value.string (str (ownE S n))) ∧ Keeps none_ w w') := by
 have Hbl := Hb.lt
 have Hml := Hm.lt
 have hlen := hB.len
 have K0 : Keeps none_ w w := Keeps.refl w
 have hgm : getM m n = none := by rw [hB.get, hg]; rfl
 refine q_calls Tryz.func37 (by kernel_rfl) (by kernel_rfl) ?_
 refine qs ?_
 refine qg ?_
 refine og 1 [(0, (ptr b)), (1, (Value.string (str n))), (4, (Value.string (str ([] : List UInt8))))] 1 ?_
 refine od ?_
 refine qs ?_
 refine qs ?_
 refine qg ?_
 refine og 2 [(0, (ptr b)), (1, (Value.string (str n))), (4, (Value.string (str ([] : List UInt8)))), (6, (Value.bool false))] 2 ?_
 refine od ?_
 refine q_else (o := .tmp 6) (by kernel_rfl) rfl ?_
 refine q_skip (by kernel_rfl) ?_
 refine qs ?_
 refine qg ?_
 refine og 3 [(1, (Value.string (str n))), (4, (Value.string (str ([] : List UInt8)))), (9, (ptr b))] 3 ?_
 refine Ops.go (v := (Value.map (some mb))) (by kernel_rfl) (Runs.load (t := 64) (a := ⟨b, 0, none⟩) (by kernel_rfl) (Hb.loads (by kernel_rfl))) (d := (some 10)) (by kernel_rfl) rfl ?_
 refine og 1 [(4, (Value.string (str ([] : List UInt8)))), (10, (Value.map (some mb))), (11, (Value.string (str n)))] 5 ?_
 refine Ops.go (v := (agg [(i64 0), (Value.string ByteArray.empty)])) (by kernel_rfl) (Runs.lookup_none (ok := false) (z := (agg [(i64 0), (Value.string ByteArray.empty)])) KT Tryz.underlying64 (by kernel_rfl) Hm hgm (by kernel_rfl)) (d := (some 12)) (by kernel_rfl) rfl ?_
 refine og 2 [(4, (Value.string ByteArray.empty))] 8 ?_
 refine od ?_
 refine q_ret (by kernel_rfl) ?_
 refine ⟨(Value.string ByteArray.empty), retv_tmp rfl rfl, ?_⟩
 exact ⟨by unfold ownE; rw [hg] <;> rfl, K0⟩

theorem By_some (w : World) (b mb : Nat) (m : List (List UInt8 × AccV)) (S : List AccM) (n : List UInt8) (a : AccM) (Hb : Has w b (rowL [.map (some mb)] 66)) (Hm : HasMap w mb kstr accv m) (hne : b ≠ mb) (hB : Book m S) (hg : getS S n = some a) : Calls Tryz.prog 37 ⟨[(ptr b), (Value.string (str n))]⟩ w (fun e w' => e = .returned (Value.string (str (ownE S n))) ∧ Keeps none_ w w') := by
 have Hbl := Hb.lt
 have Hml := Hm.lt
 have hlen := hB.len
 have K0 : Keeps none_ w w := Keeps.refl w
 have hgm : getM m n = some (a.amt, a.own) := by rw [hB.get, hg]; rfl
 refine q_calls Tryz.func37 (by kernel_rfl) (by kernel_rfl) ?_
 refine qs ?_
 refine qg ?_
 refine og 1 [(0, (ptr b)), (1, (Value.string (str n))), (4, (Value.string (str ([] : List UInt8))))] 1 ?_
 refine od ?_
 refine qs ?_
 refine qs ?_
 refine qg ?_
 refine og 2 [(0, (ptr b)), (1, (Value.string (str n))), (4, (Value.string (str ([] : List UInt8)))), (6, (Value.bool false))] 2 ?_
 refine od ?_
 refine q_else (o := .tmp 6) (by kernel_rfl) rfl ?_
 refine q_skip (by kernel_rfl) ?_
 refine qs ?_
 refine qg ?_
 refine og 3 [(1, (Value.string (str n))), (4, (Value.string (str ([] : List UInt8)))), (9, (ptr b))] 3 ?_
 refine Ops.go (v := (Value.map (some mb))) (by kernel_rfl) (Runs.load (t := 64) (a := ⟨b, 0, none⟩) (by kernel_rfl) (Hb.loads (by kernel_rfl))) (d := (some 10)) (by kernel_rfl) rfl ?_
 refine og 1 [(4, (Value.string (str ([] : List UInt8)))), (10, (Value.map (some mb))), (11, (Value.string (str n)))] 5 ?_
 refine Ops.go (v := (agg [(i64 a.amt), (Value.string (str a.own))])) (by kernel_rfl) (Runs.lookup_some (ok := false) (vf := accv) (a := (a.amt, a.own)) KT Tryz.underlying64 Hm hgm (by kernel_rfl)) (d := (some 12)) (by kernel_rfl) rfl ?_
 refine og 2 [(4, (Value.string (str a.own)))] 8 ?_
 refine od ?_
 refine q_ret (by kernel_rfl) ?_
 refine ⟨(Value.string (str a.own)), retv_tmp rfl rfl, ?_⟩
 exact ⟨by unfold ownE; rw [hg] <;> rfl, K0⟩

theorem By_calls (w : World) (b mb : Nat) (m : List (List UInt8 × AccV)) (S : List AccM) (n : List UInt8) (Hb : Has w b (rowL [.map (some mb)] 66)) (Hm : HasMap w mb kstr accv m) (hne : b ≠ mb) (hB : Book m S) : Calls Tryz.prog 37 ⟨[(ptr b), (Value.string (str n))]⟩ w (fun e w' => e = .returned (Value.string (str (ownE S n))) ∧ Keeps none_ w w') := by
 cases hg : getS S n with
 | none => exact By_none w b mb m S n Hb Hm hne hB hg
 | some a => exact By_some w b mb m S n a Hb Hm hne hB hg

theorem Len_calls (w : World) (b mb : Nat) (m : List (List UInt8 × AccV)) (S : List AccM) (Hb : Has w b (rowL [.map (some mb)] 66)) (Hm : HasMap w mb kstr accv m) (hne : b ≠ mb) (hB : Book m S) : Calls Tryz.prog 39 ⟨[(ptr b)]⟩ w (fun e w' => e = .returned (i64 ((S.length : Nat) : Int)) ∧ Keeps none_ w w') := by
 have Hbl := Hb.lt
 have Hml := Hm.lt
 have hlen := hB.len
 have K0 : Keeps none_ w w := Keeps.refl w
 refine q_calls Tryz.func39 (by kernel_rfl) (by kernel_rfl) ?_
 refine qs ?_
 refine qg ?_
 refine og 1 [(0, (ptr b)), (2, (i64 0))] 1 ?_
 refine od ?_
 refine qs ?_
 refine qs ?_
 refine qg ?_
 refine og 2 [(0, (ptr b)), (2, (i64 0)), (4, (Value.bool false))] 2 ?_
 refine od ?_
 refine q_else (o := .tmp 4) (by kernel_rfl) rfl ?_
 refine q_skip (by kernel_rfl) ?_
 refine qs ?_
 refine qg ?_
 refine og 3 [(2, (i64 0)), (7, (ptr b))] 3 ?_
 refine Ops.go (v := (Value.map (some mb))) (by kernel_rfl) (Runs.load (t := 64) (a := ⟨b, 0, none⟩) (by kernel_rfl) (Hb.loads (by kernel_rfl))) (d := (some 8)) (by kernel_rfl) rfl ?_
 refine Ops.go (v := (i64 ((m.length : Nat) : Int))) (by kernel_rfl) (Runs.maplen (ts := #[64]) (t0 := 64) (ty := 3) rfl Tryz.underlying64 Hm (by kernel_rfl)) (d := (some 9)) (by kernel_rfl) rfl ?_
 refine og 1 [(2, (i64 ((m.length : Nat) : Int)))] 6 ?_
 refine od ?_
 refine q_ret (by kernel_rfl) ?_
 refine ⟨(i64 ((m.length : Nat) : Int)), retv_tmp rfl rfl, ?_⟩
 exact ⟨by rw [hlen], K0⟩

theorem Slot_calls (w : World) (n : List UInt8) (hn : n.length ≤ 140737488351232) : Calls Tryz.prog 74 ⟨[(Value.string (str n))]⟩ w (fun e w' => e = .returned (i64 ((slotB n : Nat) : Int)) ∧ Keeps none_ w w') := by
 have K0 : Keeps none_ w w := Keeps.refl w
 refine q_calls Tryz.func74 (by kernel_rfl) (by kernel_rfl) ?_
 refine qs ?_
 refine qg ?_
 refine og 1 [(0, (Value.string (str n))), (2, (i64 0))] 1 ?_
 refine od ?_
 refine qs ?_
 refine qg ?_
 refine og 1 [(2, (i64 0)), (3, (Value.string (str n)))] 1 ?_
 obtain ⟨A1, c2, w3, hr4, K5, F6, hge7⟩ := run_s2b (P := Tryz.prog) (w := w) (src := 9) (dst := 22) (e := 5) (ss := n) (by kernel_rfl) (by kernel_rfl) (by first | omega | decide)
 refine Ops.go (v := (Value.slice A1 n.length c2)) (by kernel_rfl) (Runs.conv (by kernel_rfl) hr4) (d := (some 4)) (by kernel_rfl) rfl ?_
 replace K0 := K0.t0 K5
 clear K5 hr4 hge7
 refine Ops.call (by kernel_rfl) (d := (some 5)) (by kernel_rfl) (Sum_calls _ (Value.slice A1 n.length c2) n F6 (by omega)) ?_
 rintro _ w8 ⟨rfl, K9⟩
 have hb10 := crcMore_lt n (s := 0) (by omega)
 refine ⟨_, _, rfl, rfl, ?_⟩
 replace K0 := K0.t0 K9
 replace F6 := (Rd.keep0 (by omega) F6 K9)
 clear K9
 refine og 1 [(2, (i64 0)), (6, (Value.int IntKind.u32 ((((crcMore 0 n : Nat) : Int)).tmod 16)))] 4 ?_
 have e11 : (((crcMore 0 n : Nat) : Int)).tmod 16 = (((crcMore 0 n) % 16 : Nat) : Int) := tmod_nat (crcMore 0 n) 16
 rw [e11]
 clear e11
 refine og 1 [(2, (i64 0)), (7, (i64 (IntKind.i64.wrap ((((crcMore 0 n) % 16 : Nat) : Int)))))] 5 ?_
 have e12 : IntKind.i64.wrap ((((crcMore 0 n) % 16 : Nat) : Int)) = (((crcMore 0 n) % 16 : Nat) : Int) := wrap_i64 (by omega) (by omega)
 rw [e12]
 refine og 1 [(2, (i64 (((crcMore 0 n) % 16 : Nat) : Int)))] 6 ?_
 refine od ?_
 refine q_ret (by kernel_rfl) ?_
 refine ⟨(i64 (((crcMore 0 n) % 16 : Nat) : Int)), retv_tmp rfl rfl, ?_⟩
 exact ⟨rfl, K0⟩

theorem names_calls (w : World) (b mb : Nat) (m : List (List UInt8 × AccV)) (S : List AccM) (Hb : Has w b (rowL [.map (some mb)] 66)) (Hm : HasMap w mb kstr accv m) (hne : b ≠ mb) (hB : Book m S) : Calls Tryz.prog 31 ⟨[(ptr b)]⟩ w (fun e w' => ∃ A c, e = .returned (.slice A (S.map (·.name)).length c) ∧ Keeps none_ w w' ∧ OwnT w' w.heap.size 9 1 kcell (.slice A (S.map (·.name)).length c) (S.map (·.name))) := by
 have Hbl := Hb.lt
 have Hml := Hm.lt
 have hlen := hB.len
 have K0 : Keeps none_ w w := Keeps.refl w
 refine q_calls Tryz.func31 (by kernel_rfl) (by kernel_rfl) ?_
 refine qs ?_
 refine qg ?_
 refine og 1 [(0, (ptr b)), (2, (Value.slice none 0 0))] 1 ?_
 refine od ?_
 refine qs ?_
 refine qg ?_
 refine og 3 [(2, (Value.slice none 0 0)), (5, (ptr b))] 3 ?_
 refine Ops.go (v := (Value.map (some mb))) (by kernel_rfl) (Runs.load (t := 64) (a := ⟨b, 0, none⟩) (by kernel_rfl) (Hb.loads (by kernel_rfl))) (d := (some 6)) (by kernel_rfl) rfl ?_
 refine Ops.call (by kernel_rfl) (d := (some 7)) (by kernel_rfl) (Keys_calls _ mb) ?_
 rintro _ w2 ⟨kc1, rfl, K3, H4, hc5⟩
 have lkc1b : b < kc1 := by have := Hb.lt; omega
 have lkc1mb : mb < kc1 := by have := Hm.lt; omega
 have nkc1 : w.heap.size ≤ kc1 := by have := K0.size; omega
 refine ⟨_, _, rfl, rfl, ?_⟩
 replace K0 := K0.t0 K3
 replace Hb := Hb.keep K3 (fun h => h)
 replace Hm := Hm.keep K3 (fun h => h)
 clear K3
 refine Ops.call (by kernel_rfl) (d := (some 8)) (by kernel_rfl) (Sorted_calls _ kc1 mb m S H4 Hm hB) ?_
 rintro _ w9 ⟨v6, rfl, K10, hO11⟩
 obtain ⟨A7, c8, rfl⟩ := RdT.form kcell_len (by decide) (OwnT.rd hO11)
 have ob13 : ∀ i, ((Value.slice A7 ((S.map (·.name)).length) c8)).ownBlock = some i → i ≠ b := fun i hi => by have := (World.ownsRow.lt hO11 i hi).1; have := Hb.lt; omega
 have ob14 : ∀ i, ((Value.slice A7 ((S.map (·.name)).length) c8)).ownBlock = some i → i ≠ mb := fun i hi => by have := (World.ownsRow.lt hO11 i hi).1; have := Hm.lt; omega
 have ob15 : ∀ i, ((Value.slice A7 ((S.map (·.name)).length) c8)).ownBlock = some i → i ≠ kc1 := fun i hi => by have := (World.ownsRow.lt hO11 i hi).1; have := H4.lt; omega
 have O12 := own_base hO11 K0.size
 clear hO11
 refine ⟨_, _, rfl, rfl, ?_⟩
 replace K0 := K0.t0 K10
 replace Hb := Hb.keep K10 (fun h => h)
 replace Hm := Hm.keep K10 (fun h => h)
 replace H4 := H4.keep K10 (fun h => h)
 clear K10
 refine og 1 [(2, (Value.slice A7 ((S.map (·.name)).length) c8))] 7 ?_
 refine od ?_
 refine q_ret (by kernel_rfl) ?_
 refine ⟨(Value.slice A7 ((S.map (·.name)).length) c8), retv_tmp rfl rfl, ?_⟩
 exact ⟨_, _, rfl, K0, O12⟩
end Go.Proofs.YtooginpgclcldaaGreatDoor
namespace Go.Proofs.YtooginpgclcldaaGreatDoor
open Go.Q Go.RowKit
theorem tyR : ElemTy Tryz.prog 75 52 2 24 := elemTy (by kernel_rfl)

theorem Rows_calls (w : World) (b mb : Nat) (m : List (List UInt8 × AccV)) (S : List AccM) (k : Int) (Hb : Has w b (rowL [.map (some mb)] 66)) (Hm : HasMap w mb kstr accv m) (hne : b ≠ mb) (hB : Book m S) : Calls Tryz.prog 36 ⟨[(ptr b), (i64 k)]⟩ w (fun e w' => ∃ A c, e = .returned (.slice A (rowsS S k).length c) ∧ Keeps none_ w w' ∧ OwnR w' w.heap.size 52 (.slice A (rowsS S k).length c) (rowsS S k)) := by
 have Hbl := Hb.lt
 have Hml := Hm.lt
 have hlen := hB.len
 have hSl := hB.accs.len
 have K0 : Keeps none_ w w := Keeps.refl w
 refine q_calls Tryz.func36 (by kernel_rfl) (by kernel_rfl) ?_
 refine qs ?_
 refine qg ?_
 refine og 1 [(0, (ptr b)), (1, (i64 k)), (4, (Value.slice none 0 0))] 1 ?_
 refine od ?_
 refine qs ?_
 refine qs ?_
 refine qg ?_
 refine og 2 [(0, (ptr b)), (1, (i64 k)), (4, (Value.slice none 0 0)), (9, (Value.bool false))] 2 ?_
 refine od ?_
 refine q_else (o := .tmp 9) (by kernel_rfl) rfl ?_
 refine q_skip (by kernel_rfl) ?_
 refine qs ?_
 refine qg ?_
 refine og 1 [(0, (ptr b)), (1, (i64 k)), (4, (Value.slice none 0 0)), (5, (Value.slice none 0 0))] 1 ?_
 refine od ?_
 refine qs ?_
 refine qs ?_
 refine qg ?_
 refine og 1 [(0, (ptr b)), (1, (i64 k)), (4, (Value.slice none 0 0)), (5, (Value.slice none 0 0)), (10, (ptr b))] 1 ?_
 refine Ops.call (by kernel_rfl) (d := (some 11)) (by kernel_rfl) (names_calls _ b mb m S Hb Hm (by omega) hB) ?_
 rintro _ w3 ⟨A1, c2, rfl, K4, hO5⟩
 have ob7 : ∀ i, ((Value.slice A1 ((S.map (·.name)).length) c2)).ownBlock = some i → i ≠ b := fun i hi => by have := (World.ownsRow.lt hO5 i hi).1; have := Hb.lt; omega
 have ob8 : ∀ i, ((Value.slice A1 ((S.map (·.name)).length) c2)).ownBlock = some i → i ≠ mb := fun i hi => by have := (World.ownsRow.lt hO5 i hi).1; have := Hm.lt; omega
 have O6 := own_base hO5 K0.size
 clear hO5
 have hl9 : (S.map (·.name)).length = S.length := List.length_map ..
 refine ⟨_, _, rfl, rfl, ?_⟩
 replace K0 := K0.t0 K4
 replace Hb := Hb.keep K4 (fun h => h)
 replace Hm := Hm.keep K4 (fun h => h)
 clear K4
 refine og 2 [(0, (ptr b)), (1, (i64 k)), (4, (Value.slice none 0 0)), (5, (Value.slice none 0 0)), (11, (Value.slice A1 ((S.map (·.name)).length) c2)), (12, (i64 (((S.map (·.name)).length : Nat) : Int))), (13, (i64 0))] 4 ?_
 refine od ?_
 refine q_block (id := 0) (by kernel_rfl) ?_
 refine q_keep (R := [(0, (ptr b)), (1, (i64 k)), (4, (Value.slice none 0 0)), (5, (Value.slice none 0 0)), (11, (Value.slice A1 ((S.map (·.name)).length) c2)), (12, (i64 (((S.map (·.name)).length : Nat) : Int))), (13, (i64 0))]) (by kernel_rfl) ?_
 refine q_loop (fun (gs : (Option Addr) × Nat × Nat × (List RowM)) L (wx : World) => match gs with | (VA, vc, i, l) => L = [(0, (ptr b)), (1, (i64 k)), (4, (Value.slice none 0 0)), (5, (Value.slice VA l.length vc)), (11, (Value.slice A1 ((S.map (·.name)).length) c2)), (12, (i64 (((S.map (·.name)).length : Nat) : Int))), (13, (i64 ((i : Nat) : Int)))] ∧ OwnT wx w.heap.size 9 1 kcell (Value.slice A1 ((S.map (·.name)).length) c2) (S.map (·.name)) ∧ (∀ i, ((Value.slice A1 ((S.map (·.name)).length) c2)).ownBlock = some i → i ≠ b) ∧ (∀ i, ((Value.slice A1 ((S.map (·.name)).length) c2)).ownBlock = some i → i ≠ mb) ∧ (∀ i, ((Value.slice VA l.length vc)).ownBlock = some i → ((Value.slice A1 ((S.map (·.name)).length) c2)).ownBlock = some i → False) ∧ OwnR wx w.heap.size 52 (Value.slice VA l.length vc) l ∧ (∀ i, ((Value.slice VA l.length vc)).ownBlock = some i → i ≠ b) ∧ (∀ i, ((Value.slice VA l.length vc)).ownBlock = some i → i ≠ mb) ∧ (∀ i, ((Value.slice A1 ((S.map (·.name)).length) c2)).ownBlock = some i → ((Value.slice VA l.length vc)).ownBlock = some i → False) ∧ i ≤ S.length ∧ l = rowsS (S.take i) k ∧ Keeps none_ w wx ∧ Has wx b (rowL [(Value.map (some mb))] 66) ∧ HasMap wx mb kstr accv m) (fun (gs : (Option Addr) × Nat × Nat × (List RowM)) => match gs with | (VA, vc, i, l) => S.length - i) (none, 0, 0, []) (by kernel_rfl) ⟨rfl, O6, ob7, ob8, (fun _ h => by cases h), (OwnT.nil _ _ _ _ _), (fun i hi => by cases hi), (fun i hi => by cases hi), (fun _ _ h => by cases h), Nat.zero_le _, rfl, K0, Hb, Hm⟩ ?_
 clear Hb Hm O6 K0
 rintro ⟨VA, vc, i, l⟩ _ w10 ⟨rfl, hON, obNb, obNmb, ooNV, hOV, obVb, obVmb, ooVN, hi, hE, K11, H12, H13⟩
 have hrl := rowsS_len (S.take i) k
 rw [List.length_take, ← hE] at hrl
 refine qs ?_
 refine qg ?_
 refine og 1 [(0, (ptr b)), (1, (i64 k)), (4, (Value.slice none 0 0)), (5, (Value.slice VA l.length vc)), (11, (Value.slice A1 ((S.map (·.name)).length) c2)), (12, (i64 (((S.map (·.name)).length : Nat) : Int))), (13, (i64 ((i : Nat) : Int))), (14, (Value.bool (decide (((i : Nat) : Int) < (((S.map (·.name)).length : Nat) : Int)))))] 1 ?_
 refine od ?_
 refine qs ?_
 refine q_cond (o := .tmp 14) (b := (decide (((i : Nat) : Int) < (((S.map (·.name)).length : Nat) : Int)))) (by kernel_rfl) rfl (fun h14 => ?_) (fun h14 => ?_)
 ·rw [h14]
  have p15 : ((i : Nat) : Int) < (((S.map (·.name)).length : Nat) : Int) := of_decide_eq_true h14
  obtain ⟨a, ha⟩ : ∃ y, S[i]? = some y := ⟨_, List.getElem?_eq_getElem (by omega)⟩
  have hga := hB.accs.get_of (List.mem_of_getElem? ha)
  have hgm : getM m a.name = some (a.amt, a.own) := by rw [hB.get, hga]; rfl
  have hao := hB.accs.ok a (List.mem_of_getElem? ha)
  have hal := hao.len
  have hna := name_at ha
  have hrt := rows_take k ha
  obtain ⟨rb16, ro17, hA18⟩ := Rd.addr (OwnT.rd hON) (by omega)
  refine q_skip (by kernel_rfl) ?_
  refine qs ?_
  refine q_block (id := 1) (by kernel_rfl) ?_
  refine qs ?_
  refine qg ?_
  refine Ops.go (by kernel_rfl) (Runs.ixSliceE (k := IntKind.i64) (t := 67) (len := ((S.map (·.name)).length)) (cap := c2) (s := 1) (off' := ro17 + i) (i := ((i : Nat) : Int)) hA18 (by kernel_rfl) (by kernel_rfl) (by omega) (by omega) (by omega)) (d := (some 15)) (by kernel_rfl) rfl ?_
  refine Ops.go (v := (Value.string (str a.name))) (by kernel_rfl) (Runs.load (t := 9) (a := ⟨rb16, ro17 + i, none⟩) (by kernel_rfl) (RdT.ld1 (f := kcell) (x := a.name) kcell_len (OwnT.rd hON) (by kernel_rfl) hA18 hna rfl)) (d := (some 16)) (by kernel_rfl) rfl ?_
  refine og 1 [(0, (ptr b)), (1, (i64 k)), (4, (Value.slice none 0 0)), (5, (Value.slice VA l.length vc)), (7, (Value.string (str a.name))), (11, (Value.slice A1 ((S.map (·.name)).length) c2)), (12, (i64 (((S.map (·.name)).length : Nat) : Int))), (13, (i64 ((i : Nat) : Int))), (14, (Value.bool true))] 3 ?_
  refine od ?_
  refine qs ?_
  refine qg ?_
  refine og 3 [(0, (ptr b)), (1, (i64 k)), (4, (Value.slice none 0 0)), (5, (Value.slice VA l.length vc)), (7, (Value.string (str a.name))), (11, (Value.slice A1 ((S.map (·.name)).length) c2)), (12, (i64 (((S.map (·.name)).length : Nat) : Int))), (13, (i64 ((i : Nat) : Int))), (14, (Value.bool true)), (19, (Value.bool (k == (-1))))] 3 ?_
  refine Ops.split (k == (-1)) (fun h19 => ?_) (fun h19 => ?_)
  ·rw [h19]
   have p20 : k = (-1) := of_beq_t h19
   refine og 5 [(0, (ptr b)), (1, (i64 k)), (4, (Value.slice none 0 0)), (5, (Value.slice VA l.length vc)), (7, (Value.string (str a.name))), (11, (Value.slice A1 ((S.map (·.name)).length) c2)), (12, (i64 (((S.map (·.name)).length : Nat) : Int))), (13, (i64 ((i : Nat) : Int))), (14, (Value.bool true)), (24, (Value.bool true))] 8 ?_
   refine od ?_
   refine q_then (o := .tmp 24) (by kernel_rfl) rfl ?_
   refine qg ?_
   refine og 5 [(0, (ptr b)), (1, (i64 k)), (4, (Value.slice none 0 0)), (5, (Value.slice VA l.length vc)), (7, (Value.string (str a.name))), (11, (Value.slice A1 ((S.map (·.name)).length) c2)), (12, (i64 (((S.map (·.name)).length : Nat) : Int))), (13, (i64 ((i : Nat) : Int))), (14, (Value.bool true)), (24, (Value.bool true)), (25, (Value.slice VA l.length vc)), (26, (Value.string (str a.name))), (29, (ptr b))] 5 ?_
   refine Ops.go (v := (Value.map (some mb))) (by kernel_rfl) (Runs.load (t := 64) (a := ⟨b, 0, none⟩) (by kernel_rfl) (H12.loads (by kernel_rfl))) (d := (some 30)) (by kernel_rfl) rfl ?_
   refine og 1 [(0, (ptr b)), (1, (i64 k)), (4, (Value.slice none 0 0)), (5, (Value.slice VA l.length vc)), (7, (Value.string (str a.name))), (11, (Value.slice A1 ((S.map (·.name)).length) c2)), (12, (i64 (((S.map (·.name)).length : Nat) : Int))), (13, (i64 ((i : Nat) : Int))), (14, (Value.bool true)), (24, (Value.bool true)), (25, (Value.slice VA l.length vc)), (26, (Value.string (str a.name))), (30, (Value.map (some mb))), (31, (Value.string (str a.name)))] 7 ?_
   refine Ops.go (v := (agg [(i64 a.amt), (Value.string (str a.own))])) (by kernel_rfl) (Runs.lookup_some (ok := false) (vf := accv) (a := (a.amt, a.own)) KT Tryz.underlying64 H13 hgm (by kernel_rfl)) (d := (some 32)) (by kernel_rfl) rfl ?_
   refine og 2 [(0, (ptr b)), (1, (i64 k)), (4, (Value.slice none 0 0)), (5, (Value.slice VA l.length vc)), (7, (Value.string (str a.name))), (11, (Value.slice A1 ((S.map (·.name)).length) c2)), (12, (i64 (((S.map (·.name)).length : Nat) : Int))), (13, (i64 ((i : Nat) : Int))), (14, (Value.bool true)), (24, (Value.bool true)), (25, (Value.slice VA l.length vc)), (34, (agg [(Value.string (str a.name)), (i64 a.amt)]))] 10 ?_
   refine Ops.new (o := rowL [(Value.string (str a.name)), (i64 a.amt)] 52) (V := fun b => (Value.slice (some ⟨b, 0, none⟩) 1 1)) (by kernel_rfl) (d := (some 35)) (by kernel_rfl) (fun b => rfl) (fun b21 w22 hb23 H24 K25 hs26 => ?_)
   have lb21b : b < b21 := by have := H12.lt; omega
   have lb21mb : mb < b21 := by have := H13.lt; omega
   have nb21 : w.heap.size ≤ b21 := by have := K11.size; omega
   have ob27 : ∀ i, ((Value.slice A1 ((S.map (·.name)).length) c2)).ownBlock = some i → i < b21 := fun i hi => by have := (World.ownsRow.lt hON i hi).2; omega
   have ob28 : ∀ i, ((Value.slice VA l.length vc)).ownBlock = some i → i < b21 := fun i hi => by have := (World.ownsRow.lt hOV i hi).2; omega
   replace K11 := K11.trans K25 (U := none_) (fun i h1 h2 => h2) (fun i h1 h2 => by exact h2)
   replace H12 := H12.keep K25 (fun h => h)
   replace H13 := H13.keep K25 (fun h => h)
   replace hON := own_keep0 hON K25
   replace hOV := own_keep0 hOV K25
   clear K25 hs26
   obtain ⟨v29, w30, hr31, hO32, hK33, hg34⟩ := OwnT.app (ty := 75) RowM.two RowM.one tyR hOV (show RdT _ 2 RowM.cells _ [(⟨a.name, a.amt⟩ : RowM)] from Rd.lit H24 (n := 1) rfl (by decide)) (by simp only [List.length_cons, List.length_nil]; omega) (by simp only [List.length_cons, List.length_nil]; omega) K11.size
   obtain ⟨A36, c37, rfl⟩ := RdT.form RowM.two (by decide) (OwnT.rd hO32)
   have ob38 : ∀ i, ((Value.slice A36 ((l ++ [(⟨a.name, a.amt⟩ : RowM)]).length) c37)).ownBlock = some i → i ≠ b := fun i hi => by rcases hg34 i hi with h | h; (have := obVb i h; omega); (have := H12.lt; omega)
   have ob39 : ∀ i, ((Value.slice A36 ((l ++ [(⟨a.name, a.amt⟩ : RowM)]).length) c37)).ownBlock = some i → i ≠ mb := fun i hi => by rcases hg34 i hi with h | h; (have := obVmb i h; omega); (have := H13.lt; omega)
   have ob40 : ∀ i, ((Value.slice A36 ((l ++ [(⟨a.name, a.amt⟩ : RowM)]).length) c37)).ownBlock = some i → i ≠ b21 := fun i hi => by rcases hg34 i hi with h | h; (have := ob28 i h; omega); (have := H24.lt; omega)
   have oo41 : ∀ i, ((Value.slice A1 ((S.map (·.name)).length) c2)).ownBlock = some i → ((Value.slice A36 ((l ++ [(⟨a.name, a.amt⟩ : RowM)]).length) c37)).ownBlock = some i → False := fun i hi hs => by rcases hg34 i hs with h | h; (exact ooVN i hi h); (have := (World.ownsRow.lt hON i hi).2; omega)
   have oo42 : ∀ i, ((Value.slice A36 ((l ++ [(⟨a.name, a.amt⟩ : RowM)]).length) c37)).ownBlock = some i → ((Value.slice A1 ((S.map (·.name)).length) c2)).ownBlock = some i → False := fun i hi hs => oo41 i hs hi
   have K35 := hK33
   refine Ops.go (v := (Value.slice A36 ((l ++ [(⟨a.name, a.amt⟩ : RowM)]).length) c37)) (by kernel_rfl) (Runs.append (ts := #[75, 75]) (ty := 75) (vs := [(Value.slice VA l.length vc), (Value.slice (some ⟨b21, 0, none⟩) 1 1)]) (by kernel_rfl) hr31) (d := (some 36)) (by kernel_rfl) rfl ?_
   replace K11 := K11.trans K35 (U := none_) (fun i h1 h2 => h2) (fun i h1 h2 => by have h2 : ((Value.slice VA l.length vc)).ownBlock = some i := h2; exfalso; have := (World.ownsRow.lt hOV i h2).1; omega)
   replace H12 := H12.keep K35 (by intro h; change ((Value.slice VA l.length vc)).ownBlock = some b at h; have := obVb b h; omega)
   replace H13 := H13.keep K35 (by intro h; change ((Value.slice VA l.length vc)).ownBlock = some mb at h; have := obVmb mb h; omega)
   replace H24 := H24.keep K35 (by intro h; change ((Value.slice VA l.length vc)).ownBlock = some b21 at h; have := ob28 b21 h; omega)
   replace hON := own_keep hON K35 (fun i hi hs => by have hs : ((Value.slice VA l.length vc)).ownBlock = some i := hs; exact ooVN i hi hs)
   clear hOV
   clear K35 hr31 hK33 hg34
   refine og 1 [(0, (ptr b)), (1, (i64 k)), (4, (Value.slice none 0 0)), (5, (Value.slice A36 ((l ++ [(⟨a.name, a.amt⟩ : RowM)]).length) c37)), (7, (Value.string (str a.name))), (11, (Value.slice A1 ((S.map (·.name)).length) c2)), (12, (i64 (((S.map (·.name)).length : Nat) : Int))), (13, (i64 ((i : Nat) : Int))), (14, (Value.bool true)), (24, (Value.bool true))] 13 ?_
   refine od ?_
   refine qg ?_
   refine og 1 [(0, (ptr b)), (1, (i64 k)), (4, (Value.slice none 0 0)), (5, (Value.slice A36 ((l ++ [(⟨a.name, a.amt⟩ : RowM)]).length) c37)), (7, (Value.string (str a.name))), (11, (Value.slice A1 ((S.map (·.name)).length) c2)), (12, (i64 (((S.map (·.name)).length : Nat) : Int))), (13, (i64 ((i : Nat) : Int))), (14, (Value.bool true)), (24, (Value.bool true)), (37, (i64 (IntKind.i64.wrap (((i : Nat) : Int) + 1))))] 1 ?_
   have e43 : IntKind.i64.wrap (((i : Nat) : Int) + 1) = ((i + 1 : Nat) : Int) := by rw [wrap_i64 (by omega) (by omega)]; omega
   rw [e43]
   clear e43
   refine og 1 [(0, (ptr b)), (1, (i64 k)), (4, (Value.slice none 0 0)), (5, (Value.slice A36 ((l ++ [(⟨a.name, a.amt⟩ : RowM)]).length) c37)), (7, (Value.string (str a.name))), (11, (Value.slice A1 ((S.map (·.name)).length) c2)), (12, (i64 (((S.map (·.name)).length : Nat) : Int))), (13, (i64 ((i + 1 : Nat) : Int))), (14, (Value.bool true)), (24, (Value.bool true))] 2 ?_
   refine Ops.keep (R := [(0, (ptr b)), (1, (i64 k)), (4, (Value.slice none 0 0)), (5, (Value.slice A36 ((l ++ [(⟨a.name, a.amt⟩ : RowM)]).length) c37)), (11, (Value.slice A1 ((S.map (·.name)).length) c2)), (12, (i64 (((S.map (·.name)).length : Nat) : Int))), (13, (i64 ((i + 1 : Nat) : Int)))]) (by kernel_rfl) ?_
   refine od ?_
   exact ⟨(A36, c37, i + 1, l ++ [(⟨a.name, a.amt⟩ : RowM)]), ⟨rfl, hON, obNb, obNmb, oo42, hO32, ob38, ob39, oo41, (by omega), (by rw [hrt, ← hE, inSlot_t (by omega), if_pos rfl]; first | done | rfl), K11, H12, H13⟩, (show S.length - (i + 1) < S.length - i from by omega)⟩
  ·rw [h19]
   have p44 : ¬ (k = (-1)) := of_beq_f h19
   refine og 1 [(0, (ptr b)), (1, (i64 k)), (4, (Value.slice none 0 0)), (5, (Value.slice VA l.length vc)), (7, (Value.string (str a.name))), (11, (Value.slice A1 ((S.map (·.name)).length) c2)), (12, (i64 (((S.map (·.name)).length : Nat) : Int))), (13, (i64 ((i : Nat) : Int))), (14, (Value.bool true)), (19, (Value.bool false)), (20, (Value.string (str a.name)))] 4 ?_
   refine Ops.call (by kernel_rfl) (d := (some 21)) (by kernel_rfl) (Slot_calls _ a.name (by omega)) ?_
   rintro _ w46 ⟨rfl, K45⟩
   have hs47 : slotB a.name < 16 := Nat.mod_lt _ (by decide)
   refine ⟨_, _, rfl, rfl, ?_⟩
   replace K11 := K11.trans K45 (U := none_) (fun i h1 h2 => h2) (fun i h1 h2 => by exact h2)
   replace H12 := H12.keep K45 (fun h => h)
   replace H13 := H13.keep K45 (fun h => h)
   replace hON := own_keep0 hON K45
   replace hOV := own_keep0 hOV K45
   clear K45
   refine og 3 [(0, (ptr b)), (1, (i64 k)), (4, (Value.slice none 0 0)), (5, (Value.slice VA l.length vc)), (7, (Value.string (str a.name))), (11, (Value.slice A1 ((S.map (·.name)).length) c2)), (12, (i64 (((S.map (·.name)).length : Nat) : Int))), (13, (i64 ((i : Nat) : Int))), (14, (Value.bool true)), (24, (Value.bool (((slotB a.name : Nat) : Int) == k)))] 8 ?_
   refine od ?_
   refine q_cond (o := .tmp 24) (b := (((slotB a.name : Nat) : Int) == k)) (by kernel_rfl) rfl (fun h48 => ?_) (fun h48 => ?_)
   ·rw [h48]
    have p49 : ((slotB a.name : Nat) : Int) = k := of_beq_t h48
    refine qg ?_
    refine og 5 [(0, (ptr b)), (1, (i64 k)), (4, (Value.slice none 0 0)), (5, (Value.slice VA l.length vc)), (7, (Value.string (str a.name))), (11, (Value.slice A1 ((S.map (·.name)).length) c2)), (12, (i64 (((S.map (·.name)).length : Nat) : Int))), (13, (i64 ((i : Nat) : Int))), (14, (Value.bool true)), (24, (Value.bool true)), (25, (Value.slice VA l.length vc)), (26, (Value.string (str a.name))), (29, (ptr b))] 5 ?_
    refine Ops.go (v := (Value.map (some mb))) (by kernel_rfl) (Runs.load (t := 64) (a := ⟨b, 0, none⟩) (by kernel_rfl) (H12.loads (by kernel_rfl))) (d := (some 30)) (by kernel_rfl) rfl ?_
    refine og 1 [(0, (ptr b)), (1, (i64 k)), (4, (Value.slice none 0 0)), (5, (Value.slice VA l.length vc)), (7, (Value.string (str a.name))), (11, (Value.slice A1 ((S.map (·.name)).length) c2)), (12, (i64 (((S.map (·.name)).length : Nat) : Int))), (13, (i64 ((i : Nat) : Int))), (14, (Value.bool true)), (24, (Value.bool true)), (25, (Value.slice VA l.length vc)), (26, (Value.string (str a.name))), (30, (Value.map (some mb))), (31, (Value.string (str a.name)))] 7 ?_
    refine Ops.go (v := (agg [(i64 a.amt), (Value.string (str a.own))])) (by kernel_rfl) (Runs.lookup_some (ok := false) (vf := accv) (a := (a.amt, a.own)) KT Tryz.underlying64 H13 hgm (by kernel_rfl)) (d := (some 32)) (by kernel_rfl) rfl ?_
    refine og 2 [(0, (ptr b)), (1, (i64 k)), (4, (Value.slice none 0 0)), (5, (Value.slice VA l.length vc)), (7, (Value.string (str a.name))), (11, (Value.slice A1 ((S.map (·.name)).length) c2)), (12, (i64 (((S.map (·.name)).length : Nat) : Int))), (13, (i64 ((i : Nat) : Int))), (14, (Value.bool true)), (24, (Value.bool true)), (25, (Value.slice VA l.length vc)), (34, (agg [(Value.string (str a.name)), (i64 a.amt)]))] 10 ?_
    refine Ops.new (o := rowL [(Value.string (str a.name)), (i64 a.amt)] 52) (V := fun b => (Value.slice (some ⟨b, 0, none⟩) 1 1)) (by kernel_rfl) (d := (some 35)) (by kernel_rfl) (fun b => rfl) (fun b50 w51 hb52 H53 K54 hs55 => ?_)
    have lb50b : b < b50 := by have := H12.lt; omega
    have lb50mb : mb < b50 := by have := H13.lt; omega
    have nb50 : w.heap.size ≤ b50 := by have := K11.size; omega
    have ob56 : ∀ i, ((Value.slice A1 ((S.map (·.name)).length) c2)).ownBlock = some i → i < b50 := fun i hi => by have := (World.ownsRow.lt hON i hi).2; omega
    have ob57 : ∀ i, ((Value.slice VA l.length vc)).ownBlock = some i → i < b50 := fun i hi => by have := (World.ownsRow.lt hOV i hi).2; omega
    replace K11 := K11.trans K54 (U := none_) (fun i h1 h2 => h2) (fun i h1 h2 => by exact h2)
    replace H12 := H12.keep K54 (fun h => h)
    replace H13 := H13.keep K54 (fun h => h)
    replace hON := own_keep0 hON K54
    replace hOV := own_keep0 hOV K54
    clear K54 hs55
    obtain ⟨v58, w59, hr60, hO61, hK62, hg63⟩ := OwnT.app (ty := 75) RowM.two RowM.one tyR hOV (show RdT _ 2 RowM.cells _ [(⟨a.name, a.amt⟩ : RowM)] from Rd.lit H53 (n := 1) rfl (by decide)) (by simp only [List.length_cons, List.length_nil]; omega) (by simp only [List.length_cons, List.length_nil]; omega) K11.size
    obtain ⟨A65, c66, rfl⟩ := RdT.form RowM.two (by decide) (OwnT.rd hO61)
    have ob67 : ∀ i, ((Value.slice A65 ((l ++ [(⟨a.name, a.amt⟩ : RowM)]).length) c66)).ownBlock = some i → i ≠ b := fun i hi => by rcases hg63 i hi with h | h; (have := obVb i h; omega); (have := H12.lt; omega)
    have ob68 : ∀ i, ((Value.slice A65 ((l ++ [(⟨a.name, a.amt⟩ : RowM)]).length) c66)).ownBlock = some i → i ≠ mb := fun i hi => by rcases hg63 i hi with h | h; (have := obVmb i h; omega); (have := H13.lt; omega)
    have ob69 : ∀ i, ((Value.slice A65 ((l ++ [(⟨a.name, a.amt⟩ : RowM)]).length) c66)).ownBlock = some i → i ≠ b50 := fun i hi => by rcases hg63 i hi with h | h; (have := ob57 i h; omega); (have := H53.lt; omega)
    have oo70 : ∀ i, ((Value.slice A1 ((S.map (·.name)).length) c2)).ownBlock = some i → ((Value.slice A65 ((l ++ [(⟨a.name, a.amt⟩ : RowM)]).length) c66)).ownBlock = some i → False := fun i hi hs => by rcases hg63 i hs with h | h; (exact ooVN i hi h); (have := (World.ownsRow.lt hON i hi).2; omega)
    have oo71 : ∀ i, ((Value.slice A65 ((l ++ [(⟨a.name, a.amt⟩ : RowM)]).length) c66)).ownBlock = some i → ((Value.slice A1 ((S.map (·.name)).length) c2)).ownBlock = some i → False := fun i hi hs => oo70 i hs hi
    have K64 := hK62
    refine Ops.go (v := (Value.slice A65 ((l ++ [(⟨a.name, a.amt⟩ : RowM)]).length) c66)) (by kernel_rfl) (Runs.append (ts := #[75, 75]) (ty := 75) (vs := [(Value.slice VA l.length vc), (Value.slice (some ⟨b50, 0, none⟩) 1 1)]) (by kernel_rfl) hr60) (d := (some 36)) (by kernel_rfl) rfl ?_
    replace K11 := K11.trans K64 (U := none_) (fun i h1 h2 => h2) (fun i h1 h2 => by have h2 : ((Value.slice VA l.length vc)).ownBlock = some i := h2; exfalso; have := (World.ownsRow.lt hOV i h2).1; omega)
    replace H12 := H12.keep K64 (by intro h; change ((Value.slice VA l.length vc)).ownBlock = some b at h; have := obVb b h; omega)
    replace H13 := H13.keep K64 (by intro h; change ((Value.slice VA l.length vc)).ownBlock = some mb at h; have := obVmb mb h; omega)
    replace H53 := H53.keep K64 (by intro h; change ((Value.slice VA l.length vc)).ownBlock = some b50 at h; have := ob57 b50 h; omega)
    replace hON := own_keep hON K64 (fun i hi hs => by have hs : ((Value.slice VA l.length vc)).ownBlock = some i := hs; exact ooVN i hi hs)
    clear hOV
    clear K64 hr60 hK62 hg63
    refine og 1 [(0, (ptr b)), (1, (i64 k)), (4, (Value.slice none 0 0)), (5, (Value.slice A65 ((l ++ [(⟨a.name, a.amt⟩ : RowM)]).length) c66)), (7, (Value.string (str a.name))), (11, (Value.slice A1 ((S.map (·.name)).length) c2)), (12, (i64 (((S.map (·.name)).length : Nat) : Int))), (13, (i64 ((i : Nat) : Int))), (14, (Value.bool true)), (24, (Value.bool true))] 13 ?_
    refine od ?_
    refine qg ?_
    refine og 1 [(0, (ptr b)), (1, (i64 k)), (4, (Value.slice none 0 0)), (5, (Value.slice A65 ((l ++ [(⟨a.name, a.amt⟩ : RowM)]).length) c66)), (7, (Value.string (str a.name))), (11, (Value.slice A1 ((S.map (·.name)).length) c2)), (12, (i64 (((S.map (·.name)).length : Nat) : Int))), (13, (i64 ((i : Nat) : Int))), (14, (Value.bool true)), (24, (Value.bool true)), (37, (i64 (IntKind.i64.wrap (((i : Nat) : Int) + 1))))] 1 ?_
    have e72 : IntKind.i64.wrap (((i : Nat) : Int) + 1) = ((i + 1 : Nat) : Int) := by rw [wrap_i64 (by omega) (by omega)]; omega
    rw [e72]
    clear e72
    refine og 1 [(0, (ptr b)), (1, (i64 k)), (4, (Value.slice none 0 0)), (5, (Value.slice A65 ((l ++ [(⟨a.name, a.amt⟩ : RowM)]).length) c66)), (7, (Value.string (str a.name))), (11, (Value.slice A1 ((S.map (·.name)).length) c2)), (12, (i64 (((S.map (·.name)).length : Nat) : Int))), (13, (i64 ((i + 1 : Nat) : Int))), (14, (Value.bool true)), (24, (Value.bool true))] 2 ?_
    refine Ops.keep (R := [(0, (ptr b)), (1, (i64 k)), (4, (Value.slice none 0 0)), (5, (Value.slice A65 ((l ++ [(⟨a.name, a.amt⟩ : RowM)]).length) c66)), (11, (Value.slice A1 ((S.map (·.name)).length) c2)), (12, (i64 (((S.map (·.name)).length : Nat) : Int))), (13, (i64 ((i + 1 : Nat) : Int)))]) (by kernel_rfl) ?_
    refine od ?_
    exact ⟨(A65, c66, i + 1, l ++ [(⟨a.name, a.amt⟩ : RowM)]), ⟨rfl, hON, obNb, obNmb, oo71, hO61, ob67, ob68, oo70, (by omega), (by rw [hrt, ← hE, inSlot_t (by omega), if_pos rfl]; first | done | rfl), K11, H12, H13⟩, (show S.length - (i + 1) < S.length - i from by omega)⟩
   ·rw [h48]
    have p73 : ¬ (((slotB a.name : Nat) : Int) = k) := of_beq_f h48
    refine q_skip (by kernel_rfl) ?_
    refine qg ?_
    refine og 1 [(0, (ptr b)), (1, (i64 k)), (4, (Value.slice none 0 0)), (5, (Value.slice VA l.length vc)), (7, (Value.string (str a.name))), (11, (Value.slice A1 ((S.map (·.name)).length) c2)), (12, (i64 (((S.map (·.name)).length : Nat) : Int))), (13, (i64 ((i : Nat) : Int))), (14, (Value.bool true)), (24, (Value.bool false)), (37, (i64 (IntKind.i64.wrap (((i : Nat) : Int) + 1))))] 1 ?_
    have e74 : IntKind.i64.wrap (((i : Nat) : Int) + 1) = ((i + 1 : Nat) : Int) := by rw [wrap_i64 (by omega) (by omega)]; omega
    rw [e74]
    clear e74
    refine og 1 [(0, (ptr b)), (1, (i64 k)), (4, (Value.slice none 0 0)), (5, (Value.slice VA l.length vc)), (7, (Value.string (str a.name))), (11, (Value.slice A1 ((S.map (·.name)).length) c2)), (12, (i64 (((S.map (·.name)).length : Nat) : Int))), (13, (i64 ((i + 1 : Nat) : Int))), (14, (Value.bool true)), (24, (Value.bool false))] 2 ?_
    refine Ops.keep (R := [(0, (ptr b)), (1, (i64 k)), (4, (Value.slice none 0 0)), (5, (Value.slice VA l.length vc)), (11, (Value.slice A1 ((S.map (·.name)).length) c2)), (12, (i64 (((S.map (·.name)).length : Nat) : Int))), (13, (i64 ((i + 1 : Nat) : Int)))]) (by kernel_rfl) ?_
    refine od ?_
    exact ⟨(VA, vc, i + 1, l), ⟨rfl, hON, obNb, obNmb, ooNV, hOV, obVb, obVmb, ooVN, (by omega), (by rw [hrt, ← hE, inSlot_f (by omega), if_neg (by decide), List.append_nil]), K11, H12, H13⟩, (show S.length - (i + 1) < S.length - i from by omega)⟩
 ·rw [h14]
  have p75 : ¬ (((i : Nat) : Int) < (((S.map (·.name)).length : Nat) : Int)) := of_decide_eq_false h14
  refine q_exit (id := 0) (by kernel_rfl) ?_
  refine qs ?_
  refine qg ?_
  refine og 2 [(4, (Value.slice VA l.length vc))] 2 ?_
  refine od ?_
  refine q_ret (by kernel_rfl) ?_
  refine ⟨(Value.slice VA l.length vc), retv_tmp rfl rfl, ?_⟩
  have e : l = rowsS S k := by rw [hE, List.take_of_length_le (by omega)]
  rw [e] at hOV
  rw [e]
  exact ⟨_, _, rfl, K11, hOV⟩
end Go.Proofs.YtooginpgclcldaaGreatDoor
namespace Go.Proofs.YtooginpgclcldaaGreatDoor
open Go.Q Go.RowKit
theorem tyA : ElemTy Tryz.prog 41 97 3 40 := elemTy (by kernel_rfl)

theorem RHeld_calls (w : World) (r : Nat) (A : Option Addr) (c : Nat) (S : List AccM) (Hr : Has w r (rowL [.slice A S.length c] 43)) (hR : RdT w 3 AccM.cells (.slice A S.length c) S) : Calls Tryz.prog 41 ⟨[(ptr r)]⟩ w (fun e w' => e = .returned (i64 ((heldN S : Nat) : Int)) ∧ Keeps none_ w w') := by
 have Hrl := Hr.lt
 have hcap := RdT.len AccM.three (by decide) hR
 unfold maxLen at hcap
 have K0 : Keeps none_ w w := Keeps.refl w
 refine q_calls Tryz.func41 (by kernel_rfl) (by kernel_rfl) ?_
 refine qs ?_
 refine qg ?_
 refine og 1 [(0, (ptr r)), (2, (i64 0))] 1 ?_
 refine od ?_
 refine qs ?_
 refine qg ?_
 refine og 1 [(0, (ptr r)), (2, (i64 0)), (3, (i64 0))] 1 ?_
 refine od ?_
 refine qs ?_
 refine qs ?_
 refine qg ?_
 refine og 1 [(0, (ptr r)), (2, (i64 0)), (3, (i64 0)), (4, (i64 0))] 1 ?_
 refine od ?_
 refine q_block (id := 0) (by kernel_rfl) ?_
 refine q_keep (R := [(0, (ptr r)), (2, (i64 0)), (3, (i64 0)), (4, (i64 0))]) (by kernel_rfl) ?_
 refine q_loop (fun (gs : Nat × Nat) L (wx : World) => match gs with | (i, n) => L = [(0, (ptr r)), (2, (i64 0)), (3, (i64 ((n : Nat) : Int))), (4, (i64 ((i : Nat) : Int)))] ∧ i ≤ S.length ∧ n ≤ i ∧ n = heldN (S.take i) ∧ Keeps none_ w wx ∧ Has wx r (rowL [(Value.slice A S.length c)] 43)) (fun (gs : Nat × Nat) => match gs with | (i, n) => S.length - i) (0, 0) (by kernel_rfl) ⟨rfl, Nat.zero_le _, Nat.zero_le _, rfl, K0, Hr⟩ ?_
 clear Hr K0
 rintro ⟨i, n⟩ _ w1 ⟨rfl, hi, hn, hE, K2, H3⟩
 refine qs ?_
 refine qs ?_
 refine qg ?_
 refine og 4 [(0, (ptr r)), (2, (i64 0)), (3, (i64 ((n : Nat) : Int))), (4, (i64 ((i : Nat) : Int))), (5, (i64 ((i : Nat) : Int))), (8, (ptr r))] 4 ?_
 refine Ops.go (v := (Value.slice A S.length c)) (by kernel_rfl) (Runs.load (t := 41) (a := ⟨r, 0, none⟩) (by kernel_rfl) (H3.loads (by kernel_rfl))) (d := (some 9)) (by kernel_rfl) rfl ?_
 refine og 2 [(0, (ptr r)), (2, (i64 0)), (3, (i64 ((n : Nat) : Int))), (4, (i64 ((i : Nat) : Int))), (11, (Value.bool (decide (((i : Nat) : Int) < ((S.length : Nat) : Int)))))] 7 ?_
 refine od ?_
 refine q_cond (o := .tmp 11) (b := (decide (((i : Nat) : Int) < ((S.length : Nat) : Int)))) (by kernel_rfl) rfl (fun h4 => ?_) (fun h4 => ?_)
 ·rw [h4]
  have p5 : ((i : Nat) : Int) < ((S.length : Nat) : Int) := of_decide_eq_true h4
  obtain ⟨a, ha⟩ : ∃ y, S[i]? = some y := ⟨_, List.getElem?_eq_getElem (by omega)⟩
  have hht := held_take ha
  have hhl := heldB_le a.own
  obtain ⟨rb6, ro7, hA8⟩ := Rd.addr (Rd.keep0 (by decide) hR K2) (by omega)
  refine q_skip (by kernel_rfl) ?_
  refine qs ?_
  refine q_block (id := 1) (by kernel_rfl) ?_
  refine qs ?_
  refine qg ?_
  refine og 3 [(0, (ptr r)), (2, (i64 0)), (3, (i64 ((n : Nat) : Int))), (4, (i64 ((i : Nat) : Int))), (11, (Value.bool true)), (16, (ptr r))] 3 ?_
  refine Ops.go (v := (Value.slice A S.length c)) (by kernel_rfl) (Runs.load (t := 41) (a := ⟨r, 0, none⟩) (by kernel_rfl) (H3.loads (by kernel_rfl))) (d := (some 17)) (by kernel_rfl) rfl ?_
  refine og 1 [(0, (ptr r)), (2, (i64 0)), (3, (i64 ((n : Nat) : Int))), (4, (i64 ((i : Nat) : Int))), (11, (Value.bool true)), (17, (Value.slice A S.length c)), (18, (i64 ((i : Nat) : Int)))] 5 ?_
  refine Ops.go (by kernel_rfl) (Runs.ixSliceE (k := IntKind.i64) (t := 41) (len := S.length) (cap := c) (s := 3) (off' := ro7 + i * 3) (i := ((i : Nat) : Int)) hA8 (by kernel_rfl) (by kernel_rfl) (by omega) (by omega) (by omega)) (d := (some 19)) (by kernel_rfl) rfl ?_
  refine og 1 [(0, (ptr r)), (2, (i64 0)), (3, (i64 ((n : Nat) : Int))), (4, (i64 ((i : Nat) : Int))), (11, (Value.bool true)), (20, (Value.pointer (some ⟨rb6, ro7 + i * 3 + 2, none⟩)))] 7 ?_
  refine Ops.go (v := (Value.string (str a.own))) (by kernel_rfl) (Runs.load (t := 9) (a := ⟨rb6, ro7 + i * 3 + 2, none⟩) (by kernel_rfl) (RdT.ldf (f := AccM.cells) (x := a) (o := 2) AccM.three (Rd.keep0 (by decide) hR K2) (by kernel_rfl) hA8 ha rfl)) (d := (some 21)) (by kernel_rfl) rfl ?_
  refine Ops.go (v := (Value.bool (!(a.own == ([] : List UInt8))))) (by kernel_rfl) (Runs.strne (t := 9) (by kernel_rfl)) (d := (some 22)) (by kernel_rfl) rfl ?_
  refine od ?_
  refine q_cond (o := .tmp 22) (b := (!(a.own == ([] : List UInt8)))) (by kernel_rfl) rfl (fun h9 => ?_) (fun h9 => ?_)
  ·rw [h9]
   have p10 : (a.own == ([] : List UInt8)) = false := (bnot_true h9)
   have hhb := heldB_f (bnot_true h9)
   refine qg ?_
   refine og 2 [(0, (ptr r)), (2, (i64 0)), (3, (i64 ((n : Nat) : Int))), (4, (i64 ((i : Nat) : Int))), (11, (Value.bool true)), (22, (Value.bool true)), (24, (i64 (IntKind.i64.wrap (((n : Nat) : Int) + 1))))] 2 ?_
   have e11 : IntKind.i64.wrap (((n : Nat) : Int) + 1) = ((n + 1 : Nat) : Int) := by rw [wrap_i64 (by omega) (by omega)]; omega
   rw [e11]
   clear e11
   refine og 1 [(0, (ptr r)), (2, (i64 0)), (3, (i64 ((n + 1 : Nat) : Int))), (4, (i64 ((i : Nat) : Int))), (11, (Value.bool true)), (22, (Value.bool true))] 3 ?_
   refine od ?_
   refine qg ?_
   refine og 2 [(0, (ptr r)), (2, (i64 0)), (3, (i64 ((n + 1 : Nat) : Int))), (4, (i64 ((i : Nat) : Int))), (11, (Value.bool true)), (13, (i64 (IntKind.i64.wrap (((i : Nat) : Int) + 1)))), (22, (Value.bool true))] 2 ?_
   have e12 : IntKind.i64.wrap (((i : Nat) : Int) + 1) = ((i + 1 : Nat) : Int) := by rw [wrap_i64 (by omega) (by omega)]; omega
   rw [e12]
   clear e12
   refine og 1 [(0, (ptr r)), (2, (i64 0)), (3, (i64 ((n + 1 : Nat) : Int))), (4, (i64 ((i + 1 : Nat) : Int))), (11, (Value.bool true)), (22, (Value.bool true))] 3 ?_
   refine Ops.keep (R := [(0, (ptr r)), (2, (i64 0)), (3, (i64 ((n + 1 : Nat) : Int))), (4, (i64 ((i + 1 : Nat) : Int)))]) (by kernel_rfl) ?_
   refine od ?_
   exact ⟨(i + 1, n + 1), ⟨rfl, (by omega), (by omega), (by omega), K2, H3⟩, (show S.length - (i + 1) < S.length - i from by omega)⟩
  ·rw [h9]
   have p13 : (a.own == ([] : List UInt8)) = true := (bnot_false h9)
   have hhb := heldB_t (bnot_false h9)
   refine q_skip (by kernel_rfl) ?_
   refine qg ?_
   refine og 2 [(0, (ptr r)), (2, (i64 0)), (3, (i64 ((n : Nat) : Int))), (4, (i64 ((i : Nat) : Int))), (11, (Value.bool true)), (13, (i64 (IntKind.i64.wrap (((i : Nat) : Int) + 1)))), (22, (Value.bool false))] 2 ?_
   have e14 : IntKind.i64.wrap (((i : Nat) : Int) + 1) = ((i + 1 : Nat) : Int) := by rw [wrap_i64 (by omega) (by omega)]; omega
   rw [e14]
   clear e14
   refine og 1 [(0, (ptr r)), (2, (i64 0)), (3, (i64 ((n : Nat) : Int))), (4, (i64 ((i + 1 : Nat) : Int))), (11, (Value.bool true)), (22, (Value.bool false))] 3 ?_
   refine Ops.keep (R := [(0, (ptr r)), (2, (i64 0)), (3, (i64 ((n : Nat) : Int))), (4, (i64 ((i + 1 : Nat) : Int)))]) (by kernel_rfl) ?_
   refine od ?_
   exact ⟨(i + 1, n), ⟨rfl, (by omega), (by omega), (by omega), K2, H3⟩, (show S.length - (i + 1) < S.length - i from by omega)⟩
 ·rw [h4]
  have p15 : ¬ (((i : Nat) : Int) < ((S.length : Nat) : Int)) := of_decide_eq_false h4
  refine q_exit (id := 0) (by kernel_rfl) ?_
  refine qs ?_
  refine qg ?_
  refine og 2 [(2, (i64 ((n : Nat) : Int)))] 2 ?_
  refine od ?_
  refine q_ret (by kernel_rfl) ?_
  refine ⟨(i64 ((n : Nat) : Int)), retv_tmp rfl rfl, ?_⟩
  have e : n = heldN S := by rw [hE, List.take_of_length_le (by omega)]
  exact ⟨by rw [e], K2⟩

theorem RRows_calls (w : World) (r : Nat) (A : Option Addr) (c : Nat) (S : List AccM) (k : Int) (Hr : Has w r (rowL [.slice A S.length c] 43)) (hR : RdT w 3 AccM.cells (.slice A S.length c) S) (hS : Accs S) : Calls Tryz.prog 43 ⟨[(ptr r), (i64 k)]⟩ w (fun e w' => ∃ A' c', e = .returned (.slice A' (rowsS S k).length c') ∧ Keeps none_ w w' ∧ OwnR w' w.heap.size 52 (.slice A' (rowsS S k).length c') (rowsS S k)) := by
 have Hrl := Hr.lt
 have hcap := RdT.len AccM.three (by decide) hR
 unfold maxLen at hcap
 have hSl := hS.len
 have K0 : Keeps none_ w w := Keeps.refl w
 refine q_calls Tryz.func43 (by kernel_rfl) (by kernel_rfl) ?_
 refine qs ?_
 refine qg ?_
 refine og 1 [(0, (ptr r)), (1, (i64 k)), (4, (Value.slice none 0 0))] 1 ?_
 refine od ?_
 refine qs ?_
 refine qg ?_
 refine og 1 [(0, (ptr r)), (1, (i64 k)), (4, (Value.slice none 0 0)), (5, (Value.slice none 0 0))] 1 ?_
 refine od ?_
 refine qs ?_
 refine qs ?_
 refine qg ?_
 refine og 1 [(0, (ptr r)), (1, (i64 k)), (4, (Value.slice none 0 0)), (5, (Value.slice none 0 0)), (6, (i64 0))] 1 ?_
 refine od ?_
 refine q_block (id := 0) (by kernel_rfl) ?_
 refine q_keep (R := [(0, (ptr r)), (1, (i64 k)), (4, (Value.slice none 0 0)), (5, (Value.slice none 0 0)), (6, (i64 0))]) (by kernel_rfl) ?_
 refine q_loop (fun (gs : (Option Addr) × Nat × Nat × (List RowM)) L (wx : World) => match gs with | (VA, vc, i, l) => L = [(0, (ptr r)), (1, (i64 k)), (4, (Value.slice none 0 0)), (5, (Value.slice VA l.length vc)), (6, (i64 ((i : Nat) : Int)))] ∧ OwnR wx w.heap.size 52 (Value.slice VA l.length vc) l ∧ (∀ i, ((Value.slice VA l.length vc)).ownBlock = some i → i ≠ r) ∧ i ≤ S.length ∧ l = rowsS (S.take i) k ∧ Keeps none_ w wx ∧ Has wx r (rowL [(Value.slice A S.length c)] 43)) (fun (gs : (Option Addr) × Nat × Nat × (List RowM)) => match gs with | (VA, vc, i, l) => S.length - i) (none, 0, 0, []) (by kernel_rfl) ⟨rfl, (OwnT.nil _ _ _ _ _), (fun i hi => by cases hi), Nat.zero_le _, rfl, K0, Hr⟩ ?_
 clear Hr K0
 rintro ⟨VA, vc, i, l⟩ _ w1 ⟨rfl, hOV, obVr, hi, hE, K2, H3⟩
 have hrl := rowsS_len (S.take i) k
 rw [List.length_take, ← hE] at hrl
 refine qs ?_
 refine qs ?_
 refine qg ?_
 refine og 4 [(0, (ptr r)), (1, (i64 k)), (4, (Value.slice none 0 0)), (5, (Value.slice VA l.length vc)), (6, (i64 ((i : Nat) : Int))), (7, (i64 ((i : Nat) : Int))), (10, (ptr r))] 4 ?_
 refine Ops.go (v := (Value.slice A S.length c)) (by kernel_rfl) (Runs.load (t := 41) (a := ⟨r, 0, none⟩) (by kernel_rfl) (H3.loads (by kernel_rfl))) (d := (some 11)) (by kernel_rfl) rfl ?_
 refine og 2 [(0, (ptr r)), (1, (i64 k)), (4, (Value.slice none 0 0)), (5, (Value.slice VA l.length vc)), (6, (i64 ((i : Nat) : Int))), (13, (Value.bool (decide (((i : Nat) : Int) < ((S.length : Nat) : Int)))))] 7 ?_
 refine od ?_
 refine q_cond (o := .tmp 13) (b := (decide (((i : Nat) : Int) < ((S.length : Nat) : Int)))) (by kernel_rfl) rfl (fun h4 => ?_) (fun h4 => ?_)
 ·rw [h4]
  have p5 : ((i : Nat) : Int) < ((S.length : Nat) : Int) := of_decide_eq_true h4
  obtain ⟨a, ha⟩ : ∃ y, S[i]? = some y := ⟨_, List.getElem?_eq_getElem (by omega)⟩
  have hao := hS.ok a (List.mem_of_getElem? ha)
  have hal := hao.len
  have hrt := rows_take k ha
  obtain ⟨rb6, ro7, hA8⟩ := Rd.addr (Rd.keep0 (by decide) hR K2) (by omega)
  refine q_skip (by kernel_rfl) ?_
  refine qs ?_
  refine q_block (id := 1) (by kernel_rfl) ?_
  refine qs ?_
  refine qg ?_
  refine og 3 [(0, (ptr r)), (1, (i64 k)), (4, (Value.slice none 0 0)), (5, (Value.slice VA l.length vc)), (6, (i64 ((i : Nat) : Int))), (13, (Value.bool true)), (18, (Value.bool (k == (-1))))] 3 ?_
  refine Ops.split (k == (-1)) (fun h9 => ?_) (fun h9 => ?_)
  ·rw [h9]
   have p10 : k = (-1) := of_beq_t h9
   refine og 12 [(0, (ptr r)), (1, (i64 k)), (4, (Value.slice none 0 0)), (5, (Value.slice VA l.length vc)), (6, (i64 ((i : Nat) : Int))), (13, (Value.bool true)), (30, (Value.bool true))] 15 ?_
   refine od ?_
   refine q_then (o := .tmp 30) (by kernel_rfl) rfl ?_
   refine q_draw (fun wz => Keeps (fun i => ((Value.slice VA l.length vc)).ownBlock = some i) w1 wz) 21 (by kernel_rfl) (by kernel_rfl) (by kernel_rfl) (fun w11 K12 _ _ => ⟨(K12.mono (fun _ _ h => h.elim)), ?_⟩)
   replace K2 := K2.trans K12 (U := none_) (fun i h1 h2 => h2) (fun i h1 h2 => by exact h2)
   replace H3 := H3.keep K12 (fun h => h)
   replace hOV := own_keep0 hOV K12
   refine Dr.strong (S' := (fun wz => Keeps (fun i => ((Value.slice VA l.length vc)).ownBlock = some i) w11 wz)) ((Keeps.refl w11).mono (fun _ _ h => h.elim)) (fun wz hx => K12.trans hx (fun i _ h => h.elim) (fun _ _ h => h)) ?_
   clear K12
   refine Dr.takes (fuel' := 17) (is' := [3, 2, 1, 0]) [0, 1, 2, 3] [(0, (ptr r)), (1, (i64 k)), (4, (Value.slice none 0 0)), (5, (Value.slice VA l.length vc)), (6, (i64 ((i : Nat) : Int))), (13, (Value.bool true)), (30, (Value.bool true)), (31, (Value.slice VA l.length vc)), (34, (ptr r))] (by kernel_rfl) rfl (by kernel_rfl) ?_
   refine Dr.take (i := 4) (v := (Value.slice A S.length c)) (by kernel_rfl) (by kernel_rfl) (fun wz hS => Runs.load (t := 41) (a := ⟨r, 0, none⟩) (by kernel_rfl) ((H3.keep hS (by intro h; change ((Value.slice VA l.length vc)).ownBlock = some r at h; have := obVr r h; omega)).loads (by kernel_rfl))) (d := (some 35)) (by kernel_rfl) rfl ?_
   refine Dr.takes (fuel' := 15) (is' := [5, 4, 3, 2, 1, 0]) [5] [(0, (ptr r)), (1, (i64 k)), (4, (Value.slice none 0 0)), (5, (Value.slice VA l.length vc)), (6, (i64 ((i : Nat) : Int))), (13, (Value.bool true)), (30, (Value.bool true)), (31, (Value.slice VA l.length vc)), (35, (Value.slice A S.length c)), (36, (i64 ((i : Nat) : Int)))] (by kernel_rfl) rfl (by kernel_rfl) ?_
   refine Dr.take (i := 6) (v := (Value.pointer (some ⟨rb6, ro7 + i * 3, none⟩))) (by kernel_rfl) (by kernel_rfl) (fun wz hS => Runs.ixSliceE (k := IntKind.i64) (t := 41) (len := S.length) (cap := c) (s := 3) (off' := ro7 + i * 3) (i := ((i : Nat) : Int)) hA8 (by kernel_rfl) (by kernel_rfl) (by omega) (by omega) (by omega)) (d := (some 37)) (by kernel_rfl) rfl ?_
   refine Dr.takes (fuel' := 13) (is' := [7, 6, 5, 4, 3, 2, 1, 0]) [7] [(0, (ptr r)), (1, (i64 k)), (4, (Value.slice none 0 0)), (5, (Value.slice VA l.length vc)), (6, (i64 ((i : Nat) : Int))), (13, (Value.bool true)), (30, (Value.bool true)), (31, (Value.slice VA l.length vc)), (38, (Value.pointer (some ⟨rb6, ro7 + i * 3, none⟩)))] (by kernel_rfl) rfl (by kernel_rfl) ?_
   refine Dr.take (i := 8) (v := (Value.string (str a.name))) (by kernel_rfl) (by kernel_rfl) (fun wz hS => Runs.load (t := 9) (a := ⟨rb6, ro7 + i * 3, none⟩) (by kernel_rfl) (RdT.ldf (f := AccM.cells) (x := a) (o := 0) AccM.three (Rd.keep0 (by decide) hR (K2.trans hS (U := none_) (fun _ _ h => h) (fun i h1 h2 => by have h2 : ((Value.slice VA l.length vc)).ownBlock = some i := h2; exfalso; have := (World.ownsRow.lt hOV i h2).1; omega))) (by kernel_rfl) hA8 ha rfl)) (d := (some 39)) (by kernel_rfl) rfl ?_
   refine Dr.takes (fuel' := 9) (is' := [11, 10, 9, 8, 7, 6, 5, 4, 3, 2, 1, 0]) [9, 10, 11] [(0, (ptr r)), (1, (i64 k)), (4, (Value.slice none 0 0)), (5, (Value.slice VA l.length vc)), (6, (i64 ((i : Nat) : Int))), (13, (Value.bool true)), (30, (Value.bool true)), (31, (Value.slice VA l.length vc)), (39, (Value.string (str a.name))), (42, (ptr r))] (by kernel_rfl) rfl (by kernel_rfl) ?_
   refine Dr.take (i := 12) (v := (Value.slice A S.length c)) (by kernel_rfl) (by kernel_rfl) (fun wz hS => Runs.load (t := 41) (a := ⟨r, 0, none⟩) (by kernel_rfl) ((H3.keep hS (by intro h; change ((Value.slice VA l.length vc)).ownBlock = some r at h; have := obVr r h; omega)).loads (by kernel_rfl))) (d := (some 43)) (by kernel_rfl) rfl ?_
   refine Dr.takes (fuel' := 7) (is' := [13, 12, 11, 10, 9, 8, 7, 6, 5, 4, 3, 2, 1, 0]) [13] [(0, (ptr r)), (1, (i64 k)), (4, (Value.slice none 0 0)), (5, (Value.slice VA l.length vc)), (6, (i64 ((i : Nat) : Int))), (13, (Value.bool true)), (30, (Value.bool true)), (31, (Value.slice VA l.length vc)), (39, (Value.string (str a.name))), (43, (Value.slice A S.length c)), (44, (i64 ((i : Nat) : Int)))] (by kernel_rfl) rfl (by kernel_rfl) ?_
   refine Dr.take (i := 14) (v := (Value.pointer (some ⟨rb6, ro7 + i * 3, none⟩))) (by kernel_rfl) (by kernel_rfl) (fun wz hS => Runs.ixSliceE (k := IntKind.i64) (t := 41) (len := S.length) (cap := c) (s := 3) (off' := ro7 + i * 3) (i := ((i : Nat) : Int)) hA8 (by kernel_rfl) (by kernel_rfl) (by omega) (by omega) (by omega)) (d := (some 45)) (by kernel_rfl) rfl ?_
   refine Dr.takes (fuel' := 5) (is' := [15, 14, 13, 12, 11, 10, 9, 8, 7, 6, 5, 4, 3, 2, 1, 0]) [15] [(0, (ptr r)), (1, (i64 k)), (4, (Value.slice none 0 0)), (5, (Value.slice VA l.length vc)), (6, (i64 ((i : Nat) : Int))), (13, (Value.bool true)), (30, (Value.bool true)), (31, (Value.slice VA l.length vc)), (39, (Value.string (str a.name))), (46, (Value.pointer (some ⟨rb6, ro7 + i * 3 + 1, none⟩)))] (by kernel_rfl) rfl (by kernel_rfl) ?_
   refine Dr.take (i := 16) (v := (i64 a.amt)) (by kernel_rfl) (by kernel_rfl) (fun wz hS => Runs.load (t := 2) (a := ⟨rb6, ro7 + i * 3 + 1, none⟩) (by kernel_rfl) (RdT.ldf (f := AccM.cells) (x := a) (o := 1) AccM.three (Rd.keep0 (by decide) hR (K2.trans hS (U := none_) (fun _ _ h => h) (fun i h1 h2 => by have h2 : ((Value.slice VA l.length vc)).ownBlock = some i := h2; exfalso; have := (World.ownsRow.lt hOV i h2).1; omega))) (by kernel_rfl) hA8 ha rfl)) (d := (some 47)) (by kernel_rfl) rfl ?_
   refine Dr.takes (fuel' := 3) (is' := [17, 16, 15, 14, 13, 12, 11, 10, 9, 8, 7, 6, 5, 4, 3, 2, 1, 0]) [17] [(0, (ptr r)), (1, (i64 k)), (4, (Value.slice none 0 0)), (5, (Value.slice VA l.length vc)), (6, (i64 ((i : Nat) : Int))), (13, (Value.bool true)), (30, (Value.bool true)), (31, (Value.slice VA l.length vc)), (48, (agg [(Value.string (str a.name)), (i64 a.amt)]))] (by kernel_rfl) rfl (by kernel_rfl) ?_
   refine Dr.new (i := 18) (o := rowL [(Value.string (str a.name)), (i64 a.amt)] 52) (V := fun b => (Value.slice (some ⟨b, 0, none⟩) 1 1)) (by kernel_rfl) (by kernel_rfl) (d := (some 49)) (by kernel_rfl) (fun b => rfl) (fun b13 w14 hb15 H16 K17 hs18 => ?_)
   have lb13r : r < b13 := by have := H3.lt; omega
   have nb13 : w.heap.size ≤ b13 := by have := K2.size; omega
   have ob19 : ∀ i, ((Value.slice VA l.length vc)).ownBlock = some i → i < b13 := fun i hi => by have := (World.ownsRow.lt hOV i hi).2; omega
   replace K2 := K2.trans K17 (U := none_) (fun i h1 h2 => h2) (fun i h1 h2 => by exact h2)
   replace H3 := H3.keep K17 (fun h => h)
   replace hOV := own_keep0 hOV K17
   refine ⟨(K17.mono (fun _ _ h => h.elim)), ?_⟩
   refine Dr.strong (S' := (fun wz => Keeps (fun i => ((Value.slice VA l.length vc)).ownBlock = some i) w14 wz)) ((Keeps.refl w14).mono (fun _ _ h => h.elim)) (fun wz hx => K17.trans hx (fun i _ h => h.elim) (fun _ _ h => h)) ?_
   clear K17 hs18
   obtain ⟨v20, w21, hr22, hO23, hK24, hg25⟩ := OwnT.app (ty := 75) RowM.two RowM.one tyR hOV (show RdT _ 2 RowM.cells _ [(⟨a.name, a.amt⟩ : RowM)] from Rd.lit H16 (n := 1) rfl (by decide)) (by simp only [List.length_cons, List.length_nil]; omega) (by simp only [List.length_cons, List.length_nil]; omega) K2.size
   obtain ⟨A27, c28, rfl⟩ := RdT.form RowM.two (by decide) (OwnT.rd hO23)
   have ob29 : ∀ i, ((Value.slice A27 ((l ++ [(⟨a.name, a.amt⟩ : RowM)]).length) c28)).ownBlock = some i → i ≠ r := fun i hi => by rcases hg25 i hi with h | h; (have := obVr i h; omega); (have := H3.lt; omega)
   have ob30 : ∀ i, ((Value.slice A27 ((l ++ [(⟨a.name, a.amt⟩ : RowM)]).length) c28)).ownBlock = some i → i ≠ b13 := fun i hi => by rcases hg25 i hi with h | h; (have := ob19 i h; omega); (have := H16.lt; omega)
   have K26 := hK24
   replace K2 := K2.trans K26 (U := none_) (fun i h1 h2 => h2) (fun i h1 h2 => by have h2 : ((Value.slice VA l.length vc)).ownBlock = some i := h2; exfalso; have := (World.ownsRow.lt hOV i h2).1; omega)
   replace H3 := H3.keep K26 (by intro h; change ((Value.slice VA l.length vc)).ownBlock = some r at h; have := obVr r h; omega)
   replace H16 := H16.keep K26 (by intro h; change ((Value.slice VA l.length vc)).ownBlock = some b13 at h; have := ob19 b13 h; omega)
   clear hOV
   refine Dr.go (i := 19) (v := (Value.slice A27 ((l ++ [(⟨a.name, a.amt⟩ : RowM)]).length) c28)) (by kernel_rfl) (by kernel_rfl) (Runs.append (ts := #[75, 75]) (ty := 75) (vs := [(Value.slice VA l.length vc), (Value.slice (some ⟨b13, 0, none⟩) 1 1)]) (by kernel_rfl) hr22) (d := (some 50)) (by kernel_rfl) rfl K26 ?_
   refine Dr.strong (S' := (fun wz => Keeps (fun i => ((Value.slice VA l.length vc)).ownBlock = some i) w21 wz)) ((Keeps.refl w21).mono (fun _ _ h => h.elim)) (fun wz hx => K26.trans hx (fun i _ h => by have h : ((Value.slice VA l.length vc)).ownBlock = some i := h; show ((Value.slice VA l.length vc)).ownBlock = some i; exact h) (fun _ _ h => h)) ?_
   clear K26 hr22 hK24 hg25
   refine Dr.takes (fuel' := 0) (is' := [20, 19, 18, 17, 16, 15, 14, 13, 12, 11, 10, 9, 8, 7, 6, 5, 4, 3, 2, 1, 0]) [20] [(0, (ptr r)), (1, (i64 k)), (4, (Value.slice none 0 0)), (5, (Value.slice A27 ((l ++ [(⟨a.name, a.amt⟩ : RowM)]).length) c28)), (6, (i64 ((i : Nat) : Int))), (13, (Value.bool true)), (30, (Value.bool true))] (by kernel_rfl) rfl (by kernel_rfl) ?_
   refine Dr.done (by kernel_rfl) ?_
   refine qg ?_
   refine og 2 [(0, (ptr r)), (1, (i64 k)), (4, (Value.slice none 0 0)), (5, (Value.slice A27 ((l ++ [(⟨a.name, a.amt⟩ : RowM)]).length) c28)), (6, (i64 ((i : Nat) : Int))), (13, (Value.bool true)), (15, (i64 (IntKind.i64.wrap (((i : Nat) : Int) + 1)))), (30, (Value.bool true))] 2 ?_
   have e31 : IntKind.i64.wrap (((i : Nat) : Int) + 1) = ((i + 1 : Nat) : Int) := by rw [wrap_i64 (by omega) (by omega)]; omega
   rw [e31]
   clear e31
   refine og 1 [(0, (ptr r)), (1, (i64 k)), (4, (Value.slice none 0 0)), (5, (Value.slice A27 ((l ++ [(⟨a.name, a.amt⟩ : RowM)]).length) c28)), (6, (i64 ((i + 1 : Nat) : Int))), (13, (Value.bool true)), (30, (Value.bool true))] 3 ?_
   refine Ops.keep (R := [(0, (ptr r)), (1, (i64 k)), (4, (Value.slice none 0 0)), (5, (Value.slice A27 ((l ++ [(⟨a.name, a.amt⟩ : RowM)]).length) c28)), (6, (i64 ((i + 1 : Nat) : Int)))]) (by kernel_rfl) ?_
   refine od ?_
   exact ⟨(A27, c28, i + 1, l ++ [(⟨a.name, a.amt⟩ : RowM)]), ⟨rfl, hO23, ob29, (by omega), (by rw [hrt, ← hE, inSlot_t (by omega), if_pos rfl]; first | done | rfl), K2, H3⟩, (show S.length - (i + 1) < S.length - i from by omega)⟩
  ·rw [h9]
   have p32 : ¬ (k = (-1)) := of_beq_f h9
   refine og 3 [(0, (ptr r)), (1, (i64 k)), (4, (Value.slice none 0 0)), (5, (Value.slice VA l.length vc)), (6, (i64 ((i : Nat) : Int))), (13, (Value.bool true)), (18, (Value.bool false)), (21, (ptr r))] 6 ?_
   refine Ops.go (v := (Value.slice A S.length c)) (by kernel_rfl) (Runs.load (t := 41) (a := ⟨r, 0, none⟩) (by kernel_rfl) (H3.loads (by kernel_rfl))) (d := (some 22)) (by kernel_rfl) rfl ?_
   refine og 1 [(0, (ptr r)), (1, (i64 k)), (4, (Value.slice none 0 0)), (5, (Value.slice VA l.length vc)), (6, (i64 ((i : Nat) : Int))), (13, (Value.bool true)), (18, (Value.bool false)), (22, (Value.slice A S.length c)), (23, (i64 ((i : Nat) : Int)))] 8 ?_
   refine Ops.go (by kernel_rfl) (Runs.ixSliceE (k := IntKind.i64) (t := 41) (len := S.length) (cap := c) (s := 3) (off' := ro7 + i * 3) (i := ((i : Nat) : Int)) hA8 (by kernel_rfl) (by kernel_rfl) (by omega) (by omega) (by omega)) (d := (some 24)) (by kernel_rfl) rfl ?_
   refine og 1 [(0, (ptr r)), (1, (i64 k)), (4, (Value.slice none 0 0)), (5, (Value.slice VA l.length vc)), (6, (i64 ((i : Nat) : Int))), (13, (Value.bool true)), (18, (Value.bool false)), (25, (Value.pointer (some ⟨rb6, ro7 + i * 3, none⟩)))] 10 ?_
   refine Ops.go (v := (Value.string (str a.name))) (by kernel_rfl) (Runs.load (t := 9) (a := ⟨rb6, ro7 + i * 3, none⟩) (by kernel_rfl) (RdT.ldf (f := AccM.cells) (x := a) (o := 0) AccM.three (Rd.keep0 (by decide) hR K2) (by kernel_rfl) hA8 ha rfl)) (d := (some 26)) (by kernel_rfl) rfl ?_
   refine Ops.call (by kernel_rfl) (d := (some 27)) (by kernel_rfl) (RSlot_calls _ a.name (by omega)) ?_
   rintro _ w34 ⟨rfl, K33⟩
   refine ⟨_, _, rfl, rfl, ?_⟩
   replace K2 := K2.trans K33 (U := none_) (fun i h1 h2 => h2) (fun i h1 h2 => by exact h2)
   replace H3 := H3.keep K33 (fun h => h)
   replace hOV := own_keep0 hOV K33
   clear K33
   refine og 3 [(0, (ptr r)), (1, (i64 k)), (4, (Value.slice none 0 0)), (5, (Value.slice VA l.length vc)), (6, (i64 ((i : Nat) : Int))), (13, (Value.bool true)), (30, (Value.bool (((slotB a.name : Nat) : Int) == k)))] 15 ?_
   refine od ?_
   refine q_cond (o := .tmp 30) (b := (((slotB a.name : Nat) : Int) == k)) (by kernel_rfl) rfl (fun h35 => ?_) (fun h35 => ?_)
   ·rw [h35]
    have p36 : ((slotB a.name : Nat) : Int) = k := of_beq_t h35
    refine q_draw (fun wz => Keeps (fun i => ((Value.slice VA l.length vc)).ownBlock = some i) w34 wz) 21 (by kernel_rfl) (by kernel_rfl) (by kernel_rfl) (fun w37 K38 _ _ => ⟨(K38.mono (fun _ _ h => h.elim)), ?_⟩)
    replace K2 := K2.trans K38 (U := none_) (fun i h1 h2 => h2) (fun i h1 h2 => by exact h2)
    replace H3 := H3.keep K38 (fun h => h)
    replace hOV := own_keep0 hOV K38
    refine Dr.strong (S' := (fun wz => Keeps (fun i => ((Value.slice VA l.length vc)).ownBlock = some i) w37 wz)) ((Keeps.refl w37).mono (fun _ _ h => h.elim)) (fun wz hx => K38.trans hx (fun i _ h => h.elim) (fun _ _ h => h)) ?_
    clear K38
    refine Dr.takes (fuel' := 17) (is' := [3, 2, 1, 0]) [0, 1, 2, 3] [(0, (ptr r)), (1, (i64 k)), (4, (Value.slice none 0 0)), (5, (Value.slice VA l.length vc)), (6, (i64 ((i : Nat) : Int))), (13, (Value.bool true)), (30, (Value.bool true)), (31, (Value.slice VA l.length vc)), (34, (ptr r))] (by kernel_rfl) rfl (by kernel_rfl) ?_
    refine Dr.take (i := 4) (v := (Value.slice A S.length c)) (by kernel_rfl) (by kernel_rfl) (fun wz hS => Runs.load (t := 41) (a := ⟨r, 0, none⟩) (by kernel_rfl) ((H3.keep hS (by intro h; change ((Value.slice VA l.length vc)).ownBlock = some r at h; have := obVr r h; omega)).loads (by kernel_rfl))) (d := (some 35)) (by kernel_rfl) rfl ?_
    refine Dr.takes (fuel' := 15) (is' := [5, 4, 3, 2, 1, 0]) [5] [(0, (ptr r)), (1, (i64 k)), (4, (Value.slice none 0 0)), (5, (Value.slice VA l.length vc)), (6, (i64 ((i : Nat) : Int))), (13, (Value.bool true)), (30, (Value.bool true)), (31, (Value.slice VA l.length vc)), (35, (Value.slice A S.length c)), (36, (i64 ((i : Nat) : Int)))] (by kernel_rfl) rfl (by kernel_rfl) ?_
    refine Dr.take (i := 6) (v := (Value.pointer (some ⟨rb6, ro7 + i * 3, none⟩))) (by kernel_rfl) (by kernel_rfl) (fun wz hS => Runs.ixSliceE (k := IntKind.i64) (t := 41) (len := S.length) (cap := c) (s := 3) (off' := ro7 + i * 3) (i := ((i : Nat) : Int)) hA8 (by kernel_rfl) (by kernel_rfl) (by omega) (by omega) (by omega)) (d := (some 37)) (by kernel_rfl) rfl ?_
    refine Dr.takes (fuel' := 13) (is' := [7, 6, 5, 4, 3, 2, 1, 0]) [7] [(0, (ptr r)), (1, (i64 k)), (4, (Value.slice none 0 0)), (5, (Value.slice VA l.length vc)), (6, (i64 ((i : Nat) : Int))), (13, (Value.bool true)), (30, (Value.bool true)), (31, (Value.slice VA l.length vc)), (38, (Value.pointer (some ⟨rb6, ro7 + i * 3, none⟩)))] (by kernel_rfl) rfl (by kernel_rfl) ?_
    refine Dr.take (i := 8) (v := (Value.string (str a.name))) (by kernel_rfl) (by kernel_rfl) (fun wz hS => Runs.load (t := 9) (a := ⟨rb6, ro7 + i * 3, none⟩) (by kernel_rfl) (RdT.ldf (f := AccM.cells) (x := a) (o := 0) AccM.three (Rd.keep0 (by decide) hR (K2.trans hS (U := none_) (fun _ _ h => h) (fun i h1 h2 => by have h2 : ((Value.slice VA l.length vc)).ownBlock = some i := h2; exfalso; have := (World.ownsRow.lt hOV i h2).1; omega))) (by kernel_rfl) hA8 ha rfl)) (d := (some 39)) (by kernel_rfl) rfl ?_
    refine Dr.takes (fuel' := 9) (is' := [11, 10, 9, 8, 7, 6, 5, 4, 3, 2, 1, 0]) [9, 10, 11] [(0, (ptr r)), (1, (i64 k)), (4, (Value.slice none 0 0)), (5, (Value.slice VA l.length vc)), (6, (i64 ((i : Nat) : Int))), (13, (Value.bool true)), (30, (Value.bool true)), (31, (Value.slice VA l.length vc)), (39, (Value.string (str a.name))), (42, (ptr r))] (by kernel_rfl) rfl (by kernel_rfl) ?_
    refine Dr.take (i := 12) (v := (Value.slice A S.length c)) (by kernel_rfl) (by kernel_rfl) (fun wz hS => Runs.load (t := 41) (a := ⟨r, 0, none⟩) (by kernel_rfl) ((H3.keep hS (by intro h; change ((Value.slice VA l.length vc)).ownBlock = some r at h; have := obVr r h; omega)).loads (by kernel_rfl))) (d := (some 43)) (by kernel_rfl) rfl ?_
    refine Dr.takes (fuel' := 7) (is' := [13, 12, 11, 10, 9, 8, 7, 6, 5, 4, 3, 2, 1, 0]) [13] [(0, (ptr r)), (1, (i64 k)), (4, (Value.slice none 0 0)), (5, (Value.slice VA l.length vc)), (6, (i64 ((i : Nat) : Int))), (13, (Value.bool true)), (30, (Value.bool true)), (31, (Value.slice VA l.length vc)), (39, (Value.string (str a.name))), (43, (Value.slice A S.length c)), (44, (i64 ((i : Nat) : Int)))] (by kernel_rfl) rfl (by kernel_rfl) ?_
    refine Dr.take (i := 14) (v := (Value.pointer (some ⟨rb6, ro7 + i * 3, none⟩))) (by kernel_rfl) (by kernel_rfl) (fun wz hS => Runs.ixSliceE (k := IntKind.i64) (t := 41) (len := S.length) (cap := c) (s := 3) (off' := ro7 + i * 3) (i := ((i : Nat) : Int)) hA8 (by kernel_rfl) (by kernel_rfl) (by omega) (by omega) (by omega)) (d := (some 45)) (by kernel_rfl) rfl ?_
    refine Dr.takes (fuel' := 5) (is' := [15, 14, 13, 12, 11, 10, 9, 8, 7, 6, 5, 4, 3, 2, 1, 0]) [15] [(0, (ptr r)), (1, (i64 k)), (4, (Value.slice none 0 0)), (5, (Value.slice VA l.length vc)), (6, (i64 ((i : Nat) : Int))), (13, (Value.bool true)), (30, (Value.bool true)), (31, (Value.slice VA l.length vc)), (39, (Value.string (str a.name))), (46, (Value.pointer (some ⟨rb6, ro7 + i * 3 + 1, none⟩)))] (by kernel_rfl) rfl (by kernel_rfl) ?_
    refine Dr.take (i := 16) (v := (i64 a.amt)) (by kernel_rfl) (by kernel_rfl) (fun wz hS => Runs.load (t := 2) (a := ⟨rb6, ro7 + i * 3 + 1, none⟩) (by kernel_rfl) (RdT.ldf (f := AccM.cells) (x := a) (o := 1) AccM.three (Rd.keep0 (by decide) hR (K2.trans hS (U := none_) (fun _ _ h => h) (fun i h1 h2 => by have h2 : ((Value.slice VA l.length vc)).ownBlock = some i := h2; exfalso; have := (World.ownsRow.lt hOV i h2).1; omega))) (by kernel_rfl) hA8 ha rfl)) (d := (some 47)) (by kernel_rfl) rfl ?_
    refine Dr.takes (fuel' := 3) (is' := [17, 16, 15, 14, 13, 12, 11, 10, 9, 8, 7, 6, 5, 4, 3, 2, 1, 0]) [17] [(0, (ptr r)), (1, (i64 k)), (4, (Value.slice none 0 0)), (5, (Value.slice VA l.length vc)), (6, (i64 ((i : Nat) : Int))), (13, (Value.bool true)), (30, (Value.bool true)), (31, (Value.slice VA l.length vc)), (48, (agg [(Value.string (str a.name)), (i64 a.amt)]))] (by kernel_rfl) rfl (by kernel_rfl) ?_
    refine Dr.new (i := 18) (o := rowL [(Value.string (str a.name)), (i64 a.amt)] 52) (V := fun b => (Value.slice (some ⟨b, 0, none⟩) 1 1)) (by kernel_rfl) (by kernel_rfl) (d := (some 49)) (by kernel_rfl) (fun b => rfl) (fun b39 w40 hb41 H42 K43 hs44 => ?_)
    have lb39r : r < b39 := by have := H3.lt; omega
    have nb39 : w.heap.size ≤ b39 := by have := K2.size; omega
    have ob45 : ∀ i, ((Value.slice VA l.length vc)).ownBlock = some i → i < b39 := fun i hi => by have := (World.ownsRow.lt hOV i hi).2; omega
    replace K2 := K2.trans K43 (U := none_) (fun i h1 h2 => h2) (fun i h1 h2 => by exact h2)
    replace H3 := H3.keep K43 (fun h => h)
    replace hOV := own_keep0 hOV K43
    refine ⟨(K43.mono (fun _ _ h => h.elim)), ?_⟩
    refine Dr.strong (S' := (fun wz => Keeps (fun i => ((Value.slice VA l.length vc)).ownBlock = some i) w40 wz)) ((Keeps.refl w40).mono (fun _ _ h => h.elim)) (fun wz hx => K43.trans hx (fun i _ h => h.elim) (fun _ _ h => h)) ?_
    clear K43 hs44
    obtain ⟨v46, w47, hr48, hO49, hK50, hg51⟩ := OwnT.app (ty := 75) RowM.two RowM.one tyR hOV (show RdT _ 2 RowM.cells _ [(⟨a.name, a.amt⟩ : RowM)] from Rd.lit H42 (n := 1) rfl (by decide)) (by simp only [List.length_cons, List.length_nil]; omega) (by simp only [List.length_cons, List.length_nil]; omega) K2.size
    obtain ⟨A53, c54, rfl⟩ := RdT.form RowM.two (by decide) (OwnT.rd hO49)
    have ob55 : ∀ i, ((Value.slice A53 ((l ++ [(⟨a.name, a.amt⟩ : RowM)]).length) c54)).ownBlock = some i → i ≠ r := fun i hi => by rcases hg51 i hi with h | h; (have := obVr i h; omega); (have := H3.lt; omega)
    have ob56 : ∀ i, ((Value.slice A53 ((l ++ [(⟨a.name, a.amt⟩ : RowM)]).length) c54)).ownBlock = some i → i ≠ b39 := fun i hi => by rcases hg51 i hi with h | h; (have := ob45 i h; omega); (have := H42.lt; omega)
    have K52 := hK50
    replace K2 := K2.trans K52 (U := none_) (fun i h1 h2 => h2) (fun i h1 h2 => by have h2 : ((Value.slice VA l.length vc)).ownBlock = some i := h2; exfalso; have := (World.ownsRow.lt hOV i h2).1; omega)
    replace H3 := H3.keep K52 (by intro h; change ((Value.slice VA l.length vc)).ownBlock = some r at h; have := obVr r h; omega)
    replace H42 := H42.keep K52 (by intro h; change ((Value.slice VA l.length vc)).ownBlock = some b39 at h; have := ob45 b39 h; omega)
    clear hOV
    refine Dr.go (i := 19) (v := (Value.slice A53 ((l ++ [(⟨a.name, a.amt⟩ : RowM)]).length) c54)) (by kernel_rfl) (by kernel_rfl) (Runs.append (ts := #[75, 75]) (ty := 75) (vs := [(Value.slice VA l.length vc), (Value.slice (some ⟨b39, 0, none⟩) 1 1)]) (by kernel_rfl) hr48) (d := (some 50)) (by kernel_rfl) rfl K52 ?_
    refine Dr.strong (S' := (fun wz => Keeps (fun i => ((Value.slice VA l.length vc)).ownBlock = some i) w47 wz)) ((Keeps.refl w47).mono (fun _ _ h => h.elim)) (fun wz hx => K52.trans hx (fun i _ h => by have h : ((Value.slice VA l.length vc)).ownBlock = some i := h; show ((Value.slice VA l.length vc)).ownBlock = some i; exact h) (fun _ _ h => h)) ?_
    clear K52 hr48 hK50 hg51
    refine Dr.takes (fuel' := 0) (is' := [20, 19, 18, 17, 16, 15, 14, 13, 12, 11, 10, 9, 8, 7, 6, 5, 4, 3, 2, 1, 0]) [20] [(0, (ptr r)), (1, (i64 k)), (4, (Value.slice none 0 0)), (5, (Value.slice A53 ((l ++ [(⟨a.name, a.amt⟩ : RowM)]).length) c54)), (6, (i64 ((i : Nat) : Int))), (13, (Value.bool true)), (30, (Value.bool true))] (by kernel_rfl) rfl (by kernel_rfl) ?_
    refine Dr.done (by kernel_rfl) ?_
    refine qg ?_
    refine og 2 [(0, (ptr r)), (1, (i64 k)), (4, (Value.slice none 0 0)), (5, (Value.slice A53 ((l ++ [(⟨a.name, a.amt⟩ : RowM)]).length) c54)), (6, (i64 ((i : Nat) : Int))), (13, (Value.bool true)), (15, (i64 (IntKind.i64.wrap (((i : Nat) : Int) + 1)))), (30, (Value.bool true))] 2 ?_
    have e57 : IntKind.i64.wrap (((i : Nat) : Int) + 1) = ((i + 1 : Nat) : Int) := by rw [wrap_i64 (by omega) (by omega)]; omega
    rw [e57]
    clear e57
    refine og 1 [(0, (ptr r)), (1, (i64 k)), (4, (Value.slice none 0 0)), (5, (Value.slice A53 ((l ++ [(⟨a.name, a.amt⟩ : RowM)]).length) c54)), (6, (i64 ((i + 1 : Nat) : Int))), (13, (Value.bool true)), (30, (Value.bool true))] 3 ?_
    refine Ops.keep (R := [(0, (ptr r)), (1, (i64 k)), (4, (Value.slice none 0 0)), (5, (Value.slice A53 ((l ++ [(⟨a.name, a.amt⟩ : RowM)]).length) c54)), (6, (i64 ((i + 1 : Nat) : Int)))]) (by kernel_rfl) ?_
    refine od ?_
    exact ⟨(A53, c54, i + 1, l ++ [(⟨a.name, a.amt⟩ : RowM)]), ⟨rfl, hO49, ob55, (by omega), (by rw [hrt, ← hE, inSlot_t (by omega), if_pos rfl]; first | done | rfl), K2, H3⟩, (show S.length - (i + 1) < S.length - i from by omega)⟩
   ·rw [h35]
    have p58 : ¬ (((slotB a.name : Nat) : Int) = k) := of_beq_f h35
    refine q_skip (by kernel_rfl) ?_
    refine qg ?_
    refine og 2 [(0, (ptr r)), (1, (i64 k)), (4, (Value.slice none 0 0)), (5, (Value.slice VA l.length vc)), (6, (i64 ((i : Nat) : Int))), (13, (Value.bool true)), (15, (i64 (IntKind.i64.wrap (((i : Nat) : Int) + 1)))), (30, (Value.bool false))] 2 ?_
    have e59 : IntKind.i64.wrap (((i : Nat) : Int) + 1) = ((i + 1 : Nat) : Int) := by rw [wrap_i64 (by omega) (by omega)]; omega
    rw [e59]
    clear e59
    refine og 1 [(0, (ptr r)), (1, (i64 k)), (4, (Value.slice none 0 0)), (5, (Value.slice VA l.length vc)), (6, (i64 ((i + 1 : Nat) : Int))), (13, (Value.bool true)), (30, (Value.bool false))] 3 ?_
    refine Ops.keep (R := [(0, (ptr r)), (1, (i64 k)), (4, (Value.slice none 0 0)), (5, (Value.slice VA l.length vc)), (6, (i64 ((i + 1 : Nat) : Int)))]) (by kernel_rfl) ?_
    refine od ?_
    exact ⟨(VA, vc, i + 1, l), ⟨rfl, hOV, obVr, (by omega), (by rw [hrt, ← hE, inSlot_f (by omega), if_neg (by decide), List.append_nil]), K2, H3⟩, (show S.length - (i + 1) < S.length - i from by omega)⟩
 ·rw [h4]
  have p60 : ¬ (((i : Nat) : Int) < ((S.length : Nat) : Int)) := of_decide_eq_false h4
  refine q_exit (id := 0) (by kernel_rfl) ?_
  refine qs ?_
  refine qg ?_
  refine og 2 [(4, (Value.slice VA l.length vc))] 2 ?_
  refine od ?_
  refine q_ret (by kernel_rfl) ?_
  refine ⟨(Value.slice VA l.length vc), retv_tmp rfl rfl, ?_⟩
  have e : l = rowsS S k := by rw [hE, List.take_of_length_le (by omega)]
  rw [e] at hOV
  rw [e]
  exact ⟨_, _, rfl, K2, hOV⟩
end Go.Proofs.YtooginpgclcldaaGreatDoor
namespace Go.Proofs.YtooginpgclcldaaGreatDoor
open Go.Q Go.RowKit

theorem Text_calls (w : World) (v : Value) (xs : List UInt8) (ss : List UInt8) (hv : RdB w v xs) (hs : ss.length ≤ 70368744173568) (hl : xs.length ≤ 70368744173568) : Calls Tryz.prog 32 ⟨[v, (Value.string (str ss))]⟩ w (fun e w' => ∃ v', e = .returned v' ∧ Keeps none_ w w' ∧ OwnB w' w.heap.size 5 v' (xs ++ tv ss)) := by
 have K0 : Keeps none_ w w := Keeps.refl w
 refine q_calls Tryz.func32 (by kernel_rfl) (by kernel_rfl) ?_
 refine qs ?_
 refine qg ?_
 refine og 1 [(0, v), (1, (Value.string (str ss))), (4, (Value.slice none 0 0))] 1 ?_
 refine od ?_
 refine qs ?_
 refine qg ?_
 refine og 4 [(1, (Value.string (str ss))), (4, (Value.slice none 0 0)), (5, v), (8, (Value.int IntKind.u64 (IntKind.u64.wrap (((ss.length : Nat) : Int)))))] 4 ?_
 have e1 : IntKind.u64.wrap (((ss.length : Nat) : Int)) = ((ss.length : Nat) : Int) := wrap_u64 (by omega) (by omega)
 rw [e1]
 refine Ops.call (by kernel_rfl) (d := (some 9)) (by kernel_rfl) (Uint_calls _ v xs ss.length (hv.keep0 (by omega) K0) (by omega) (by (try simp only at *); (try simp only [List.length_append] at *); (try simp only [List.length_cons] at *); (try simp only [List.length_nil] at *); omega)) ?_
 rintro _ w4 ⟨v3, rfl, K5, hO6⟩
 have O7 := own_base hO6 K0.size
 clear hO6
 have hL2 := uv_length_10 (n := ss.length) (by omega)
 refine ⟨_, _, rfl, rfl, ?_⟩
 replace K0 := K0.t0 K5
 clear K5
 refine og 1 [(4, (Value.slice none 0 0)), (9, v3), (10, (Value.string (str ss)))] 6 ?_
 obtain ⟨v8, w9, hr10, hO11, K12⟩ := OwnB.appS (t := 22) (u := 9) (ty := 22) (ys := ss) (by kernel_rfl) O7 (by (try simp only at *); (try simp only [List.length_append] at *); (try simp only [List.length_cons] at *); (try simp only [List.length_nil] at *); omega) K0.size
 refine Ops.go (v := v8) (by kernel_rfl) (Runs.append (ts := #[22, 9]) (ty := 22) (vs := [v3, (Value.string (str ss))]) (by kernel_rfl) hr10) (d := (some 11)) (by kernel_rfl) rfl ?_
 have K13 := Keeps.own2 K0 K12
 clear O7 K0 hr10 K12
 refine og 1 [(4, v8)] 8 ?_
 refine od ?_
 refine q_ret (by kernel_rfl) ?_
 refine ⟨v8, retv_tmp rfl rfl, ?_⟩
 have hfin : xs ++ uv ss.length ++ ss = xs ++ tv ss := by simp [tv]
 rw [hfin] at hO11
 exact ⟨_, rfl, K13, hO11⟩

theorem RBytesW_calls (w : World) (v : Value) (xs : List UInt8) (B : Option Addr) (d : Nat) (ss : List UInt8) (hv : RdB w v xs) (hp : RdB w (.slice B ss.length d) ss) (hs : ss.length ≤ 70368744173568) (hl : xs.length ≤ 70368744173568) : Calls Tryz.prog 109 ⟨[v, (Value.slice B ss.length d)]⟩ w (fun e w' => ∃ v', e = .returned v' ∧ Keeps none_ w w' ∧ OwnB w' w.heap.size 5 v' (xs ++ tv ss)) := by
 have K0 : Keeps none_ w w := Keeps.refl w
 refine q_calls Tryz.func109 (by kernel_rfl) (by kernel_rfl) ?_
 refine qs ?_
 refine qg ?_
 refine og 1 [(0, v), (1, (Value.slice B ss.length d)), (4, (Value.slice none 0 0))] 1 ?_
 refine od ?_
 refine qs ?_
 refine qg ?_
 refine og 4 [(1, (Value.slice B ss.length d)), (4, (Value.slice none 0 0)), (6, v), (9, (Value.int IntKind.u64 (IntKind.u64.wrap (((ss.length : Nat) : Int)))))] 4 ?_
 have e1 : IntKind.u64.wrap (((ss.length : Nat) : Int)) = ((ss.length : Nat) : Int) := wrap_u64 (by omega) (by omega)
 rw [e1]
 refine Ops.call (by kernel_rfl) (d := (some 10)) (by kernel_rfl) (RUint_calls _ v xs ss.length (hv.keep0 (by omega) K0) (by omega) (by (try simp only at *); (try simp only [List.length_append] at *); (try simp only [List.length_cons] at *); (try simp only [List.length_nil] at *); omega)) ?_
 rintro _ w4 ⟨v3, rfl, K5, hO6⟩
 have O7 := own_base hO6 K0.size
 clear hO6
 have hL2 := uv_length_10 (n := ss.length) (by omega)
 refine ⟨_, _, rfl, rfl, ?_⟩
 replace K0 := K0.t0 K5
 clear K5
 refine og 1 [(1, (Value.slice B ss.length d)), (4, (Value.slice none 0 0)), (5, v3)] 6 ?_
 refine od ?_
 refine qs ?_
 refine qg ?_
 refine og 2 [(4, (Value.slice none 0 0)), (5, v3), (11, v3), (12, (Value.slice B ss.length d))] 2 ?_
 obtain ⟨v8, w9, hr10, hO11, K12⟩ := OwnB.app (ty := 22) tyB O7 (hp.keep0 (by omega) K0) (by (try simp only at *); (try simp only [List.length_append] at *); (try simp only [List.length_cons] at *); (try simp only [List.length_nil] at *); omega) K0.size
 refine Ops.go (v := v8) (by kernel_rfl) (Runs.append (ts := #[22, 22]) (ty := 22) (vs := [v3, (Value.slice B ss.length d)]) (by kernel_rfl) hr10) (d := (some 13)) (by kernel_rfl) rfl ?_
 have K13 := Keeps.own2 K0 K12
 clear O7 K0 hr10 K12
 refine og 1 [(4, (Value.slice none 0 0)), (5, v8)] 4 ?_
 refine od ?_
 refine qs ?_
 refine qg ?_
 refine og 2 [(4, v8)] 2 ?_
 refine od ?_
 refine q_ret (by kernel_rfl) ?_
 refine ⟨v8, retv_tmp rfl rfl, ?_⟩
 have hfin : xs ++ uv ss.length ++ ss = xs ++ tv ss := by simp [tv]
 rw [hfin] at hO11
 exact ⟨_, rfl, K13, hO11⟩
end Go.Proofs.YtooginpgclcldaaGreatDoor
namespace Go.Proofs.YtooginpgclcldaaGreatDoor
open Go.Q Go.RowKit

theorem Bytes_calls (w : World) (b mb : Nat) (m : List (List UInt8 × AccV)) (S : List AccM) (Hb : Has w b (rowL [.map (some mb)] 66)) (Hm : HasMap w mb kstr accv m) (hne : b ≠ mb) (hB : Book m S) : Calls Tryz.prog 11 ⟨[(ptr b)]⟩ w (fun e w' => ∃ v', e = .returned v' ∧ Keeps none_ w w' ∧ OwnB w' w.heap.size 5 v' (bookB S)) := by
 have Hbl := Hb.lt
 have Hml := Hm.lt
 have hlen := hB.len
 have hSl := hB.accs.len
 have K0 : Keeps none_ w w := Keeps.refl w
 refine q_calls Tryz.func11 (by kernel_rfl) (by kernel_rfl) ?_
 refine qs ?_
 refine qg ?_
 refine og 1 [(0, (ptr b)), (2, (Value.slice none 0 0))] 1 ?_
 refine od ?_
 refine qs ?_
 refine qs ?_
 refine qg ?_
 refine og 2 [(0, (ptr b)), (2, (Value.slice none 0 0)), (8, (Value.bool false))] 2 ?_
 refine od ?_
 refine q_else (o := .tmp 8) (by kernel_rfl) rfl ?_
 refine q_skip (by kernel_rfl) ?_
 refine qs ?_
 refine qg ?_
 refine og 3 [(0, (ptr b)), (2, (Value.slice none 0 0)), (11, (ptr b))] 3 ?_
 refine Ops.go (v := (Value.map (some mb))) (by kernel_rfl) (Runs.load (t := 64) (a := ⟨b, 0, none⟩) (by kernel_rfl) (Hb.loads (by kernel_rfl))) (d := (some 12)) (by kernel_rfl) rfl ?_
 refine Ops.go (v := (i64 ((m.length : Nat) : Int))) (by kernel_rfl) (Runs.maplen (ts := #[64]) (t0 := 64) (ty := 3) rfl Tryz.underlying64 Hm (by kernel_rfl)) (d := (some 13)) (by kernel_rfl) rfl ?_
 refine og 1 [(0, (ptr b)), (2, (Value.slice none 0 0)), (14, (Value.int IntKind.u64 (IntKind.u64.wrap (((m.length : Nat) : Int)))))] 6 ?_
 have e1 : IntKind.u64.wrap (((m.length : Nat) : Int)) = ((m.length : Nat) : Int) := wrap_u64 (by omega) (by omega)
 rw [e1]
 refine Ops.call (by kernel_rfl) (d := (some 15)) (by kernel_rfl) (Uint_calls _ (Value.slice none 0 0) [] m.length (Rd.nil _ _) (by omega) (by (try simp only at *); (try simp only [List.length_append] at *); (try simp only [List.length_cons] at *); (try simp only [List.length_nil] at *); omega)) ?_
 rintro _ w4 ⟨v3, rfl, K5, hO6⟩
 have ob8 : ∀ i, (v3).ownBlock = some i → i ≠ b := fun i hi => by have := (World.ownsRow.lt hO6 i hi).1; have := Hb.lt; omega
 have ob9 : ∀ i, (v3).ownBlock = some i → i ≠ mb := fun i hi => by have := (World.ownsRow.lt hO6 i hi).1; have := Hm.lt; omega
 have O7 := own_base hO6 K0.size
 clear hO6
 have hL2 := uv_length_10 (n := m.length) (by omega)
 refine ⟨_, _, rfl, rfl, ?_⟩
 replace K0 := K0.t0 K5
 replace Hb := Hb.keep K5 (fun h => h)
 replace Hm := Hm.keep K5 (fun h => h)
 clear K5
 refine og 1 [(0, (ptr b)), (2, (Value.slice none 0 0)), (3, v3)] 8 ?_
 refine od ?_
 refine qs ?_
 refine qs ?_
 refine qg ?_
 refine og 1 [(0, (ptr b)), (2, (Value.slice none 0 0)), (3, v3), (16, (ptr b))] 1 ?_
 refine Ops.call (by kernel_rfl) (d := (some 17)) (by kernel_rfl) (names_calls _ b mb m S Hb Hm (by omega) hB) ?_
 rintro _ w12 ⟨A10, c11, rfl, K13, hO14⟩
 have ob16 : ∀ i, ((Value.slice A10 ((S.map (·.name)).length) c11)).ownBlock = some i → i ≠ b := fun i hi => by have := (World.ownsRow.lt hO14 i hi).1; have := Hb.lt; omega
 have ob17 : ∀ i, ((Value.slice A10 ((S.map (·.name)).length) c11)).ownBlock = some i → i ≠ mb := fun i hi => by have := (World.ownsRow.lt hO14 i hi).1; have := Hm.lt; omega
 have oo18 : ∀ i, (v3).ownBlock = some i → ((Value.slice A10 ((S.map (·.name)).length) c11)).ownBlock = some i → False := fun i hi hs => by have := (World.ownsRow.lt hO14 i hs).1; have := (World.ownsRow.lt O7 i hi).2; omega
 have oo19 : ∀ i, ((Value.slice A10 ((S.map (·.name)).length) c11)).ownBlock = some i → (v3).ownBlock = some i → False := fun i hi hs => oo18 i hs hi
 have O15 := own_base hO14 K0.size
 clear hO14
 have hl20 : (S.map (·.name)).length = S.length := List.length_map ..
 refine ⟨_, _, rfl, rfl, ?_⟩
 replace K0 := K0.t0 K13
 replace Hb := Hb.keep K13 (fun h => h)
 replace Hm := Hm.keep K13 (fun h => h)
 replace O7 := own_keep0 O7 K13
 clear K13
 refine og 2 [(0, (ptr b)), (2, (Value.slice none 0 0)), (3, v3), (17, (Value.slice A10 ((S.map (·.name)).length) c11)), (18, (i64 (((S.map (·.name)).length : Nat) : Int))), (19, (i64 0))] 4 ?_
 refine od ?_
 refine q_block (id := 0) (by kernel_rfl) ?_
 refine q_keep (R := [(0, (ptr b)), (2, (Value.slice none 0 0)), (3, v3), (17, (Value.slice A10 ((S.map (·.name)).length) c11)), (18, (i64 (((S.map (·.name)).length : Nat) : Int))), (19, (i64 0))]) (by kernel_rfl) ?_
 refine q_loop (fun (gs : Value × Nat × (List UInt8)) L (wx : World) => match gs with | (v, i, ys) => L = [(0, (ptr b)), (2, (Value.slice none 0 0)), (3, v), (17, (Value.slice A10 ((S.map (·.name)).length) c11)), (18, (i64 (((S.map (·.name)).length : Nat) : Int))), (19, (i64 ((i : Nat) : Int)))] ∧ OwnT wx w.heap.size 9 1 kcell (Value.slice A10 ((S.map (·.name)).length) c11) (S.map (·.name)) ∧ (∀ i, ((Value.slice A10 ((S.map (·.name)).length) c11)).ownBlock = some i → i ≠ b) ∧ (∀ i, ((Value.slice A10 ((S.map (·.name)).length) c11)).ownBlock = some i → i ≠ mb) ∧ (∀ i, (v).ownBlock = some i → ((Value.slice A10 ((S.map (·.name)).length) c11)).ownBlock = some i → False) ∧ OwnB wx w.heap.size 5 v ys ∧ (∀ i, (v).ownBlock = some i → i ≠ b) ∧ (∀ i, (v).ownBlock = some i → i ≠ mb) ∧ (∀ i, ((Value.slice A10 ((S.map (·.name)).length) c11)).ownBlock = some i → (v).ownBlock = some i → False) ∧ i ≤ S.length ∧ ys = uv S.length ++ (S.take i).flatMap accB ∧ ys.length ≤ 10 + i * 65600 ∧ Keeps none_ w wx ∧ Has wx b (rowL [(Value.map (some mb))] 66) ∧ HasMap wx mb kstr accv m) (fun (gs : Value × Nat × (List UInt8)) => match gs with | (v, i, ys) => S.length - i) (v3, 0, [] ++ uv m.length) (by kernel_rfl) ⟨rfl, O15, ob16, ob17, oo18, O7, ob8, ob9, oo19, Nat.zero_le _, (by simp [hlen]), (by first | omega | (simp only [List.nil_append]; have := uv_length_10 (n := S.length) (by omega); omega) | (have := uv_length_10 (n := S.length) (by omega); omega)), K0, Hb, Hm⟩ ?_
 clear Hb Hm O7 O15 K0
 rintro ⟨v, i, ys⟩ _ w21 ⟨rfl, hON, obNb, obNmb, ooNV, hOV, obVb, obVmb, ooVN, hi, hE, hyL, K22, H23, H24⟩
 have hyl : ys.length ≤ 10 + i * 65600 := hyL
 refine qs ?_
 refine qg ?_
 refine og 1 [(0, (ptr b)), (2, (Value.slice none 0 0)), (3, v), (17, (Value.slice A10 ((S.map (·.name)).length) c11)), (18, (i64 (((S.map (·.name)).length : Nat) : Int))), (19, (i64 ((i : Nat) : Int))), (20, (Value.bool (decide (((i : Nat) : Int) < (((S.map (·.name)).length : Nat) : Int)))))] 1 ?_
 refine od ?_
 refine qs ?_
 refine q_cond (o := .tmp 20) (b := (decide (((i : Nat) : Int) < (((S.map (·.name)).length : Nat) : Int)))) (by kernel_rfl) rfl (fun h25 => ?_) (fun h25 => ?_)
 ·rw [h25]
  have p26 : ((i : Nat) : Int) < (((S.map (·.name)).length : Nat) : Int) := of_decide_eq_true h25
  obtain ⟨a, ha⟩ : ∃ y, S[i]? = some y := ⟨_, List.getElem?_eq_getElem (by omega)⟩
  have hga := hB.accs.get_of (List.mem_of_getElem? ha)
  have hgm : getM m a.name = some (a.amt, a.own) := by rw [hB.get, hga]; rfl
  have hao := hB.accs.ok a (List.mem_of_getElem? ha)
  have hal := hao.len
  have hol := hao.own
  have ha1 := hao.lo
  have ha2 := hao.hi
  have hna := name_at ha
  have hbt := accB_take ha
  have hin := iv_length_10 (n := a.amt) (by omega)
  have htn := tv_le3 (s := a.name) (by omega)
  have hto := tv_le3 (s := a.own) (by omega)
  obtain ⟨rb27, ro28, hA29⟩ := Rd.addr (OwnT.rd hON) (by omega)
  refine q_skip (by kernel_rfl) ?_
  refine qs ?_
  refine q_block (id := 1) (by kernel_rfl) ?_
  refine qs ?_
  refine qg ?_
  refine Ops.go (by kernel_rfl) (Runs.ixSliceE (k := IntKind.i64) (t := 67) (len := ((S.map (·.name)).length)) (cap := c11) (s := 1) (off' := ro28 + i) (i := ((i : Nat) : Int)) hA29 (by kernel_rfl) (by kernel_rfl) (by omega) (by omega) (by omega)) (d := (some 21)) (by kernel_rfl) rfl ?_
  refine Ops.go (v := (Value.string (str a.name))) (by kernel_rfl) (Runs.load (t := 9) (a := ⟨rb27, ro28 + i, none⟩) (by kernel_rfl) (RdT.ld1 (f := kcell) (x := a.name) kcell_len (OwnT.rd hON) (by kernel_rfl) hA29 hna rfl)) (d := (some 22)) (by kernel_rfl) rfl ?_
  refine og 1 [(0, (ptr b)), (2, (Value.slice none 0 0)), (3, v), (5, (Value.string (str a.name))), (17, (Value.slice A10 ((S.map (·.name)).length) c11)), (18, (i64 (((S.map (·.name)).length : Nat) : Int))), (19, (i64 ((i : Nat) : Int))), (20, (Value.bool true))] 3 ?_
  refine od ?_
  refine qs ?_
  refine qg ?_
  refine og 3 [(0, (ptr b)), (2, (Value.slice none 0 0)), (3, v), (5, (Value.string (str a.name))), (17, (Value.slice A10 ((S.map (·.name)).length) c11)), (18, (i64 (((S.map (·.name)).length : Nat) : Int))), (19, (i64 ((i : Nat) : Int))), (20, (Value.bool true)), (25, (ptr b))] 3 ?_
  refine Ops.go (v := (Value.map (some mb))) (by kernel_rfl) (Runs.load (t := 64) (a := ⟨b, 0, none⟩) (by kernel_rfl) (H23.loads (by kernel_rfl))) (d := (some 26)) (by kernel_rfl) rfl ?_
  refine og 1 [(0, (ptr b)), (2, (Value.slice none 0 0)), (3, v), (5, (Value.string (str a.name))), (17, (Value.slice A10 ((S.map (·.name)).length) c11)), (18, (i64 (((S.map (·.name)).length : Nat) : Int))), (19, (i64 ((i : Nat) : Int))), (20, (Value.bool true)), (26, (Value.map (some mb))), (27, (Value.string (str a.name)))] 5 ?_
  refine Ops.go (v := (agg [(i64 a.amt), (Value.string (str a.own))])) (by kernel_rfl) (Runs.lookup_some (ok := false) (vf := accv) (a := (a.amt, a.own)) KT Tryz.underlying64 H24 hgm (by kernel_rfl)) (d := (some 28)) (by kernel_rfl) rfl ?_
  refine Ops.new (o := rowL [(i64 0), (Value.string ByteArray.empty)] 70) (V := fun b => (ptr b)) (by kernel_rfl) (d := (some 6)) (by kernel_rfl) (fun b => rfl) (fun b30 w31 hb32 H33 K34 hs35 => ?_)
  have lb30b : b < b30 := by have := H23.lt; omega
  have lb30mb : mb < b30 := by have := H24.lt; omega
  have nb30 : w.heap.size ≤ b30 := by have := K22.size; omega
  have ob36 : ∀ i, ((Value.slice A10 ((S.map (·.name)).length) c11)).ownBlock = some i → i < b30 := fun i hi => by have := (World.ownsRow.lt hON i hi).2; omega
  have ob37 : ∀ i, (v).ownBlock = some i → i < b30 := fun i hi => by have := (World.ownsRow.lt hOV i hi).2; omega
  replace K22 := K22.trans K34 (U := none_) (fun i h1 h2 => h2) (fun i h1 h2 => by exact h2)
  replace H23 := H23.keep K34 (fun h => h)
  replace H24 := H24.keep K34 (fun h => h)
  replace hON := own_keep0 hON K34
  replace hOV := own_keep0 hOV K34
  clear K34 hs35
  refine Ops.put (t := 70) (b := b30) (off := 0) (v := (agg [(i64 a.amt), (Value.string (str a.own))])) (ys := [(i64 a.amt), (Value.string (str a.own))]) (by kernel_rfl) (by kernel_rfl) H33 (by kernel_rfl) (d := none) (by kernel_rfl) rfl (fun w38 H39 K40 => ?_)
  clear H33
  replace K22 := K22.trans K40 (U := none_) (fun i h1 h2 => h2) (fun i h1 h2 => by have h2 : i = b30 := h2; exfalso; omega)
  replace H23 := H23.keep K40 (by intro h; change b = b30 at h; omega)
  replace H24 := H24.keep K40 (by intro h; change mb = b30 at h; omega)
  replace hON := own_keep hON K40 (fun i hi hs => by have hs : i = b30 := hs; have := ob36 i hi; omega)
  replace hOV := own_keep hOV K40 (fun i hi hs => by have hs : i = b30 := hs; have := ob37 i hi; omega)
  clear K40
  refine od ?_
  refine q_draw (fun wz => Keeps none_ w38 wz) 10 (by kernel_rfl) (by kernel_rfl) (by kernel_rfl) (fun w41 K42 _ _ => ⟨K42, ?_⟩)
  replace K22 := K22.trans K42 (U := none_) (fun i h1 h2 => h2) (fun i h1 h2 => by exact h2)
  replace H23 := H23.keep K42 (fun h => h)
  replace H24 := H24.keep K42 (fun h => h)
  replace H39 := H39.keep K42 (fun h => h)
  replace hON := own_keep0 hON K42
  replace hOV := own_keep0 hOV K42
  refine Dr.strong (S' := (fun wz => Keeps none_ w41 wz)) (Keeps.refl w41) (fun wz hx => K42.trans hx (fun i _ h => h) (fun _ _ h => h)) ?_
  clear K42
  refine Dr.takes (fuel' := 7) (is' := [3, 1, 0]) [0, 1, 3] [(0, (ptr b)), (2, (Value.slice none 0 0)), (3, v), (5, (Value.string (str a.name))), (6, (ptr b30)), (17, (Value.slice A10 ((S.map (·.name)).length) c11)), (18, (i64 (((S.map (·.name)).length : Nat) : Int))), (19, (i64 ((i : Nat) : Int))), (20, (Value.bool true)), (29, v), (30, (Value.string (str a.name))), (32, (ptr b30))] (by kernel_rfl) rfl (by kernel_rfl) ?_
  refine Dr.take (i := 4) (v := (i64 a.amt)) (by kernel_rfl) (by kernel_rfl) (fun wz hS => Runs.load (t := 2) (a := ⟨b30, 0, none⟩) (by kernel_rfl) ((H39.keep hS (fun h => h)).loads (by kernel_rfl))) (d := (some 33)) (by kernel_rfl) rfl ?_
  refine Dr.takes (fuel' := 5) (is' := [6, 4, 3, 1, 0]) [6] [(0, (ptr b)), (2, (Value.slice none 0 0)), (3, v), (5, (Value.string (str a.name))), (6, (ptr b30)), (17, (Value.slice A10 ((S.map (·.name)).length) c11)), (18, (i64 (((S.map (·.name)).length : Nat) : Int))), (19, (i64 ((i : Nat) : Int))), (20, (Value.bool true)), (29, v), (30, (Value.string (str a.name))), (33, (i64 a.amt)), (35, (Value.pointer (some ⟨b30, 1, none⟩)))] (by kernel_rfl) rfl (by kernel_rfl) ?_
  refine Dr.take (i := 7) (v := (Value.string (str a.own))) (by kernel_rfl) (by kernel_rfl) (fun wz hS => Runs.load (t := 9) (a := ⟨b30, 1, none⟩) (by kernel_rfl) ((H39.keep hS (fun h => h)).loads (by kernel_rfl))) (d := (some 36)) (by kernel_rfl) rfl ?_
  refine Dr.call (i := 2) (by kernel_rfl) (by kernel_rfl) (d := (some 31)) (by kernel_rfl) (fun _ => Text_calls _ v ys a.name (OwnB.rd hOV) (by first | omega | decide) (by (try simp only at *); (try simp only [List.length_append] at *); (try simp only [List.length_cons] at *); (try simp only [List.length_nil] at *); omega)) ?_
  rintro _ w44 ⟨v43, rfl, K45, hO46⟩
  have ob48 : ∀ i, (v43).ownBlock = some i → i ≠ b := fun i hi => by have := (World.ownsRow.lt hO46 i hi).1; have := H23.lt; omega
  have ob49 : ∀ i, (v43).ownBlock = some i → i ≠ mb := fun i hi => by have := (World.ownsRow.lt hO46 i hi).1; have := H24.lt; omega
  have ob50 : ∀ i, (v43).ownBlock = some i → i ≠ b30 := fun i hi => by have := (World.ownsRow.lt hO46 i hi).1; have := H39.lt; omega
  have oo51 : ∀ i, ((Value.slice A10 ((S.map (·.name)).length) c11)).ownBlock = some i → (v43).ownBlock = some i → False := fun i hi hs => by have := (World.ownsRow.lt hO46 i hs).1; have := (World.ownsRow.lt hON i hi).2; omega
  have oo52 : ∀ i, (v43).ownBlock = some i → ((Value.slice A10 ((S.map (·.name)).length) c11)).ownBlock = some i → False := fun i hi hs => oo51 i hs hi
  have oo53 : ∀ i, (v).ownBlock = some i → (v43).ownBlock = some i → False := fun i hi hs => by have := (World.ownsRow.lt hO46 i hs).1; have := (World.ownsRow.lt hOV i hi).2; omega
  have oo54 : ∀ i, (v43).ownBlock = some i → (v).ownBlock = some i → False := fun i hi hs => oo53 i hs hi
  have O47 := own_base hO46 K22.size
  clear hO46
  replace K22 := K22.trans K45 (U := none_) (fun i h1 h2 => h2) (fun i h1 h2 => by exact h2)
  replace H23 := H23.keep K45 (fun h => h)
  replace H24 := H24.keep K45 (fun h => h)
  replace H39 := H39.keep K45 (fun h => h)
  replace hON := own_keep0 hON K45
  replace hOV := own_keep0 hOV K45
  refine ⟨_, _, rfl, rfl, K45, ?_⟩
  refine Dr.strong (S' := (fun wz => Keeps none_ w44 wz)) (Keeps.refl w44) (fun wz hx => K45.trans hx (fun i _ h => h) (fun _ _ h => h)) ?_
  clear K45
  refine Dr.call (i := 5) (by kernel_rfl) (by kernel_rfl) (d := (some 34)) (by kernel_rfl) (fun _ => Int_calls _ v43 (ys ++ tv a.name) a.amt (OwnB.rd O47) (by omega) (by (try simp only at *); (try simp only [List.length_append] at *); (try simp only [List.length_cons] at *); (try simp only [List.length_nil] at *); omega)) ?_
  rintro _ w57 ⟨v56, rfl, K58, hO59⟩
  have ob61 : ∀ i, (v56).ownBlock = some i → i ≠ b := fun i hi => by have := (World.ownsRow.lt hO59 i hi).1; have := H23.lt; omega
  have ob62 : ∀ i, (v56).ownBlock = some i → i ≠ mb := fun i hi => by have := (World.ownsRow.lt hO59 i hi).1; have := H24.lt; omega
  have ob63 : ∀ i, (v56).ownBlock = some i → i ≠ b30 := fun i hi => by have := (World.ownsRow.lt hO59 i hi).1; have := H39.lt; omega
  have oo64 : ∀ i, ((Value.slice A10 ((S.map (·.name)).length) c11)).ownBlock = some i → (v56).ownBlock = some i → False := fun i hi hs => by have := (World.ownsRow.lt hO59 i hs).1; have := (World.ownsRow.lt hON i hi).2; omega
  have oo65 : ∀ i, (v56).ownBlock = some i → ((Value.slice A10 ((S.map (·.name)).length) c11)).ownBlock = some i → False := fun i hi hs => oo64 i hs hi
  have oo66 : ∀ i, (v).ownBlock = some i → (v56).ownBlock = some i → False := fun i hi hs => by have := (World.ownsRow.lt hO59 i hs).1; have := (World.ownsRow.lt hOV i hi).2; omega
  have oo67 : ∀ i, (v56).ownBlock = some i → (v).ownBlock = some i → False := fun i hi hs => oo66 i hs hi
  have oo68 : ∀ i, (v43).ownBlock = some i → (v56).ownBlock = some i → False := fun i hi hs => by have := (World.ownsRow.lt hO59 i hs).1; have := (World.ownsRow.lt O47 i hi).2; omega
  have oo69 : ∀ i, (v56).ownBlock = some i → (v43).ownBlock = some i → False := fun i hi hs => oo68 i hs hi
  have O60 := own_base hO59 K22.size
  clear hO59
  have hL55 := iv_length_10 (n := a.amt) (by omega)
  replace K22 := K22.trans K58 (U := none_) (fun i h1 h2 => h2) (fun i h1 h2 => by exact h2)
  replace H23 := H23.keep K58 (fun h => h)
  replace H24 := H24.keep K58 (fun h => h)
  replace H39 := H39.keep K58 (fun h => h)
  replace hON := own_keep0 hON K58
  replace hOV := own_keep0 hOV K58
  replace O47 := own_keep0 O47 K58
  refine ⟨_, _, rfl, rfl, K58, ?_⟩
  refine Dr.strong (S' := (fun wz => Keeps none_ w57 wz)) (Keeps.refl w57) (fun wz hx => K58.trans hx (fun i _ h => h) (fun _ _ h => h)) ?_
  clear K58
  refine Dr.call (i := 8) (by kernel_rfl) (by kernel_rfl) (d := (some 37)) (by kernel_rfl) (fun _ => Text_calls _ v56 (ys ++ tv a.name ++ iv a.amt) a.own (OwnB.rd O60) (by first | omega | decide) (by (try simp only at *); (try simp only [List.length_append] at *); (try simp only [List.length_cons] at *); (try simp only [List.length_nil] at *); omega)) ?_
  rintro _ w71 ⟨v70, rfl, K72, hO73⟩
  have ob75 : ∀ i, (v70).ownBlock = some i → i ≠ b := fun i hi => by have := (World.ownsRow.lt hO73 i hi).1; have := H23.lt; omega
  have ob76 : ∀ i, (v70).ownBlock = some i → i ≠ mb := fun i hi => by have := (World.ownsRow.lt hO73 i hi).1; have := H24.lt; omega
  have ob77 : ∀ i, (v70).ownBlock = some i → i ≠ b30 := fun i hi => by have := (World.ownsRow.lt hO73 i hi).1; have := H39.lt; omega
  have oo78 : ∀ i, ((Value.slice A10 ((S.map (·.name)).length) c11)).ownBlock = some i → (v70).ownBlock = some i → False := fun i hi hs => by have := (World.ownsRow.lt hO73 i hs).1; have := (World.ownsRow.lt hON i hi).2; omega
  have oo79 : ∀ i, (v70).ownBlock = some i → ((Value.slice A10 ((S.map (·.name)).length) c11)).ownBlock = some i → False := fun i hi hs => oo78 i hs hi
  have oo80 : ∀ i, (v).ownBlock = some i → (v70).ownBlock = some i → False := fun i hi hs => by have := (World.ownsRow.lt hO73 i hs).1; have := (World.ownsRow.lt hOV i hi).2; omega
  have oo81 : ∀ i, (v70).ownBlock = some i → (v).ownBlock = some i → False := fun i hi hs => oo80 i hs hi
  have oo82 : ∀ i, (v43).ownBlock = some i → (v70).ownBlock = some i → False := fun i hi hs => by have := (World.ownsRow.lt hO73 i hs).1; have := (World.ownsRow.lt O47 i hi).2; omega
  have oo83 : ∀ i, (v70).ownBlock = some i → (v43).ownBlock = some i → False := fun i hi hs => oo82 i hs hi
  have oo84 : ∀ i, (v56).ownBlock = some i → (v70).ownBlock = some i → False := fun i hi hs => by have := (World.ownsRow.lt hO73 i hs).1; have := (World.ownsRow.lt O60 i hi).2; omega
  have oo85 : ∀ i, (v70).ownBlock = some i → (v56).ownBlock = some i → False := fun i hi hs => oo84 i hs hi
  have O74 := own_base hO73 K22.size
  clear hO73
  replace K22 := K22.trans K72 (U := none_) (fun i h1 h2 => h2) (fun i h1 h2 => by exact h2)
  replace H23 := H23.keep K72 (fun h => h)
  replace H24 := H24.keep K72 (fun h => h)
  replace H39 := H39.keep K72 (fun h => h)
  replace hON := own_keep0 hON K72
  replace hOV := own_keep0 hOV K72
  replace O47 := own_keep0 O47 K72
  replace O60 := own_keep0 O60 K72
  refine ⟨_, _, rfl, rfl, K72, ?_⟩
  refine Dr.strong (S' := (fun wz => Keeps none_ w71 wz)) (Keeps.refl w71) (fun wz hx => K72.trans hx (fun i _ h => h) (fun _ _ h => h)) ?_
  clear K72
  refine Dr.takes (fuel' := 0) (is' := [9, 8, 5, 2, 7, 6, 4, 3, 1, 0]) [9] [(0, (ptr b)), (2, (Value.slice none 0 0)), (3, v70), (5, (Value.string (str a.name))), (6, (ptr b30)), (17, (Value.slice A10 ((S.map (·.name)).length) c11)), (18, (i64 (((S.map (·.name)).length : Nat) : Int))), (19, (i64 ((i : Nat) : Int))), (20, (Value.bool true))] (by kernel_rfl) rfl (by kernel_rfl) ?_
  refine Dr.done (by kernel_rfl) ?_
  refine qg ?_
  refine og 1 [(0, (ptr b)), (2, (Value.slice none 0 0)), (3, v70), (5, (Value.string (str a.name))), (6, (ptr b30)), (17, (Value.slice A10 ((S.map (·.name)).length) c11)), (18, (i64 (((S.map (·.name)).length : Nat) : Int))), (19, (i64 ((i : Nat) : Int))), (20, (Value.bool true)), (38, (i64 (IntKind.i64.wrap (((i : Nat) : Int) + 1))))] 1 ?_
  have e86 : IntKind.i64.wrap (((i : Nat) : Int) + 1) = ((i + 1 : Nat) : Int) := by rw [wrap_i64 (by omega) (by omega)]; omega
  rw [e86]
  clear e86
  refine og 1 [(0, (ptr b)), (2, (Value.slice none 0 0)), (3, v70), (5, (Value.string (str a.name))), (6, (ptr b30)), (17, (Value.slice A10 ((S.map (·.name)).length) c11)), (18, (i64 (((S.map (·.name)).length : Nat) : Int))), (19, (i64 ((i + 1 : Nat) : Int))), (20, (Value.bool true))] 2 ?_
  refine Ops.keep (R := [(0, (ptr b)), (2, (Value.slice none 0 0)), (3, v70), (17, (Value.slice A10 ((S.map (·.name)).length) c11)), (18, (i64 (((S.map (·.name)).length : Nat) : Int))), (19, (i64 ((i + 1 : Nat) : Int)))]) (by kernel_rfl) ?_
  refine od ?_
  exact ⟨(v70, i + 1, ys ++ tv a.name ++ iv a.amt ++ tv a.own), ⟨rfl, hON, obNb, obNmb, oo79, O74, ob75, ob76, oo78, (by omega), (by rw [hbt, hE]; unfold accB; simp), (by simp only [List.length_append]; omega), K22, H23, H24⟩, (show S.length - (i + 1) < S.length - i from by omega)⟩
 ·rw [h25]
  have p87 : ¬ (((i : Nat) : Int) < (((S.map (·.name)).length : Nat) : Int)) := of_decide_eq_false h25
  refine q_exit (id := 0) (by kernel_rfl) ?_
  refine qs ?_
  refine qg ?_
  refine og 2 [(2, v)] 2 ?_
  refine od ?_
  refine q_ret (by kernel_rfl) ?_
  refine ⟨v, retv_tmp rfl rfl, ?_⟩
  have e : ys = bookB S := by rw [hE, List.take_of_length_le (by omega)]; rfl
  rw [e] at hOV
  exact ⟨_, rfl, K22, hOV⟩
end Go.Proofs.YtooginpgclcldaaGreatDoor
namespace Go.Proofs.YtooginpgclcldaaGreatDoor
open Go.Q Go.RowKit

theorem RText_calls (w : World) (v : Value) (xs : List UInt8) (ss : List UInt8) (hv : RdB w v xs) (hs : ss.length ≤ 70368744173568) (hl : xs.length ≤ 70368744173568) : Calls Tryz.prog 94 ⟨[v, (Value.string (str ss))]⟩ w (fun e w' => ∃ v', e = .returned v' ∧ Keeps none_ w w' ∧ OwnB w' w.heap.size 5 v' (xs ++ tv ss)) := by
 have K0 : Keeps none_ w w := Keeps.refl w
 refine q_calls Tryz.func94 (by kernel_rfl) (by kernel_rfl) ?_
 refine qs ?_
 refine qg ?_
 refine og 1 [(0, v), (1, (Value.string (str ss))), (4, (Value.slice none 0 0))] 1 ?_
 refine od ?_
 refine qs ?_
 refine qg ?_
 refine og 2 [(4, (Value.slice none 0 0)), (5, v), (6, (Value.string (str ss)))] 2 ?_
 obtain ⟨A1, c2, w3, hr4, K5, F6, hge7⟩ := run_s2b (P := Tryz.prog) (w := w) (src := 9) (dst := 22) (e := 5) (ss := ss) (by kernel_rfl) (by kernel_rfl) (by first | omega | decide)
 refine Ops.go (v := (Value.slice A1 ss.length c2)) (by kernel_rfl) (Runs.conv (by kernel_rfl) hr4) (d := (some 7)) (by kernel_rfl) rfl ?_
 replace K0 := K0.t0 K5
 clear K5 hr4 hge7
 refine Ops.call (by kernel_rfl) (d := (some 8)) (by kernel_rfl) (RBytesW_calls _ v xs A1 c2 ss (hv.keep0 (by omega) K0) F6 (by first | omega | decide) (by (try simp only at *); (try simp only [List.length_append] at *); (try simp only [List.length_cons] at *); (try simp only [List.length_nil] at *); omega)) ?_
 rintro _ w11 ⟨v10, rfl, K12, hO13⟩
 have O14 := own_base hO13 K0.size
 clear hO13
 have hL8 := tv_ge ss
 have hL9 := tv_le (s := ss) (by first | omega | decide)
 refine ⟨_, _, rfl, rfl, ?_⟩
 replace K0 := K0.t0 K12
 replace F6 := (Rd.keep0 (by omega) F6 K12)
 clear K12
 refine og 1 [(4, v10)] 5 ?_
 refine od ?_
 refine q_ret (by kernel_rfl) ?_
 refine ⟨v10, retv_tmp rfl rfl, ?_⟩
 exact ⟨_, rfl, K0, O14⟩

theorem RTo_calls (w : World) (r : Nat) (A : Option Addr) (c : Nat) (S : List AccM) (v : Value) (xs : List UInt8) (Hr : Has w r (rowL [.slice A S.length c] 43)) (hR : RdT w 3 AccM.cells (.slice A S.length c) S) (hS : Accs S) (hv : RdB w v xs) (hxl : xs.length ≤ 1000000) : Calls Tryz.prog 77 ⟨[(ptr r), v]⟩ w (fun e w' => ∃ v', e = .returned v' ∧ Keeps none_ w w' ∧ OwnB w' w.heap.size 5 v' (xs ++ bookB S)) := by
 have Hrl := Hr.lt
 have hcap := RdT.len AccM.three (by decide) hR
 unfold maxLen at hcap
 have hSl := hS.len
 have K0 : Keeps none_ w w := Keeps.refl w
 refine q_calls Tryz.func77 (by kernel_rfl) (by kernel_rfl) ?_
 refine qs ?_
 refine qg ?_
 refine og 1 [(0, (ptr r)), (1, v), (4, (Value.slice none 0 0))] 1 ?_
 refine od ?_
 refine qs ?_
 refine qg ?_
 refine og 4 [(0, (ptr r)), (1, v), (4, (Value.slice none 0 0)), (6, v), (9, (ptr r))] 4 ?_
 refine Ops.go (v := (Value.slice A S.length c)) (by kernel_rfl) (Runs.load (t := 41) (a := ⟨r, 0, none⟩) (by kernel_rfl) (Hr.loads (by kernel_rfl))) (d := (some 10)) (by kernel_rfl) rfl ?_
 refine og 2 [(0, (ptr r)), (1, v), (4, (Value.slice none 0 0)), (6, v), (12, (Value.int IntKind.u64 (IntKind.u64.wrap (((S.length : Nat) : Int)))))] 7 ?_
 have e1 : IntKind.u64.wrap (((S.length : Nat) : Int)) = ((S.length : Nat) : Int) := wrap_u64 (by omega) (by omega)
 rw [e1]
 refine Ops.call (by kernel_rfl) (d := (some 13)) (by kernel_rfl) (RUint_calls _ v xs S.length (hv.keep0 (by omega) K0) (by omega) (by (try simp only at *); (try simp only [List.length_append] at *); (try simp only [List.length_cons] at *); (try simp only [List.length_nil] at *); omega)) ?_
 rintro _ w4 ⟨v3, rfl, K5, hO6⟩
 have ob8 : ∀ i, (v3).ownBlock = some i → i ≠ r := fun i hi => by have := (World.ownsRow.lt hO6 i hi).1; have := Hr.lt; omega
 have O7 := own_base hO6 K0.size
 clear hO6
 have hL2 := uv_length_10 (n := S.length) (by omega)
 refine ⟨_, _, rfl, rfl, ?_⟩
 replace K0 := K0.t0 K5
 replace Hr := Hr.keep K5 (fun h => h)
 clear K5
 refine og 1 [(0, (ptr r)), (1, v3), (4, (Value.slice none 0 0))] 9 ?_
 refine od ?_
 refine qs ?_
 refine qs ?_
 refine qg ?_
 refine og 1 [(0, (ptr r)), (1, v3), (4, (Value.slice none 0 0)), (5, (i64 0))] 1 ?_
 refine od ?_
 refine q_block (id := 0) (by kernel_rfl) ?_
 refine q_keep (R := [(0, (ptr r)), (1, v3), (4, (Value.slice none 0 0)), (5, (i64 0))]) (by kernel_rfl) ?_
 refine q_loop (fun (gs : Value × Nat × (List UInt8)) L (wx : World) => match gs with | (v2, i, ys) => L = [(0, (ptr r)), (1, v2), (4, (Value.slice none 0 0)), (5, (i64 ((i : Nat) : Int)))] ∧ OwnB wx w.heap.size 5 v2 ys ∧ (∀ i, (v2).ownBlock = some i → i ≠ r) ∧ i ≤ S.length ∧ ys = xs ++ (uv S.length ++ (S.take i).flatMap accB) ∧ ys.length ≤ xs.length + 10 + i * 65600 ∧ Keeps none_ w wx ∧ Has wx r (rowL [(Value.slice A S.length c)] 43)) (fun (gs : Value × Nat × (List UInt8)) => match gs with | (v2, i, ys) => S.length - i) (v3, 0, xs ++ uv S.length) (by kernel_rfl) ⟨rfl, O7, ob8, Nat.zero_le _, (by simp), (by (try simp only [List.length_append]); have := uv_length_10 (n := S.length) (by omega); omega), K0, Hr⟩ ?_
 clear Hr O7 K0
 rintro ⟨v2, i, ys⟩ _ w9 ⟨rfl, hOV, obVr, hi, hE, hyL, K10, H11⟩
 have hyl : ys.length ≤ xs.length + 10 + i * 65600 := hyL
 refine qs ?_
 refine qs ?_
 refine qg ?_
 refine og 4 [(0, (ptr r)), (1, v2), (4, (Value.slice none 0 0)), (5, (i64 ((i : Nat) : Int))), (14, (i64 ((i : Nat) : Int))), (17, (ptr r))] 4 ?_
 refine Ops.go (v := (Value.slice A S.length c)) (by kernel_rfl) (Runs.load (t := 41) (a := ⟨r, 0, none⟩) (by kernel_rfl) (H11.loads (by kernel_rfl))) (d := (some 18)) (by kernel_rfl) rfl ?_
 refine og 2 [(0, (ptr r)), (1, v2), (4, (Value.slice none 0 0)), (5, (i64 ((i : Nat) : Int))), (20, (Value.bool (decide (((i : Nat) : Int) < ((S.length : Nat) : Int)))))] 7 ?_
 refine od ?_
 refine q_cond (o := .tmp 20) (b := (decide (((i : Nat) : Int) < ((S.length : Nat) : Int)))) (by kernel_rfl) rfl (fun h12 => ?_) (fun h12 => ?_)
 ·rw [h12]
  have p13 : ((i : Nat) : Int) < ((S.length : Nat) : Int) := of_decide_eq_true h12
  obtain ⟨a, ha⟩ : ∃ y, S[i]? = some y := ⟨_, List.getElem?_eq_getElem (by omega)⟩
  have hao := hS.ok a (List.mem_of_getElem? ha)
  have hal := hao.len
  have hol := hao.own
  have ha1 := hao.lo
  have ha2 := hao.hi
  have hbt := accB_take ha
  have hin := iv_length_10 (n := a.amt) (by omega)
  have htn := tv_le3 (s := a.name) (by omega)
  have hto := tv_le3 (s := a.own) (by omega)
  obtain ⟨rb14, ro15, hA16⟩ := Rd.addr (Rd.keep0 (by decide) hR K10) (by omega)
  refine q_skip (by kernel_rfl) ?_
  refine qs ?_
  refine q_block (id := 1) (by kernel_rfl) ?_
  refine qs ?_
  refine qg ?_
  refine og 4 [(0, (ptr r)), (1, v2), (4, (Value.slice none 0 0)), (5, (i64 ((i : Nat) : Int))), (20, (Value.bool true)), (23, v2), (26, (ptr r))] 4 ?_
  refine Ops.go (v := (Value.slice A S.length c)) (by kernel_rfl) (Runs.load (t := 41) (a := ⟨r, 0, none⟩) (by kernel_rfl) (H11.loads (by kernel_rfl))) (d := (some 27)) (by kernel_rfl) rfl ?_
  refine og 1 [(0, (ptr r)), (1, v2), (4, (Value.slice none 0 0)), (5, (i64 ((i : Nat) : Int))), (20, (Value.bool true)), (23, v2), (27, (Value.slice A S.length c)), (28, (i64 ((i : Nat) : Int)))] 6 ?_
  refine Ops.go (by kernel_rfl) (Runs.ixSliceE (k := IntKind.i64) (t := 41) (len := S.length) (cap := c) (s := 3) (off' := ro15 + i * 3) (i := ((i : Nat) : Int)) hA16 (by kernel_rfl) (by kernel_rfl) (by omega) (by omega) (by omega)) (d := (some 29)) (by kernel_rfl) rfl ?_
  refine og 1 [(0, (ptr r)), (1, v2), (4, (Value.slice none 0 0)), (5, (i64 ((i : Nat) : Int))), (20, (Value.bool true)), (23, v2), (30, (Value.pointer (some ⟨rb14, ro15 + i * 3, none⟩)))] 8 ?_
  refine Ops.go (v := (Value.string (str a.name))) (by kernel_rfl) (Runs.load (t := 9) (a := ⟨rb14, ro15 + i * 3, none⟩) (by kernel_rfl) (RdT.ldf (f := AccM.cells) (x := a) (o := 0) AccM.three (Rd.keep0 (by decide) hR K10) (by kernel_rfl) hA16 ha rfl)) (d := (some 31)) (by kernel_rfl) rfl ?_
  refine Ops.call (by kernel_rfl) (d := (some 32)) (by kernel_rfl) (RText_calls _ (Value.slice none 0 0) [] a.name (Rd.nil _ _) (by first | omega | decide) (by (try simp only at *); (try simp only [List.length_append] at *); (try simp only [List.length_cons] at *); (try simp only [List.length_nil] at *); omega)) ?_
  rintro _ w20 ⟨v19, rfl, K21, hO22⟩
  have ob24 : ∀ i, (v19).ownBlock = some i → i ≠ r := fun i hi => by have := (World.ownsRow.lt hO22 i hi).1; have := H11.lt; omega
  have oo25 : ∀ i, (v2).ownBlock = some i → (v19).ownBlock = some i → False := fun i hi hs => by have := (World.ownsRow.lt hO22 i hs).1; have := (World.ownsRow.lt hOV i hi).2; omega
  have oo26 : ∀ i, (v19).ownBlock = some i → (v2).ownBlock = some i → False := fun i hi hs => oo25 i hs hi
  have O23 : OwnB w20 w.heap.size _ v19 (tv a.name) := own_base hO22 K10.size
  clear hO22
  have hL17 := tv_ge a.name
  have hL18 := tv_le (s := a.name) (by first | omega | decide)
  refine ⟨_, _, rfl, rfl, ?_⟩
  replace K10 := K10.trans K21 (U := none_) (fun i h1 h2 => h2) (fun i h1 h2 => by exact h2)
  replace H11 := H11.keep K21 (fun h => h)
  replace hOV := own_keep0 hOV K21
  clear K21
  obtain ⟨v27, w28, hr29, hO30, K31, hg32⟩ := OwnB.app2 (ty := 22) tyB hOV (OwnB.rd O23) (by (try simp only [List.length_append]); (try simp only [List.length_nil]); omega) K10.size
  obtain ⟨A34, c35, hf33⟩ := RdB.form (OwnB.rd hO30)
  subst hf33
  have ob36 : ∀ i, ((Value.slice A34 ((ys ++ tv a.name).length) c35)).ownBlock = some i → i ≠ r := fun i hi => by rcases hg32 i hi with h | h; (have := obVr i h; omega); (have := H11.lt; omega)
  have oo37 : ∀ i, (v19).ownBlock = some i → ((Value.slice A34 ((ys ++ tv a.name).length) c35)).ownBlock = some i → False := fun i hi hs => by rcases hg32 i hs with h | h; (exact oo26 i hi h); (have := (World.ownsRow.lt O23 i hi).2; omega)
  have oo38 : ∀ i, ((Value.slice A34 ((ys ++ tv a.name).length) c35)).ownBlock = some i → (v19).ownBlock = some i → False := fun i hi hs => oo37 i hs hi
  refine Ops.go (v := (Value.slice A34 ((ys ++ tv a.name).length) c35)) (by kernel_rfl) (Runs.append (ts := #[22, 22]) (ty := 22) (vs := [v2, v19]) (by kernel_rfl) hr29) (d := (some 33)) (by kernel_rfl) rfl ?_
  replace K10 := K10.trans K31 (U := none_) (fun i h1 h2 => h2) (fun i h1 h2 => by have h2 : (v2).ownBlock = some i := h2; exfalso; have := (World.ownsRow.lt hOV i h2).1; omega)
  replace H11 := H11.keep K31 (by intro h; change (v2).ownBlock = some r at h; have := obVr r h; omega)
  clear hOV
  replace O23 := own_keep O23 K31 (fun i hi hs => by have hs : (v2).ownBlock = some i := hs; exact oo26 i hi hs)
  clear K31 hr29 hg32
  refine og 1 [(0, (ptr r)), (1, (Value.slice A34 ((ys ++ tv a.name).length) c35)), (4, (Value.slice none 0 0)), (5, (i64 ((i : Nat) : Int))), (20, (Value.bool true))] 12 ?_
  refine od ?_
  refine qs ?_
  refine qg ?_
  refine og 4 [(0, (ptr r)), (1, (Value.slice A34 ((ys ++ tv a.name).length) c35)), (4, (Value.slice none 0 0)), (5, (i64 ((i : Nat) : Int))), (20, (Value.bool true)), (34, (Value.slice A34 ((ys ++ tv a.name).length) c35)), (37, (ptr r))] 4 ?_
  refine Ops.go (v := (Value.slice A S.length c)) (by kernel_rfl) (Runs.load (t := 41) (a := ⟨r, 0, none⟩) (by kernel_rfl) (H11.loads (by kernel_rfl))) (d := (some 38)) (by kernel_rfl) rfl ?_
  refine og 1 [(0, (ptr r)), (1, (Value.slice A34 ((ys ++ tv a.name).length) c35)), (4, (Value.slice none 0 0)), (5, (i64 ((i : Nat) : Int))), (20, (Value.bool true)), (34, (Value.slice A34 ((ys ++ tv a.name).length) c35)), (38, (Value.slice A S.length c)), (39, (i64 ((i : Nat) : Int)))] 6 ?_
  refine Ops.go (by kernel_rfl) (Runs.ixSliceE (k := IntKind.i64) (t := 41) (len := S.length) (cap := c) (s := 3) (off' := ro15 + i * 3) (i := ((i : Nat) : Int)) hA16 (by kernel_rfl) (by kernel_rfl) (by omega) (by omega) (by omega)) (d := (some 40)) (by kernel_rfl) rfl ?_
  refine og 1 [(0, (ptr r)), (1, (Value.slice A34 ((ys ++ tv a.name).length) c35)), (4, (Value.slice none 0 0)), (5, (i64 ((i : Nat) : Int))), (20, (Value.bool true)), (34, (Value.slice A34 ((ys ++ tv a.name).length) c35)), (41, (Value.pointer (some ⟨rb14, ro15 + i * 3 + 1, none⟩)))] 8 ?_
  refine Ops.go (v := (i64 a.amt)) (by kernel_rfl) (Runs.load (t := 2) (a := ⟨rb14, ro15 + i * 3 + 1, none⟩) (by kernel_rfl) (RdT.ldf (f := AccM.cells) (x := a) (o := 1) AccM.three (Rd.keep0 (by decide) hR K10) (by kernel_rfl) hA16 ha rfl)) (d := (some 42)) (by kernel_rfl) rfl ?_
  refine Ops.call (by kernel_rfl) (d := (some 43)) (by kernel_rfl) (RInt_calls _ (Value.slice none 0 0) [] a.amt (Rd.nil _ _) (by omega) (by (try simp only at *); (try simp only [List.length_append] at *); (try simp only [List.length_cons] at *); (try simp only [List.length_nil] at *); omega)) ?_
  rintro _ w41 ⟨v40, rfl, K42, hO43⟩
  have ob45 : ∀ i, (v40).ownBlock = some i → i ≠ r := fun i hi => by have := (World.ownsRow.lt hO43 i hi).1; have := H11.lt; omega
  have oo46 : ∀ i, (v19).ownBlock = some i → (v40).ownBlock = some i → False := fun i hi hs => by have := (World.ownsRow.lt hO43 i hs).1; have := (World.ownsRow.lt O23 i hi).2; omega
  have oo47 : ∀ i, (v40).ownBlock = some i → (v19).ownBlock = some i → False := fun i hi hs => oo46 i hs hi
  have oo48 : ∀ i, ((Value.slice A34 ((ys ++ tv a.name).length) c35)).ownBlock = some i → (v40).ownBlock = some i → False := fun i hi hs => by have := (World.ownsRow.lt hO43 i hs).1; have := (World.ownsRow.lt hO30 i hi).2; omega
  have oo49 : ∀ i, (v40).ownBlock = some i → ((Value.slice A34 ((ys ++ tv a.name).length) c35)).ownBlock = some i → False := fun i hi hs => oo48 i hs hi
  have O44 : OwnB w41 w.heap.size _ v40 (iv a.amt) := own_base hO43 K10.size
  clear hO43
  have hL39 := iv_length_10 (n := a.amt) (by omega)
  refine ⟨_, _, rfl, rfl, ?_⟩
  replace K10 := K10.trans K42 (U := none_) (fun i h1 h2 => h2) (fun i h1 h2 => by exact h2)
  replace H11 := H11.keep K42 (fun h => h)
  replace O23 := own_keep0 O23 K42
  replace hO30 := own_keep0 hO30 K42
  clear K42
  obtain ⟨v50, w51, hr52, hO53, K54, hg55⟩ := OwnB.app2 (ty := 22) tyB hO30 (OwnB.rd O44) (by (try simp only [List.length_append]); (try simp only [List.length_nil]); omega) K10.size
  obtain ⟨A57, c58, hf56⟩ := RdB.form (OwnB.rd hO53)
  subst hf56
  have ob59 : ∀ i, ((Value.slice A57 ((ys ++ tv a.name ++ iv a.amt).length) c58)).ownBlock = some i → i ≠ r := fun i hi => by rcases hg55 i hi with h | h; (have := ob36 i h; omega); (have := H11.lt; omega)
  have oo60 : ∀ i, (v19).ownBlock = some i → ((Value.slice A57 ((ys ++ tv a.name ++ iv a.amt).length) c58)).ownBlock = some i → False := fun i hi hs => by rcases hg55 i hs with h | h; (exact oo37 i hi h); (have := (World.ownsRow.lt O23 i hi).2; omega)
  have oo61 : ∀ i, ((Value.slice A57 ((ys ++ tv a.name ++ iv a.amt).length) c58)).ownBlock = some i → (v19).ownBlock = some i → False := fun i hi hs => oo60 i hs hi
  have oo62 : ∀ i, (v40).ownBlock = some i → ((Value.slice A57 ((ys ++ tv a.name ++ iv a.amt).length) c58)).ownBlock = some i → False := fun i hi hs => by rcases hg55 i hs with h | h; (exact oo49 i hi h); (have := (World.ownsRow.lt O44 i hi).2; omega)
  have oo63 : ∀ i, ((Value.slice A57 ((ys ++ tv a.name ++ iv a.amt).length) c58)).ownBlock = some i → (v40).ownBlock = some i → False := fun i hi hs => oo62 i hs hi
  refine Ops.go (v := (Value.slice A57 ((ys ++ tv a.name ++ iv a.amt).length) c58)) (by kernel_rfl) (Runs.append (ts := #[22, 22]) (ty := 22) (vs := [(Value.slice A34 ((ys ++ tv a.name).length) c35), v40]) (by kernel_rfl) hr52) (d := (some 44)) (by kernel_rfl) rfl ?_
  replace K10 := K10.trans K54 (U := none_) (fun i h1 h2 => h2) (fun i h1 h2 => by have h2 : ((Value.slice A34 ((ys ++ tv a.name).length) c35)).ownBlock = some i := h2; exfalso; have := (World.ownsRow.lt hO30 i h2).1; omega)
  replace H11 := H11.keep K54 (by intro h; change ((Value.slice A34 ((ys ++ tv a.name).length) c35)).ownBlock = some r at h; have := ob36 r h; omega)
  replace O23 := own_keep O23 K54 (fun i hi hs => by have hs : ((Value.slice A34 ((ys ++ tv a.name).length) c35)).ownBlock = some i := hs; exact oo37 i hi hs)
  clear hO30
  replace O44 := own_keep O44 K54 (fun i hi hs => by have hs : ((Value.slice A34 ((ys ++ tv a.name).length) c35)).ownBlock = some i := hs; exact oo49 i hi hs)
  clear K54 hr52 hg55
  refine og 1 [(0, (ptr r)), (1, (Value.slice A57 ((ys ++ tv a.name ++ iv a.amt).length) c58)), (4, (Value.slice none 0 0)), (5, (i64 ((i : Nat) : Int))), (20, (Value.bool true))] 12 ?_
  refine od ?_
  refine qg ?_
  refine og 4 [(0, (ptr r)), (1, (Value.slice A57 ((ys ++ tv a.name ++ iv a.amt).length) c58)), (4, (Value.slice none 0 0)), (5, (i64 ((i : Nat) : Int))), (20, (Value.bool true)), (45, (Value.slice A57 ((ys ++ tv a.name ++ iv a.amt).length) c58)), (48, (ptr r))] 4 ?_
  refine Ops.go (v := (Value.slice A S.length c)) (by kernel_rfl) (Runs.load (t := 41) (a := ⟨r, 0, none⟩) (by kernel_rfl) (H11.loads (by kernel_rfl))) (d := (some 49)) (by kernel_rfl) rfl ?_
  refine og 1 [(0, (ptr r)), (1, (Value.slice A57 ((ys ++ tv a.name ++ iv a.amt).length) c58)), (4, (Value.slice none 0 0)), (5, (i64 ((i : Nat) : Int))), (20, (Value.bool true)), (45, (Value.slice A57 ((ys ++ tv a.name ++ iv a.amt).length) c58)), (49, (Value.slice A S.length c)), (50, (i64 ((i : Nat) : Int)))] 6 ?_
  refine Ops.go (by kernel_rfl) (Runs.ixSliceE (k := IntKind.i64) (t := 41) (len := S.length) (cap := c) (s := 3) (off' := ro15 + i * 3) (i := ((i : Nat) : Int)) hA16 (by kernel_rfl) (by kernel_rfl) (by omega) (by omega) (by omega)) (d := (some 51)) (by kernel_rfl) rfl ?_
  refine og 1 [(0, (ptr r)), (1, (Value.slice A57 ((ys ++ tv a.name ++ iv a.amt).length) c58)), (4, (Value.slice none 0 0)), (5, (i64 ((i : Nat) : Int))), (20, (Value.bool true)), (45, (Value.slice A57 ((ys ++ tv a.name ++ iv a.amt).length) c58)), (52, (Value.pointer (some ⟨rb14, ro15 + i * 3 + 2, none⟩)))] 8 ?_
  refine Ops.go (v := (Value.string (str a.own))) (by kernel_rfl) (Runs.load (t := 9) (a := ⟨rb14, ro15 + i * 3 + 2, none⟩) (by kernel_rfl) (RdT.ldf (f := AccM.cells) (x := a) (o := 2) AccM.three (Rd.keep0 (by decide) hR K10) (by kernel_rfl) hA16 ha rfl)) (d := (some 53)) (by kernel_rfl) rfl ?_
  refine Ops.call (by kernel_rfl) (d := (some 54)) (by kernel_rfl) (RText_calls _ (Value.slice none 0 0) [] a.own (Rd.nil _ _) (by first | omega | decide) (by (try simp only at *); (try simp only [List.length_append] at *); (try simp only [List.length_cons] at *); (try simp only [List.length_nil] at *); omega)) ?_
  rintro _ w67 ⟨v66, rfl, K68, hO69⟩
  have ob71 : ∀ i, (v66).ownBlock = some i → i ≠ r := fun i hi => by have := (World.ownsRow.lt hO69 i hi).1; have := H11.lt; omega
  have oo72 : ∀ i, (v19).ownBlock = some i → (v66).ownBlock = some i → False := fun i hi hs => by have := (World.ownsRow.lt hO69 i hs).1; have := (World.ownsRow.lt O23 i hi).2; omega
  have oo73 : ∀ i, (v66).ownBlock = some i → (v19).ownBlock = some i → False := fun i hi hs => oo72 i hs hi
  have oo74 : ∀ i, (v40).ownBlock = some i → (v66).ownBlock = some i → False := fun i hi hs => by have := (World.ownsRow.lt hO69 i hs).1; have := (World.ownsRow.lt O44 i hi).2; omega
  have oo75 : ∀ i, (v66).ownBlock = some i → (v40).ownBlock = some i → False := fun i hi hs => oo74 i hs hi
  have oo76 : ∀ i, ((Value.slice A57 ((ys ++ tv a.name ++ iv a.amt).length) c58)).ownBlock = some i → (v66).ownBlock = some i → False := fun i hi hs => by have := (World.ownsRow.lt hO69 i hs).1; have := (World.ownsRow.lt hO53 i hi).2; omega
  have oo77 : ∀ i, (v66).ownBlock = some i → ((Value.slice A57 ((ys ++ tv a.name ++ iv a.amt).length) c58)).ownBlock = some i → False := fun i hi hs => oo76 i hs hi
  have O70 : OwnB w67 w.heap.size _ v66 (tv a.own) := own_base hO69 K10.size
  clear hO69
  have hL64 := tv_ge a.own
  have hL65 := tv_le (s := a.own) (by first | omega | decide)
  refine ⟨_, _, rfl, rfl, ?_⟩
  replace K10 := K10.trans K68 (U := none_) (fun i h1 h2 => h2) (fun i h1 h2 => by exact h2)
  replace H11 := H11.keep K68 (fun h => h)
  replace O23 := own_keep0 O23 K68
  replace O44 := own_keep0 O44 K68
  replace hO53 := own_keep0 hO53 K68
  clear K68
  obtain ⟨v78, w79, hr80, hO81, K82, hg83⟩ := OwnB.app2 (ty := 22) tyB hO53 (OwnB.rd O70) (by (try simp only [List.length_append]); (try simp only [List.length_nil]); omega) K10.size
  obtain ⟨A85, c86, hf84⟩ := RdB.form (OwnB.rd hO81)
  subst hf84
  have ob87 : ∀ i, ((Value.slice A85 ((ys ++ tv a.name ++ iv a.amt ++ tv a.own).length) c86)).ownBlock = some i → i ≠ r := fun i hi => by rcases hg83 i hi with h | h; (have := ob59 i h; omega); (have := H11.lt; omega)
  have oo88 : ∀ i, (v19).ownBlock = some i → ((Value.slice A85 ((ys ++ tv a.name ++ iv a.amt ++ tv a.own).length) c86)).ownBlock = some i → False := fun i hi hs => by rcases hg83 i hs with h | h; (exact oo60 i hi h); (have := (World.ownsRow.lt O23 i hi).2; omega)
  have oo89 : ∀ i, ((Value.slice A85 ((ys ++ tv a.name ++ iv a.amt ++ tv a.own).length) c86)).ownBlock = some i → (v19).ownBlock = some i → False := fun i hi hs => oo88 i hs hi
  have oo90 : ∀ i, (v40).ownBlock = some i → ((Value.slice A85 ((ys ++ tv a.name ++ iv a.amt ++ tv a.own).length) c86)).ownBlock = some i → False := fun i hi hs => by rcases hg83 i hs with h | h; (exact oo62 i hi h); (have := (World.ownsRow.lt O44 i hi).2; omega)
  have oo91 : ∀ i, ((Value.slice A85 ((ys ++ tv a.name ++ iv a.amt ++ tv a.own).length) c86)).ownBlock = some i → (v40).ownBlock = some i → False := fun i hi hs => oo90 i hs hi
  have oo92 : ∀ i, (v66).ownBlock = some i → ((Value.slice A85 ((ys ++ tv a.name ++ iv a.amt ++ tv a.own).length) c86)).ownBlock = some i → False := fun i hi hs => by rcases hg83 i hs with h | h; (exact oo77 i hi h); (have := (World.ownsRow.lt O70 i hi).2; omega)
  have oo93 : ∀ i, ((Value.slice A85 ((ys ++ tv a.name ++ iv a.amt ++ tv a.own).length) c86)).ownBlock = some i → (v66).ownBlock = some i → False := fun i hi hs => oo92 i hs hi
  refine Ops.go (v := (Value.slice A85 ((ys ++ tv a.name ++ iv a.amt ++ tv a.own).length) c86)) (by kernel_rfl) (Runs.append (ts := #[22, 22]) (ty := 22) (vs := [(Value.slice A57 ((ys ++ tv a.name ++ iv a.amt).length) c58), v66]) (by kernel_rfl) hr80) (d := (some 55)) (by kernel_rfl) rfl ?_
  replace K10 := K10.trans K82 (U := none_) (fun i h1 h2 => h2) (fun i h1 h2 => by have h2 : ((Value.slice A57 ((ys ++ tv a.name ++ iv a.amt).length) c58)).ownBlock = some i := h2; exfalso; have := (World.ownsRow.lt hO53 i h2).1; omega)
  replace H11 := H11.keep K82 (by intro h; change ((Value.slice A57 ((ys ++ tv a.name ++ iv a.amt).length) c58)).ownBlock = some r at h; have := ob59 r h; omega)
  replace O23 := own_keep O23 K82 (fun i hi hs => by have hs : ((Value.slice A57 ((ys ++ tv a.name ++ iv a.amt).length) c58)).ownBlock = some i := hs; exact oo60 i hi hs)
  replace O44 := own_keep O44 K82 (fun i hi hs => by have hs : ((Value.slice A57 ((ys ++ tv a.name ++ iv a.amt).length) c58)).ownBlock = some i := hs; exact oo62 i hi hs)
  clear hO53
  replace O70 := own_keep O70 K82 (fun i hi hs => by have hs : ((Value.slice A57 ((ys ++ tv a.name ++ iv a.amt).length) c58)).ownBlock = some i := hs; exact oo77 i hi hs)
  clear K82 hr80 hg83
  refine og 1 [(0, (ptr r)), (1, (Value.slice A85 ((ys ++ tv a.name ++ iv a.amt ++ tv a.own).length) c86)), (4, (Value.slice none 0 0)), (5, (i64 ((i : Nat) : Int))), (20, (Value.bool true))] 12 ?_
  refine od ?_
  refine qg ?_
  refine og 2 [(0, (ptr r)), (1, (Value.slice A85 ((ys ++ tv a.name ++ iv a.amt ++ tv a.own).length) c86)), (4, (Value.slice none 0 0)), (5, (i64 ((i : Nat) : Int))), (20, (Value.bool true)), (22, (i64 (IntKind.i64.wrap (((i : Nat) : Int) + 1))))] 2 ?_
  have e94 : IntKind.i64.wrap (((i : Nat) : Int) + 1) = ((i + 1 : Nat) : Int) := by rw [wrap_i64 (by omega) (by omega)]; omega
  rw [e94]
  clear e94
  refine og 1 [(0, (ptr r)), (1, (Value.slice A85 ((ys ++ tv a.name ++ iv a.amt ++ tv a.own).length) c86)), (4, (Value.slice none 0 0)), (5, (i64 ((i + 1 : Nat) : Int))), (20, (Value.bool true))] 3 ?_
  refine Ops.keep (R := [(0, (ptr r)), (1, (Value.slice A85 ((ys ++ tv a.name ++ iv a.amt ++ tv a.own).length) c86)), (4, (Value.slice none 0 0)), (5, (i64 ((i + 1 : Nat) : Int)))]) (by kernel_rfl) ?_
  refine od ?_
  exact ⟨((Value.slice A85 ((ys ++ tv a.name ++ iv a.amt ++ tv a.own).length) c86), i + 1, ys ++ tv a.name ++ iv a.amt ++ tv a.own), ⟨rfl, hO81, ob87, (by omega), (by rw [hbt, hE]; unfold accB; simp), (by (try simp only [List.length_append]); (try simp only [List.length_nil]); omega), K10, H11⟩, (show S.length - (i + 1) < S.length - i from by omega)⟩
 ·rw [h12]
  have p95 : ¬ (((i : Nat) : Int) < ((S.length : Nat) : Int)) := of_decide_eq_false h12
  refine q_exit (id := 0) (by kernel_rfl) ?_
  refine qs ?_
  refine qg ?_
  refine og 2 [(4, v2)] 2 ?_
  refine od ?_
  refine q_ret (by kernel_rfl) ?_
  refine ⟨v2, retv_tmp rfl rfl, ?_⟩
  have e : ys = xs ++ bookB S := by rw [hE, List.take_of_length_le (by omega)]; rfl
  rw [e] at hOV
  exact ⟨_, rfl, K10, hOV⟩

theorem RBytes_calls (w : World) (r : Nat) (A : Option Addr) (c : Nat) (S : List AccM) (Hr : Has w r (rowL [.slice A S.length c] 43)) (hR : RdT w 3 AccM.cells (.slice A S.length c) S) (hS : Accs S) : Calls Tryz.prog 44 ⟨[(ptr r)]⟩ w (fun e w' => ∃ v', e = .returned v' ∧ Keeps none_ w w' ∧ OwnB w' w.heap.size 5 v' (bookB S)) := by
 have Hrl := Hr.lt
 have hcap := RdT.len AccM.three (by decide) hR
 unfold maxLen at hcap
 have K0 : Keeps none_ w w := Keeps.refl w
 refine q_calls Tryz.func44 (by kernel_rfl) (by kernel_rfl) ?_
 refine qs ?_
 refine qg ?_
 refine og 1 [(0, (ptr r)), (2, (Value.slice none 0 0))] 1 ?_
 refine od ?_
 refine qs ?_
 refine qg ?_
 refine og 1 [(2, (Value.slice none 0 0)), (3, (ptr r))] 1 ?_
 refine Ops.call (by kernel_rfl) (d := (some 4)) (by kernel_rfl) (RTo_calls _ r A c S (.slice none 0 0) [] Hr hR hS (Rd.nil _ _) (by decide)) ?_
 rintro _ w2 ⟨v1, rfl, K3, hO4⟩
 rw [List.nil_append] at hO4
 have ob6 : ∀ i, (v1).ownBlock = some i → i ≠ r := fun i hi => by have := (World.ownsRow.lt hO4 i hi).1; have := Hr.lt; omega
 have O5 := own_base hO4 K0.size
 clear hO4
 refine ⟨_, _, rfl, rfl, ?_⟩
 replace K0 := K0.t0 K3
 replace Hr := Hr.keep K3 (fun h => h)
 replace hR := (Rd.keep0 (by omega) hR K3)
 clear K3
 refine og 1 [(2, v1)] 3 ?_
 refine od ?_
 refine q_ret (by kernel_rfl) ?_
 refine ⟨v1, retv_tmp rfl rfl, ?_⟩
 exact ⟨_, rfl, K0, O5⟩
end Go.Proofs.YtooginpgclcldaaGreatDoor
